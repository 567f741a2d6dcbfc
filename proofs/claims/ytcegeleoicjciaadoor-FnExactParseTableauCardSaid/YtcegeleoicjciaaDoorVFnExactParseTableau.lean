/- This session's own text: the walk of the law FnExactParseTableau: where the facts of its plain functions hold it returns true and nothing that lay before has turned. No condition beyond those that the statement bears. -/
import Derived.Test.YtcegeleoicjciaaDoorTFnExactParseTableau
import Derived.Test.YtcegeleoicjciaaDoorQFnExactParseTableaux0
import Derived.Test.YtcegeleoicjciaaDoorQFnExactParseTableaux1
import Derived.Test.YtcegeleoicjciaaDoorQFnExactParseTableaux2
import Derived.Test.YtcegeleoicjciaaDoorQFnExactParseTableaux3
import Derived.Test.YtcegeleoicjciaaDoorQFnExactParseTableaux4
import Derived.Test.YtcegeleoicjciaaDoorQFnExactParseTableaux5
import Derived.Test.YtcegeleoicjciaaDoorQFnExactParseTableaux6
import Derived.Test.YtcegeleoicjciaaDoorQFnExactParseTableaux7
import Derived.Test.YtcegeleoicjciaaDoorQFnExactParseTableaux8
import Derived.Test.YtcegeleoicjciaaDoorQFnExactParseTableaux9
import Derived.Test.YtcegeleoicjciaaDoorQFnExactParseTableaux10
import Derived.Test.YtcegeleoicjciaaDoorQFnExactParseTableaux11
namespace Go.Proofs.YtcegeleoicjciaaDoor.QFnExactParseTableau
open Go.RowKit Go.Proofs.YtcegeleoicjciaaDoorW.PrintWords Go.Proofs.YtcegeleoicjciaaDoorW.PrintLast Go.Proofs.YtcegeleoicjciaaDoorW.PrintMore
set_option linter.unusedVariables false
set_option linter.unusedSimpArgs false

structure laws_FnExactParseTableau.ok (k : Nat) (a0 : ByteArray) : Prop where
 big : (a0.size : Int) > 1048576 ∨ ∃ (m m3 : Int) (P : List Int) (Q : List (List Int)) (ys : List Int) (zs : List (List Int)) (bf : Bool), ¬ ((a0.size : Int) > 1048576) ∧ spec_ParseTableau.f k a0 = some (P, Q, bf) ∧ impl_ParseTableau.f k a0 = some (P, Q, bf) ∧ laws_eqTableau.f k P Q P Q = some true ∧ laws_markIntS.f k P 1 = some (m3, ys) ∧ laws_markIntSS.f k Q m3 = some (m, zs) ∧ 0 ≤ m ∧ laws_heldTableau.f k ys zs 1 = some m

theorem alloc_lt {W : World} {o : Obj} {n : Nat} (h : (W.alloc o).heap.size ≤ n) : W.heap.size < n := by
 have e : (W.alloc o).heap.size = W.heap.size + 1 := Array.size_push ..
 omega

set_option maxHeartbeats 16000000 in
set_option maxRecDepth 100000 in
theorem laws_FnExactParseTableau.calls (k : Nat) (a0 : ByteArray) (w : World) (ht : Tabs w) (h : laws_FnExactParseTableau.ok k a0) :
  Calls Tryd.prog 12 #[.string a0] w fun e w' => e = .returned (.bool true) ∧ Below w.heap.size w w' := by
 have hu50 := Tryd.underlying50
 have HT := Aside0.mk ht
 clear ht
 rcases h.big with c0 | ⟨m, m3, P, Q, ys, zs, bf, c0, f2, f3, f4, f8, f8b, hm, f9⟩
 ·have c0b0 : decide (1048576 < (a0.size : Int)) = true := decide_eq_true c0
  have c0b1 : decide (1048576 < a0.size) = true := decide_eq_true (by omega)
  clear c0 h
  go_enter Tryd.func12, Tryd.ntmps12
  go_wp2
  go_ret
  exact ⟨rfl, Below.refl _ _⟩
 ·have c0b0 : decide (1048576 < (a0.size : Int)) = false := decide_eq_false c0
  have c0b1 : decide (1048576 < a0.size) = false := decide_eq_false (by omega)
  have d3 : decide (m < 0) = false := decide_eq_false (by omega)
  have hbb : (bf != bf) = false := by simp
  have F2 := Aside0.mk f2
  have F3 := Aside0.mk f3
  have F4 := Aside0.mk f4
  have F8 := Aside0.mk f8
  have F8B := Aside0.mk f8b
  have F9 := Aside0.mk f9
  clear c0 h f2 f3 f4 f8 f8b hm f9
  have B_w := Aside0.mk (Below.refl w.heap.size w)
  go_enter Tryd.func12, Tryd.ntmps12
  go_wp2_with fail
  -- w0
  refine (spec_ParseTableau.calls k a0 P Q bf _ F2.out).mono ?_
  rintro e w1 ⟨vw0, uw0, rfl, r, q, b⟩
  have bs_ := B_w.out.size
  have B_w1 := Aside0.mk (below_then B_w.out B_w.out.size b)
  have Z_w1 := Aside0.mk (b.size)
  clear B_w
  have w00_w1 := Aside0.mk (Kd.R_lower (base' := w.heap.size) (Kd.R_mono (ok' := fun k_ => some k_ = (vw0 : Value).ownBlock ∧ w.heap.size ≤ k_ ∧ k_ < w1.heap.size) (Kd.R_bound (Kd.R_tight rfl r)) (fun k_ hk_ => ⟨hk_.1, hk_.2.1, hk_.2.2.1⟩)) bs_)
  have w01_w1 := Aside0.mk (Kd.S_lower (base' := w.heap.size) (Kd.S_mono (ok' := fun k_ => some k_ ≠ (vw0 : Value).ownBlock ∧ w.heap.size ≤ k_ ∧ k_ < w1.heap.size) (Kd.S_bound q) (fun k_ hk_ => ⟨hk_.1, hk_.2.1, hk_.2.2.1⟩)) bs_)
  obtain ⟨Aw0, cw0, rfl⟩ := Kd.R_slice r
  obtain ⟨Dw0, ew0, rfl⟩ := Kd.S_slice q
  clear r q b bs_
  go_wp2_with fail
  -- g0
  refine (impl_ParseTableau.calls k a0 P Q bf _ (HT.out.below (below_alloc B_w1.out (.cells #[.slice Aw0 P.length cw0, .slice Dw0 Q.length ew0] 50 (0, 0)))) F3.out).mono ?_
  rintro e w2 ⟨vg0, ug0, rfl, r, q, b⟩
  have bs_ := (below_alloc B_w1.out (.cells #[.slice Aw0 P.length cw0, .slice Dw0 Q.length ew0] 50 (0, 0))).size
  have w00_w2 := Aside0.mk (Kd.R_below (Kd.R_alloc w00_w1.out (.cells #[.slice Aw0 P.length cw0, .slice Dw0 Q.length ew0] 50 (0, 0))) b)
  have w01_w2 := Aside0.mk (Kd.S_below (Kd.S_alloc w01_w1.out (.cells #[.slice Aw0 P.length cw0, .slice Dw0 Q.length ew0] 50 (0, 0))) b)
  have K_w_w2 := Aside0.mk (blk_below (blk_new w1 (.cells #[.slice Aw0 P.length cw0, .slice Dw0 Q.length ew0] 50 (0, 0))) b)
  have B_w2 := Aside0.mk (below_then (below_alloc B_w1.out (.cells #[.slice Aw0 P.length cw0, .slice Dw0 Q.length ew0] 50 (0, 0))) (below_alloc B_w1.out (.cells #[.slice Aw0 P.length cw0, .slice Dw0 Q.length ew0] 50 (0, 0))).size b)
  have Z_w2 := Aside0.mk (alloc_lt b.size)
  clear w00_w1 w01_w1 B_w1
  have g00_w2 := Aside0.mk (Kd.R_lower (base' := w.heap.size) (Kd.R_mono (ok' := fun k_ => some k_ = (vg0 : Value).ownBlock ∧ w1.heap.size < k_ ∧ k_ < w2.heap.size) (Kd.R_bound (Kd.R_tight rfl r)) (fun k_ hk_ => ⟨hk_.1, alloc_lt hk_.2.1, hk_.2.2.1⟩)) bs_)
  have g01_w2 := Aside0.mk (Kd.S_lower (base' := w.heap.size) (Kd.S_mono (ok' := fun k_ => some k_ ≠ (vg0 : Value).ownBlock ∧ w1.heap.size < k_ ∧ k_ < w2.heap.size) (Kd.S_bound q) (fun k_ hk_ => ⟨hk_.1, alloc_lt hk_.2.1, hk_.2.2.1⟩)) bs_)
  obtain ⟨Ag0, cg0, rfl⟩ := Kd.R_slice r
  obtain ⟨Dg0, eg0, rfl⟩ := Kd.S_slice q
  clear r q b bs_
  have hc_w0 : w2.cell? ⟨w1.heap.size, 0, none⟩ = some (.slice Aw0 P.length cw0) := (blk_cell K_w_w2.out 0).trans rfl
  have hf_w0 := blk_frozen K_w_w2.out 0
  have hc_w1 : w2.cell? ⟨w1.heap.size, 1, none⟩ = some (.slice Dw0 Q.length ew0) := (blk_cell K_w_w2.out 1).trans rfl
  have hf_w1 := blk_frozen K_w_w2.out 1
  have hl_w : w1.heap.size < w2.heap.size := blk_lt K_w_w2.out
  go_wp2_with fail
  -- eq(g0, w0)
  refine (laws_eqTableau.calls k _ _ P _ _ Q _ _ P _ _ Q true _ (Kd.R_reads' (Kd.R_alloc g00_w2.out (.cells #[.slice Ag0 P.length cg0, .slice Dg0 Q.length eg0] 50 (0, 0)))).2.2 (Kd.R_reads' g00_w2.out).2.1 (Kd.S_reads' (Kd.S_alloc g01_w2.out (.cells #[.slice Ag0 P.length cg0, .slice Dg0 Q.length eg0] 50 (0, 0)))).2.2 (Kd.S_reads' g01_w2.out).2.1 (Kd.R_reads' (Kd.R_alloc w00_w2.out (.cells #[.slice Ag0 P.length cg0, .slice Dg0 Q.length eg0] 50 (0, 0)))).2.2 (Kd.R_reads' w00_w2.out).2.1 (Kd.S_reads' (Kd.S_alloc w01_w2.out (.cells #[.slice Ag0 P.length cg0, .slice Dg0 Q.length eg0] 50 (0, 0)))).2.2 (Kd.S_reads' w01_w2.out).2.1 F4.out).mono ?_
  rintro e w3 ⟨rfl, b⟩
  have w00_w3 := Aside0.mk (Kd.R_below (Kd.R_alloc w00_w2.out (.cells #[.slice Ag0 P.length cg0, .slice Dg0 Q.length eg0] 50 (0, 0))) b)
  have w01_w3 := Aside0.mk (Kd.S_below (Kd.S_alloc w01_w2.out (.cells #[.slice Ag0 P.length cg0, .slice Dg0 Q.length eg0] 50 (0, 0))) b)
  have g00_w3 := Aside0.mk (Kd.R_below (Kd.R_alloc g00_w2.out (.cells #[.slice Ag0 P.length cg0, .slice Dg0 Q.length eg0] 50 (0, 0))) b)
  have g01_w3 := Aside0.mk (Kd.S_below (Kd.S_alloc g01_w2.out (.cells #[.slice Ag0 P.length cg0, .slice Dg0 Q.length eg0] 50 (0, 0))) b)
  have K_w_w3 := Aside0.mk (blk_below (blk_alloc K_w_w2.out (.cells #[.slice Ag0 P.length cg0, .slice Dg0 Q.length eg0] 50 (0, 0))) b)
  have K_g_w3 := Aside0.mk (blk_below (blk_new w2 (.cells #[.slice Ag0 P.length cg0, .slice Dg0 Q.length eg0] 50 (0, 0))) b)
  have B_w3 := Aside0.mk (below_then (below_alloc B_w2.out (.cells #[.slice Ag0 P.length cg0, .slice Dg0 Q.length eg0] 50 (0, 0))) (below_alloc B_w2.out (.cells #[.slice Ag0 P.length cg0, .slice Dg0 Q.length eg0] 50 (0, 0))).size b)
  have Z_w3 := Aside0.mk (alloc_lt b.size)
  clear w00_w2 w01_w2 g00_w2 g01_w2 K_w_w2 B_w2 hc_w0 hf_w0 hc_w1 hf_w1 hl_w
  clear b
  have hc_w0 : w3.cell? ⟨w1.heap.size, 0, none⟩ = some (.slice Aw0 P.length cw0) := (blk_cell K_w_w3.out 0).trans rfl
  have hf_w0 := blk_frozen K_w_w3.out 0
  have hc_w1 : w3.cell? ⟨w1.heap.size, 1, none⟩ = some (.slice Dw0 Q.length ew0) := (blk_cell K_w_w3.out 1).trans rfl
  have hf_w1 := blk_frozen K_w_w3.out 1
  have hl_w : w1.heap.size < w3.heap.size := blk_lt K_w_w3.out
  have hc_g0 : w3.cell? ⟨w2.heap.size, 0, none⟩ = some (.slice Ag0 P.length cg0) := (blk_cell K_g_w3.out 0).trans rfl
  have hf_g0 := blk_frozen K_g_w3.out 0
  have hc_g1 : w3.cell? ⟨w2.heap.size, 1, none⟩ = some (.slice Dg0 Q.length eg0) := (blk_cell K_g_w3.out 1).trans rfl
  have hf_g1 := blk_frozen K_g_w3.out 1
  have hl_g : w2.heap.size < w3.heap.size := blk_lt K_g_w3.out
  go_wp2_with fail
  -- mark(g0, 1)
  refine (laws_markTableau.calls k (fun k_ => some k_ = (.slice Ag0 P.length cg0 : Value).ownBlock ∧ w1.heap.size < k_ ∧ k_ < w2.heap.size) (fun k_ => some k_ ≠ (.slice Ag0 P.length cg0 : Value).ownBlock ∧ w1.heap.size < k_ ∧ k_ < w2.heap.size) _ _ P Q 1 m3 m ys zs w _ B_w3.out g00_w3.out g01_w3.out (fun k_ h1_ h0_ => h1_.1 h0_.1) (fun k_ h_ => by have hZ_w1 := Z_w1.out; have hZ_w2 := Z_w2.out; have hZ_w3 := Z_w3.out; have h4_ := h_.2; omega) (fun k_ h_ => by have hZ_w1 := Z_w1.out; have hZ_w2 := Z_w2.out; have hZ_w3 := Z_w3.out; have h4_ := h_.2; omega) F8.out F8B.out).mono ?_
  rintro e w4 ⟨rfl, r8, q8, b8, k8⟩
  have X8 := Aside0.mk r8
  have Y8 := Aside0.mk q8
  clear r8 q8
  have hZ_w1 := Z_w1.out
  have hZ_w2 := Z_w2.out
  have hZ_w3 := Z_w3.out
  have w00_w4 := Aside0.mk (Kd.R_step w00_w3.out (fun k_ hk_ hl_ => k8.2 k_ hl_ (fun hn_ => by have h3_ := hk_.2; rcases hn_ with hn_ | hn_ <;> (have h4_ := hn_.2; omega))))
  have w01_w4 := Aside0.mk (Kd.S_step w01_w3.out (fun k_ hk_ hl_ => k8.2 k_ hl_ (fun hn_ => by have h3_ := hk_.2; rcases hn_ with hn_ | hn_ <;> (have h4_ := hn_.2; omega))))
  have hl_ := blk_lt K_w_w3.out
  have K_w_w4 := Aside0.mk ((k8.2 w1.heap.size hl_ (fun hn_ => by rcases hn_ with hn_ | hn_ <;> (have h4_ := hn_.2; omega))).trans K_w_w3.out)
  clear hl_
  have hl_ := blk_lt K_g_w3.out
  have K_g_w4 := Aside0.mk ((k8.2 w2.heap.size hl_ (fun hn_ => by rcases hn_ with hn_ | hn_ <;> (have h4_ := hn_.2; omega))).trans K_g_w3.out)
  clear hl_
  have B_w4 := Aside0.mk b8
  have Z_w4 := Aside0.mk (k8.1)
  clear w00_w3 w01_w3 g00_w3 g01_w3 K_w_w3 K_g_w3 B_w3 hZ_w1 hZ_w2 hZ_w3 hc_w0 hf_w0 hc_w1 hf_w1 hl_w hc_g0 hf_g0 hc_g1 hf_g1 hl_g
  clear b8 k8
  have hc_w0 : w4.cell? ⟨w1.heap.size, 0, none⟩ = some (.slice Aw0 P.length cw0) := (blk_cell K_w_w4.out 0).trans rfl
  have hf_w0 := blk_frozen K_w_w4.out 0
  have hc_w1 : w4.cell? ⟨w1.heap.size, 1, none⟩ = some (.slice Dw0 Q.length ew0) := (blk_cell K_w_w4.out 1).trans rfl
  have hf_w1 := blk_frozen K_w_w4.out 1
  have hl_w : w1.heap.size < w4.heap.size := blk_lt K_w_w4.out
  have hc_g0 : w4.cell? ⟨w2.heap.size, 0, none⟩ = some (.slice Ag0 P.length cg0) := (blk_cell K_g_w4.out 0).trans rfl
  have hf_g0 := blk_frozen K_g_w4.out 0
  have hc_g1 : w4.cell? ⟨w2.heap.size, 1, none⟩ = some (.slice Dg0 Q.length eg0) := (blk_cell K_g_w4.out 1).trans rfl
  have hf_g1 := blk_frozen K_g_w4.out 1
  have hl_g : w2.heap.size < w4.heap.size := blk_lt K_g_w4.out
  go_wp2_with fail
  -- held(g0, 1)
  have E0 := Aside0.mk (Kd.R_reads' X8.out).1
  have E1 := Aside0.mk (Kd.S_reads' Y8.out).1
  refine (calls_of_args (by rw [E0.out, E1.out]) (laws_heldTableau.calls k _ _ ys _ _ zs 1 m _ (Kd.R_reads' X8.out).2.2 (by rw [← E0.out]; exact (Kd.R_reads' X8.out).2.1) (Kd.S_reads' Y8.out).2.2 (by rw [← E1.out]; exact (Kd.S_reads' Y8.out).2.1) F9.out)).mono ?_
  rintro e w5 ⟨rfl, b⟩
  have w00_w5 := Aside0.mk (Kd.R_below w00_w4.out b)
  have w01_w5 := Aside0.mk (Kd.S_below w01_w4.out b)
  have g00_w5 := Aside0.mk (Kd.R_below X8.out b)
  have g01_w5 := Aside0.mk (Kd.S_below Y8.out b)
  have K_w_w5 := Aside0.mk (blk_below K_w_w4.out b)
  have K_g_w5 := Aside0.mk (blk_below K_g_w4.out b)
  have B_w5 := Aside0.mk (below_then B_w4.out B_w4.out.size b)
  have Z_w5 := Aside0.mk (b.size)
  clear w00_w4 w01_w4 X8 Y8 K_w_w4 K_g_w4 B_w4 hc_w0 hf_w0 hc_w1 hf_w1 hl_w hc_g0 hf_g0 hc_g1 hf_g1 hl_g
  clear b
  clear E0 E1
  have hc_w0 : w5.cell? ⟨w1.heap.size, 0, none⟩ = some (.slice Aw0 P.length cw0) := (blk_cell K_w_w5.out 0).trans rfl
  have hf_w0 := blk_frozen K_w_w5.out 0
  have hc_w1 : w5.cell? ⟨w1.heap.size, 1, none⟩ = some (.slice Dw0 Q.length ew0) := (blk_cell K_w_w5.out 1).trans rfl
  have hf_w1 := blk_frozen K_w_w5.out 1
  have hl_w : w1.heap.size < w5.heap.size := blk_lt K_w_w5.out
  have hc_g0 : w5.cell? ⟨w2.heap.size, 0, none⟩ = some (.slice Ag0 P.length cg0) := (blk_cell K_g_w5.out 0).trans rfl
  have hf_g0 := blk_frozen K_g_w5.out 0
  have hc_g1 : w5.cell? ⟨w2.heap.size, 1, none⟩ = some (.slice Dg0 Q.length eg0) := (blk_cell K_g_w5.out 1).trans rfl
  have hf_g1 := blk_frozen K_g_w5.out 1
  have hl_g : w2.heap.size < w5.heap.size := blk_lt K_g_w5.out
  go_wp2_with fail
  -- h0
  refine (impl_ParseTableau.calls k a0 P Q bf _ (HT.out.below B_w5.out) F3.out).mono ?_
  rintro e w6 ⟨vh0, uh0, rfl, r, q, b⟩
  have bs_ := B_w5.out.size
  have w00_w6 := Aside0.mk (Kd.R_below w00_w5.out b)
  have w01_w6 := Aside0.mk (Kd.S_below w01_w5.out b)
  have g00_w6 := Aside0.mk (Kd.R_below g00_w5.out b)
  have g01_w6 := Aside0.mk (Kd.S_below g01_w5.out b)
  have K_w_w6 := Aside0.mk (blk_below K_w_w5.out b)
  have K_g_w6 := Aside0.mk (blk_below K_g_w5.out b)
  have B_w6 := Aside0.mk (below_then B_w5.out B_w5.out.size b)
  have Z_w6 := Aside0.mk (b.size)
  clear w00_w5 w01_w5 g00_w5 g01_w5 K_w_w5 K_g_w5 B_w5 hc_w0 hf_w0 hc_w1 hf_w1 hl_w hc_g0 hf_g0 hc_g1 hf_g1 hl_g
  have h00_w6 := Aside0.mk (Kd.R_lower (base' := w.heap.size) (Kd.R_mono (ok' := fun k_ => some k_ = (vh0 : Value).ownBlock ∧ w5.heap.size ≤ k_ ∧ k_ < w6.heap.size) (Kd.R_bound (Kd.R_tight rfl r)) (fun k_ hk_ => ⟨hk_.1, hk_.2.1, hk_.2.2.1⟩)) bs_)
  have h01_w6 := Aside0.mk (Kd.S_lower (base' := w.heap.size) (Kd.S_mono (ok' := fun k_ => some k_ ≠ (vh0 : Value).ownBlock ∧ w5.heap.size ≤ k_ ∧ k_ < w6.heap.size) (Kd.S_bound q) (fun k_ hk_ => ⟨hk_.1, hk_.2.1, hk_.2.2.1⟩)) bs_)
  obtain ⟨Ah0, ch0, rfl⟩ := Kd.R_slice r
  obtain ⟨Dh0, eh0, rfl⟩ := Kd.S_slice q
  clear r q b bs_
  have hc_w0 : w6.cell? ⟨w1.heap.size, 0, none⟩ = some (.slice Aw0 P.length cw0) := (blk_cell K_w_w6.out 0).trans rfl
  have hf_w0 := blk_frozen K_w_w6.out 0
  have hc_w1 : w6.cell? ⟨w1.heap.size, 1, none⟩ = some (.slice Dw0 Q.length ew0) := (blk_cell K_w_w6.out 1).trans rfl
  have hf_w1 := blk_frozen K_w_w6.out 1
  have hl_w : w1.heap.size < w6.heap.size := blk_lt K_w_w6.out
  have hc_g0 : w6.cell? ⟨w2.heap.size, 0, none⟩ = some (.slice Ag0 P.length cg0) := (blk_cell K_g_w6.out 0).trans rfl
  have hf_g0 := blk_frozen K_g_w6.out 0
  have hc_g1 : w6.cell? ⟨w2.heap.size, 1, none⟩ = some (.slice Dg0 Q.length eg0) := (blk_cell K_g_w6.out 1).trans rfl
  have hf_g1 := blk_frozen K_g_w6.out 1
  have hl_g : w2.heap.size < w6.heap.size := blk_lt K_g_w6.out
  go_wp2_with fail
  -- eq(h0, w0)
  refine (laws_eqTableau.calls k _ _ P _ _ Q _ _ P _ _ Q true _ (Kd.R_reads' (Kd.R_alloc h00_w6.out (.cells #[.slice Ah0 P.length ch0, .slice Dh0 Q.length eh0] 50 (0, 0)))).2.2 (Kd.R_reads' h00_w6.out).2.1 (Kd.S_reads' (Kd.S_alloc h01_w6.out (.cells #[.slice Ah0 P.length ch0, .slice Dh0 Q.length eh0] 50 (0, 0)))).2.2 (Kd.S_reads' h01_w6.out).2.1 (Kd.R_reads' (Kd.R_alloc w00_w6.out (.cells #[.slice Ah0 P.length ch0, .slice Dh0 Q.length eh0] 50 (0, 0)))).2.2 (Kd.R_reads' w00_w6.out).2.1 (Kd.S_reads' (Kd.S_alloc w01_w6.out (.cells #[.slice Ah0 P.length ch0, .slice Dh0 Q.length eh0] 50 (0, 0)))).2.2 (Kd.S_reads' w01_w6.out).2.1 F4.out).mono ?_
  rintro e w7 ⟨rfl, b⟩
  have w00_w7 := Aside0.mk (Kd.R_below (Kd.R_alloc w00_w6.out (.cells #[.slice Ah0 P.length ch0, .slice Dh0 Q.length eh0] 50 (0, 0))) b)
  have w01_w7 := Aside0.mk (Kd.S_below (Kd.S_alloc w01_w6.out (.cells #[.slice Ah0 P.length ch0, .slice Dh0 Q.length eh0] 50 (0, 0))) b)
  have g00_w7 := Aside0.mk (Kd.R_below (Kd.R_alloc g00_w6.out (.cells #[.slice Ah0 P.length ch0, .slice Dh0 Q.length eh0] 50 (0, 0))) b)
  have g01_w7 := Aside0.mk (Kd.S_below (Kd.S_alloc g01_w6.out (.cells #[.slice Ah0 P.length ch0, .slice Dh0 Q.length eh0] 50 (0, 0))) b)
  have h00_w7 := Aside0.mk (Kd.R_below (Kd.R_alloc h00_w6.out (.cells #[.slice Ah0 P.length ch0, .slice Dh0 Q.length eh0] 50 (0, 0))) b)
  have h01_w7 := Aside0.mk (Kd.S_below (Kd.S_alloc h01_w6.out (.cells #[.slice Ah0 P.length ch0, .slice Dh0 Q.length eh0] 50 (0, 0))) b)
  have K_w_w7 := Aside0.mk (blk_below (blk_alloc K_w_w6.out (.cells #[.slice Ah0 P.length ch0, .slice Dh0 Q.length eh0] 50 (0, 0))) b)
  have K_g_w7 := Aside0.mk (blk_below (blk_alloc K_g_w6.out (.cells #[.slice Ah0 P.length ch0, .slice Dh0 Q.length eh0] 50 (0, 0))) b)
  have K_h_w7 := Aside0.mk (blk_below (blk_new w6 (.cells #[.slice Ah0 P.length ch0, .slice Dh0 Q.length eh0] 50 (0, 0))) b)
  have B_w7 := Aside0.mk (below_then (below_alloc B_w6.out (.cells #[.slice Ah0 P.length ch0, .slice Dh0 Q.length eh0] 50 (0, 0))) (below_alloc B_w6.out (.cells #[.slice Ah0 P.length ch0, .slice Dh0 Q.length eh0] 50 (0, 0))).size b)
  have Z_w7 := Aside0.mk (alloc_lt b.size)
  clear w00_w6 w01_w6 g00_w6 g01_w6 h00_w6 h01_w6 K_w_w6 K_g_w6 B_w6 hc_w0 hf_w0 hc_w1 hf_w1 hl_w hc_g0 hf_g0 hc_g1 hf_g1 hl_g
  clear b
  have hc_w0 : w7.cell? ⟨w1.heap.size, 0, none⟩ = some (.slice Aw0 P.length cw0) := (blk_cell K_w_w7.out 0).trans rfl
  have hf_w0 := blk_frozen K_w_w7.out 0
  have hc_w1 : w7.cell? ⟨w1.heap.size, 1, none⟩ = some (.slice Dw0 Q.length ew0) := (blk_cell K_w_w7.out 1).trans rfl
  have hf_w1 := blk_frozen K_w_w7.out 1
  have hl_w : w1.heap.size < w7.heap.size := blk_lt K_w_w7.out
  have hc_g0 : w7.cell? ⟨w2.heap.size, 0, none⟩ = some (.slice Ag0 P.length cg0) := (blk_cell K_g_w7.out 0).trans rfl
  have hf_g0 := blk_frozen K_g_w7.out 0
  have hc_g1 : w7.cell? ⟨w2.heap.size, 1, none⟩ = some (.slice Dg0 Q.length eg0) := (blk_cell K_g_w7.out 1).trans rfl
  have hf_g1 := blk_frozen K_g_w7.out 1
  have hl_g : w2.heap.size < w7.heap.size := blk_lt K_g_w7.out
  have hc_h0 : w7.cell? ⟨w6.heap.size, 0, none⟩ = some (.slice Ah0 P.length ch0) := (blk_cell K_h_w7.out 0).trans rfl
  have hf_h0 := blk_frozen K_h_w7.out 0
  have hc_h1 : w7.cell? ⟨w6.heap.size, 1, none⟩ = some (.slice Dh0 Q.length eh0) := (blk_cell K_h_w7.out 1).trans rfl
  have hf_h1 := blk_frozen K_h_w7.out 1
  have hl_h : w6.heap.size < w7.heap.size := blk_lt K_h_w7.out
  go_wp2_with fail
  -- held(g0, 1)
  have E0 := Aside0.mk (Kd.R_reads' g00_w7.out).1
  have E1 := Aside0.mk (Kd.S_reads' g01_w7.out).1
  refine (calls_of_args (by rw [E0.out, E1.out]) (laws_heldTableau.calls k _ _ ys _ _ zs 1 m _ (Kd.R_reads' g00_w7.out).2.2 (by rw [← E0.out]; exact (Kd.R_reads' g00_w7.out).2.1) (Kd.S_reads' g01_w7.out).2.2 (by rw [← E1.out]; exact (Kd.S_reads' g01_w7.out).2.1) F9.out)).mono ?_
  rintro e w8 ⟨rfl, b⟩
  have w00_w8 := Aside0.mk (Kd.R_below w00_w7.out b)
  have w01_w8 := Aside0.mk (Kd.S_below w01_w7.out b)
  have g00_w8 := Aside0.mk (Kd.R_below g00_w7.out b)
  have g01_w8 := Aside0.mk (Kd.S_below g01_w7.out b)
  have h00_w8 := Aside0.mk (Kd.R_below h00_w7.out b)
  have h01_w8 := Aside0.mk (Kd.S_below h01_w7.out b)
  have K_w_w8 := Aside0.mk (blk_below K_w_w7.out b)
  have K_g_w8 := Aside0.mk (blk_below K_g_w7.out b)
  have K_h_w8 := Aside0.mk (blk_below K_h_w7.out b)
  have B_w8 := Aside0.mk (below_then B_w7.out B_w7.out.size b)
  have Z_w8 := Aside0.mk (b.size)
  clear w00_w7 w01_w7 g00_w7 g01_w7 h00_w7 h01_w7 K_w_w7 K_g_w7 K_h_w7 B_w7 hc_w0 hf_w0 hc_w1 hf_w1 hl_w hc_g0 hf_g0 hc_g1 hf_g1 hl_g hc_h0 hf_h0 hc_h1 hf_h1 hl_h
  clear b
  clear E0 E1
  have hc_w0 : w8.cell? ⟨w1.heap.size, 0, none⟩ = some (.slice Aw0 P.length cw0) := (blk_cell K_w_w8.out 0).trans rfl
  have hf_w0 := blk_frozen K_w_w8.out 0
  have hc_w1 : w8.cell? ⟨w1.heap.size, 1, none⟩ = some (.slice Dw0 Q.length ew0) := (blk_cell K_w_w8.out 1).trans rfl
  have hf_w1 := blk_frozen K_w_w8.out 1
  have hl_w : w1.heap.size < w8.heap.size := blk_lt K_w_w8.out
  have hc_g0 : w8.cell? ⟨w2.heap.size, 0, none⟩ = some (.slice Ag0 P.length cg0) := (blk_cell K_g_w8.out 0).trans rfl
  have hf_g0 := blk_frozen K_g_w8.out 0
  have hc_g1 : w8.cell? ⟨w2.heap.size, 1, none⟩ = some (.slice Dg0 Q.length eg0) := (blk_cell K_g_w8.out 1).trans rfl
  have hf_g1 := blk_frozen K_g_w8.out 1
  have hl_g : w2.heap.size < w8.heap.size := blk_lt K_g_w8.out
  have hc_h0 : w8.cell? ⟨w6.heap.size, 0, none⟩ = some (.slice Ah0 P.length ch0) := (blk_cell K_h_w8.out 0).trans rfl
  have hf_h0 := blk_frozen K_h_w8.out 0
  have hc_h1 : w8.cell? ⟨w6.heap.size, 1, none⟩ = some (.slice Dh0 Q.length eh0) := (blk_cell K_h_w8.out 1).trans rfl
  have hf_h1 := blk_frozen K_h_w8.out 1
  have hl_h : w6.heap.size < w8.heap.size := blk_lt K_h_w8.out
  go_wp2_with fail
  go_ret
  exact ⟨rfl, B_w8.out⟩

end Go.Proofs.YtcegeleoicjciaaDoor.QFnExactParseTableau
