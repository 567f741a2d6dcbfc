/- This session's own text: the walk of the law FnExactTurnTableau: where the facts of its plain functions hold it returns true and nothing that lay before has turned. No condition beyond those that the statement bears. -/
import Derived.Test.YtiehngfcfdlbnaaTFnExactTurnTableau
namespace Go.Proofs.Ytiehngfcfdlbnaa.QFnExactTurnTableau
open Go.RowKit Go.Proofs.YtiehngfcfdlbnaaW.PrintWords Go.Proofs.YtiehngfcfdlbnaaW.PrintLast Go.Proofs.YtiehngfcfdlbnaaW.PrintMore
set_option linter.unusedVariables false
set_option linter.unusedSimpArgs false

structure laws_FnExactTurnTableau.ok (k : Nat) (I : List Int) (R : List (List Int)) : Prop where
 big : (∃ s : Int, s < 0 ∧ laws_szTableau.f k I R 1048576 = some s) ∨ ∃ (s m1 m2 m : Int) (P : List Int) (Q : List (List Int)) (xs ys : List Int) (zs : List (List Int)) (bf : Bool) (qs : List (List Int)), 0 ≤ s ∧ laws_szTableau.f k I R 1048576 = some s ∧ laws_toTableau.f k I R = some (I, R) ∧ spec_TurnTableau.f k I R = some (P, Q, bf) ∧ impl_TurnTableau.f k I R = some (P, Q, bf) ∧ laws_eqTableau.f k P Q P Q = some true ∧ laws_eqTableau.f k I R I R = some true ∧ laws_markIntS.f k I 1 = some (m1, xs) ∧ laws_markIntSS.f k R m1 = some (m2, qs) ∧ 0 ≤ m2 ∧ (∃ m3, laws_markIntS.f k P 1 = some (m3, ys) ∧ laws_markIntSS.f k Q m3 = some (m, zs)) ∧ 0 ≤ m ∧ laws_heldTableau.f k ys zs 1 = some m

theorem alloc_lt {W : World} {o : Obj} {n : Nat} (h : (W.alloc o).heap.size ≤ n) : W.heap.size < n := by
 have e : (W.alloc o).heap.size = W.heap.size + 1 := Array.size_push ..
 omega
theorem drawn_below {w w' : World} (h : Drawn0 w w') : Below w.heap.size w w' := by
 obtain ⟨n, rfl⟩ := h
 exact pw_below_drewN (Below.refl _ _) n

set_option maxHeartbeats 16000000 in
set_option maxRecDepth 100000 in
theorem laws_FnExactTurnTableau.calls (k : Nat) (A0 : Option Addr) (c0 : Nat) (I : List Int) (A1 : Option Addr) (c1 : Nat) (R : List (List Int)) (w : World) (hr0 : Kd.C (Kd.int .i64) w A0 I.length I) (hc0 : I.length ≤ c0) (hr1 : Kd.C (Kd.slice 3 (Kd.int .i64)) w A1 R.length R) (hc1 : R.length ≤ c1) (h : laws_FnExactTurnTableau.ok k I R) :
  Calls Try.prog 10 #[.agg #[.slice A0 I.length c0, .slice A1 R.length c1]] w fun e w' => e = .returned (.bool true) ∧ Below w.heap.size w w' := by
 have hu25 := Try.underlying25
 have hu28 := Try.underlying28
 rcases h.big with ⟨s, hs, f0⟩ | ⟨s, m1, m2, m, P, Q, xs, ys, zs, bf, qs, hs, f0, f1, f2, f3, f4, f5, f6, f7, hm2, ⟨m3, f8, f8b⟩, hm, f9⟩
 ·have ds : decide (s < 0) = true := decide_eq_true hs
  have HR0 := Aside0.mk hr0
  have HC0 := Aside0.mk hc0
  have HR1 := Aside0.mk hr1
  have HC1 := Aside0.mk hc1
  have F0 := Aside0.mk f0
  clear hr0 hc0 hr1 hc1 f0 h hs
  go_enter Try.func10, Try.ntmps10
  go_wp2_with ((with_reducible refine gate_dst (N := 1) rfl ?_); refine box_event ?hg (N := 1) ?hd (cs := #[.slice A0 I.length c0, .slice A1 R.length c1]) (t := 25) ?hr ?_; (case hd => rfl); (case hg => rfl); (case hr => first | (go_simp; done) | (go_simp; rfl)); intro gb hg w1 hbox hb; have B_w1 := Aside0.mk hb; have K_aT_w1 := Aside0.mk hbox; have G_aT := Aside0.mk hg; have hc_aT0 : w1.cell? ⟨gb, 0, none⟩ = some (.slice A0 I.length c0) := (blk_cell K_aT_w1.out 0).trans rfl; have hc_aT1 : w1.cell? ⟨gb, 1, none⟩ = some (.slice A1 R.length c1) := (blk_cell K_aT_w1.out 1).trans rfl; have hf_aT0 := blk_frozen K_aT_w1.out 0; have hf_aT1 := blk_frozen K_aT_w1.out 1; have Z_w1 := Aside0.mk (hg ▸ blk_lt hbox); clear hb hbox hg)
  refine (laws_szTableau.calls k _ _ I _ _ R 1048576 s _ (Kd.C_below HR0.out B_w1.out) HC0.out (Kd.C_below HR1.out B_w1.out) HC1.out F0.out).mono ?_
  rintro e w2 ⟨rfl, b⟩
  have B_w2 := Aside0.mk (below_then B_w1.out B_w1.out.size b)
  clear b hc_aT0 hc_aT1 hf_aT0 hf_aT1
  go_wp2_with fail
  go_ret
  exact ⟨rfl, B_w2.out⟩
 ·have ds : decide (s < 0) = false := decide_eq_false (by omega)
  have d2 : decide (m2 < 0) = false := decide_eq_false (by omega)
  have d3 : decide (m < 0) = false := decide_eq_false (by omega)
  have hbb : (bf != bf) = false := by simp
  have HR0 := Aside0.mk hr0
  have HC0 := Aside0.mk hc0
  have HR1 := Aside0.mk hr1
  have HC1 := Aside0.mk hc1
  have F0 := Aside0.mk f0
  have F1 := Aside0.mk f1
  have F2 := Aside0.mk f2
  have F3 := Aside0.mk f3
  have F4 := Aside0.mk f4
  have F5 := Aside0.mk f5
  have F6 := Aside0.mk f6
  have F7 := Aside0.mk f7
  have F8 := Aside0.mk f8
  have F9 := Aside0.mk f9
  have F8B := Aside0.mk f8b
  clear hr0 hc0 hr1 hc1 f0 f1 f2 f3 f4 f5 f6 f7 f8 f9 f8b h hs hm2 hm
  go_enter Try.func10, Try.ntmps10
  go_wp2_with ((with_reducible refine gate_dst (N := 1) rfl ?_); refine box_event ?hg (N := 1) ?hd (cs := #[.slice A0 I.length c0, .slice A1 R.length c1]) (t := 25) ?hr ?_; (case hd => rfl); (case hg => rfl); (case hr => first | (go_simp; done) | (go_simp; rfl)); intro gb hg w1 hbox hb; have B_w1 := Aside0.mk hb; have K_aT_w1 := Aside0.mk hbox; have G_aT := Aside0.mk hg; have hc_aT0 : w1.cell? ⟨gb, 0, none⟩ = some (.slice A0 I.length c0) := (blk_cell K_aT_w1.out 0).trans rfl; have hc_aT1 : w1.cell? ⟨gb, 1, none⟩ = some (.slice A1 R.length c1) := (blk_cell K_aT_w1.out 1).trans rfl; have hf_aT0 := blk_frozen K_aT_w1.out 0; have hf_aT1 := blk_frozen K_aT_w1.out 1; have Z_w1 := Aside0.mk (hg ▸ blk_lt hbox); clear hb hbox hg)
  -- szTableau
  refine (laws_szTableau.calls k _ _ I _ _ R 1048576 s _ (Kd.C_below HR0.out B_w1.out) HC0.out (Kd.C_below HR1.out B_w1.out) HC1.out F0.out).mono ?_
  rintro e w2 ⟨rfl, b⟩
  have K_aT_w2 := Aside0.mk (blk_below K_aT_w1.out b)
  have B_w2 := Aside0.mk (below_then B_w1.out B_w1.out.size b)
  have Z_w2 := Aside0.mk (b.size)
  clear K_aT_w1 B_w1 hc_aT0 hc_aT1 hf_aT0 hf_aT1
  clear b
  have hc_aT0 : w2.cell? ⟨gb, 0, none⟩ = some (.slice A0 I.length c0) := (blk_cell K_aT_w2.out 0).trans rfl
  have hf_aT0 := blk_frozen K_aT_w2.out 0
  have hc_aT1 : w2.cell? ⟨gb, 1, none⟩ = some (.slice A1 R.length c1) := (blk_cell K_aT_w2.out 1).trans rfl
  have hf_aT1 := blk_frozen K_aT_w2.out 1
  have hl_aT : gb < w2.heap.size := blk_lt K_aT_w2.out
  go_wp2_with fail
  -- toTableau(aT)
  refine (laws_toTableau.calls k _ _ I _ _ R I R _ (Kd.C_below HR0.out B_w2.out) HC0.out (Kd.C_below HR1.out B_w2.out) HC1.out F1.out).mono ?_
  rintro e w3 ⟨vt, ut, rfl, r, q, b⟩
  have bs_ := B_w2.out.size
  have K_aT_w3 := Aside0.mk (blk_below K_aT_w2.out b)
  have B_w3 := Aside0.mk (below_then B_w2.out B_w2.out.size b)
  have Z_w3 := Aside0.mk (b.size)
  clear K_aT_w2 B_w2 hc_aT0 hf_aT0 hc_aT1 hf_aT1 hl_aT
  have t0_w3 := Aside0.mk (Kd.R_lower (base' := w.heap.size) (Kd.R_mono (ok' := fun k_ => some k_ = (vt : Value).ownBlock ∧ w2.heap.size ≤ k_ ∧ k_ < w3.heap.size) (Kd.R_bound (Kd.R_tight rfl r)) (fun k_ hk_ => ⟨hk_.1, hk_.2.1, hk_.2.2.1⟩)) bs_)
  have t1_w3 := Aside0.mk (Kd.S_lower (base' := w.heap.size) (Kd.S_mono (ok' := fun k_ => some k_ ≠ (vt : Value).ownBlock ∧ w2.heap.size ≤ k_ ∧ k_ < w3.heap.size) (Kd.S_bound q) (fun k_ hk_ => ⟨hk_.1, hk_.2.1, hk_.2.2.1⟩)) bs_)
  obtain ⟨At, ct, rfl⟩ := Kd.R_slice r
  obtain ⟨Dt, et, rfl⟩ := Kd.S_slice q
  clear r q b bs_
  have hc_aT0 : w3.cell? ⟨gb, 0, none⟩ = some (.slice A0 I.length c0) := (blk_cell K_aT_w3.out 0).trans rfl
  have hf_aT0 := blk_frozen K_aT_w3.out 0
  have hc_aT1 : w3.cell? ⟨gb, 1, none⟩ = some (.slice A1 R.length c1) := (blk_cell K_aT_w3.out 1).trans rfl
  have hf_aT1 := blk_frozen K_aT_w3.out 1
  have hl_aT : gb < w3.heap.size := blk_lt K_aT_w3.out
  go_wp2_with fail
  -- w0
  refine (spec_TurnTableau.calls k _ _ I _ _ R P Q bf _ (Kd.R_reads' t0_w3.out).2.2 (Kd.R_reads' t0_w3.out).2.1 (Kd.S_reads' t1_w3.out).2.2 (Kd.S_reads' t1_w3.out).2.1 F2.out).mono ?_
  rintro e w4 ⟨vw0, uw0, rfl, r, q, b⟩
  have bs_ := B_w3.out.size
  have t0_w4 := Aside0.mk (Kd.R_below t0_w3.out b)
  have t1_w4 := Aside0.mk (Kd.S_below t1_w3.out b)
  have K_aT_w4 := Aside0.mk (blk_below K_aT_w3.out b)
  have B_w4 := Aside0.mk (below_then B_w3.out B_w3.out.size b)
  have Z_w4 := Aside0.mk (b.size)
  clear t0_w3 t1_w3 K_aT_w3 B_w3 hc_aT0 hf_aT0 hc_aT1 hf_aT1 hl_aT
  have w00_w4 := Aside0.mk (Kd.R_lower (base' := w.heap.size) (Kd.R_mono (ok' := fun k_ => some k_ = (vw0 : Value).ownBlock ∧ w3.heap.size ≤ k_ ∧ k_ < w4.heap.size) (Kd.R_bound (Kd.R_tight rfl r)) (fun k_ hk_ => ⟨hk_.1, hk_.2.1, hk_.2.2.1⟩)) bs_)
  have w01_w4 := Aside0.mk (Kd.S_lower (base' := w.heap.size) (Kd.S_mono (ok' := fun k_ => some k_ ≠ (vw0 : Value).ownBlock ∧ w3.heap.size ≤ k_ ∧ k_ < w4.heap.size) (Kd.S_bound q) (fun k_ hk_ => ⟨hk_.1, hk_.2.1, hk_.2.2.1⟩)) bs_)
  obtain ⟨Aw0, cw0, rfl⟩ := Kd.R_slice r
  obtain ⟨Dw0, ew0, rfl⟩ := Kd.S_slice q
  clear r q b bs_
  clear t0_w4
  clear t1_w4
  have hc_aT0 : w4.cell? ⟨gb, 0, none⟩ = some (.slice A0 I.length c0) := (blk_cell K_aT_w4.out 0).trans rfl
  have hf_aT0 := blk_frozen K_aT_w4.out 0
  have hc_aT1 : w4.cell? ⟨gb, 1, none⟩ = some (.slice A1 R.length c1) := (blk_cell K_aT_w4.out 1).trans rfl
  have hf_aT1 := blk_frozen K_aT_w4.out 1
  have hl_aT : gb < w4.heap.size := blk_lt K_aT_w4.out
  go_wp2_with fail
  -- x0
  refine (laws_toTableau.calls k _ _ I _ _ R I R _ (Kd.C_below HR0.out (below_alloc B_w4.out (.cells #[.slice Aw0 P.length cw0, .slice Dw0 Q.length ew0] 28 (0, 0)))) HC0.out (Kd.C_below HR1.out (below_alloc B_w4.out (.cells #[.slice Aw0 P.length cw0, .slice Dw0 Q.length ew0] 28 (0, 0)))) HC1.out F1.out).mono ?_
  rintro e w5 ⟨vx, ux, rfl, r, q, b⟩
  have bs_ := (below_alloc B_w4.out (.cells #[.slice Aw0 P.length cw0, .slice Dw0 Q.length ew0] 28 (0, 0))).size
  have w00_w5 := Aside0.mk (Kd.R_below (Kd.R_alloc w00_w4.out (.cells #[.slice Aw0 P.length cw0, .slice Dw0 Q.length ew0] 28 (0, 0))) b)
  have w01_w5 := Aside0.mk (Kd.S_below (Kd.S_alloc w01_w4.out (.cells #[.slice Aw0 P.length cw0, .slice Dw0 Q.length ew0] 28 (0, 0))) b)
  have K_aT_w5 := Aside0.mk (blk_below (blk_alloc K_aT_w4.out (.cells #[.slice Aw0 P.length cw0, .slice Dw0 Q.length ew0] 28 (0, 0))) b)
  have K_w_w5 := Aside0.mk (blk_below (blk_new w4 (.cells #[.slice Aw0 P.length cw0, .slice Dw0 Q.length ew0] 28 (0, 0))) b)
  have B_w5 := Aside0.mk (below_then (below_alloc B_w4.out (.cells #[.slice Aw0 P.length cw0, .slice Dw0 Q.length ew0] 28 (0, 0))) (below_alloc B_w4.out (.cells #[.slice Aw0 P.length cw0, .slice Dw0 Q.length ew0] 28 (0, 0))).size b)
  have Z_w5 := Aside0.mk (alloc_lt b.size)
  clear w00_w4 w01_w4 K_aT_w4 B_w4 hc_aT0 hf_aT0 hc_aT1 hf_aT1 hl_aT
  have x0_w5 := Aside0.mk (Kd.R_lower (base' := w.heap.size) (Kd.R_mono (ok' := fun k_ => some k_ = (vx : Value).ownBlock ∧ w4.heap.size < k_ ∧ k_ < w5.heap.size) (Kd.R_bound (Kd.R_tight rfl r)) (fun k_ hk_ => ⟨hk_.1, alloc_lt hk_.2.1, hk_.2.2.1⟩)) bs_)
  have x1_w5 := Aside0.mk (Kd.S_lower (base' := w.heap.size) (Kd.S_mono (ok' := fun k_ => some k_ ≠ (vx : Value).ownBlock ∧ w4.heap.size < k_ ∧ k_ < w5.heap.size) (Kd.S_bound q) (fun k_ hk_ => ⟨hk_.1, alloc_lt hk_.2.1, hk_.2.2.1⟩)) bs_)
  obtain ⟨Ax, cx, rfl⟩ := Kd.R_slice r
  obtain ⟨Dx, ex, rfl⟩ := Kd.S_slice q
  clear r q b bs_
  have hc_aT0 : w5.cell? ⟨gb, 0, none⟩ = some (.slice A0 I.length c0) := (blk_cell K_aT_w5.out 0).trans rfl
  have hf_aT0 := blk_frozen K_aT_w5.out 0
  have hc_aT1 : w5.cell? ⟨gb, 1, none⟩ = some (.slice A1 R.length c1) := (blk_cell K_aT_w5.out 1).trans rfl
  have hf_aT1 := blk_frozen K_aT_w5.out 1
  have hl_aT : gb < w5.heap.size := blk_lt K_aT_w5.out
  have hc_w0 : w5.cell? ⟨w4.heap.size, 0, none⟩ = some (.slice Aw0 P.length cw0) := (blk_cell K_w_w5.out 0).trans rfl
  have hf_w0 := blk_frozen K_w_w5.out 0
  have hc_w1 : w5.cell? ⟨w4.heap.size, 1, none⟩ = some (.slice Dw0 Q.length ew0) := (blk_cell K_w_w5.out 1).trans rfl
  have hf_w1 := blk_frozen K_w_w5.out 1
  have hl_w : w4.heap.size < w5.heap.size := blk_lt K_w_w5.out
  go_wp2_with fail
  -- g0
  refine (impl_TurnTableau.calls k _ _ I _ _ R P Q bf _ (Kd.R_reads' (Kd.R_alloc x0_w5.out (.cells #[.slice Ax I.length cx, .slice Dx R.length ex] 28 (0, 0)))).2.2 (Kd.R_reads' x0_w5.out).2.1 (Kd.S_reads' (Kd.S_alloc x1_w5.out (.cells #[.slice Ax I.length cx, .slice Dx R.length ex] 28 (0, 0)))).2.2 (Kd.S_reads' x1_w5.out).2.1 F3.out).mono ?_
  rintro e w6 ⟨vg0, ug0, rfl, r, q, b⟩
  have bs_ := (below_alloc B_w5.out (.cells #[.slice Ax I.length cx, .slice Dx R.length ex] 28 (0, 0))).size
  have w00_w6 := Aside0.mk (Kd.R_below (Kd.R_alloc w00_w5.out (.cells #[.slice Ax I.length cx, .slice Dx R.length ex] 28 (0, 0))) b)
  have w01_w6 := Aside0.mk (Kd.S_below (Kd.S_alloc w01_w5.out (.cells #[.slice Ax I.length cx, .slice Dx R.length ex] 28 (0, 0))) b)
  have x0_w6 := Aside0.mk (Kd.R_below (Kd.R_alloc x0_w5.out (.cells #[.slice Ax I.length cx, .slice Dx R.length ex] 28 (0, 0))) b)
  have x1_w6 := Aside0.mk (Kd.S_below (Kd.S_alloc x1_w5.out (.cells #[.slice Ax I.length cx, .slice Dx R.length ex] 28 (0, 0))) b)
  have K_aT_w6 := Aside0.mk (blk_below (blk_alloc K_aT_w5.out (.cells #[.slice Ax I.length cx, .slice Dx R.length ex] 28 (0, 0))) b)
  have K_w_w6 := Aside0.mk (blk_below (blk_alloc K_w_w5.out (.cells #[.slice Ax I.length cx, .slice Dx R.length ex] 28 (0, 0))) b)
  have K_x_w6 := Aside0.mk (blk_below (blk_new w5 (.cells #[.slice Ax I.length cx, .slice Dx R.length ex] 28 (0, 0))) b)
  have B_w6 := Aside0.mk (below_then (below_alloc B_w5.out (.cells #[.slice Ax I.length cx, .slice Dx R.length ex] 28 (0, 0))) (below_alloc B_w5.out (.cells #[.slice Ax I.length cx, .slice Dx R.length ex] 28 (0, 0))).size b)
  have Z_w6 := Aside0.mk (alloc_lt b.size)
  clear w00_w5 w01_w5 x0_w5 x1_w5 K_aT_w5 K_w_w5 B_w5 hc_aT0 hf_aT0 hc_aT1 hf_aT1 hl_aT hc_w0 hf_w0 hc_w1 hf_w1 hl_w
  have g00_w6 := Aside0.mk (Kd.R_lower (base' := w.heap.size) (Kd.R_mono (ok' := fun k_ => some k_ = (vg0 : Value).ownBlock ∧ w5.heap.size < k_ ∧ k_ < w6.heap.size) (Kd.R_bound (Kd.R_tight rfl r)) (fun k_ hk_ => ⟨hk_.1, alloc_lt hk_.2.1, hk_.2.2.1⟩)) bs_)
  have g01_w6 := Aside0.mk (Kd.S_lower (base' := w.heap.size) (Kd.S_mono (ok' := fun k_ => some k_ ≠ (vg0 : Value).ownBlock ∧ w5.heap.size < k_ ∧ k_ < w6.heap.size) (Kd.S_bound q) (fun k_ hk_ => ⟨hk_.1, alloc_lt hk_.2.1, hk_.2.2.1⟩)) bs_)
  obtain ⟨Ag0, cg0, rfl⟩ := Kd.R_slice r
  obtain ⟨Dg0, eg0, rfl⟩ := Kd.S_slice q
  clear r q b bs_
  have hc_aT0 : w6.cell? ⟨gb, 0, none⟩ = some (.slice A0 I.length c0) := (blk_cell K_aT_w6.out 0).trans rfl
  have hf_aT0 := blk_frozen K_aT_w6.out 0
  have hc_aT1 : w6.cell? ⟨gb, 1, none⟩ = some (.slice A1 R.length c1) := (blk_cell K_aT_w6.out 1).trans rfl
  have hf_aT1 := blk_frozen K_aT_w6.out 1
  have hl_aT : gb < w6.heap.size := blk_lt K_aT_w6.out
  have hc_w0 : w6.cell? ⟨w4.heap.size, 0, none⟩ = some (.slice Aw0 P.length cw0) := (blk_cell K_w_w6.out 0).trans rfl
  have hf_w0 := blk_frozen K_w_w6.out 0
  have hc_w1 : w6.cell? ⟨w4.heap.size, 1, none⟩ = some (.slice Dw0 Q.length ew0) := (blk_cell K_w_w6.out 1).trans rfl
  have hf_w1 := blk_frozen K_w_w6.out 1
  have hl_w : w4.heap.size < w6.heap.size := blk_lt K_w_w6.out
  have hc_x0 : w6.cell? ⟨w5.heap.size, 0, none⟩ = some (.slice Ax I.length cx) := (blk_cell K_x_w6.out 0).trans rfl
  have hf_x0 := blk_frozen K_x_w6.out 0
  have hc_x1 : w6.cell? ⟨w5.heap.size, 1, none⟩ = some (.slice Dx R.length ex) := (blk_cell K_x_w6.out 1).trans rfl
  have hf_x1 := blk_frozen K_x_w6.out 1
  have hl_x : w5.heap.size < w6.heap.size := blk_lt K_x_w6.out
  go_wp2_with fail
  -- eq(g0, w0)
  refine (laws_eqTableau.calls k _ _ P _ _ Q _ _ P _ _ Q true _ (Kd.R_reads' (Kd.R_alloc g00_w6.out (.cells #[.slice Ag0 P.length cg0, .slice Dg0 Q.length eg0] 28 (0, 0)))).2.2 (Kd.R_reads' g00_w6.out).2.1 (Kd.S_reads' (Kd.S_alloc g01_w6.out (.cells #[.slice Ag0 P.length cg0, .slice Dg0 Q.length eg0] 28 (0, 0)))).2.2 (Kd.S_reads' g01_w6.out).2.1 (Kd.R_reads' (Kd.R_alloc w00_w6.out (.cells #[.slice Ag0 P.length cg0, .slice Dg0 Q.length eg0] 28 (0, 0)))).2.2 (Kd.R_reads' w00_w6.out).2.1 (Kd.S_reads' (Kd.S_alloc w01_w6.out (.cells #[.slice Ag0 P.length cg0, .slice Dg0 Q.length eg0] 28 (0, 0)))).2.2 (Kd.S_reads' w01_w6.out).2.1 F4.out).mono ?_
  rintro e w7 ⟨rfl, b⟩
  have w00_w7 := Aside0.mk (Kd.R_below (Kd.R_alloc w00_w6.out (.cells #[.slice Ag0 P.length cg0, .slice Dg0 Q.length eg0] 28 (0, 0))) b)
  have w01_w7 := Aside0.mk (Kd.S_below (Kd.S_alloc w01_w6.out (.cells #[.slice Ag0 P.length cg0, .slice Dg0 Q.length eg0] 28 (0, 0))) b)
  have x0_w7 := Aside0.mk (Kd.R_below (Kd.R_alloc x0_w6.out (.cells #[.slice Ag0 P.length cg0, .slice Dg0 Q.length eg0] 28 (0, 0))) b)
  have x1_w7 := Aside0.mk (Kd.S_below (Kd.S_alloc x1_w6.out (.cells #[.slice Ag0 P.length cg0, .slice Dg0 Q.length eg0] 28 (0, 0))) b)
  have g00_w7 := Aside0.mk (Kd.R_below (Kd.R_alloc g00_w6.out (.cells #[.slice Ag0 P.length cg0, .slice Dg0 Q.length eg0] 28 (0, 0))) b)
  have g01_w7 := Aside0.mk (Kd.S_below (Kd.S_alloc g01_w6.out (.cells #[.slice Ag0 P.length cg0, .slice Dg0 Q.length eg0] 28 (0, 0))) b)
  have K_aT_w7 := Aside0.mk (blk_below (blk_alloc K_aT_w6.out (.cells #[.slice Ag0 P.length cg0, .slice Dg0 Q.length eg0] 28 (0, 0))) b)
  have K_w_w7 := Aside0.mk (blk_below (blk_alloc K_w_w6.out (.cells #[.slice Ag0 P.length cg0, .slice Dg0 Q.length eg0] 28 (0, 0))) b)
  have K_x_w7 := Aside0.mk (blk_below (blk_alloc K_x_w6.out (.cells #[.slice Ag0 P.length cg0, .slice Dg0 Q.length eg0] 28 (0, 0))) b)
  have K_g_w7 := Aside0.mk (blk_below (blk_new w6 (.cells #[.slice Ag0 P.length cg0, .slice Dg0 Q.length eg0] 28 (0, 0))) b)
  have B_w7 := Aside0.mk (below_then (below_alloc B_w6.out (.cells #[.slice Ag0 P.length cg0, .slice Dg0 Q.length eg0] 28 (0, 0))) (below_alloc B_w6.out (.cells #[.slice Ag0 P.length cg0, .slice Dg0 Q.length eg0] 28 (0, 0))).size b)
  have Z_w7 := Aside0.mk (alloc_lt b.size)
  clear w00_w6 w01_w6 x0_w6 x1_w6 g00_w6 g01_w6 K_aT_w6 K_w_w6 K_x_w6 B_w6 hc_aT0 hf_aT0 hc_aT1 hf_aT1 hl_aT hc_w0 hf_w0 hc_w1 hf_w1 hl_w hc_x0 hf_x0 hc_x1 hf_x1 hl_x
  clear b
  have hc_aT0 : w7.cell? ⟨gb, 0, none⟩ = some (.slice A0 I.length c0) := (blk_cell K_aT_w7.out 0).trans rfl
  have hf_aT0 := blk_frozen K_aT_w7.out 0
  have hc_aT1 : w7.cell? ⟨gb, 1, none⟩ = some (.slice A1 R.length c1) := (blk_cell K_aT_w7.out 1).trans rfl
  have hf_aT1 := blk_frozen K_aT_w7.out 1
  have hl_aT : gb < w7.heap.size := blk_lt K_aT_w7.out
  have hc_w0 : w7.cell? ⟨w4.heap.size, 0, none⟩ = some (.slice Aw0 P.length cw0) := (blk_cell K_w_w7.out 0).trans rfl
  have hf_w0 := blk_frozen K_w_w7.out 0
  have hc_w1 : w7.cell? ⟨w4.heap.size, 1, none⟩ = some (.slice Dw0 Q.length ew0) := (blk_cell K_w_w7.out 1).trans rfl
  have hf_w1 := blk_frozen K_w_w7.out 1
  have hl_w : w4.heap.size < w7.heap.size := blk_lt K_w_w7.out
  have hc_x0 : w7.cell? ⟨w5.heap.size, 0, none⟩ = some (.slice Ax I.length cx) := (blk_cell K_x_w7.out 0).trans rfl
  have hf_x0 := blk_frozen K_x_w7.out 0
  have hc_x1 : w7.cell? ⟨w5.heap.size, 1, none⟩ = some (.slice Dx R.length ex) := (blk_cell K_x_w7.out 1).trans rfl
  have hf_x1 := blk_frozen K_x_w7.out 1
  have hl_x : w5.heap.size < w7.heap.size := blk_lt K_x_w7.out
  have hc_g0 : w7.cell? ⟨w6.heap.size, 0, none⟩ = some (.slice Ag0 P.length cg0) := (blk_cell K_g_w7.out 0).trans rfl
  have hf_g0 := blk_frozen K_g_w7.out 0
  have hc_g1 : w7.cell? ⟨w6.heap.size, 1, none⟩ = some (.slice Dg0 Q.length eg0) := (blk_cell K_g_w7.out 1).trans rfl
  have hf_g1 := blk_frozen K_g_w7.out 1
  have hl_g : w6.heap.size < w7.heap.size := blk_lt K_g_w7.out
  go_wp2_with fail
  -- eqTableau(x0, toTableau(aT))
  clear hc_aT0 hf_aT0 hc_aT1 hf_aT1 hl_aT hc_w0 hf_w0 hc_w1 hf_w1 hl_w hc_x0 hf_x0 hc_x1 hf_x1 hl_x hc_g0 hf_g0 hc_g1 hf_g1 hl_g
  refine start_ (n := 5) (S := fun w' => w'.cell? ⟨w5.heap.size, 0, none⟩ = some (.slice Ax I.length cx) ∧ w'.cell? ⟨w5.heap.size, 1, none⟩ = some (.slice Dx R.length ex) ∧ w'.cell? ⟨gb, 0, none⟩ = some (.slice A0 I.length c0) ∧ w'.cell? ⟨gb, 1, none⟩ = some (.slice A1 R.length c1)) (ds := []) #[false, false, false, false, false] (by kernel_rfl) rfl rfl ⟨(blk_cell K_x_w7.out 0).trans rfl, (blk_cell K_x_w7.out 1).trans rfl, (blk_cell K_aT_w7.out 0).trans rfl, (blk_cell K_aT_w7.out 1).trans rfl⟩ (fun hHeld => ?_)
  generalize hq_ : w7.drew = w8 at hHeld ⊢
  have b : Below w7.heap.size w7 w8 := hq_ ▸ below_drew1 (Below.refl _ _)
  clear hq_
  have w00_w8 := Aside0.mk (Kd.R_below w00_w7.out b)
  have w01_w8 := Aside0.mk (Kd.S_below w01_w7.out b)
  have x0_w8 := Aside0.mk (Kd.R_below x0_w7.out b)
  have x1_w8 := Aside0.mk (Kd.S_below x1_w7.out b)
  have g00_w8 := Aside0.mk (Kd.R_below g00_w7.out b)
  have g01_w8 := Aside0.mk (Kd.S_below g01_w7.out b)
  have K_aT_w8 := Aside0.mk (blk_below K_aT_w7.out b)
  have K_w_w8 := Aside0.mk (blk_below K_w_w7.out b)
  have K_x_w8 := Aside0.mk (blk_below K_x_w7.out b)
  have K_g_w8 := Aside0.mk (blk_below K_g_w7.out b)
  have B_w8 := Aside0.mk (below_then B_w7.out B_w7.out.size b)
  have Z_w8 := Aside0.mk (b.size)
  clear w00_w7 w01_w7 x0_w7 x1_w7 g00_w7 g01_w7 K_aT_w7 K_w_w7 K_x_w7 K_g_w7 B_w7
  clear b
  refine take_ (i := 0) (N := some 41) (v := ?_) (a' := ?_) #[true, false, false, false, false] rfl rfl (by kernel_rfl) (fun _ _ _ h => h) (Or.inl ⟨by rfl, ?_⟩) hHeld ?_ ?_
  rotate_left
  ·rintro w' ⟨s0, s1, s2, s3⟩
   go_simp
   with_reducible rfl
  rotate_left
  ·simp only [Act.put, List.setIfInBounds_toArray, List.set_cons_zero, List.set_cons_succ, i64_w, i32_w]
   rfl
  refine take_ (i := 1) (N := some 42) (v := ?_) (a' := ?_) #[true, true, false, false, false] rfl rfl (by kernel_rfl) (fun _ _ _ h => h) (Or.inl ⟨by rfl, ?_⟩) hHeld ?_ ?_
  rotate_left
  ·rintro w' ⟨s0, s1, s2, s3⟩
   go_simp
   with_reducible rfl
  rotate_left
  ·simp only [Act.put, List.setIfInBounds_toArray, List.set_cons_zero, List.set_cons_succ, i64_w, i32_w]
   rfl
  refine one_ (i := 2) (N := some 43) #[true, true, true, false, false] rfl rfl (by kernel_rfl) (by decide) (fun K hK => ?_)
  refine goes_ Try.func13 (by kernel_rfl) rfl #[.agg #[.slice A0 I.length c0, .slice A1 R.length c1]] (by rfl) rfl rfl (by (try simp only [List.map_toArray, List.map_cons, List.map_nil]); first | done | rfl) ?_
  refine (laws_toTableau.calls k _ _ I _ _ R I R _ (Kd.C_below HR0.out B_w8.out) HC0.out (Kd.C_below HR1.out B_w8.out) HC1.out F1.out).mono ?_
  rintro e w9 ⟨vy, uy, rfl, r, q, b⟩
  have bs_ := B_w8.out.size
  have w00_w9 := Aside0.mk (Kd.R_below w00_w8.out b)
  have w01_w9 := Aside0.mk (Kd.S_below w01_w8.out b)
  have x0_w9 := Aside0.mk (Kd.R_below x0_w8.out b)
  have x1_w9 := Aside0.mk (Kd.S_below x1_w8.out b)
  have g00_w9 := Aside0.mk (Kd.R_below g00_w8.out b)
  have g01_w9 := Aside0.mk (Kd.S_below g01_w8.out b)
  have K_aT_w9 := Aside0.mk (blk_below K_aT_w8.out b)
  have K_w_w9 := Aside0.mk (blk_below K_w_w8.out b)
  have K_x_w9 := Aside0.mk (blk_below K_x_w8.out b)
  have K_g_w9 := Aside0.mk (blk_below K_g_w8.out b)
  have B_w9 := Aside0.mk (below_then B_w8.out B_w8.out.size b)
  have Z_w9 := Aside0.mk (b.size)
  clear w00_w8 w01_w8 x0_w8 x1_w8 g00_w8 g01_w8 K_aT_w8 K_w_w8 K_x_w8 K_g_w8 B_w8
  have y0_w9 := Aside0.mk (Kd.R_lower (base' := w.heap.size) (Kd.R_mono (ok' := fun k_ => some k_ = (vy : Value).ownBlock ∧ w8.heap.size ≤ k_ ∧ k_ < w9.heap.size) (Kd.R_bound (Kd.R_tight rfl r)) (fun k_ hk_ => ⟨hk_.1, hk_.2.1, hk_.2.2.1⟩)) bs_)
  have y1_w9 := Aside0.mk (Kd.S_lower (base' := w.heap.size) (Kd.S_mono (ok' := fun k_ => some k_ ≠ (vy : Value).ownBlock ∧ w8.heap.size ≤ k_ ∧ k_ < w9.heap.size) (Kd.S_bound q) (fun k_ hk_ => ⟨hk_.1, hk_.2.1, hk_.2.2.1⟩)) bs_)
  obtain ⟨Ay, cy, rfl⟩ := Kd.R_slice r
  obtain ⟨Dy, ey, rfl⟩ := Kd.S_slice q
  clear r q b bs_
  refine ⟨_, rfl, ?_⟩
  refine hK.out _ _ ⟨(blk_cell K_x_w9.out 0).trans rfl, (blk_cell K_x_w9.out 1).trans rfl, (blk_cell K_aT_w9.out 0).trans rfl, (blk_cell K_aT_w9.out 1).trans rfl⟩ (fun hHeld => ?_)
  clear hK K
  refine norm_ (a' := ?_) ?_ ?_
  rotate_left
  ·show Act.put _ (some 43) _ = _
   simp only [Act.put, List.setIfInBounds_toArray, List.set_cons_zero, List.set_cons_succ, i64_w, i32_w]
   rfl
  refine one_ (i := 3) (N := some 44) #[true, true, true, true, false] rfl rfl (by kernel_rfl) (by decide) (fun K hK => ?_)
  refine goes_ Try.func15 (by kernel_rfl) rfl #[.agg #[.slice Ax I.length cx, .slice Dx R.length ex], .agg #[.slice Ay I.length cy, .slice Dy R.length ey]] (by rfl) rfl rfl (by (try simp only [List.map_toArray, List.map_cons, List.map_nil]); first | done | rfl) ?_
  refine (laws_eqTableau.calls k _ _ I _ _ R _ _ I _ _ R true _ (Kd.R_reads' x0_w9.out).2.2 (Kd.R_reads' x0_w9.out).2.1 (Kd.S_reads' x1_w9.out).2.2 (Kd.S_reads' x1_w9.out).2.1 (Kd.R_reads' y0_w9.out).2.2 (Kd.R_reads' y0_w9.out).2.1 (Kd.S_reads' y1_w9.out).2.2 (Kd.S_reads' y1_w9.out).2.1 F5.out).mono ?_
  rintro e w10 ⟨rfl, b⟩
  have w00_w10 := Aside0.mk (Kd.R_below w00_w9.out b)
  have w01_w10 := Aside0.mk (Kd.S_below w01_w9.out b)
  have x0_w10 := Aside0.mk (Kd.R_below x0_w9.out b)
  have x1_w10 := Aside0.mk (Kd.S_below x1_w9.out b)
  have g00_w10 := Aside0.mk (Kd.R_below g00_w9.out b)
  have g01_w10 := Aside0.mk (Kd.S_below g01_w9.out b)
  have y0_w10 := Aside0.mk (Kd.R_below y0_w9.out b)
  have y1_w10 := Aside0.mk (Kd.S_below y1_w9.out b)
  have K_aT_w10 := Aside0.mk (blk_below K_aT_w9.out b)
  have K_w_w10 := Aside0.mk (blk_below K_w_w9.out b)
  have K_x_w10 := Aside0.mk (blk_below K_x_w9.out b)
  have K_g_w10 := Aside0.mk (blk_below K_g_w9.out b)
  have B_w10 := Aside0.mk (below_then B_w9.out B_w9.out.size b)
  have Z_w10 := Aside0.mk (b.size)
  clear w00_w9 w01_w9 x0_w9 x1_w9 g00_w9 g01_w9 y0_w9 y1_w9 K_aT_w9 K_w_w9 K_x_w9 K_g_w9 B_w9
  clear b
  refine ⟨_, rfl, ?_⟩
  clear y0_w10
  clear y1_w10
  refine hK.out _ _ ⟨(blk_cell K_x_w10.out 0).trans rfl, (blk_cell K_x_w10.out 1).trans rfl, (blk_cell K_aT_w10.out 0).trans rfl, (blk_cell K_aT_w10.out 1).trans rfl⟩ (fun hHeld => ?_)
  clear hK K
  refine norm_ (a' := ?_) ?_ ?_
  rotate_left
  ·show Act.put _ (some 44) _ = _
   simp only [Act.put, List.setIfInBounds_toArray, List.set_cons_zero, List.set_cons_succ, i64_w, i32_w]
   rfl
  refine pure_ (i := 4) (N := some 45) (v := ?_) (a' := ?_) #[true, true, true, true, true] rfl rfl (by kernel_rfl) (fun _ _ _ h => h) (Or.inl ⟨by rfl, ?_⟩) ?_ ?_
  rotate_left
  ·intro w'
   go_simp
   with_reducible rfl
  rotate_left
  ·simp only [Act.put, List.setIfInBounds_toArray, List.set_cons_zero, List.set_cons_succ, i64_w, i32_w]
   rfl
  refine done_ (by kernel_rfl) ?_
  have hc_aT0 : w10.cell? ⟨gb, 0, none⟩ = some (.slice A0 I.length c0) := (blk_cell K_aT_w10.out 0).trans rfl
  have hf_aT0 := blk_frozen K_aT_w10.out 0
  have hc_aT1 : w10.cell? ⟨gb, 1, none⟩ = some (.slice A1 R.length c1) := (blk_cell K_aT_w10.out 1).trans rfl
  have hf_aT1 := blk_frozen K_aT_w10.out 1
  have hl_aT : gb < w10.heap.size := blk_lt K_aT_w10.out
  have hc_w0 : w10.cell? ⟨w4.heap.size, 0, none⟩ = some (.slice Aw0 P.length cw0) := (blk_cell K_w_w10.out 0).trans rfl
  have hf_w0 := blk_frozen K_w_w10.out 0
  have hc_w1 : w10.cell? ⟨w4.heap.size, 1, none⟩ = some (.slice Dw0 Q.length ew0) := (blk_cell K_w_w10.out 1).trans rfl
  have hf_w1 := blk_frozen K_w_w10.out 1
  have hl_w : w4.heap.size < w10.heap.size := blk_lt K_w_w10.out
  have hc_x0 : w10.cell? ⟨w5.heap.size, 0, none⟩ = some (.slice Ax I.length cx) := (blk_cell K_x_w10.out 0).trans rfl
  have hf_x0 := blk_frozen K_x_w10.out 0
  have hc_x1 : w10.cell? ⟨w5.heap.size, 1, none⟩ = some (.slice Dx R.length ex) := (blk_cell K_x_w10.out 1).trans rfl
  have hf_x1 := blk_frozen K_x_w10.out 1
  have hl_x : w5.heap.size < w10.heap.size := blk_lt K_x_w10.out
  have hc_g0 : w10.cell? ⟨w6.heap.size, 0, none⟩ = some (.slice Ag0 P.length cg0) := (blk_cell K_g_w10.out 0).trans rfl
  have hf_g0 := blk_frozen K_g_w10.out 0
  have hc_g1 : w10.cell? ⟨w6.heap.size, 1, none⟩ = some (.slice Dg0 Q.length eg0) := (blk_cell K_g_w10.out 1).trans rfl
  have hf_g1 := blk_frozen K_g_w10.out 1
  have hl_g : w6.heap.size < w10.heap.size := blk_lt K_g_w10.out
  go_wp2_with fail
  -- markTableau(x0, 1)
  refine (laws_markTableau.calls k (fun k_ => some k_ = (.slice Ax I.length cx : Value).ownBlock ∧ w4.heap.size < k_ ∧ k_ < w5.heap.size) (fun k_ => some k_ ≠ (.slice Ax I.length cx : Value).ownBlock ∧ w4.heap.size < k_ ∧ k_ < w5.heap.size) _ _ I R 1 m1 m2 xs qs w _ B_w10.out x0_w10.out x1_w10.out (fun k_ h1_ h0_ => h1_.1 h0_.1) (fun k_ h_ => by have hZ_w1 := Z_w1.out; have hZ_w2 := Z_w2.out; have hZ_w3 := Z_w3.out; have hZ_w4 := Z_w4.out; have hZ_w5 := Z_w5.out; have hZ_w6 := Z_w6.out; have hZ_w7 := Z_w7.out; have hZ_w8 := Z_w8.out; have hZ_w9 := Z_w9.out; have hZ_w10 := Z_w10.out; have h4_ := h_.2; omega) (fun k_ h_ => by have hZ_w1 := Z_w1.out; have hZ_w2 := Z_w2.out; have hZ_w3 := Z_w3.out; have hZ_w4 := Z_w4.out; have hZ_w5 := Z_w5.out; have hZ_w6 := Z_w6.out; have hZ_w7 := Z_w7.out; have hZ_w8 := Z_w8.out; have hZ_w9 := Z_w9.out; have hZ_w10 := Z_w10.out; have h4_ := h_.2; omega) F6.out F7.out).mono ?_
  rintro e w11 ⟨rfl, r8, q8, b8, k8⟩
  have X8 := Aside0.mk r8
  have Y8 := Aside0.mk q8
  clear r8 q8
  have hZ_w1 := Z_w1.out
  have hZ_w2 := Z_w2.out
  have hZ_w3 := Z_w3.out
  have hZ_w4 := Z_w4.out
  have hZ_w5 := Z_w5.out
  have hZ_w6 := Z_w6.out
  have hZ_w7 := Z_w7.out
  have hZ_w8 := Z_w8.out
  have hZ_w9 := Z_w9.out
  have hZ_w10 := Z_w10.out
  have w00_w11 := Aside0.mk (Kd.R_step w00_w10.out (fun k_ hk_ hl_ => k8.2 k_ hl_ (fun hn_ => by have h3_ := hk_.2; rcases hn_ with hn_ | hn_ <;> (have h4_ := hn_.2; omega))))
  have w01_w11 := Aside0.mk (Kd.S_step w01_w10.out (fun k_ hk_ hl_ => k8.2 k_ hl_ (fun hn_ => by have h3_ := hk_.2; rcases hn_ with hn_ | hn_ <;> (have h4_ := hn_.2; omega))))
  have g00_w11 := Aside0.mk (Kd.R_step g00_w10.out (fun k_ hk_ hl_ => k8.2 k_ hl_ (fun hn_ => by have h3_ := hk_.2; rcases hn_ with hn_ | hn_ <;> (have h4_ := hn_.2; omega))))
  have g01_w11 := Aside0.mk (Kd.S_step g01_w10.out (fun k_ hk_ hl_ => k8.2 k_ hl_ (fun hn_ => by have h3_ := hk_.2; rcases hn_ with hn_ | hn_ <;> (have h4_ := hn_.2; omega))))
  have hl_ := blk_lt K_aT_w10.out
  have K_aT_w11 := Aside0.mk ((k8.2 gb hl_ (fun hn_ => by have hg_ := G_aT.out; rcases hn_ with hn_ | hn_ <;> (have h4_ := hn_.2; omega))).trans K_aT_w10.out)
  clear hl_
  have hl_ := blk_lt K_w_w10.out
  have K_w_w11 := Aside0.mk ((k8.2 w4.heap.size hl_ (fun hn_ => by rcases hn_ with hn_ | hn_ <;> (have h4_ := hn_.2; omega))).trans K_w_w10.out)
  clear hl_
  have hl_ := blk_lt K_x_w10.out
  have K_x_w11 := Aside0.mk ((k8.2 w5.heap.size hl_ (fun hn_ => by rcases hn_ with hn_ | hn_ <;> (have h4_ := hn_.2; omega))).trans K_x_w10.out)
  clear hl_
  have hl_ := blk_lt K_g_w10.out
  have K_g_w11 := Aside0.mk ((k8.2 w6.heap.size hl_ (fun hn_ => by rcases hn_ with hn_ | hn_ <;> (have h4_ := hn_.2; omega))).trans K_g_w10.out)
  clear hl_
  have B_w11 := Aside0.mk b8
  have Z_w11 := Aside0.mk (k8.1)
  clear w00_w10 w01_w10 x0_w10 x1_w10 g00_w10 g01_w10 K_aT_w10 K_w_w10 K_x_w10 K_g_w10 B_w10 hZ_w1 hZ_w2 hZ_w3 hZ_w4 hZ_w5 hZ_w6 hZ_w7 hZ_w8 hZ_w9 hZ_w10 hc_aT0 hf_aT0 hc_aT1 hf_aT1 hl_aT hc_w0 hf_w0 hc_w1 hf_w1 hl_w hc_x0 hf_x0 hc_x1 hf_x1 hl_x hc_g0 hf_g0 hc_g1 hf_g1 hl_g
  clear b8 k8
  clear X8 Y8
  clear K_x_w11
  have hc_aT0 : w11.cell? ⟨gb, 0, none⟩ = some (.slice A0 I.length c0) := (blk_cell K_aT_w11.out 0).trans rfl
  have hf_aT0 := blk_frozen K_aT_w11.out 0
  have hc_aT1 : w11.cell? ⟨gb, 1, none⟩ = some (.slice A1 R.length c1) := (blk_cell K_aT_w11.out 1).trans rfl
  have hf_aT1 := blk_frozen K_aT_w11.out 1
  have hl_aT : gb < w11.heap.size := blk_lt K_aT_w11.out
  have hc_w0 : w11.cell? ⟨w4.heap.size, 0, none⟩ = some (.slice Aw0 P.length cw0) := (blk_cell K_w_w11.out 0).trans rfl
  have hf_w0 := blk_frozen K_w_w11.out 0
  have hc_w1 : w11.cell? ⟨w4.heap.size, 1, none⟩ = some (.slice Dw0 Q.length ew0) := (blk_cell K_w_w11.out 1).trans rfl
  have hf_w1 := blk_frozen K_w_w11.out 1
  have hl_w : w4.heap.size < w11.heap.size := blk_lt K_w_w11.out
  have hc_g0 : w11.cell? ⟨w6.heap.size, 0, none⟩ = some (.slice Ag0 P.length cg0) := (blk_cell K_g_w11.out 0).trans rfl
  have hf_g0 := blk_frozen K_g_w11.out 0
  have hc_g1 : w11.cell? ⟨w6.heap.size, 1, none⟩ = some (.slice Dg0 Q.length eg0) := (blk_cell K_g_w11.out 1).trans rfl
  have hf_g1 := blk_frozen K_g_w11.out 1
  have hl_g : w6.heap.size < w11.heap.size := blk_lt K_g_w11.out
  go_wp2_with fail
  -- eq(g0, w0)
  refine (laws_eqTableau.calls k _ _ P _ _ Q _ _ P _ _ Q true _ (Kd.R_reads' g00_w11.out).2.2 (Kd.R_reads' g00_w11.out).2.1 (Kd.S_reads' g01_w11.out).2.2 (Kd.S_reads' g01_w11.out).2.1 (Kd.R_reads' w00_w11.out).2.2 (Kd.R_reads' w00_w11.out).2.1 (Kd.S_reads' w01_w11.out).2.2 (Kd.S_reads' w01_w11.out).2.1 F4.out).mono ?_
  rintro e w12 ⟨rfl, b⟩
  have w00_w12 := Aside0.mk (Kd.R_below w00_w11.out b)
  have w01_w12 := Aside0.mk (Kd.S_below w01_w11.out b)
  have g00_w12 := Aside0.mk (Kd.R_below g00_w11.out b)
  have g01_w12 := Aside0.mk (Kd.S_below g01_w11.out b)
  have K_aT_w12 := Aside0.mk (blk_below K_aT_w11.out b)
  have K_w_w12 := Aside0.mk (blk_below K_w_w11.out b)
  have K_g_w12 := Aside0.mk (blk_below K_g_w11.out b)
  have B_w12 := Aside0.mk (below_then B_w11.out B_w11.out.size b)
  have Z_w12 := Aside0.mk (b.size)
  clear w00_w11 w01_w11 g00_w11 g01_w11 K_aT_w11 K_w_w11 K_g_w11 B_w11 hc_aT0 hf_aT0 hc_aT1 hf_aT1 hl_aT hc_w0 hf_w0 hc_w1 hf_w1 hl_w hc_g0 hf_g0 hc_g1 hf_g1 hl_g
  clear b
  have hc_aT0 : w12.cell? ⟨gb, 0, none⟩ = some (.slice A0 I.length c0) := (blk_cell K_aT_w12.out 0).trans rfl
  have hf_aT0 := blk_frozen K_aT_w12.out 0
  have hc_aT1 : w12.cell? ⟨gb, 1, none⟩ = some (.slice A1 R.length c1) := (blk_cell K_aT_w12.out 1).trans rfl
  have hf_aT1 := blk_frozen K_aT_w12.out 1
  have hl_aT : gb < w12.heap.size := blk_lt K_aT_w12.out
  have hc_w0 : w12.cell? ⟨w4.heap.size, 0, none⟩ = some (.slice Aw0 P.length cw0) := (blk_cell K_w_w12.out 0).trans rfl
  have hf_w0 := blk_frozen K_w_w12.out 0
  have hc_w1 : w12.cell? ⟨w4.heap.size, 1, none⟩ = some (.slice Dw0 Q.length ew0) := (blk_cell K_w_w12.out 1).trans rfl
  have hf_w1 := blk_frozen K_w_w12.out 1
  have hl_w : w4.heap.size < w12.heap.size := blk_lt K_w_w12.out
  have hc_g0 : w12.cell? ⟨w6.heap.size, 0, none⟩ = some (.slice Ag0 P.length cg0) := (blk_cell K_g_w12.out 0).trans rfl
  have hf_g0 := blk_frozen K_g_w12.out 0
  have hc_g1 : w12.cell? ⟨w6.heap.size, 1, none⟩ = some (.slice Dg0 Q.length eg0) := (blk_cell K_g_w12.out 1).trans rfl
  have hf_g1 := blk_frozen K_g_w12.out 1
  have hl_g : w6.heap.size < w12.heap.size := blk_lt K_g_w12.out
  go_wp2_with fail
  -- mark(g0, 1)
  refine (laws_markTableau.calls k (fun k_ => some k_ = (.slice Ag0 P.length cg0 : Value).ownBlock ∧ w5.heap.size < k_ ∧ k_ < w6.heap.size) (fun k_ => some k_ ≠ (.slice Ag0 P.length cg0 : Value).ownBlock ∧ w5.heap.size < k_ ∧ k_ < w6.heap.size) _ _ P Q 1 m3 m ys zs w _ B_w12.out g00_w12.out g01_w12.out (fun k_ h1_ h0_ => h1_.1 h0_.1) (fun k_ h_ => by have hZ_w1 := Z_w1.out; have hZ_w2 := Z_w2.out; have hZ_w3 := Z_w3.out; have hZ_w4 := Z_w4.out; have hZ_w5 := Z_w5.out; have hZ_w6 := Z_w6.out; have hZ_w7 := Z_w7.out; have hZ_w8 := Z_w8.out; have hZ_w9 := Z_w9.out; have hZ_w10 := Z_w10.out; have hZ_w11 := Z_w11.out; have hZ_w12 := Z_w12.out; have h4_ := h_.2; omega) (fun k_ h_ => by have hZ_w1 := Z_w1.out; have hZ_w2 := Z_w2.out; have hZ_w3 := Z_w3.out; have hZ_w4 := Z_w4.out; have hZ_w5 := Z_w5.out; have hZ_w6 := Z_w6.out; have hZ_w7 := Z_w7.out; have hZ_w8 := Z_w8.out; have hZ_w9 := Z_w9.out; have hZ_w10 := Z_w10.out; have hZ_w11 := Z_w11.out; have hZ_w12 := Z_w12.out; have h4_ := h_.2; omega) F8.out F8B.out).mono ?_
  rintro e w13 ⟨rfl, r8, q8, b8, k8⟩
  have X8 := Aside0.mk r8
  have Y8 := Aside0.mk q8
  clear r8 q8
  have hZ_w1 := Z_w1.out
  have hZ_w2 := Z_w2.out
  have hZ_w3 := Z_w3.out
  have hZ_w4 := Z_w4.out
  have hZ_w5 := Z_w5.out
  have hZ_w6 := Z_w6.out
  have hZ_w7 := Z_w7.out
  have hZ_w8 := Z_w8.out
  have hZ_w9 := Z_w9.out
  have hZ_w10 := Z_w10.out
  have hZ_w11 := Z_w11.out
  have hZ_w12 := Z_w12.out
  have w00_w13 := Aside0.mk (Kd.R_step w00_w12.out (fun k_ hk_ hl_ => k8.2 k_ hl_ (fun hn_ => by have h3_ := hk_.2; rcases hn_ with hn_ | hn_ <;> (have h4_ := hn_.2; omega))))
  have w01_w13 := Aside0.mk (Kd.S_step w01_w12.out (fun k_ hk_ hl_ => k8.2 k_ hl_ (fun hn_ => by have h3_ := hk_.2; rcases hn_ with hn_ | hn_ <;> (have h4_ := hn_.2; omega))))
  have hl_ := blk_lt K_aT_w12.out
  have K_aT_w13 := Aside0.mk ((k8.2 gb hl_ (fun hn_ => by have hg_ := G_aT.out; rcases hn_ with hn_ | hn_ <;> (have h4_ := hn_.2; omega))).trans K_aT_w12.out)
  clear hl_
  have hl_ := blk_lt K_w_w12.out
  have K_w_w13 := Aside0.mk ((k8.2 w4.heap.size hl_ (fun hn_ => by rcases hn_ with hn_ | hn_ <;> (have h4_ := hn_.2; omega))).trans K_w_w12.out)
  clear hl_
  have hl_ := blk_lt K_g_w12.out
  have K_g_w13 := Aside0.mk ((k8.2 w6.heap.size hl_ (fun hn_ => by rcases hn_ with hn_ | hn_ <;> (have h4_ := hn_.2; omega))).trans K_g_w12.out)
  clear hl_
  have B_w13 := Aside0.mk b8
  have Z_w13 := Aside0.mk (k8.1)
  clear w00_w12 w01_w12 g00_w12 g01_w12 K_aT_w12 K_w_w12 K_g_w12 B_w12 hZ_w1 hZ_w2 hZ_w3 hZ_w4 hZ_w5 hZ_w6 hZ_w7 hZ_w8 hZ_w9 hZ_w10 hZ_w11 hZ_w12 hc_aT0 hf_aT0 hc_aT1 hf_aT1 hl_aT hc_w0 hf_w0 hc_w1 hf_w1 hl_w hc_g0 hf_g0 hc_g1 hf_g1 hl_g
  clear b8 k8
  have hc_aT0 : w13.cell? ⟨gb, 0, none⟩ = some (.slice A0 I.length c0) := (blk_cell K_aT_w13.out 0).trans rfl
  have hf_aT0 := blk_frozen K_aT_w13.out 0
  have hc_aT1 : w13.cell? ⟨gb, 1, none⟩ = some (.slice A1 R.length c1) := (blk_cell K_aT_w13.out 1).trans rfl
  have hf_aT1 := blk_frozen K_aT_w13.out 1
  have hl_aT : gb < w13.heap.size := blk_lt K_aT_w13.out
  have hc_w0 : w13.cell? ⟨w4.heap.size, 0, none⟩ = some (.slice Aw0 P.length cw0) := (blk_cell K_w_w13.out 0).trans rfl
  have hf_w0 := blk_frozen K_w_w13.out 0
  have hc_w1 : w13.cell? ⟨w4.heap.size, 1, none⟩ = some (.slice Dw0 Q.length ew0) := (blk_cell K_w_w13.out 1).trans rfl
  have hf_w1 := blk_frozen K_w_w13.out 1
  have hl_w : w4.heap.size < w13.heap.size := blk_lt K_w_w13.out
  have hc_g0 : w13.cell? ⟨w6.heap.size, 0, none⟩ = some (.slice Ag0 P.length cg0) := (blk_cell K_g_w13.out 0).trans rfl
  have hf_g0 := blk_frozen K_g_w13.out 0
  have hc_g1 : w13.cell? ⟨w6.heap.size, 1, none⟩ = some (.slice Dg0 Q.length eg0) := (blk_cell K_g_w13.out 1).trans rfl
  have hf_g1 := blk_frozen K_g_w13.out 1
  have hl_g : w6.heap.size < w13.heap.size := blk_lt K_g_w13.out
  go_wp2_with fail
  -- held(g0, 1)
  have E0 := Aside0.mk (Kd.R_reads' X8.out).1
  have E1 := Aside0.mk (Kd.S_reads' Y8.out).1
  refine (calls_of_args (by rw [E0.out, E1.out]) (laws_heldTableau.calls k _ _ ys _ _ zs 1 m _ (Kd.R_reads' X8.out).2.2 (by rw [← E0.out]; exact (Kd.R_reads' X8.out).2.1) (Kd.S_reads' Y8.out).2.2 (by rw [← E1.out]; exact (Kd.S_reads' Y8.out).2.1) F9.out)).mono ?_
  rintro e w14 ⟨rfl, b⟩
  have w00_w14 := Aside0.mk (Kd.R_below w00_w13.out b)
  have w01_w14 := Aside0.mk (Kd.S_below w01_w13.out b)
  have g00_w14 := Aside0.mk (Kd.R_below X8.out b)
  have g01_w14 := Aside0.mk (Kd.S_below Y8.out b)
  have K_aT_w14 := Aside0.mk (blk_below K_aT_w13.out b)
  have K_w_w14 := Aside0.mk (blk_below K_w_w13.out b)
  have K_g_w14 := Aside0.mk (blk_below K_g_w13.out b)
  have B_w14 := Aside0.mk (below_then B_w13.out B_w13.out.size b)
  have Z_w14 := Aside0.mk (b.size)
  clear w00_w13 w01_w13 X8 Y8 K_aT_w13 K_w_w13 K_g_w13 B_w13 hc_aT0 hf_aT0 hc_aT1 hf_aT1 hl_aT hc_w0 hf_w0 hc_w1 hf_w1 hl_w hc_g0 hf_g0 hc_g1 hf_g1 hl_g
  clear b
  clear E0 E1
  have hc_aT0 : w14.cell? ⟨gb, 0, none⟩ = some (.slice A0 I.length c0) := (blk_cell K_aT_w14.out 0).trans rfl
  have hf_aT0 := blk_frozen K_aT_w14.out 0
  have hc_aT1 : w14.cell? ⟨gb, 1, none⟩ = some (.slice A1 R.length c1) := (blk_cell K_aT_w14.out 1).trans rfl
  have hf_aT1 := blk_frozen K_aT_w14.out 1
  have hl_aT : gb < w14.heap.size := blk_lt K_aT_w14.out
  have hc_w0 : w14.cell? ⟨w4.heap.size, 0, none⟩ = some (.slice Aw0 P.length cw0) := (blk_cell K_w_w14.out 0).trans rfl
  have hf_w0 := blk_frozen K_w_w14.out 0
  have hc_w1 : w14.cell? ⟨w4.heap.size, 1, none⟩ = some (.slice Dw0 Q.length ew0) := (blk_cell K_w_w14.out 1).trans rfl
  have hf_w1 := blk_frozen K_w_w14.out 1
  have hl_w : w4.heap.size < w14.heap.size := blk_lt K_w_w14.out
  have hc_g0 : w14.cell? ⟨w6.heap.size, 0, none⟩ = some (.slice Ag0 P.length cg0) := (blk_cell K_g_w14.out 0).trans rfl
  have hf_g0 := blk_frozen K_g_w14.out 0
  have hc_g1 : w14.cell? ⟨w6.heap.size, 1, none⟩ = some (.slice Dg0 Q.length eg0) := (blk_cell K_g_w14.out 1).trans rfl
  have hf_g1 := blk_frozen K_g_w14.out 1
  have hl_g : w6.heap.size < w14.heap.size := blk_lt K_g_w14.out
  go_wp2_with fail
  -- toTableau(aT)
  refine (laws_toTableau.calls k _ _ I _ _ R I R _ (Kd.C_below HR0.out B_w14.out) HC0.out (Kd.C_below HR1.out B_w14.out) HC1.out F1.out).mono ?_
  rintro e w15 ⟨vt, ut, rfl, r, q, b⟩
  have bs_ := B_w14.out.size
  have w00_w15 := Aside0.mk (Kd.R_below w00_w14.out b)
  have w01_w15 := Aside0.mk (Kd.S_below w01_w14.out b)
  have g00_w15 := Aside0.mk (Kd.R_below g00_w14.out b)
  have g01_w15 := Aside0.mk (Kd.S_below g01_w14.out b)
  have K_aT_w15 := Aside0.mk (blk_below K_aT_w14.out b)
  have K_w_w15 := Aside0.mk (blk_below K_w_w14.out b)
  have K_g_w15 := Aside0.mk (blk_below K_g_w14.out b)
  have B_w15 := Aside0.mk (below_then B_w14.out B_w14.out.size b)
  have Z_w15 := Aside0.mk (b.size)
  clear w00_w14 w01_w14 g00_w14 g01_w14 K_aT_w14 K_w_w14 K_g_w14 B_w14 hc_aT0 hf_aT0 hc_aT1 hf_aT1 hl_aT hc_w0 hf_w0 hc_w1 hf_w1 hl_w hc_g0 hf_g0 hc_g1 hf_g1 hl_g
  have t0_w15 := Aside0.mk (Kd.R_lower (base' := w.heap.size) (Kd.R_mono (ok' := fun k_ => some k_ = (vt : Value).ownBlock ∧ w14.heap.size ≤ k_ ∧ k_ < w15.heap.size) (Kd.R_bound (Kd.R_tight rfl r)) (fun k_ hk_ => ⟨hk_.1, hk_.2.1, hk_.2.2.1⟩)) bs_)
  have t1_w15 := Aside0.mk (Kd.S_lower (base' := w.heap.size) (Kd.S_mono (ok' := fun k_ => some k_ ≠ (vt : Value).ownBlock ∧ w14.heap.size ≤ k_ ∧ k_ < w15.heap.size) (Kd.S_bound q) (fun k_ hk_ => ⟨hk_.1, hk_.2.1, hk_.2.2.1⟩)) bs_)
  obtain ⟨At, ct, rfl⟩ := Kd.R_slice r
  obtain ⟨Dt, et, rfl⟩ := Kd.S_slice q
  clear r q b bs_
  have hc_aT0 : w15.cell? ⟨gb, 0, none⟩ = some (.slice A0 I.length c0) := (blk_cell K_aT_w15.out 0).trans rfl
  have hf_aT0 := blk_frozen K_aT_w15.out 0
  have hc_aT1 : w15.cell? ⟨gb, 1, none⟩ = some (.slice A1 R.length c1) := (blk_cell K_aT_w15.out 1).trans rfl
  have hf_aT1 := blk_frozen K_aT_w15.out 1
  have hl_aT : gb < w15.heap.size := blk_lt K_aT_w15.out
  have hc_w0 : w15.cell? ⟨w4.heap.size, 0, none⟩ = some (.slice Aw0 P.length cw0) := (blk_cell K_w_w15.out 0).trans rfl
  have hf_w0 := blk_frozen K_w_w15.out 0
  have hc_w1 : w15.cell? ⟨w4.heap.size, 1, none⟩ = some (.slice Dw0 Q.length ew0) := (blk_cell K_w_w15.out 1).trans rfl
  have hf_w1 := blk_frozen K_w_w15.out 1
  have hl_w : w4.heap.size < w15.heap.size := blk_lt K_w_w15.out
  have hc_g0 : w15.cell? ⟨w6.heap.size, 0, none⟩ = some (.slice Ag0 P.length cg0) := (blk_cell K_g_w15.out 0).trans rfl
  have hf_g0 := blk_frozen K_g_w15.out 0
  have hc_g1 : w15.cell? ⟨w6.heap.size, 1, none⟩ = some (.slice Dg0 Q.length eg0) := (blk_cell K_g_w15.out 1).trans rfl
  have hf_g1 := blk_frozen K_g_w15.out 1
  have hl_g : w6.heap.size < w15.heap.size := blk_lt K_g_w15.out
  go_wp2_with fail
  -- h0
  refine (impl_TurnTableau.calls k _ _ I _ _ R P Q bf _ (Kd.R_reads' t0_w15.out).2.2 (Kd.R_reads' t0_w15.out).2.1 (Kd.S_reads' t1_w15.out).2.2 (Kd.S_reads' t1_w15.out).2.1 F3.out).mono ?_
  rintro e w16 ⟨vh0, uh0, rfl, r, q, b⟩
  have bs_ := B_w15.out.size
  have w00_w16 := Aside0.mk (Kd.R_below w00_w15.out b)
  have w01_w16 := Aside0.mk (Kd.S_below w01_w15.out b)
  have g00_w16 := Aside0.mk (Kd.R_below g00_w15.out b)
  have g01_w16 := Aside0.mk (Kd.S_below g01_w15.out b)
  have t0_w16 := Aside0.mk (Kd.R_below t0_w15.out b)
  have t1_w16 := Aside0.mk (Kd.S_below t1_w15.out b)
  have K_aT_w16 := Aside0.mk (blk_below K_aT_w15.out b)
  have K_w_w16 := Aside0.mk (blk_below K_w_w15.out b)
  have K_g_w16 := Aside0.mk (blk_below K_g_w15.out b)
  have B_w16 := Aside0.mk (below_then B_w15.out B_w15.out.size b)
  have Z_w16 := Aside0.mk (b.size)
  clear w00_w15 w01_w15 g00_w15 g01_w15 t0_w15 t1_w15 K_aT_w15 K_w_w15 K_g_w15 B_w15 hc_aT0 hf_aT0 hc_aT1 hf_aT1 hl_aT hc_w0 hf_w0 hc_w1 hf_w1 hl_w hc_g0 hf_g0 hc_g1 hf_g1 hl_g
  have h00_w16 := Aside0.mk (Kd.R_lower (base' := w.heap.size) (Kd.R_mono (ok' := fun k_ => some k_ = (vh0 : Value).ownBlock ∧ w15.heap.size ≤ k_ ∧ k_ < w16.heap.size) (Kd.R_bound (Kd.R_tight rfl r)) (fun k_ hk_ => ⟨hk_.1, hk_.2.1, hk_.2.2.1⟩)) bs_)
  have h01_w16 := Aside0.mk (Kd.S_lower (base' := w.heap.size) (Kd.S_mono (ok' := fun k_ => some k_ ≠ (vh0 : Value).ownBlock ∧ w15.heap.size ≤ k_ ∧ k_ < w16.heap.size) (Kd.S_bound q) (fun k_ hk_ => ⟨hk_.1, hk_.2.1, hk_.2.2.1⟩)) bs_)
  obtain ⟨Ah0, ch0, rfl⟩ := Kd.R_slice r
  obtain ⟨Dh0, eh0, rfl⟩ := Kd.S_slice q
  clear r q b bs_
  clear t0_w16
  clear t1_w16
  have hc_aT0 : w16.cell? ⟨gb, 0, none⟩ = some (.slice A0 I.length c0) := (blk_cell K_aT_w16.out 0).trans rfl
  have hf_aT0 := blk_frozen K_aT_w16.out 0
  have hc_aT1 : w16.cell? ⟨gb, 1, none⟩ = some (.slice A1 R.length c1) := (blk_cell K_aT_w16.out 1).trans rfl
  have hf_aT1 := blk_frozen K_aT_w16.out 1
  have hl_aT : gb < w16.heap.size := blk_lt K_aT_w16.out
  have hc_w0 : w16.cell? ⟨w4.heap.size, 0, none⟩ = some (.slice Aw0 P.length cw0) := (blk_cell K_w_w16.out 0).trans rfl
  have hf_w0 := blk_frozen K_w_w16.out 0
  have hc_w1 : w16.cell? ⟨w4.heap.size, 1, none⟩ = some (.slice Dw0 Q.length ew0) := (blk_cell K_w_w16.out 1).trans rfl
  have hf_w1 := blk_frozen K_w_w16.out 1
  have hl_w : w4.heap.size < w16.heap.size := blk_lt K_w_w16.out
  have hc_g0 : w16.cell? ⟨w6.heap.size, 0, none⟩ = some (.slice Ag0 P.length cg0) := (blk_cell K_g_w16.out 0).trans rfl
  have hf_g0 := blk_frozen K_g_w16.out 0
  have hc_g1 : w16.cell? ⟨w6.heap.size, 1, none⟩ = some (.slice Dg0 Q.length eg0) := (blk_cell K_g_w16.out 1).trans rfl
  have hf_g1 := blk_frozen K_g_w16.out 1
  have hl_g : w6.heap.size < w16.heap.size := blk_lt K_g_w16.out
  go_wp2_with fail
  -- eq(h0, w0)
  refine (laws_eqTableau.calls k _ _ P _ _ Q _ _ P _ _ Q true _ (Kd.R_reads' (Kd.R_alloc h00_w16.out (.cells #[.slice Ah0 P.length ch0, .slice Dh0 Q.length eh0] 28 (0, 0)))).2.2 (Kd.R_reads' h00_w16.out).2.1 (Kd.S_reads' (Kd.S_alloc h01_w16.out (.cells #[.slice Ah0 P.length ch0, .slice Dh0 Q.length eh0] 28 (0, 0)))).2.2 (Kd.S_reads' h01_w16.out).2.1 (Kd.R_reads' (Kd.R_alloc w00_w16.out (.cells #[.slice Ah0 P.length ch0, .slice Dh0 Q.length eh0] 28 (0, 0)))).2.2 (Kd.R_reads' w00_w16.out).2.1 (Kd.S_reads' (Kd.S_alloc w01_w16.out (.cells #[.slice Ah0 P.length ch0, .slice Dh0 Q.length eh0] 28 (0, 0)))).2.2 (Kd.S_reads' w01_w16.out).2.1 F4.out).mono ?_
  rintro e w17 ⟨rfl, b⟩
  have w00_w17 := Aside0.mk (Kd.R_below (Kd.R_alloc w00_w16.out (.cells #[.slice Ah0 P.length ch0, .slice Dh0 Q.length eh0] 28 (0, 0))) b)
  have w01_w17 := Aside0.mk (Kd.S_below (Kd.S_alloc w01_w16.out (.cells #[.slice Ah0 P.length ch0, .slice Dh0 Q.length eh0] 28 (0, 0))) b)
  have g00_w17 := Aside0.mk (Kd.R_below (Kd.R_alloc g00_w16.out (.cells #[.slice Ah0 P.length ch0, .slice Dh0 Q.length eh0] 28 (0, 0))) b)
  have g01_w17 := Aside0.mk (Kd.S_below (Kd.S_alloc g01_w16.out (.cells #[.slice Ah0 P.length ch0, .slice Dh0 Q.length eh0] 28 (0, 0))) b)
  have h00_w17 := Aside0.mk (Kd.R_below (Kd.R_alloc h00_w16.out (.cells #[.slice Ah0 P.length ch0, .slice Dh0 Q.length eh0] 28 (0, 0))) b)
  have h01_w17 := Aside0.mk (Kd.S_below (Kd.S_alloc h01_w16.out (.cells #[.slice Ah0 P.length ch0, .slice Dh0 Q.length eh0] 28 (0, 0))) b)
  have K_aT_w17 := Aside0.mk (blk_below (blk_alloc K_aT_w16.out (.cells #[.slice Ah0 P.length ch0, .slice Dh0 Q.length eh0] 28 (0, 0))) b)
  have K_w_w17 := Aside0.mk (blk_below (blk_alloc K_w_w16.out (.cells #[.slice Ah0 P.length ch0, .slice Dh0 Q.length eh0] 28 (0, 0))) b)
  have K_g_w17 := Aside0.mk (blk_below (blk_alloc K_g_w16.out (.cells #[.slice Ah0 P.length ch0, .slice Dh0 Q.length eh0] 28 (0, 0))) b)
  have K_h_w17 := Aside0.mk (blk_below (blk_new w16 (.cells #[.slice Ah0 P.length ch0, .slice Dh0 Q.length eh0] 28 (0, 0))) b)
  have B_w17 := Aside0.mk (below_then (below_alloc B_w16.out (.cells #[.slice Ah0 P.length ch0, .slice Dh0 Q.length eh0] 28 (0, 0))) (below_alloc B_w16.out (.cells #[.slice Ah0 P.length ch0, .slice Dh0 Q.length eh0] 28 (0, 0))).size b)
  have Z_w17 := Aside0.mk (alloc_lt b.size)
  clear w00_w16 w01_w16 g00_w16 g01_w16 h00_w16 h01_w16 K_aT_w16 K_w_w16 K_g_w16 B_w16 hc_aT0 hf_aT0 hc_aT1 hf_aT1 hl_aT hc_w0 hf_w0 hc_w1 hf_w1 hl_w hc_g0 hf_g0 hc_g1 hf_g1 hl_g
  clear b
  have hc_aT0 : w17.cell? ⟨gb, 0, none⟩ = some (.slice A0 I.length c0) := (blk_cell K_aT_w17.out 0).trans rfl
  have hf_aT0 := blk_frozen K_aT_w17.out 0
  have hc_aT1 : w17.cell? ⟨gb, 1, none⟩ = some (.slice A1 R.length c1) := (blk_cell K_aT_w17.out 1).trans rfl
  have hf_aT1 := blk_frozen K_aT_w17.out 1
  have hl_aT : gb < w17.heap.size := blk_lt K_aT_w17.out
  have hc_w0 : w17.cell? ⟨w4.heap.size, 0, none⟩ = some (.slice Aw0 P.length cw0) := (blk_cell K_w_w17.out 0).trans rfl
  have hf_w0 := blk_frozen K_w_w17.out 0
  have hc_w1 : w17.cell? ⟨w4.heap.size, 1, none⟩ = some (.slice Dw0 Q.length ew0) := (blk_cell K_w_w17.out 1).trans rfl
  have hf_w1 := blk_frozen K_w_w17.out 1
  have hl_w : w4.heap.size < w17.heap.size := blk_lt K_w_w17.out
  have hc_g0 : w17.cell? ⟨w6.heap.size, 0, none⟩ = some (.slice Ag0 P.length cg0) := (blk_cell K_g_w17.out 0).trans rfl
  have hf_g0 := blk_frozen K_g_w17.out 0
  have hc_g1 : w17.cell? ⟨w6.heap.size, 1, none⟩ = some (.slice Dg0 Q.length eg0) := (blk_cell K_g_w17.out 1).trans rfl
  have hf_g1 := blk_frozen K_g_w17.out 1
  have hl_g : w6.heap.size < w17.heap.size := blk_lt K_g_w17.out
  have hc_h0 : w17.cell? ⟨w16.heap.size, 0, none⟩ = some (.slice Ah0 P.length ch0) := (blk_cell K_h_w17.out 0).trans rfl
  have hf_h0 := blk_frozen K_h_w17.out 0
  have hc_h1 : w17.cell? ⟨w16.heap.size, 1, none⟩ = some (.slice Dh0 Q.length eh0) := (blk_cell K_h_w17.out 1).trans rfl
  have hf_h1 := blk_frozen K_h_w17.out 1
  have hl_h : w16.heap.size < w17.heap.size := blk_lt K_h_w17.out
  go_wp2_with fail
  -- held(g0, 1)
  have E0 := Aside0.mk (Kd.R_reads' g00_w17.out).1
  have E1 := Aside0.mk (Kd.S_reads' g01_w17.out).1
  refine (calls_of_args (by rw [E0.out, E1.out]) (laws_heldTableau.calls k _ _ ys _ _ zs 1 m _ (Kd.R_reads' g00_w17.out).2.2 (by rw [← E0.out]; exact (Kd.R_reads' g00_w17.out).2.1) (Kd.S_reads' g01_w17.out).2.2 (by rw [← E1.out]; exact (Kd.S_reads' g01_w17.out).2.1) F9.out)).mono ?_
  rintro e w18 ⟨rfl, b⟩
  have w00_w18 := Aside0.mk (Kd.R_below w00_w17.out b)
  have w01_w18 := Aside0.mk (Kd.S_below w01_w17.out b)
  have g00_w18 := Aside0.mk (Kd.R_below g00_w17.out b)
  have g01_w18 := Aside0.mk (Kd.S_below g01_w17.out b)
  have h00_w18 := Aside0.mk (Kd.R_below h00_w17.out b)
  have h01_w18 := Aside0.mk (Kd.S_below h01_w17.out b)
  have K_aT_w18 := Aside0.mk (blk_below K_aT_w17.out b)
  have K_w_w18 := Aside0.mk (blk_below K_w_w17.out b)
  have K_g_w18 := Aside0.mk (blk_below K_g_w17.out b)
  have K_h_w18 := Aside0.mk (blk_below K_h_w17.out b)
  have B_w18 := Aside0.mk (below_then B_w17.out B_w17.out.size b)
  have Z_w18 := Aside0.mk (b.size)
  clear w00_w17 w01_w17 g00_w17 g01_w17 h00_w17 h01_w17 K_aT_w17 K_w_w17 K_g_w17 K_h_w17 B_w17 hc_aT0 hf_aT0 hc_aT1 hf_aT1 hl_aT hc_w0 hf_w0 hc_w1 hf_w1 hl_w hc_g0 hf_g0 hc_g1 hf_g1 hl_g hc_h0 hf_h0 hc_h1 hf_h1 hl_h
  clear b
  clear E0 E1
  have hc_aT0 : w18.cell? ⟨gb, 0, none⟩ = some (.slice A0 I.length c0) := (blk_cell K_aT_w18.out 0).trans rfl
  have hf_aT0 := blk_frozen K_aT_w18.out 0
  have hc_aT1 : w18.cell? ⟨gb, 1, none⟩ = some (.slice A1 R.length c1) := (blk_cell K_aT_w18.out 1).trans rfl
  have hf_aT1 := blk_frozen K_aT_w18.out 1
  have hl_aT : gb < w18.heap.size := blk_lt K_aT_w18.out
  have hc_w0 : w18.cell? ⟨w4.heap.size, 0, none⟩ = some (.slice Aw0 P.length cw0) := (blk_cell K_w_w18.out 0).trans rfl
  have hf_w0 := blk_frozen K_w_w18.out 0
  have hc_w1 : w18.cell? ⟨w4.heap.size, 1, none⟩ = some (.slice Dw0 Q.length ew0) := (blk_cell K_w_w18.out 1).trans rfl
  have hf_w1 := blk_frozen K_w_w18.out 1
  have hl_w : w4.heap.size < w18.heap.size := blk_lt K_w_w18.out
  have hc_g0 : w18.cell? ⟨w6.heap.size, 0, none⟩ = some (.slice Ag0 P.length cg0) := (blk_cell K_g_w18.out 0).trans rfl
  have hf_g0 := blk_frozen K_g_w18.out 0
  have hc_g1 : w18.cell? ⟨w6.heap.size, 1, none⟩ = some (.slice Dg0 Q.length eg0) := (blk_cell K_g_w18.out 1).trans rfl
  have hf_g1 := blk_frozen K_g_w18.out 1
  have hl_g : w6.heap.size < w18.heap.size := blk_lt K_g_w18.out
  have hc_h0 : w18.cell? ⟨w16.heap.size, 0, none⟩ = some (.slice Ah0 P.length ch0) := (blk_cell K_h_w18.out 0).trans rfl
  have hf_h0 := blk_frozen K_h_w18.out 0
  have hc_h1 : w18.cell? ⟨w16.heap.size, 1, none⟩ = some (.slice Dh0 Q.length eh0) := (blk_cell K_h_w18.out 1).trans rfl
  have hf_h1 := blk_frozen K_h_w18.out 1
  have hl_h : w16.heap.size < w18.heap.size := blk_lt K_h_w18.out
  go_wp2_with fail
  go_ret
  exact ⟨rfl, B_w18.out⟩

end Go.Proofs.Ytiehngfcfdlbnaa.QFnExactTurnTableau
