/- This session's own text: the contract of laws.markTableau: it writes numbers into a tableau's own memory and nothing else. No condition beyond those that the statement bears. -/
import Derived.Test.YtcegeleoicjciaaDoorMFnExactParseTableau
namespace Go.Proofs.YtcegeleoicjciaaDoor.QFnExactParseTableau
open Go.RowKit Go.Proofs.YtcegeleoicjciaaDoorW.PrintWords Go.Proofs.YtcegeleoicjciaaDoorW.PrintLast Go.Proofs.YtcegeleoicjciaaDoorW.PrintMore
set_option linter.unusedVariables false
set_option linter.unusedSimpArgs false

set_option maxHeartbeats 8000000 in
set_option maxRecDepth 100000 in
theorem laws_markTableau.calls (k : Nat) (P0 P1 : Nat → Prop) (v0 v1 : Value) (l0 : List Int) (l1 : List (List Int)) (a1 m1 m2 : Int) (ys : List Int) (zs : List (List Int)) (w0 w : World) (hB : Below w0.heap.size w0 w) (h0 : Kd.R (Kd.int .i64) 3 w w0.heap.size P0 v0 l0) (h1 : Kd.S (Kd.slice 3 (Kd.int .i64)) 29 w w0.heap.size P1 v1 l1) (hd : ∀ k_, P1 k_ → ¬ P0 k_) (hl0 : ∀ k_, P0 k_ → k_ < w.heap.size) (hl1 : ∀ k_, P1 k_ → k_ < w.heap.size) (f1 : laws_markIntS.f k l0 a1 = some (m1, ys)) (f2 : laws_markIntSS.f k l1 m1 = some (m2, zs)) :
  Calls Tryd.prog 48 #[.agg #[v0, v1], .int .i64 a1] w fun e w' => e = .returned (.int .i64 m2) ∧ Kd.R (Kd.int .i64) 3 w' w0.heap.size P0 v0 ys ∧ Kd.S (Kd.slice 3 (Kd.int .i64)) 29 w' w0.heap.size P1 v1 zs ∧ Below w0.heap.size w0 w' ∧ Kept w w' (fun k_ => P0 k_ ∨ P1 k_) := by
 obtain ⟨A0, c0, rfl⟩ := Kd.R_slice h0
 obtain ⟨A1, c1, rfl⟩ := Kd.S_slice h1
 have hu := Tryd.underlying50
 have H0 := Aside0.mk h0
 have H1 := Aside0.mk h1
 have HB := Aside0.mk hB
 have HD := Aside0.mk hd
 have L0 := Aside0.mk hl0
 have L1 := Aside0.mk hl1
 have F1 := Aside0.mk f1
 have F2 := Aside0.mk f2
 clear h0 h1 hB hd hl0 hl1 f1 f2
 go_enter Tryd.func48, Tryd.ntmps48
 go_wp2_with ((with_reducible refine gate_dst (N := 2) rfl ?_); refine box_event ?hg (N := 2) ?hd (cs := #[.slice A0 l0.length c0, .slice A1 l1.length c1]) (t := 50) ?hr ?_; (case hd => rfl); (case hg => rfl); (case hr => first | (go_simp; done) | (go_simp; rfl)); intro gb hg w7 hbox hb; have R7 := Aside0.mk (Kd.R_below H0.out hb); have S7 := Aside0.mk (Kd.S_below H1.out hb); have B7 := Aside0.mk (below_step HB.out hb); have BK7 := Aside0.mk hbox; have G7 := Aside0.mk hg; have hcz7_0 : w7.cell? ⟨gb, 0, none⟩ = some (.slice A0 l0.length c0) := (blk_cell BK7.out 0).trans rfl; have hcz7_1 : w7.cell? ⟨gb, 1, none⟩ = some (.slice A1 l1.length c1) := (blk_cell BK7.out 1).trans rfl; have hfz7_0 := blk_frozen BK7.out 0; have hfz7_1 := blk_frozen BK7.out 1; have KB7 := Aside0.mk (Kept.of_below hb (fun k_ => P0 k_ ∨ P1 k_)); clear hb hbox hg)
 -- markIntS(a.Inner, k)
 refine (laws_markIntS.calls k P0 _ l0 a1 m1 ys w0 _ B7.out R7.out F1.out).mono ?_
 rintro e w8 ⟨rfl, r8, b8, k8⟩
 have hge : w.heap.size ≤ gb := by rw [G7.out]; exact Nat.le_refl _
 have hlt : gb < w7.heap.size := blk_lt BK7.out
 have BK8 := Aside0.mk ((k8.2 gb hlt (fun h_ => by have := L0.out gb h_; omega)).trans BK7.out)
 have S8 := Aside0.mk (Kd.S_step S7.out (fun k_ hk_ hl_ => k8.2 k_ hl_ (fun hn_ => HD.out k_ hk_ hn_)))
 have B8 := Aside0.mk b8
 have R8 := Aside0.mk (Kd.R_mono (ok' := P0) (Kd.R_tight rfl r8) (fun k_ hk_ => R7.out.1 k_ hk_.symm))
 have K8 := Aside0.mk (KB7.out.then_ k8 (fun k_ hk_ => .inl (.inl hk_)))
 clear hcz7_0 hcz7_1 hfz7_0 hfz7_1 r8 b8 k8 hge hlt R7 S7
 have hcz8_0 : w8.cell? ⟨gb, 0, none⟩ = some (.slice A0 l0.length c0) := (blk_cell BK8.out 0).trans rfl
 have hcz8_1 : w8.cell? ⟨gb, 1, none⟩ = some (.slice A1 l1.length c1) := (blk_cell BK8.out 1).trans rfl
 have hfz8_0 := blk_frozen BK8.out 0
 have hfz8_1 := blk_frozen BK8.out 1
 go_wp2_with fail
 -- markIntSS(a.Rows, k)
 refine (laws_markIntSS.calls k P1 _ l1 m1 m2 zs w0 _ B8.out S8.out F2.out).mono ?_
 rintro e w9 ⟨rfl, s9, b9, k9⟩
 have B9 := Aside0.mk b9
 have S9 := Aside0.mk s9
 have R9 := Aside0.mk (Kd.R_step R8.out (fun k_ hk_ hl_ => k9.2 k_ hl_ (fun hn_ => HD.out k_ hn_ hk_)))
 have K9 := Aside0.mk (K8.out.then_ k9 (fun k_ hk_ => .inl (.inr hk_)))
 clear s9 b9 k9 R8
 go_wp2_with fail
 go_ret
 exact ⟨rfl, R9.out, S9.out, B9.out, K9.out⟩

end Go.Proofs.YtcegeleoicjciaaDoor.QFnExactParseTableau
