/- This session's own text: the contract of laws.markIntSS: it writes the numbers m, m+1, .. into the rows of a slice of slices whose rows are the caller's own and lie apart. No condition beyond those that the statement bears. -/
import Derived.Test.YtcegeleoicjciaaDoorQFnExactParseTableaux11
namespace Go.Proofs.YtcegeleoicjciaaDoor.QFnExactParseTableau
open Go.RowKit Go.Proofs.YtcegeleoicjciaaDoorW.PrintWords Go.Proofs.YtcegeleoicjciaaDoorW.PrintLast Go.Proofs.YtcegeleoicjciaaDoorW.PrintMore
set_option linter.unusedVariables false
set_option linter.unusedSimpArgs false

def laws_markIntSS.l0 : Nat → List (List Int) → Int → Int → Option (Int × List (List Int))
 | 0, _, _, _ => none
 | k + 1, x0, x1, x5 => if x5 < (x0.length : Int) then (if 0 ≤ x5 then ((laws_markIntS.f k (rd_L1 x0 x5) x1).bind fun b => (laws_markIntSS.l0 k (x0.set (x5 : Int).toNat b.2) b.1 (wrap64 (x5 + 1)))) else (none)) else (some (x1, x0))
def laws_markIntSS.f (k : Nat) (l0 : List (List Int)) (a1 : Int) : Option (Int × List (List Int)) := laws_markIntSS.l0 k l0 a1 0

set_option maxHeartbeats 8000000 in
set_option maxRecDepth 100000 in
theorem laws_markIntSS.calls (k : Nat) (P : Nat → Prop) (v : Value) (l0 : List (List Int)) (a1 r1 : Int) (r2 : List (List Int)) (w0 w : World) (hB : Below w0.heap.size w0 w) (ho : Kd.S (Kd.slice 3 (Kd.int .i64)) 29 w w0.heap.size P v l0) (h : laws_markIntSS.f k l0 a1 = some (r1, r2)) :
  Calls Tryd.prog 74 #[v, .int .i64 a1] w fun e w' => e = .returned (.int .i64 r1) ∧ Kd.S (Kd.slice 3 (Kd.int .i64)) 29 w' w0.heap.size P v r2 ∧ Below w0.heap.size w0 w' ∧ Kept w w' P := by
 obtain ⟨A, c, rfl⟩ := Kd.S_slice ho
 have HO := Aside0.mk ho
 have HB := Aside0.mk hB
 have H' : Aside0 (laws_markIntSS.l0 k l0 a1 0 = some (r1, r2)) := ⟨h⟩
 clear ho hB h
 go_enter Tryd.func74, Tryd.ntmps74
 go_wp2
 go_loopg [1, 5] k (fun kq v1 v5 w' => ∃ (m i : Int) (xs : List (List Int)), v1 = .int .i64 m ∧ v5 = .int .i64 i ∧ Aside0 (laws_markIntSS.l0 kq xs m i = some (r1, r2)) ∧ Aside0 (kq ≤ k) ∧ Aside0 (xs.length = l0.length) ∧ Aside0 (Kd.S (Kd.slice 3 (Kd.int .i64)) 29 w' w0.heap.size P (.slice A l0.length c) xs) ∧ Aside0 (Below w0.heap.size w0 w') ∧ Aside0 (Kept w w' P))
 case atStart => exact ⟨a1, 0, l0, rfl, rfl, H', ⟨Nat.le_refl _⟩, ⟨rfl⟩, HO, HB, ⟨Kept.refl _ _⟩⟩
 case round =>
  clear H' HO HB
  obtain ⟨m, i, xs, rfl, rfl, HA, HK1, HX, HO, HB, HKP⟩ := hrel
  cases gk with
  | zero => exact absurd HA.out (by simp [laws_markIntSS.l0])
  | succ k1 =>
   have H := HA.out
   clear HA
   simp only [laws_markIntSS.l0] at H
   have hx := HX.out
   by_cases c1 : i < (xs.length : Int)
   ·rw [if_pos c1] at H
    by_cases c2 : 0 ≤ i
    ·rw [if_pos c2] at H
     obtain ⟨⟨m2, ys⟩, hm, H2⟩ := Option.bind_eq_some_iff.mp H
     have HM : Aside0 (laws_markIntS.f k1 (rd_L1 xs i) m = some (m2, ys)) := ⟨hm⟩
     have HN : Aside0 (laws_markIntSS.l0 k1 (xs.set (i : Int).toNat ys) m2 (wrap64 (i + 1)) = some (r1, r2)) := ⟨H2⟩
     clear H H2 hm
     obtain ⟨g, cap, e1, _, _, _⟩ := Kd.S_form HO.out (by omega)
     obtain ⟨rfl, hq, rfl⟩ := Value.slice.inj e1
     clear e1 hq
     obtain ⟨oki, cs, _, hM, hcell, hoki, hH⟩ := Kd.S_lend HO.out [] i c2 (by omega)
     obtain ⟨vi, rfl, hR⟩ := hM
     obtain ⟨Ai, ci, rfl⟩ := Kd.R_slice hR
     have hc := hcell 0 _ rfl
     simp only [show ((Kd.slice 3 (Kd.int .i64))).sz = 1 from rfl, Nat.mul_one, Nat.add_zero] at hc
     have d1 : decide (i < (l0.length : Int)) = true := decide_eq_true (by omega)
     have d2 : decide (0 ≤ i) = true := decide_eq_true c2
     have p1 : (0 ≤ i) = True := eq_true c2
     have q1 : (i < (l0.length : Int)) = True := eq_true (by omega)
     have HR : Aside0 (Kd.R (Kd.int .i64) 3 wr w0.heap.size oki (.slice Ai (rd_L1 xs i).length ci) (rd_L1 xs i)) := ⟨hR⟩
     have HH := Aside0.mk hH
     have HOK := Aside0.mk hoki
     have hc2 : wr.cell? ⟨g, i.toNat, none⟩ = some (.slice Ai (rd_L1 xs i).length ci) := hc
     have C1 := Aside0.mk c1
     have C2 := Aside0.mk c2
     have HL : Aside0 (xs.length = l0.length) := ⟨hx⟩
     clear hc hcell hoki hH hR HO hx HX c1 c2
     go_wp2_with (first | (go_at_call 40; (with_reducible refine (laws_markIntS.calls k1 oki (.slice Ai (rd_L1 xs i).length ci) (rd_L1 xs i) m m2 ys w0 wr HB.out HR.out HM.out).mono ?_); rintro e w1 ⟨rfl, hr1, hb1, hk1⟩))
     have hr2 : Kd.R (Kd.int .i64) 3 w1 w0.heap.size oki (.slice Ai (rd_L1 xs i).length ci) ys := Kd.R_mono (Kd.R_tight rfl hr1) (fun k_ hk_ => HR.out.1 k_ hk_.symm)
     have hh2 := Kd.H_kept HH.out hk1 (fun k_ _ hn_ => hn_)
     have HS : Aside0 (Kd.S (Kd.slice 3 (Kd.int .i64)) 29 w1 w0.heap.size P (.slice (some ⟨g, 0, none⟩) l0.length c) (xs.set i.toNat ys)) := ⟨Kd.H_back hh2 ⟨_, rfl, hr2⟩ (fun _ hk_ => hk_)⟩
     have HKQ : Aside0 (Kept w w1 P) := ⟨HKP.out.then_ hk1 (fun k_ hk_ => .inl (HOK.out k_ hk_).1)⟩
     have HBQ := Aside0.mk hb1
     clear hr2 hh2 hk1 hb1 hr1
     go_wp2
     go_roundg k1
     case measure => have := HK1.out; omega
     case rel => exact ⟨m2, wrap64 (i + 1), xs.set i.toNat ys, by first | rfl | (simp; done) | (simp [*]; done), by first | rfl | (simp; done) | (simp [*]; done), HN, ⟨by have := HK1.out; omega⟩, ⟨by rw [List.length_set]; exact HL.out⟩, HS, HBQ, HKQ⟩
    ·rw [if_neg c2] at H
     exact absurd H (by simp)
   ·rw [if_neg c1] at H
    simp only [Option.some.injEq, Prod.mk.injEq] at H
    obtain ⟨rfl, rfl⟩ := H
    have d1 : decide (i < (l0.length : Int)) = false := decide_eq_false (by omega)
    clear hx
    go_wp2
    go_ret
    exact ⟨rfl, HO.out, HB.out, HKP.out⟩

end Go.Proofs.YtcegeleoicjciaaDoor.QFnExactParseTableau
