/- This session's own text: more steps that the walks of this claim take often, under short names. No condition beyond those that each statement bears. -/
import Derived.Test.YtkbomfpebhjaoaaGreatDoorShort
namespace Go.Proofs.YtkbomfpebhjaoaaGreatDoor.Short
open Go.RowKit Go.Proofs.YtkbomfpebhjaoaaGreatDoorW.PrintWords Go.Proofs.YtkbomfpebhjaoaaGreatDoorW.PrintLast Go.Proofs.YtkbomfpebhjaoaaGreatDoorW.PrintMore
set_option linter.unusedVariables false
/-- A block that stood stands. -/
theorem bk {w0 w : World} {g : Nat} {o : Obj} (h0 : w0.heap[g]? = some o)
    (hx : w0.heap[g]? = some o → w.heap[g]? = some o := by (intro hx; (with_reducible repeat (first | refine blk_drewN ?_ _ | refine blk_drew ?_ | refine blk_alloc ?_ _)); exact hx)) : w.heap[g]? = some o := hx h0
/-- A row of the call's own stands. -/
theorem rk {α : Type} {d : Kd α} {e : Nat} {w0 w : World} {base : Nat} {ok : Nat → Prop} {v : Value} {xs : List α} (h0 : d.R e w0 base ok v xs)
    (hx : d.R e w0 base ok v xs → d.R e w base ok v xs := by (intro hx; (with_reducible repeat (first | apply Kd.R_alloc | apply Kd.R_drewN | apply Kd.R_drew)); exact hx)) : d.R e w base ok v xs := hx h0
/-- The world now, below what stood when the call began, with cells set since. -/
theorem bset {B : Nat} {w w' : World} (h : Below B w w' := by repeat (first | (with_reducible first | exact Aside0.out (by assumption) | apply below_alloc | apply pw_below_drewN | apply below_drew1 | refine below_set ?_ (Aside0.out (by assumption))) | exact Aside0.out (by assumption))) : Below B w w' := h
/-- An argument's row stands. -/
theorem cb {α : Type} {d : Kd α} {w w1 : World} {A : Option Addr} {n : Nat} {xs : List α} (h : d.C w A n xs)
    (hb : Below w.heap.size w w1 := by repeat (first | (with_reducible first | exact Aside0.out (by assumption) | apply below_alloc | apply pw_below_drewN | apply below_drew1 | refine below_set ?_ (Aside0.out (by assumption))) | exact Aside0.out (by assumption))) : d.C w1 A n xs := Kd.C_below h hb
/-- What a call is given, as it stands. -/
theorem lm {p : Prop} (h : p := by ((try simp only [List.map_toArray, List.map_cons, List.map_nil]); first | done | rfl | (simp only [List.length_drop, List.length_take]; rfl))) : p := h
/-- What the walk holds. -/
theorem asm {p : Prop} (h : p := by first | (with_reducible assumption) | assumption) : p := h
/-- The next place of a drawn region may come up. -/
theorem ay {md : Region.Mode} {ops : Array Oper} {T : Bool × List (List Nat × List Nat)} {l l' : Array Bool} {i : Nat} (hT : rtab md ops = T) (h : anyT T l.toList l'.toList i = true := by kernel_rfl) : anyB md ops l l' i = true := any_of hT h
section
variable {P : Program} {md : Region.Mode} {ops : Array Oper} {Q : Exit → Act → World → Prop} {S : World → Prop} {ds : List Nat}
theorem pure2 (i N : Nat) {fuel : Nat} {l : Array Bool} {a : Act} {w : World} (l' : Array Bool) (hc : anyB md ops l l' i = true) {oi : Oper} {a' : Act} (h : wpAnyLast P md ops Q S ds fuel l' a' w)
    (hi : ops[i]? = some oi := by rfl) (hN : oi.dst = some N := by rfl) (hQ : ∀ c a w, Q (.panic c) (a.put oi.dst undef) w → Q (.panic c) a w := by exact fun _ _ _ h => h)
    (hy : Yields P ops oi undef a := by exact (Or.inr ⟨by rfl, rfl⟩))
    (ha : a.put (some N) undef = a' := by (simp only [Act.put, List.setIfInBounds_toArray, List.set_cons_zero, List.set_cons_succ, i64_w, i32_w]; rfl)) :
    wpAnyLast P md ops Q S ds (fuel + 1) l a w := pure_ l' hi hN hc hQ hy ha h
end

/-- The world now, below what stood when the call began: by the fact that is handed. -/
theorem bn {B : Nat} {w W w' : World} (h0 : Below B w W) (hx : Below B w W → Below B w w' := by (intro h_; (repeat (first | (with_reducible first | exact h_ | apply below_alloc | apply pw_below_drewN | apply below_drew1 | refine below_set ?_ (Aside0.out (by assumption))) | exact h_)))) : Below B w w' := hx h0
/-- What is kept but for the drawn state. -/
theorem know {w W w' : World} {g : Nat} {r : Option Nat} (h0 : KeepBut w W g r) (hx : KeepBut w W g r → KeepBut w w' g r := by (intro h_; (repeat (first | (with_reducible first | exact h_ | apply KeepBut.set_ | apply keep_drewN | apply keep_drew | apply keep_alloc | refine keep_far ?_ (Aside0.out (by assumption)) _) | exact h_)))) : KeepBut w w' g r := hx h0
/-- A row of an argument stands (its own fact handed). -/
theorem cc {α : Type} {d : Kd α} {w w1 : World} {A : Option Addr} {n : Nat} {xs : List α} (h : d.C w A n xs) (hx : d.C w A n xs → d.C w1 A n xs := by (intro h_; (repeat (first | exact h_ | (with_reducible refine Kd.C_alloc ?_ _) | (with_reducible refine Kd.C_drewN ?_ _) | (with_reducible refine Kd.C_drew ?_))))) : d.C w1 A n xs := hx h
section
variable {P : Program} {ops : Array Oper} {rest : List Oper} {o : Oper} {a : Act} {Q : Exit → Act → World → Prop}
theorem boxE (N : Nat) (cs : Array Value) (t : TypeId) {W : World} (hd : o.dst = some N)
    (h : ∀ g, g = W.heap.size → ∀ w1, w1.heap[g]? = some (.cells cs t (0, 0)) → Below W.heap.size W w1 → wpList P ops Q rest (a.put o.dst (.pointer (some ⟨g, 0, none⟩))) w1)
    (hgd : o.guard = none := by rfl)
    (hrun : (execOp a.eval o).run P W = .ok (.value (.pointer (some ⟨W.heap.size, 0, none⟩))) (W.alloc (.cells cs t (0, 0))) := by first | (go_simp; done) | (go_simp; rfl)) : wpList P ops Q (o :: rest) a W := box_event hgd hd hrun h
end
end Go.Proofs.YtkbomfpebhjaoaaGreatDoor.Short
