/- At every text the program's ParseTableau and the reference's read the same tableau, or both none, in memory of its own (the facts that the law's walk asks for; pure part here). No condition. -/
import Derived.Test.YtcegeleoicjciaaDoorVFnExactParseTableau
import Derived.Lib.TrimByte
import Derived.Lib.Repeat
import Derived.Lib.Join
import Derived.Lib.ItoaLen
import Derived.Lib.SplitLaws
import Derived.Lib.IndexBytes
namespace Go.Proofs.YtcegeleoicjciaaDoor.Pure
open Go.RowKit Go.Proofs.YtcegeleoicjciaaDoor.QFnExactParseTableau Go.Proofs.YtcegeleoicjciaaDoorW.PrintWords Go.Proofs.YtcegeleoicjciaaDoorW.PrintLast
set_option linter.unusedVariables false
set_option linter.unusedSimpArgs false

theorem w64 {x : Int} (h1 : -9223372036854775808 ≤ x) (h2 : x ≤ 9223372036854775807) : wrap64 x = x := by
 unfold wrap64; omega

theorem rd_nat (xs : List Int) (i : Nat) (h : i < xs.length) : rd xs (i : Int) = xs[i] := by
 unfold rd; rw [Int.toNat_natCast]; simp [List.getD, h]

theorem succ_of_pos {d k : Nat} (h : d < k) : ∃ m, k = m + 1 := ⟨k - 1, by omega⟩

theorem wf_ints {l : List Int} (h : ∀ x ∈ l, (Lit.int .i64 x).wf = true) : ∀ x ∈ l, -9223372036854775808 ≤ x ∧ x ≤ 9223372036854775807 := by
 intro x hx
 have := h x hx
 simp [Lit.wf, IntKind.min, IntKind.max, IntKind.bits, IntKind.signed] at this
 omega

theorem wf_int {x : Int} (h : (Lit.int .i64 x).wf = true) : -9223372036854775808 ≤ x ∧ x ≤ 9223372036854775807 := by
 simp [Lit.wf, IntKind.min, IntKind.max, IntKind.bits, IntKind.signed] at h
 omega



theorem eqIntS_l0 (xs ys : List Int) (hn : xs.length ≤ 1099511627776) (hl : xs.length = ys.length) : ∀ (d k i : Nat), i + d = xs.length → d < k → laws_eqIntS.l0 k xs ys (i : Int) = some (decide (xs.drop i = ys.drop i)) := by
 intro d
 induction d with
 | zero =>
  intro k i hi hk
  obtain ⟨k, rfl⟩ := succ_of_pos hk
  rw [laws_eqIntS.l0, if_neg (by omega), List.drop_of_length_le (by omega), List.drop_of_length_le (by omega)]
  rfl
 | succ d ih =>
  intro k i hi hk
  obtain ⟨k, rfl⟩ := succ_of_pos hk
  rw [laws_eqIntS.l0, if_pos (by omega), if_pos (by omega), if_pos (by omega), w64 (by omega) (by omega), rd_nat xs i (by omega), rd_nat ys i (by omega), List.drop_eq_getElem_cons (l := xs) (i := i) (by omega), List.drop_eq_getElem_cons (l := ys) (i := i) (by omega)]
  by_cases h : xs[i] = ys[i]
  ·rw [if_pos h, h]
   simp only [List.cons.injEq, true_and]
   exact ih k (i + 1) (by omega) (by omega)
  ·rw [if_neg h]
   simp only [List.cons.injEq, h, false_and, decide_false]

theorem eqIntS_eq {k : Nat} {xs ys : List Int} (hn : xs.length ≤ 1099511627776) (hk : xs.length < k) : laws_eqIntS.f k xs ys = some (decide (xs = ys)) := by
 rw [laws_eqIntS.f]
 by_cases h : xs.length = ys.length
 ·rw [if_pos (by omega)]
  exact eqIntS_l0 xs ys hn h xs.length k 0 (by omega) hk
 ·rw [if_neg (by omega)]
  have : xs ≠ ys := fun e => h (by rw [e])
  simp [this]

theorem eqIntS_self {k : Nat} {xs : List Int} (hn : xs.length ≤ 1099511627776) (hk : xs.length < k) : laws_eqIntS.f k xs xs = some true := by
 rw [eqIntS_eq hn hk]; simp

theorem rdl_nat (xs : List (List Int)) (i : Nat) (h : i < xs.length) : rd_L1 xs (i : Int) = xs[i] := by
 unfold rd_L1; rw [Int.toNat_natCast]; simp [List.getD, h]

def sizes (R : List (List Int)) : Nat := (R.map List.length).sum

theorem sizes_cons (x : List Int) (R : List (List Int)) : sizes (x :: R) = x.length + sizes R := by simp [sizes]

theorem le_sum_mem : ∀ {l : List Nat} {x : Nat}, x ∈ l → x ≤ l.sum
 | a :: l, x, h => by
  rw [List.sum_cons]
  rcases List.mem_cons.1 h with rfl | h
  ·omega
  ·have := le_sum_mem h
   omega

theorem sizes_at {R : List (List Int)} {i : Nat} (h : i < R.length) : (R[i]).length ≤ sizes R := by
 unfold sizes
 exact le_sum_mem (List.mem_map.2 ⟨R[i], List.getElem_mem _, rfl⟩)

theorem eqIntSS_l0 (R : List (List Int)) (hR : R.length ≤ 1099511627776) {B : Nat} (hB : B ≤ 1099511627776) (hr : ∀ x ∈ R, x.length ≤ B) : ∀ (d k i : Nat), i + d = R.length → d + B + 1 < k → laws_eqIntSS.l0 k R R (i : Int) = some true := by
 intro d
 induction d with
 | zero =>
  intro k i hi hk
  obtain ⟨k, rfl⟩ := succ_of_pos hk
  rw [laws_eqIntSS.l0, if_neg (by omega)]
 | succ d ih =>
  intro k i hi hk
  obtain ⟨k, rfl⟩ := succ_of_pos hk
  have hil : i < R.length := by omega
  have hb := hr R[i] (List.getElem_mem _)
  rw [laws_eqIntSS.l0, if_pos (by omega), if_pos (by omega), if_pos (by omega), rdl_nat R i hil, eqIntS_self (by omega) (by omega), Option.bind_some, if_pos rfl, w64 (by omega) (by omega)]
  exact ih k (i + 1) (by omega) (by omega)

theorem eqTableau_self {k : Nat} {I : List Int} {R : List (List Int)} (hn : I.length ≤ 2097152) (hR : R.length ≤ 2097152) (hs : sizes R ≤ 2097152) (hk : 8388608 < k) : laws_eqTableau.f k I R I R = some true := by
 have hr : ∀ x ∈ R, x.length ≤ 2097152 := by
  intro x hx
  obtain ⟨i, hi, rfl⟩ := List.getElem_of_mem hx
  exact Nat.le_trans (sizes_at hi) hs
 have h2 : laws_eqIntSS.l0 k R R 0 = some true := eqIntSS_l0 R (by omega) (B := 2097152) (by omega) hr R.length k 0 (by omega) (by omega)
 rw [laws_eqTableau.f, eqIntS_self (by omega) (by omega), Option.bind_some, if_pos rfl, laws_eqIntSS.f, if_pos rfl, h2, Option.bind_some, if_pos rfl]

def isPfrom : Int → Int → List Int → Bool
 | _, _, [] => true
 | prev, sum, x :: xs => decide (1 ≤ x) && decide (x ≤ 9) && decide (x ≤ prev) && decide (sum + x ≤ 9) && isPfrom x (sum + x) xs

def isP (p : List Int) : Bool := isPfrom 9 0 p

def prevAt (xs : List Int) (i : Nat) : Int := if i = 0 then 9 else rd xs ((i : Int) - 1)

theorem prevAt_succ (xs : List Int) (i : Nat) (h : i < xs.length) : prevAt xs (i + 1) = xs[i] := by
 unfold prevAt
 rw [if_neg (by omega), show ((i + 1 : Nat) : Int) - 1 = (i : Int) by omega, rd_nat _ _ h]

theorem isPfrom_step (xs : List Int) (i : Nat) (sum : Int) (h : i < xs.length) :
  isPfrom (prevAt xs i) sum (xs.drop i) = (decide (1 ≤ xs[i]) && decide (xs[i] ≤ 9) && decide (xs[i] ≤ prevAt xs i) && decide (sum + xs[i] ≤ 9) && isPfrom (prevAt xs (i + 1)) (sum + xs[i]) (xs.drop (i + 1))) := by
 rw [List.drop_eq_getElem_cons h, isPfrom, prevAt_succ xs i h]

def genP : Nat → Nat → Nat → List (List Int)
 | 0, _, _ => [[]]
 | f + 1, m, b => [] :: (List.range (min m b)).flatMap fun a => (genP f (a + 1) (b - (a + 1))).map (((a + 1 : Nat) : Int) :: ·)

theorem mem_genP : ∀ (xs : List Int) (f m b : Nat) (prev sum : Int), isPfrom prev sum xs = true → prev ≤ m → 9 - sum ≤ b → b ≤ f → sum ≤ 9 → xs ∈ genP f m b
 | [], 0, _, _, _, _, _, _, _, _, _ => by simp [genP]
 | [], f + 1, _, _, _, _, _, _, _, _, _ => by simp [genP]
 | x :: xs, 0, m, b, prev, sum, h, hm, hb, hf, hs => by
  simp [isPfrom] at h
  omega
 | x :: xs, f + 1, m, b, prev, sum, h, hm, hb, hf, hs => by
  simp only [isPfrom, Bool.and_eq_true, decide_eq_true_eq] at h
  obtain ⟨⟨⟨⟨h1, h2⟩, h3⟩, h4⟩, h5⟩ := h
  simp only [genP, List.mem_cons, List.mem_flatMap, List.mem_map, List.mem_range]
  refine .inr ⟨(x - 1).toNat, by omega, xs, ?_, ?_⟩
  ·exact mem_genP xs f _ _ x (sum + x) h5 (by omega) (by omega) (by omega) (by omega)
  ·congr 1
   omega

theorem isP_mem {p : List Int} (h : isP p = true) : p ∈ genP 9 9 9 := mem_genP p 9 9 9 9 0 h (by omega) (by omega) (by omega) (by omega)

theorem all_at {α : Type} {l : List α} {f : α → Bool} (h : l.all f = true) {x : α} (hx : x ∈ l) : f x = true := List.all_eq_true.1 h x hx

theorem genP_len : (genP 9 9 9).all (fun p => decide (p.length ≤ 9)) = true := by decide +kernel

theorem isP_len {p : List Int} (h : isP p = true) : p.length ≤ 9 := of_decide_eq_true (all_at genP_len (isP_mem h))

theorem genP_rng : (genP 9 9 9).all (fun p => p.all fun x => decide (1 ≤ x) && decide (x ≤ 9)) = true := by decide +kernel

theorem rd_mem {l : List Int} {i : Int} (h0 : 0 ≤ i) (h1 : i < l.length) : rd l i ∈ l := by
 obtain ⟨n, rfl⟩ := Int.eq_ofNat_of_zero_le h0
 rw [rd_nat l n (by omega)]
 exact List.getElem_mem _

theorem isP_rd {l : List Int} {i : Int} (h : isP l = true) (h0 : 0 ≤ i) (h1 : i < l.length) : 1 ≤ rd l i ∧ rd l i ≤ 9 := by
 have := all_at (all_at genP_rng (isP_mem h)) (rd_mem h0 h1)
 simpa using this

theorem specIsP_l0 (xs : List Int) (hn : xs.length ≤ 1099511627776) : ∀ (d k i : Nat) (sum : Int), i + d = xs.length → 0 ≤ sum → sum ≤ 9 → 2 * d < k → spec_IsPartition.l0 k xs sum (i : Int) = some (isPfrom (prevAt xs i) sum (xs.drop i)) := by
 intro d
 induction d with
 | zero =>
  intro k i sum hi _ _ hk
  obtain ⟨k, rfl⟩ := succ_of_pos hk
  rw [spec_IsPartition.l0, if_neg (by omega), List.drop_of_length_le (by omega)]
  rfl
 | succ d ih =>
  intro k i sum hi hs0 hs9 hk
  obtain ⟨k, rfl⟩ : ∃ m, k = m + 2 := ⟨k - 2, by omega⟩
  have hil : i < xs.length := by omega
  rw [spec_IsPartition.l0, if_pos (by omega), if_pos (by omega), rd_nat _ _ hil, isPfrom_step xs i sum hil, spec_l1In.f]
  by_cases h1 : xs[i] ≥ 1
  ·rw [if_pos h1]
   by_cases h2 : xs[i] ≤ 9
   ·have e1 : decide (1 ≤ xs[i]) = true := by simp; omega
    simp only [h2, e1, decide_true, Option.bind_some, Bool.true_and]
    rw [if_pos trivial]
    have hj : ∀ b : Bool, b = decide (xs[i] ≤ prevAt xs i) → spec_IsPartition.j1 (k + 1) xs sum (i : Int) (!b) = some (b && decide (sum + xs[i] ≤ 9) && isPfrom (prevAt xs (i + 1)) (sum + xs[i]) (xs.drop (i + 1))) := by
     intro b hb
     rw [spec_IsPartition.j1]
     cases b with
     | false => simp
     | true =>
      rw [if_neg (by simp), if_pos (by omega), if_pos (by omega), rd_nat _ _ hil, w64 (by omega) (by omega), w64 (by omega) (by omega)]
      by_cases h4 : sum + xs[i] > 9
      ·rw [if_pos h4]
       have : ¬ (sum + xs[i] ≤ 9) := by omega
       simp [this]
      ·rw [if_neg h4]
       have h5 : sum + xs[i] ≤ 9 := by omega
       have := ih k (i + 1) (sum + xs[i]) (by omega) (by omega) h5 (by omega)
       simp only [h5, decide_true, Bool.true_and]
       exact this
    by_cases h0 : (i : Int) > 0
    ·rw [if_pos h0, w64 (by omega) (by omega), if_pos (by omega), if_pos (by omega)]
     have e : decide (xs[i] > rd xs ((i : Int) - 1)) = !(decide (xs[i] ≤ prevAt xs i)) := by
      unfold prevAt
      rw [if_neg (by omega)]
      by_cases hc : xs[i] ≤ rd xs ((i : Int) - 1)
      ·have : ¬ (xs[i] > rd xs ((i : Int) - 1)) := by omega
       simp [hc]
      ·have : xs[i] > rd xs ((i : Int) - 1) := by omega
       simp [hc, this]
     rw [e]
     exact hj _ rfl
    ·rw [if_neg h0]
     have e : decide (xs[i] ≤ prevAt xs i) = true := by
      unfold prevAt
      rw [if_pos (by omega)]
      simpa using h2
     have := hj true e.symm
     rw [e]
     exact this
   ·simp [h2]
    rfl
  ·rw [if_neg h1]
   have : ¬ (1 ≤ xs[i]) := by omega
   simp [this]
   rfl

theorem specIsP_eq {k : Nat} {xs : List Int} (hn : xs.length ≤ 1099511627776) (hk : 2 * xs.length < k) : spec_IsPartition.f k xs = some (isP xs) :=
 specIsP_l0 xs hn xs.length k 0 0 (by omega) (by omega) (by omega) hk

theorem implIsP_l0 (xs : List Int) (hn : xs.length ≤ 1099511627776) : ∀ (d k i : Nat) (sum : Int), i + d = xs.length → 0 ≤ sum → sum ≤ 9 → 2 * d < k → impl_IsPartition.l0 k xs sum xs (xs.length : Int) (i : Int) = some (isPfrom (prevAt xs i) sum (xs.drop i)) := by
 intro d
 induction d with
 | zero =>
  intro k i sum hi _ _ hk
  obtain ⟨k, rfl⟩ := succ_of_pos hk
  rw [impl_IsPartition.l0, if_neg (by omega), List.drop_of_length_le (by omega)]
  rfl
 | succ d ih =>
  intro k i sum hi hs0 hs9 hk
  obtain ⟨k, rfl⟩ : ∃ m, k = m + 2 := ⟨k - 2, by omega⟩
  have hil : i < xs.length := by omega
  rw [impl_IsPartition.l0, if_pos (by omega), if_pos (by omega), if_pos (by omega), rd_nat _ _ hil, isPfrom_step xs i sum hil, impl_within.f]
  by_cases h1 : 1 ≤ xs[i]
  ·rw [if_pos h1]
   by_cases h2 : xs[i] ≤ 9
   ·simp only [h2, h1, decide_true, Option.bind_some, Bool.true_and]
    rw [if_pos trivial]
    have hj : ∀ b : Bool, b = decide (xs[i] ≤ prevAt xs i) → impl_IsPartition.j1 (k + 1) xs sum xs[i] xs (xs.length : Int) (i : Int) (!b) = some (b && decide (sum + xs[i] ≤ 9) && isPfrom (prevAt xs (i + 1)) (sum + xs[i]) (xs.drop (i + 1))) := by
     intro b hb
     rw [impl_IsPartition.j1]
     cases b with
     | false => simp
     | true =>
      rw [if_neg (by simp), w64 (by omega) (by omega), w64 (by omega) (by omega)]
      by_cases h4 : sum + xs[i] > 9
      ·rw [if_pos h4]
       have : ¬ (sum + xs[i] ≤ 9) := by omega
       simp [this]
      ·rw [if_neg h4]
       have h5 : sum + xs[i] ≤ 9 := by omega
       have := ih k (i + 1) (sum + xs[i]) (by omega) (by omega) h5 (by omega)
       simp only [h5, decide_true, Bool.true_and]
       exact this
    by_cases h0 : (i : Int) > 0
    ·rw [if_pos h0, w64 (by omega) (by omega), if_pos (by omega), if_pos (by omega)]
     have e : decide (xs[i] > rd xs ((i : Int) - 1)) = !(decide (xs[i] ≤ prevAt xs i)) := by
      unfold prevAt
      rw [if_neg (by omega)]
      by_cases hc : xs[i] ≤ rd xs ((i : Int) - 1)
      ·have : ¬ (xs[i] > rd xs ((i : Int) - 1)) := by omega
       simp [hc]
      ·have : xs[i] > rd xs ((i : Int) - 1) := by omega
       simp [hc, this]
     rw [e]
     exact hj _ rfl
    ·rw [if_neg h0]
     have e : decide (xs[i] ≤ prevAt xs i) = true := by
      unfold prevAt
      rw [if_pos (by omega)]
      simpa using h2
     have := hj true e.symm
     rw [e]
     exact this
   ·simp [h2]
    rfl
  ·rw [if_neg h1]
   simp [h1]
   rfl

theorem implIsP_eq {k : Nat} {xs : List Int} (hn : xs.length ≤ 1099511627776) (hk : 2 * xs.length < k) : impl_IsPartition.f k xs = some (isP xs) :=
 implIsP_l0 xs hn xs.length k 0 0 (by omega) (by omega) (by omega) hk

def insB : List Int → List Int → Bool
 | [], _ => true
 | _ :: _, [] => false
 | x :: xs, y :: ys => decide (x ≤ y) && insB xs ys

theorem ins_parts : (genP 9 9 9).all (fun q => (genP 9 9 9).all fun p => spec_IsInside.f 50 q p == some (insB q p) && impl_IsInside.f 50 q p == some (insB q p)) = true := by decide +kernel

theorem specInside_eq {k : Nat} {l0 l1 : List Int} (hn : l0.length ≤ 1099511627776) (hn1 : l1.length ≤ 1099511627776) (hk : 2 * l0.length + 2 * l1.length + 50 < k) : spec_IsInside.f k l0 l1 = some (isP l0 && isP l1 && insB l0 l1) := by
 by_cases hc : isP l0 = true ∧ isP l1 = true
 ·have h := all_at (all_at ins_parts (isP_mem hc.1)) (isP_mem hc.2)
  simp only [Bool.and_eq_true, beq_iff_eq] at h
  rw [hc.1, hc.2]
  exact at_rounds (spec_IsInside.mono l0 l1) (by omega) h.1
 ·obtain ⟨k, rfl⟩ := succ_of_pos hk
  rw [spec_IsInside.f, specIsP_eq hn (by omega)]
  simp only [Option.bind_some]
  cases h0 : isP l0 with
  | false => simp [spec_IsInside.j0]
  | true =>
   have h1 : isP l1 = false := by
    cases h1 : isP l1 with
    | false => rfl
    | true => exact absurd ⟨h0, h1⟩ hc
   rw [if_pos rfl, specIsP_eq hn1 (by omega), h1]
   simp [spec_IsInside.j0]

theorem implInside_eq {k : Nat} {l0 l1 : List Int} (hn : l0.length ≤ 1099511627776) (hn1 : l1.length ≤ 1099511627776) (hk : 2 * l0.length + 2 * l1.length + 50 < k) : impl_IsInside.f k l0 l1 = some (isP l0 && isP l1 && insB l0 l1) := by
 by_cases hc : isP l0 = true ∧ isP l1 = true
 ·have h := all_at (all_at ins_parts (isP_mem hc.1)) (isP_mem hc.2)
  simp only [Bool.and_eq_true, beq_iff_eq] at h
  rw [hc.1, hc.2]
  exact at_rounds (impl_IsInside.mono l0 l1) (by omega) h.2
 ·obtain ⟨k, rfl⟩ := succ_of_pos hk
  rw [impl_IsInside.f, implIsP_eq hn (by omega)]
  simp only [Option.bind_some]
  cases h0 : isP l0 with
  | false => simp [impl_IsInside.j0]
  | true =>
   have h1 : isP l1 = false := by
    cases h1 : isP l1 with
    | false => rfl
    | true => exact absurd ⟨h0, h1⟩ hc
   rw [if_pos rfl, implIsP_eq hn1 (by omega), h1]
   simp [impl_IsInside.j0]

def insPairs : List (List Int × List Int) := (genP 9 9 9).flatMap fun p => ((genP 9 9 9).filter fun q => insB q p).map fun q => (p, q)

theorem insPairs_mem {p q : List Int} (hp : isP p = true) (hq : isP q = true) (h : insB q p = true) : (p, q) ∈ insPairs := by
 simp only [insPairs, List.mem_flatMap, List.mem_map, List.mem_filter]
 exact ⟨p, isP_mem hp, q, ⟨isP_mem hq, h⟩, rfl⟩

theorem ins_three {p q : List Int} (h : ¬ (isP q && isP p && insB q p) = false) : isP p = true ∧ isP q = true ∧ insB q p = true := by
 simp only [Bool.not_eq_false, Bool.and_eq_true] at h
 exact ⟨h.1.2, h.1.1, h.2⟩

def atv (l : List Int) (a : Int) : Int := if a < 0 then 0 else if a ≥ (l.length : Int) then 0 else rd l a

theorem l2At_eq (l : List Int) (a : Int) : spec_l2At.f l a = some (atv l a) := by
 unfold spec_l2At.f atv
 by_cases h1 : a < 0
 ·rw [if_pos h1, if_pos h1]
 ·rw [if_neg h1, if_neg h1]
  by_cases h2 : a ≥ (l.length : Int)
  ·rw [if_pos h2, if_pos h2]
  ·rw [if_neg h2, if_neg h2, if_pos (by omega), if_pos (by omega)]

theorem at_eq {l : List Int} (hn : l.length ≤ 1099511627776) (a : Int) : impl_at.f l a = some (atv l a) := by
 unfold impl_at.f atv impl_within.f
 rw [w64 (by omega) (by omega)]
 by_cases h1 : a < 0
 ·rw [if_neg (by omega), Option.bind_some, if_neg (by decide), if_pos h1]
 ·rw [if_pos (by omega), Option.bind_some, if_neg h1]
  by_cases h2 : a ≥ (l.length : Int)
  ·have : decide (a ≤ (l.length : Int) - 1) = false := by simp; omega
   rw [this, if_neg (by decide), if_pos h2]
  ·have : decide (a ≤ (l.length : Int) - 1) = true := by simp; omega
   rw [this, if_pos rfl, if_pos (by omega), if_pos (by omega), if_neg h2]

theorem atv_nat {l : List Int} {i : Nat} (h : i < l.length) : atv l (i : Int) = l[i] := by
 unfold atv
 rw [if_neg (by omega), if_neg (by omega), rd_nat l i h]

theorem atv_out {l : List Int} {a : Int} (h : a < 0 ∨ (l.length : Int) ≤ a) : atv l a = 0 := by
 unfold atv
 by_cases h1 : a < 0
 ·rw [if_pos h1]
 ·rw [if_neg h1, if_pos (by omega)]

theorem atv_rng {l : List Int} (h : isP l = true) (a : Int) : 0 ≤ atv l a ∧ atv l a ≤ 9 := by
 unfold atv
 by_cases h1 : a < 0
 ·rw [if_pos h1]; omega
 ·rw [if_neg h1]
  by_cases h2 : a ≥ (l.length : Int)
  ·rw [if_pos h2]; omega
  ·rw [if_neg h2]
   have := isP_rd h (by omega) (by omega : a < l.length)
   omega

/-- The number of a tableau in a cell, 0 where there is none. -/
def entV (I : List Int) (R : List (List Int)) (r c : Int) : Int := if r < 0 then 0 else if r ≥ (R.length : Int) then 0 else atv (rd_L1 R r) (c - atv I r)

theorem entV_out {I : List Int} {R : List (List Int)} {r c : Int} (h : r < 0 ∨ (R.length : Int) ≤ r) : entV I R r c = 0 := by
 unfold entV
 by_cases h1 : r < 0
 ·rw [if_pos h1]
 ·rw [if_neg h1, if_pos (by omega)]

theorem l5Entry_eq {I : List Int} {R : List (List Int)} (hI : isP I = true) {r c : Int} {k : Nat} (hc : -4611686018427387904 ≤ c) (hc2 : c ≤ 9223372036854775807) (hk : 0 < k) : spec_l5Entry.f k I R r c = some (entV I R r c) := by
 obtain ⟨k, rfl⟩ := succ_of_pos hk
 have ht : ∀ x y z w, spec_l5Entry.j0 (k + 1) x y true z w = some 0 := fun x y z w => by rw [spec_l5Entry.j0]; rfl
 unfold spec_l5Entry.f entV
 by_cases h1 : r < 0
 ·rw [if_pos h1, if_pos h1, ht]
 ·rw [if_neg h1, if_neg h1]
  by_cases h2 : r ≥ (R.length : Int)
  ·rw [if_pos h2, decide_eq_true h2, ht]
  ·have ha := atv_rng hI r
   rw [if_neg h2, decide_eq_false h2, spec_l5Entry.j0, if_neg (by decide), l2At_eq, Option.bind_some, w64 (by omega) (by omega)]
   unfold atv
   by_cases h3 : c - atv I r < 0
   ·unfold atv at h3
    rw [if_pos h3, if_pos h3]
   ·unfold atv at h3
    rw [if_neg h3, if_neg h3, if_pos (by omega), if_pos (by omega)]
    by_cases h4 : c - (if r < 0 then 0 else if r ≥ (I.length : Int) then 0 else rd I r) ≥ ((rd_L1 R r).length : Int)
    ·rw [if_pos h4, if_pos h4]
    ·rw [if_neg h4, if_neg h4, if_pos (by omega), if_pos (by omega)]

theorem entry_eq {I : List Int} {R : List (List Int)} (hI : isP I = true) (hR : R.length ≤ 1099511627776) (hr : ∀ x ∈ R, x.length ≤ 1099511627776) {r c : Int} (hc : -4611686018427387904 ≤ c) (hc2 : c ≤ 9223372036854775807) : impl_Tableau_entry.f I R r c = some (entV I R r c) := by
 have hIl := isP_len hI
 unfold impl_Tableau_entry.f impl_within.f entV
 rw [w64 (x := (R.length : Int) - 1) (by omega) (by omega)]
 by_cases h1 : r < 0
 ·rw [if_neg (by omega), Option.bind_some, if_neg (by decide), if_pos h1]
 ·rw [if_pos (by omega), Option.bind_some, if_neg h1]
  by_cases h2 : r ≥ (R.length : Int)
  ·have : decide (r ≤ (R.length : Int) - 1) = false := by simp; omega
   rw [this, if_neg (by decide), if_pos h2]
  ·have : decide (r ≤ (R.length : Int) - 1) = true := by simp; omega
   have ha := atv_rng hI r
   have hb : (rd_L1 R r).length ≤ 1099511627776 := by
    obtain ⟨n, rfl⟩ := Int.eq_ofNat_of_zero_le (show 0 ≤ r by omega)
    have hn : n < R.length := by omega
    rw [rdl_nat R n hn]
    exact hr _ (List.getElem_mem _)
   rw [this, if_pos rfl, if_pos (by omega), if_pos (by omega), if_neg h2, at_eq (by omega), Option.bind_some, w64 (by omega) (by omega), at_eq hb, Option.bind_some]

def outF (I : List Int) : Nat → List (List Int) → List Int
 | _, [] => []
 | i, r :: rs => (atv I i + r.length) :: outF I (i + 1) rs

theorem outF_len (I : List Int) : ∀ (R : List (List Int)) (i : Nat), (outF I i R).length = R.length
 | [], _ => rfl
 | _ :: rs, i => by simp [outF, outF_len I rs]

theorem outF_at (I : List Int) : ∀ (R : List (List Int)) (i j : Nat) (h : j < R.length), (outF I i R)[j]'(by rw [outF_len]; exact h) = atv I ((i + j : Nat) : Int) + (R[j]).length
 | r :: rs, i, 0, _ => by simp [outF]
 | r :: rs, i, j + 1, h => by
  have := outF_at I rs (i + 1) j (by simpa using h)
  simp only [outF, List.getElem_cons_succ]
  rw [this]
  congr 2
  omega

def okShape (I : List Int) (R : List (List Int)) : Bool := isP I && decide (I.length ≤ R.length) && isP (outF I 0 R) && insB I (outF I 0 R)

def shapeV (I : List Int) (R : List (List Int)) : List Int × List Int × Bool := if okShape I R then (outF I 0 R, I, true) else ([], [], false)

theorem specShape_l0 {I : List Int} {R : List (List Int)} (hI : isP I = true) (hIR : I.length ≤ R.length) (hR : R.length ≤ 2097152) (hr : ∀ x ∈ R, x.length ≤ 2097152) : ∀ (d k i : Nat) (acc : List Int), i + d = R.length → acc.length = i → outF I 0 R = acc ++ outF I i (R.drop i) → d + 4 * R.length + 100 < k →
  spec_ShapeOf.l0 k (i : Int) I R acc I = some (shapeV I R) := by
 have hIl := isP_len hI
 intro d
 induction d with
 | zero =>
  intro k i acc hi ha ho hk
  obtain ⟨k, rfl⟩ := succ_of_pos hk
  rw [List.drop_of_length_le (by omega)] at ho
  simp only [outF, List.append_nil] at ho
  subst ho
  rw [spec_ShapeOf.l0, if_neg (by omega), spec_IsShape.f, specInside_eq (by omega) (by rw [outF_len]; omega) (by rw [outF_len]; omega)]
  simp only [Option.bind_some]
  unfold shapeV okShape
  rw [hI, decide_eq_true hIR]
  simp only [Bool.true_and]
  by_cases hb : (isP (outF I 0 R) && insB I (outF I 0 R)) = true
  ·rw [if_pos hb, if_pos hb]
  ·rw [if_neg hb, if_neg hb]
 | succ d ih =>
  intro k i acc hi ha ho hk
  obtain ⟨k, rfl⟩ := succ_of_pos hk
  have hil : i < R.length := by omega
  have hb := hr R[i] (List.getElem_mem _)
  have hv := atv_rng hI (i : Int)
  rw [spec_ShapeOf.l0, if_pos (by omega), l2At_eq, Option.bind_some, if_pos (by omega), if_pos (by omega), rdl_nat R i hil, w64 (x := (i : Int) + 1) (by omega) (by omega), w64 (x := atv I (i : Int) + ((R[i]).length : Int)) (by omega) (by omega)]
  refine ih k (i + 1) _ (by omega) (by simp [ha]) ?_ (by omega)
  rw [ho, List.drop_eq_getElem_cons hil, outF]
  simp

theorem implShape_l0 {I : List Int} {R : List (List Int)} (hI : isP I = true) (hIR : I.length ≤ R.length) (hR : R.length ≤ 2097152) (hr : ∀ x ∈ R, x.length ≤ 2097152) : ∀ (d k i : Nat) (acc : List Int), i + d = R.length → acc.length = i → outF I 0 R = acc ++ outF I i (R.drop i) → d + 4 * R.length + 100 < k →
  impl_ShapeOf.l0 k R (R.length : Int) (i : Int) I R acc I = some (shapeV I R) := by
 have hIl := isP_len hI
 intro d
 induction d with
 | zero =>
  intro k i acc hi ha ho hk
  obtain ⟨k, rfl⟩ := succ_of_pos hk
  rw [List.drop_of_length_le (by omega)] at ho
  simp only [outF, List.append_nil] at ho
  subst ho
  rw [impl_ShapeOf.l0, if_neg (by omega), impl_IsShape.f, implInside_eq (by omega) (by rw [outF_len]; omega) (by rw [outF_len]; omega)]
  simp only [Option.bind_some]
  unfold shapeV okShape
  rw [hI, decide_eq_true hIR]
  simp only [Bool.true_and]
  by_cases hb : (isP (outF I 0 R) && insB I (outF I 0 R)) = true
  ·rw [if_pos hb, if_pos hb]
  ·rw [if_neg hb, if_neg hb]
 | succ d ih =>
  intro k i acc hi ha ho hk
  obtain ⟨k, rfl⟩ := succ_of_pos hk
  have hil : i < R.length := by omega
  have hb := hr R[i] (List.getElem_mem _)
  have hv := atv_rng hI (i : Int)
  rw [impl_ShapeOf.l0, if_pos (by omega), if_pos (by omega), if_pos (by omega), at_eq (by omega), Option.bind_some, if_pos (by omega), rdl_nat R i hil, w64 (x := (i : Int) + 1) (by omega) (by omega), w64 (x := atv I (i : Int) + ((R[i]).length : Int)) (by omega) (by omega)]
  refine ih k (i + 1) _ (by omega) (by simp [ha]) ?_ (by omega)
  rw [ho, List.drop_eq_getElem_cons hil, outF]
  simp

theorem rows_small {R : List (List Int)} (hs : sizes R ≤ 2097152) : ∀ x ∈ R, x.length ≤ 2097152 := by
 intro x hx
 obtain ⟨i, hi, rfl⟩ := List.getElem_of_mem hx
 exact Nat.le_trans (sizes_at hi) hs

theorem shapeV_no {I : List Int} {R : List (List Int)} (h : isP I = false ∨ R.length < I.length ∨ 9 < R.length) : shapeV I R = ([], [], false) := by
 unfold shapeV okShape
 rcases h with h | h | h
 ·rw [h]; rfl
 ·rw [decide_eq_false (by omega)]; simp
 ·have : isP (outF I 0 R) = false := by
   cases hp : isP (outF I 0 R) with
   | false => rfl
   | true =>
    have := isP_len hp
    rw [outF_len] at this
    omega
  rw [this]; simp

theorem specShapeOf_eq {I : List Int} {R : List (List Int)} {k : Nat} (hI : I.length ≤ 2097152) (hR : R.length ≤ 2097152) (hs : sizes R ≤ 2097152) (hk : 16777216 < k) : spec_ShapeOf.f k I R = some (shapeV I R) := by
 obtain ⟨k, rfl⟩ := succ_of_pos hk
 have ht : ∀ x y z, spec_ShapeOf.j0 (k + 1) true x y z = some ([], [], false) := fun x y z => by rw [spec_ShapeOf.j0]; rfl
 rw [spec_ShapeOf.f]
 simp only [Option.bind_some, List.nil_append, List.length_nil, Nat.zero_add]
 rw [if_pos (by omega), specIsP_eq (by omega) (by omega), Option.bind_some]
 cases hp : isP I with
 | false => rw [if_neg (by decide), ht, shapeV_no (.inl hp)]
 | true =>
  rw [if_pos rfl]
  by_cases h1 : (I.length : Int) > (R.length : Int)
  ·rw [if_pos h1, ht, shapeV_no (.inr (.inl (by omega)))]
  ·rw [if_neg h1]
   by_cases h2 : (R.length : Int) > 9
   ·rw [decide_eq_true h2, ht, shapeV_no (.inr (.inr (by omega)))]
   ·rw [decide_eq_false h2, spec_ShapeOf.j0, if_neg (by decide)]
    exact specShape_l0 hp (by omega) hR (rows_small hs) R.length k 0 [] (by omega) rfl rfl (by omega)

theorem implShapeOf_eq {I : List Int} {R : List (List Int)} {k : Nat} (hI : I.length ≤ 2097152) (hR : R.length ≤ 2097152) (hs : sizes R ≤ 2097152) (hk : 16777216 < k) : impl_ShapeOf.f k I R = some (shapeV I R) := by
 obtain ⟨k, rfl⟩ := succ_of_pos hk
 have ht : ∀ x y, impl_ShapeOf.j0 (k + 1) true x y = some ([], [], false) := fun x y => by rw [impl_ShapeOf.j0]; rfl
 rw [impl_ShapeOf.f, implIsP_eq (by omega) (by omega), Option.bind_some]
 cases hp : isP I with
 | false => rw [if_neg (by decide), ht, shapeV_no (.inl hp)]
 | true =>
  rw [if_pos rfl]
  by_cases h1 : (I.length : Int) > (R.length : Int)
  ·rw [decide_eq_true h1, ht, shapeV_no (.inr (.inl (by omega)))]
  ·rw [decide_eq_false h1, impl_ShapeOf.j0, if_neg (by decide), slices_Clone_int_int.f]
   simp only [Option.bind_some, List.nil_append, List.length_nil, Nat.zero_add]
   rw [if_pos (by omega), Option.bind_some]
   exact implShape_l0 hp (by omega) hR (rows_small hs) R.length k 0 [] (by omega) rfl rfl (by omega)

def allF (f : Nat → Bool) : Nat → Nat → Bool
 | 0, _ => true
 | d + 1, i => f i && allF f d (i + 1)

/-- Number k of row i stands well. -/
def cellB (I : List Int) (R : List (List Int)) (i k : Nat) : Bool :=
 decide (1 ≤ rd (rd_L1 R i) k) && decide (rd (rd_L1 R i) k ≤ 9) && decide (k = 0 ∨ rd (rd_L1 R i) ((k : Int) - 1) ≤ rd (rd_L1 R i) k) && decide (entV I R ((i : Int) - 1) (atv I i + k) < rd (rd_L1 R i) k)

def rowB (I : List Int) (R : List (List Int)) (i : Nat) : Bool := allF (cellB I R i) (rd_L1 R i).length 0

def tabB (I : List Int) (R : List (List Int)) : Bool := okShape I R && allF (rowB I R) R.length 0

theorem entV_first (I : List Int) (R : List (List Int)) (c : Int) : entV I R ((0 : Nat) - 1) c = 0 := entV_out (.inl (by omega))

theorem implTab_l1 {I : List Int} {R : List (List Int)} {i : Nat} {b : Bool} {B : Nat} (hI : isP I = true) (hR : R.length ≤ 2097152) (hr : ∀ x ∈ R, x.length ≤ 2097152) (hi : i < R.length)
  (hnext : ∀ k, B < k → impl_IsTableau.l0 k R (R.length : Int) ((i + 1 : Nat) : Int) I R = some b) :
  ∀ (d k kk : Nat), kk + d = (R[i]).length → d + B + 1 < k → impl_IsTableau.l1 k (i : Int) R[i] R (R.length : Int) (i : Int) R[i] ((R[i]).length : Int) (kk : Int) I R = some (allF (cellB I R i) d kk && b) := by
 have hIl := isP_len hI
 have hri := hr R[i] (List.getElem_mem _)
 intro d
 induction d with
 | zero =>
  intro k kk hkk hk
  obtain ⟨k, rfl⟩ := succ_of_pos hk
  rw [impl_IsTableau.l1, if_neg (by omega), w64 (x := (i : Int) + 1) (by omega) (by omega)]
  have := hnext k (by omega)
  simpa [allF] using this
 | succ d ih =>
  intro k kk hkk hk
  obtain ⟨k, rfl⟩ := succ_of_pos hk
  have hv := atv_rng hI (i : Int)
  have step : impl_IsTableau.l1 k (i : Int) R[i] R (R.length : Int) (i : Int) R[i] ((R[i]).length : Int) (wrap64 ((kk : Int) + 1)) I R = some (allF (cellB I R i) d (kk + 1) && b) := by
   rw [w64 (x := (kk : Int) + 1) (by omega) (by omega)]
   exact ih k (kk + 1) (by omega) (by omega)
  rw [impl_IsTableau.l1, if_pos (by omega), if_pos (by omega), if_pos (by omega), impl_within.f, allF, cellB, rdl_nat R i hi]
  generalize hx : rd R[i] (kk : Int) = x
  by_cases h1 : 1 ≤ x
  ·rw [if_pos h1, Option.bind_some, decide_eq_true h1]
   by_cases h2 : x ≤ 9
   ·rw [decide_eq_true h2, if_pos rfl]
    -- what stands above
    have above : (if (i : Int) > 0 then ((impl_at.f I (i : Int)).bind fun t235 => ((impl_Tableau_entry.f I R (wrap64 ((i : Int) - 1)) (wrap64 (t235 + (kk : Int)))).bind fun t236 => (if x ≤ t236 then (some false) else (impl_IsTableau.l1 k (i : Int) R[i] R (R.length : Int) (i : Int) R[i] ((R[i]).length : Int) (wrap64 ((kk : Int) + 1)) I R)))) else (impl_IsTableau.l1 k (i : Int) R[i] R (R.length : Int) (i : Int) R[i] ((R[i]).length : Int) (wrap64 ((kk : Int) + 1)) I R)) = some (decide (entV I R ((i : Int) - 1) (atv I i + kk) < x) && allF (cellB I R i) d (kk + 1) && b) := by
     by_cases h0 : (i : Int) > 0
     ·rw [if_pos h0, at_eq (by omega), Option.bind_some, w64 (x := (i : Int) - 1) (by omega) (by omega), w64 (x := atv I (i : Int) + (kk : Int)) (by omega) (by omega), entry_eq hI (by omega) (fun x hx => Nat.le_trans (hr x hx) (by omega)) (by omega) (by omega), Option.bind_some]
      by_cases h3 : x ≤ entV I R ((i : Int) - 1) (atv I (i : Int) + (kk : Int))
      ·rw [if_pos h3, decide_eq_false (by omega)]; rfl
      ·rw [if_neg h3, decide_eq_true (by omega), step]; simp
     ·have : entV I R ((i : Int) - 1) (atv I (i : Int) + (kk : Int)) = 0 := entV_out (.inl (by omega))
      rw [if_neg h0, this, decide_eq_true (by omega), step]; simp
    by_cases hk0 : (kk : Int) > 0
    ·rw [if_pos hk0, w64 (x := (kk : Int) - 1) (by omega) (by omega), if_pos (by omega), if_pos (by omega)]
     by_cases h4 : x < rd R[i] ((kk : Int) - 1)
     ·have : decide (kk = 0 ∨ rd R[i] ((kk : Int) - 1) ≤ x) = false := by simp; omega
      rw [if_pos h4, this]; rfl
     ·have : decide (kk = 0 ∨ rd R[i] ((kk : Int) - 1) ≤ x) = true := by simp; omega
      rw [if_neg h4, this, above]; simp [Bool.and_assoc]
    ·have : decide (kk = 0 ∨ rd R[i] ((kk : Int) - 1) ≤ x) = true := by simp; omega
     rw [if_neg hk0, this, above]; simp [Bool.and_assoc]
   ·rw [decide_eq_false h2, if_neg (by decide)]; simp
  ·rw [if_neg h1, Option.bind_some, if_neg (by decide), decide_eq_false h1]; simp

theorem implTab_l0 {I : List Int} {R : List (List Int)} (hI : isP I = true) (hR : R.length ≤ 2097152) (hr : ∀ x ∈ R, x.length ≤ 2097152) :
  ∀ (d k i : Nat), i + d = R.length → sizes (R.drop i) + 3 * d + 2 < k → impl_IsTableau.l0 k R (R.length : Int) (i : Int) I R = some (allF (rowB I R) d i) := by
 intro d
 induction d with
 | zero =>
  intro k i hi hk
  obtain ⟨k, rfl⟩ := succ_of_pos hk
  rw [impl_IsTableau.l0, if_neg (by omega)]; rfl
 | succ d ih =>
  intro k i hi hk
  obtain ⟨k, rfl⟩ := succ_of_pos hk
  have hil : i < R.length := by omega
  rw [List.drop_eq_getElem_cons hil, sizes_cons] at hk
  rw [impl_IsTableau.l0, if_pos (by omega), if_pos (by omega), if_pos (by omega), rdl_nat R i hil]
  have h := implTab_l1 (b := allF (rowB I R) d (i + 1)) (B := sizes (R.drop (i + 1)) + 3 * d + 2) hI hR hr hil (fun k hk => ih k (i + 1) (by omega) hk) (R[i]).length k 0 (by omega) (by omega)
  refine Eq.trans h ?_
  rw [allF, rowB, rdl_nat R i hil]

theorem specTab_l1 {I O : List Int} {R : List (List Int)} {i : Nat} {b : Bool} {B : Nat} (hI : isP I = true) (hR : R.length ≤ 2097152) (hr : ∀ x ∈ R, x.length ≤ 2097152) (hi : i < R.length) (hO : O = outF I 0 R)
  (hnext : ∀ k, B < k → spec_IsTableau.l0 k ((i + 1 : Nat) : Int) I R O I = some b) :
  ∀ (d k kk : Nat), kk + d = (R[i]).length → 2 * d + B + 2 < k → spec_IsTableau.l1 k (i : Int) (atv I i + kk) I R O I = some (allF (cellB I R i) d kk && b) := by
 have hIl := isP_len hI
 have hri := hr R[i] (List.getElem_mem _)
 have hOl : O.length = R.length := by rw [hO, outF_len]
 have hOi : rd O (i : Int) = atv I (i : Int) + ((R[i]).length : Int) := by
  subst hO
  rw [rd_nat _ i (by omega), outF_at I R 0 i hi]
  simp
 have hv := atv_rng hI (i : Int)
 intro d
 induction d with
 | zero =>
  intro k kk hkk hk
  obtain ⟨k, rfl⟩ := succ_of_pos hk
  rw [spec_IsTableau.l1, if_pos (by omega), if_pos (by omega), hOi, if_neg (by omega), w64 (x := (i : Int) + 1) (by omega) (by omega)]
  have := hnext k (by omega)
  simpa [allF] using this
 | succ d ih =>
  intro k kk hkk hk
  obtain ⟨k, rfl⟩ : ∃ m, k = m + 2 := ⟨k - 2, by omega⟩
  have here : ∀ c : Int, entV I R (i : Int) (atv I (i : Int) + c) = atv R[i] c := by
   intro c
   unfold entV
   rw [if_neg (by omega), if_neg (by omega), rdl_nat R i hi]
   congr 1
   omega
  have step : spec_IsTableau.l1 k (i : Int) (wrap64 (atv I (i : Int) + (kk : Int) + 1)) I R O I = some (allF (cellB I R i) d (kk + 1) && b) := by
   rw [w64 (by omega) (by omega)]
   have := ih k (kk + 1) (by omega) (by omega)
   refine Eq.trans ?_ this
   congr 1
   omega
  have hx : atv R[i] (kk : Int) = rd R[i] (kk : Int) := by unfold atv; rw [if_neg (by omega), if_neg (by omega)]
  rw [spec_IsTableau.l1, if_pos (by omega), if_pos (by omega), hOi, if_pos (by omega), l5Entry_eq hI (by omega) (by omega) (by omega), Option.bind_some, here, hx]
  have join : ∀ left : Int, (decide (left ≤ rd R[i] (kk : Int)) = decide (kk = 0 ∨ rd R[i] ((kk : Int) - 1) ≤ rd R[i] (kk : Int)) ∨ ¬ 1 ≤ rd R[i] (kk : Int)) →
    spec_IsTableau.j2 (k + 1) (i : Int) (atv I (i : Int) + (kk : Int)) (rd R[i] (kk : Int)) left I R O I = some (allF (cellB I R i) (d + 1) kk && b) := by
   intro left hl
   rw [spec_IsTableau.j2, spec_l1In.f, allF, cellB, rdl_nat R i hi]
   by_cases h1 : rd R[i] (kk : Int) ≥ 1
   ·have hl' := hl.resolve_right (fun h => h h1)
    rw [if_pos h1, Option.bind_some, decide_eq_true (show 1 ≤ rd R[i] (kk : Int) from h1), ← hl']
    by_cases h2 : rd R[i] (kk : Int) ≤ 9
    ·rw [decide_eq_true h2, if_pos rfl]
     by_cases h3 : left > rd R[i] (kk : Int)
     ·rw [if_pos h3, decide_eq_false (by omega)]; simp
     ·rw [if_neg h3, decide_eq_true (by omega), w64 (x := (i : Int) - 1) (by omega) (by omega), l5Entry_eq hI (by omega) (by omega) (by omega), Option.bind_some]
      by_cases h4 : entV I R ((i : Int) - 1) (atv I (i : Int) + (kk : Int)) ≥ rd R[i] (kk : Int)
      ·rw [if_pos h4, decide_eq_false (by omega)]; simp
      ·rw [if_neg h4, decide_eq_true (by omega), step]; simp
    ·rw [decide_eq_false h2, if_neg (by decide)]; simp
   ·rw [if_neg h1, Option.bind_some, if_neg (by decide), decide_eq_false (by omega)]; simp
  by_cases hc : atv I (i : Int) + (kk : Int) > 0
  ·rw [if_pos hc, w64 (x := atv I (i : Int) + (kk : Int) - 1) (by omega) (by omega), l5Entry_eq hI (by omega) (by omega) (by omega), Option.bind_some]
   have e : atv I (i : Int) + (kk : Int) - 1 = atv I (i : Int) + ((kk : Int) - 1) := by omega
   rw [e, here]
   refine join _ ?_
   by_cases hk0 : kk = 0
   ·by_cases h1 : 1 ≤ rd R[i] (kk : Int)
    ·left
     rw [atv_out (.inl (by omega))]
     simp [hk0]
     subst hk0
     simpa using (show 0 ≤ rd R[i] ((0 : Nat) : Int) by omega)
    ·exact .inr h1
   ·left
    have : atv R[i] ((kk : Int) - 1) = rd R[i] ((kk : Int) - 1) := by unfold atv; rw [if_neg (by omega), if_neg (by omega)]
    rw [this]
    simp [hk0]
  ·rw [if_neg hc]
   refine join _ ?_
   have hk0 : kk = 0 := by omega
   by_cases h1 : 1 ≤ rd R[i] (kk : Int)
   ·left
    subst hk0
    simp
    simpa using (show 0 ≤ rd R[i] ((0 : Nat) : Int) by omega)
   ·exact .inr h1

theorem specTab_l0 {I O : List Int} {R : List (List Int)} (hI : isP I = true) (hR : R.length ≤ 2097152) (hr : ∀ x ∈ R, x.length ≤ 2097152) (hO : O = outF I 0 R) :
  ∀ (d k i : Nat), i + d = R.length → 2 * sizes (R.drop i) + 4 * d + 2 < k → spec_IsTableau.l0 k (i : Int) I R O I = some (allF (rowB I R) d i) := by
 have hOl : O.length = R.length := by rw [hO, outF_len]
 intro d
 induction d with
 | zero =>
  intro k i hi hk
  obtain ⟨k, rfl⟩ := succ_of_pos hk
  rw [spec_IsTableau.l0, if_neg (by omega)]; rfl
 | succ d ih =>
  intro k i hi hk
  obtain ⟨k, rfl⟩ := succ_of_pos hk
  have hil : i < R.length := by omega
  rw [List.drop_eq_getElem_cons hil, sizes_cons] at hk
  rw [spec_IsTableau.l0, if_pos (by omega), l2At_eq, Option.bind_some]
  have h := specTab_l1 (b := allF (rowB I R) d (i + 1)) (B := 2 * sizes (R.drop (i + 1)) + 4 * d + 2) hI hR hr hil hO (fun k hk => ih k (i + 1) (by omega) hk) (R[i]).length k 0 (by omega) (by omega)
  have e : atv I (i : Int) + ((0 : Nat) : Int) = atv I (i : Int) := by omega
  rw [e] at h
  refine Eq.trans h ?_
  rw [allF, rowB, rdl_nat R i hil]

theorem okShape_isP {I : List Int} {R : List (List Int)} (h : okShape I R = true) : isP I = true := by
 unfold okShape at h
 simp only [Bool.and_eq_true] at h
 exact h.1.1.1

theorem specTab_eq {I : List Int} {R : List (List Int)} {k : Nat} (hI : I.length ≤ 2097152) (hR : R.length ≤ 2097152) (hs : sizes R ≤ 2097152) (hk : 16777216 < k) : spec_IsTableau.f k I R = some (tabB I R) := by
 rw [spec_IsTableau.f, specShapeOf_eq hI hR hs hk, Option.bind_some]
 unfold shapeV tabB
 by_cases h : okShape I R = true
 ·rw [if_pos h, h]
  have := specTab_l0 (okShape_isP h) hR (rows_small hs) rfl R.length k 0 (by omega) (by rw [List.drop_zero]; omega)
  simpa using this
 ·rw [if_neg h]
  simp at h
  simp [h]

theorem implTab_eq {I : List Int} {R : List (List Int)} {k : Nat} (hI : I.length ≤ 2097152) (hR : R.length ≤ 2097152) (hs : sizes R ≤ 2097152) (hk : 16777216 < k) : impl_IsTableau.f k I R = some (tabB I R) := by
 rw [impl_IsTableau.f, implShapeOf_eq hI hR hs hk, Option.bind_some]
 unfold shapeV tabB
 by_cases h : okShape I R = true
 ·rw [if_pos h, h]
  have := implTab_l0 (okShape_isP h) hR (rows_small hs) R.length k 0 (by omega) (by rw [List.drop_zero]; omega)
  simpa using this
 ·rw [if_neg h]
  simp at h
  simp [h]

theorem allF_at {f : Nat → Bool} : ∀ (d i : Nat), allF f d i = true → ∀ j, i ≤ j → j < i + d → f j = true
 | 0, i, _, j, h1, h2 => by omega
 | d + 1, i, h, j, h1, h2 => by
  simp only [allF, Bool.and_eq_true] at h
  by_cases e : j = i
  ·subst e; exact h.1
  ·exact allF_at d (i + 1) h.2 j (by omega) (by omega)

theorem allF_of {f : Nat → Bool} : ∀ (d i : Nat), (∀ j, i ≤ j → j < i + d → f j = true) → allF f d i = true
 | 0, _, _ => rfl
 | d + 1, i, h => by
  simp only [allF, Bool.and_eq_true]
  exact ⟨h i (Nat.le_refl _) (by omega), allF_of d (i + 1) fun j h1 h2 => h j (by omega) (by omega)⟩

theorem isPfrom_sum : ∀ (xs : List Int) (p s : Int), isPfrom p s xs = true → s ≤ 9 → s + xs.sum ≤ 9
 | [], _, s, _, h => by simpa using h
 | x :: xs, p, s, h, _ => by
  simp only [isPfrom, Bool.and_eq_true, decide_eq_true_eq] at h
  have := isPfrom_sum xs x (s + x) h.2 (by omega)
  rw [List.sum_cons]
  omega

theorem outF_sum {I : List Int} (h0 : ∀ a, 0 ≤ atv I a) : ∀ (R : List (List Int)) (i : Nat), (sizes R : Int) ≤ (outF I i R).sum
 | [], _ => by simp [outF, sizes]
 | r :: rs, i => by
  have h1 := outF_sum h0 rs (i + 1)
  have h2 := h0 (i : Int)
  rw [outF, List.sum_cons, sizes_cons]
  omega

theorem okShape_out {I : List Int} {R : List (List Int)} (h : okShape I R = true) : isP (outF I 0 R) = true := by
 unfold okShape at h
 simp only [Bool.and_eq_true] at h
 exact h.1.2

theorem tabB_ok {I : List Int} {R : List (List Int)} (h : tabB I R = true) : okShape I R = true := by
 unfold tabB at h
 simp only [Bool.and_eq_true] at h
 exact h.1

theorem okShape_sizes {I : List Int} {R : List (List Int)} (h : okShape I R = true) : sizes R ≤ 9 := by
 have h1 := isPfrom_sum (outF I 0 R) 9 0 (okShape_out h) (by omega)
 have h2 := outF_sum (fun a => (atv_rng (okShape_isP h) a).1) R 0
 omega

theorem okShape_len {I : List Int} {R : List (List Int)} (h : okShape I R = true) : R.length ≤ 9 := by
 have := isP_len (okShape_out h)
 rwa [outF_len] at this

theorem flat_len (R : List (List Int)) : R.flatten.length = sizes R := by rw [List.length_flatten]; rfl

theorem tabB_cell {I : List Int} {R : List (List Int)} (h : tabB I R = true) {i j : Nat} (hi : i < R.length) (hj : j < (R[i]).length) : 1 ≤ (R[i])[j] ∧ (R[i])[j] ≤ 9 := by
 unfold tabB at h
 simp only [Bool.and_eq_true] at h
 have h1 := allF_at _ _ h.2 i (Nat.zero_le _) (by omega)
 unfold rowB at h1
 rw [rdl_nat R i hi] at h1
 have h2 := allF_at _ _ h1 j (Nat.zero_le _) (by omega)
 unfold cellB at h2
 rw [rdl_nat R i hi, rd_nat _ j hj] at h2
 simp only [Bool.and_eq_true, decide_eq_true_eq] at h2
 exact ⟨h2.1.1.1, h2.1.1.2⟩

theorem tabB_flat {I : List Int} {R : List (List Int)} (h : tabB I R = true) : R.flatten.length ≤ 9 ∧ ∀ x ∈ R.flatten, 1 ≤ x ∧ x ≤ 9 := by
 refine ⟨by rw [flat_len]; exact okShape_sizes (tabB_ok h), fun x hx => ?_⟩
 obtain ⟨l, hl, hxl⟩ := List.mem_flatten.1 hx
 obtain ⟨i, hi, rfl⟩ := List.getElem_of_mem hl
 obtain ⟨j, hj, rfl⟩ := List.getElem_of_mem hxl
 exact tabB_cell h hi hj

def bs (l : List UInt8) : ByteArray := ⟨l.toArray⟩

theorem bs_app (a b : List UInt8) : bs a ++ bs b = bs (a ++ b) := by
 apply ByteArray.ext
 simp [bs]

theorem bs_size (a : List UInt8) : (bs a).size = a.length := by simp [bs, ByteArray.size]

theorem bs_of (s : ByteArray) : bs s.data.toList = s := by
 apply ByteArray.ext
 simp [bs]

theorem bs_inj {a b : List UInt8} (h : bs a = bs b) : a = b := by
 have := congrArg ByteArray.data h
 simpa [bs] using this

theorem bs_toList (a : List UInt8) : (bs a).toList = a := by
 rw [Go.Lib.toList_data]
 simp [bs]

theorem nums1 (n : Nat) (h : n < 256) : strOfNums [(n : Int)] = bs [UInt8.ofNat n] := by
 apply ByteArray.ext
 simp [bs, strOfNums]

theorem bt_bs (l : List UInt8) (i : Nat) (h : i < l.length) : bt (bs l) (i : Int) = (l[i].toNat : Int) := by
 have h1 : ((i : Int)).toNat < (bs l).size := by rw [bs_size]; omega
 rw [← bt_at (bs l) i h1]
 simp [bs, ByteArray.getElem_eq_getElem_data]
theorem bs_data (l : List UInt8) : (bs l).data.toList = l := by simp [bs]
theorem rdOf_at (pre : List ByteArray) (x : ByteArray) (r : List ByteArray) : rdOf ByteArray.empty (pre ++ x :: r) (pre.length : Int) = x := by
 simp [rdOf]

def nb (l : List UInt8) : List Int := l.map fun b => (b.toNat : Int)
theorem nb_app (a b : List UInt8) : nb a ++ nb b = nb (a ++ b) := by simp [nb]
theorem nb_len (a : List UInt8) : (nb a).length = a.length := by simp [nb]
theorem bytesOf_bs (a : List UInt8) : bytesOf (bs a) = nb a := by simp [bytesOf, bs, nb]
theorem strOf_nb (a : List UInt8) : strOfNums (nb a) = bs a := by
 apply ByteArray.ext
 simp [bs, strOfNums, nb, Function.comp_def]
def tot : List (List UInt8) → Nat
 | [] => 0
 | x :: r => x.length + tot r
theorem tail_len (sep : List UInt8) : ∀ r : List (List UInt8), (Go.Lib.joinTail sep r).length = r.length * sep.length + tot r
 | [] => by simp [Go.Lib.joinTail, tot]
 | x :: r => by
  have ih := tail_len sep r
  rw [Go.Lib.joinTail] at ih ⊢
  rw [List.map_cons, List.flatten_cons, List.length_append, List.length_append, ih, tot, List.length_cons, Nat.add_mul]
  omega
theorem rdOf_bs (pre : List (List UInt8)) (x : List UInt8) (r : List (List UInt8)) : rdOf ByteArray.empty ((pre ++ x :: r).map bs) (pre.length : Int) = bs x := by
 have := rdOf_at (pre.map bs) (bs x) (r.map bs)
 simpa using this
theorem join_l0 (sep : List UInt8) : ∀ (r pre : List (List UInt8)) (acc : List UInt8) (k : Nat), pre ≠ [] → pre.length + r.length ≤ 1099511627776 → acc.length + (Go.Lib.joinTail sep r).length < 140737488355328 → r.length < k →
  spec_Join.l0 k ((pre ++ r).map bs) (bs sep) (nb acc) (pre.length : Int) = some (bs (acc ++ Go.Lib.joinTail sep r))
 | [], pre, acc, k, hp, hl, hb, hk => by
  obtain ⟨k, rfl⟩ : ∃ j, k = j + 1 := ⟨k - 1, by omega⟩
  rw [spec_Join.l0, if_neg (by simp), strOf_nb]
  simp [Go.Lib.joinTail]
 | x :: r, pre, acc, k, hp, hl, hb, hk => by
  obtain ⟨k, rfl⟩ : ∃ j, k = j + 1 := ⟨k - 1, by omega⟩
  have hpos := List.length_pos_iff.mpr hp
  have et : Go.Lib.joinTail sep (x :: r) = sep ++ x ++ Go.Lib.joinTail sep r := by simp [Go.Lib.joinTail]
  rw [et] at hb ⊢
  rw [List.length_cons] at hl hk
  simp only [List.length_append] at hb
  have ih := join_l0 sep r (pre ++ [x]) (acc ++ sep ++ x) k (by simp) (by simp; omega) (by simp only [List.length_append]; omega) (by omega)
  rw [show ((pre ++ [x]).length : Int) = (pre.length : Int) + 1 by simp, show (pre ++ [x]) ++ r = pre ++ x :: r by simp] at ih
  rw [spec_Join.l0, if_pos (by simp; omega), if_pos (by omega), bs_size, nb_len, if_pos (by omega), Option.bind_some, if_pos (by omega), rdOf_bs, bytesOf_bs, bytesOf_bs, bs_size, nb_app, nb_len, if_pos (by rw [List.length_append]; omega), nb_app,
   w64 (by omega) (by omega), ih]
  simp
theorem specJoin {xs : List (List UInt8)} {sep : List UInt8} {k : Nat} (hl : xs.length ≤ 1099511627776) (hb : xs.length * sep.length + tot xs < 140737488355328) (hk : xs.length < k) :
  spec_Join.f k (xs.map bs) (bs sep) = some (bs (Go.Lib.join xs sep)) := by
 obtain ⟨k, rfl⟩ : ∃ j, k = j + 1 := ⟨k - 1, by omega⟩
 rw [spec_Join.f]
 cases xs with
 | nil =>
  rw [spec_Join.l0, if_neg (by simp)]
  rfl
 | cons x r =>
  have ht := tail_len sep r
  rw [List.length_cons, tot, Nat.add_mul] at hb
  rw [List.length_cons] at hl hk
  have ih := join_l0 sep r [x] x k (by simp) (by simp; omega) (by omega) (by omega)
  have h0 := rdOf_bs [] x r
  rw [show (([] : List (List UInt8)).length : Int) = 0 from rfl, List.nil_append] at h0
  rw [spec_Join.l0, if_pos (by simp only [List.length_map, List.length_cons]; omega), if_neg (by omega), if_pos (by omega), h0, bs_size, if_pos (by simp only [List.length_nil]; omega), bytesOf_bs, List.nil_append, w64 (by omega) (by omega), Go.Lib.join_cons]
  exact ih

open Go.Lib (decDigits itoa nDigits)
theorem fmt_step {n : Int} {m k : Nat} {b : Bool} {acc : List UInt8} (hn : n.natAbs = m) (h0 : n ≠ 0) (hm : m ≤ 9223372036854775808) (ha : acc.length ≤ 1000) :
  ∃ n' : Int, n'.natAbs = m / 10 ∧ spec_FormatInt.l0 (k + 1) n b (bs acc) = spec_FormatInt.l0 k n' b (bs (UInt8.ofNat (48 + m % 10) :: acc)) := by
 have key : ∀ z : Int, z = ((48 + m % 10 : Nat) : Int) → (if (strOfNums [z]).size + (bs acc).size ≤ 9223372036854775807 then spec_FormatInt.l0 k (wrap64 (Int.tdiv n 10)) b (strOfNums [z] ++ bs acc) else none) = spec_FormatInt.l0 k (wrap64 (Int.tdiv n 10)) b (bs (UInt8.ofNat (48 + m % 10) :: acc)) := by
  intro z hz
  subst hz
  rw [nums1 _ (by omega), bs_size, bs_size, if_pos (by simp; omega), bs_app]
  rfl
 rcases Int.natAbs_eq n with e | e
 ·rw [hn] at e
  subst e
  have e1 : Int.tmod (m : Int) 10 = ((m % 10 : Nat) : Int) := by rw [Int.tmod_eq_emod_of_nonneg (by omega)]; omega
  have e2 : Int.tdiv (m : Int) 10 = ((m / 10 : Nat) : Int) := by rw [Int.tdiv_eq_ediv_of_nonneg (by omega)]; omega
  refine ⟨((m / 10 : Nat) : Int), by omega, ?_⟩
  rw [spec_FormatInt.l0, if_neg h0, e1, if_neg (by omega), w64 (x := 48 + ((m % 10 : Nat) : Int)) (by omega) (by omega), Option.bind_some, key _ (by omega), e2, w64 (by omega) (by omega)]
 ·rw [hn] at e
  subst e
  have e1 : Int.tmod (-(m : Int)) 10 = -((m % 10 : Nat) : Int) := by rw [Int.neg_tmod, Int.tmod_eq_emod_of_nonneg (by omega)]; omega
  have e2 : Int.tdiv (-(m : Int)) 10 = -((m / 10 : Nat) : Int) := by rw [Int.neg_tdiv, Int.tdiv_eq_ediv_of_nonneg (by omega)]; omega
  refine ⟨-((m / 10 : Nat) : Int), by omega, ?_⟩
  rw [spec_FormatInt.l0, if_neg h0, e1]
  by_cases hd : -((m % 10 : Nat) : Int) < 0
  ·rw [if_pos hd, w64 (x := - -((m % 10 : Nat) : Int)) (by omega) (by omega), w64 (x := 48 + - -((m % 10 : Nat) : Int)) (by omega) (by omega), Option.bind_some, key _ (by omega), e2, w64 (by omega) (by omega)]
  ·rw [if_neg hd, w64 (x := 48 + -((m % 10 : Nat) : Int)) (by omega) (by omega), Option.bind_some, key _ (by omega), e2, w64 (by omega) (by omega)]

theorem fmt_l0 : ∀ (m k : Nat) (n : Int) (b : Bool) (acc : List UInt8), n.natAbs = m → n ≠ 0 → m ≤ 9223372036854775808 → acc.length + nDigits m ≤ 1000 → nDigits m < k →
  spec_FormatInt.l0 k n b (bs acc) = some (bs ((if b then [45] else []) ++ decDigits m ++ acc)) := by
 intro m
 induction m using Nat.strongRecOn with
 | _ m ih =>
  intro k n b acc hn h0 hm ha hk
  have hp := Go.Lib.nDigits_pos m
  obtain ⟨k, rfl⟩ : ∃ j, k = j + 2 := ⟨k - 2, by omega⟩
  obtain ⟨n', hn', e⟩ := fmt_step (k := k + 1) (b := b) (acc := acc) hn h0 hm (by omega)
  rw [e]
  by_cases h10 : m < 10
  ·have hz : n' = 0 := by omega
   subst hz
   rw [spec_FormatInt.l0, if_pos rfl, decDigits, dif_pos h10, Nat.mod_eq_of_lt h10]
   cases b with
   | false => rw [if_neg (by decide)]; rfl
   | true =>
    rw [if_pos rfl, bs_size, if_pos (by simp; omega)]
    exact congrArg some (bs_app [45] _)
  ·have hd := Go.Lib.nDigits_big h10
   rw [ih (m / 10) (by omega) (k + 1) n' b _ hn' (by omega) (by omega) (by rw [List.length_cons]; omega) (by omega)]
   conv => rhs; rw [decDigits, dif_neg h10]
   simp

theorem specFmt_eq {n : Int} {k : Nat} (h0 : -9223372036854775808 ≤ n) (h1 : n ≤ 9223372036854775807) (hk : 30 < k) : spec_FormatInt.f k n = some (bs (itoa n)) := by
 rw [spec_FormatInt.f]
 by_cases hz : n = 0
 ·subst hz
  rw [if_pos rfl]
  decide +kernel
 ·have hd := Go.Lib.nDigits_le20 n.natAbs (by omega)
  rw [if_neg hz]
  have := fmt_l0 n.natAbs k n (decide (n < 0)) [] rfl hz (by omega) (by simp; omega) (by omega)
  have e : (bs [] : ByteArray) = ⟨#[]⟩ := rfl
  rw [← e, this]
  unfold itoa
  by_cases hn : n < 0
  ·rw [if_pos hn, decide_eq_true hn, if_pos rfl]; simp
  ·rw [if_neg hn, decide_eq_false hn, if_neg (by decide), show n.natAbs = n.toNat by omega]; simp

theorem implFmt_eq {n : Int} (h0 : -9223372036854775808 ≤ n) (h1 : n ≤ 9223372036854775807) : impl_FormatInt.f n = some (bs (itoa n)) := by
 rw [impl_FormatInt.f, strconv_Itoa.f, if_pos h0, if_pos h1]
 rfl

def lin (I : List Int) (R : List (List Int)) (i : Nat) : List UInt8 := List.replicate (atv I (i : Int)).toNat 46 ++ (rd_L1 R i).flatMap itoa
def lins (I : List Int) (R : List (List Int)) : Nat → Nat → List (List UInt8)
 | _, 0 => []
 | i, m + 1 => lin I R i :: lins I R (i + 1) m
def ttext (I : List Int) (R : List (List Int)) : ByteArray := if tabB I R = true then (if R.length = 0 then ⟨#[45]⟩ else bs (Go.Lib.join (lins I R 0 R.length) [47])) else ⟨#[]⟩
theorem lins_len (I : List Int) (R : List (List Int)) : ∀ m i, (lins I R i m).length = m
 | 0, i => rfl
 | m + 1, i => by rw [lins, List.length_cons, lins_len I R m]
theorem flat_itoa_len : ∀ l : List Int, (∀ x ∈ l, 1 ≤ x ∧ x ≤ 9) → (l.flatMap itoa).length ≤ 21 * l.length
 | [], _ => by simp
 | x :: l, h => by
  have hx := h x (List.mem_cons_self ..)
  have h1 := Go.Lib.itoa_length_le x (by omega) (by omega)
  have h2 := flat_itoa_len l (fun y hy => h y (List.mem_cons_of_mem _ hy))
  rw [List.flatMap_cons, List.length_append, List.length_cons]
  omega
theorem tabB_isP {I : List Int} {R : List (List Int)} (h : tabB I R = true) : isP I = true := okShape_isP (tabB_ok h)
theorem tabB_row {I : List Int} {R : List (List Int)} (h : tabB I R = true) {i : Nat} (hi : i < R.length) : (R[i]).length ≤ 9 ∧ ∀ x ∈ R[i], 1 ≤ x ∧ x ≤ 9 := by
 refine ⟨Nat.le_trans (sizes_at hi) (okShape_sizes (tabB_ok h)), fun x hx => ?_⟩
 obtain ⟨j, hj, rfl⟩ := List.mem_iff_getElem.mp hx
 exact tabB_cell h hi hj
theorem lin_eq {I : List Int} {R : List (List Int)} {i : Nat} (hi : i < R.length) : lin I R i = List.replicate (atv I (i : Int)).toNat 46 ++ (R[i]).flatMap itoa := by
 rw [lin, rdl_nat R i hi]
theorem lin_len {I : List Int} {R : List (List Int)} (h : tabB I R = true) {i : Nat} (hi : i < R.length) : (lin I R i).length ≤ 200 := by
 have h1 := atv_rng (tabB_isP h) (i : Int)
 obtain ⟨h2, h3⟩ := tabB_row h hi
 have h4 := flat_itoa_len _ h3
 rw [lin_eq hi, List.length_append, List.length_replicate]
 omega
theorem tot_le : ∀ l : List (List UInt8), (∀ x ∈ l, x.length ≤ 200) → tot l ≤ 200 * l.length
 | [], _ => by simp [tot]
 | x :: l, h => by
  have h1 := h x (List.mem_cons_self ..)
  have h2 := tot_le l (fun y hy => h y (List.mem_cons_of_mem _ hy))
  rw [tot, List.length_cons]
  omega
theorem tot_app : ∀ a b : List (List UInt8), tot (a ++ b) = tot a + tot b
 | [], b => by simp [tot]
 | x :: a, b => by
  rw [List.cons_append, tot, tot, tot_app a b]
  omega
theorem lins_mem {I : List Int} {R : List (List Int)} (h : tabB I R = true) : ∀ m i, i + m ≤ R.length → ∀ x ∈ lins I R i m, x.length ≤ 200
 | 0, i, _, x, hx => by cases hx
 | m + 1, i, hi, x, hx => by
  rcases List.mem_cons.mp hx with rfl | hx
  ·exact lin_len h (by omega)
  ·exact lins_mem h m (i + 1) (by omega) x hx
theorem join_size {l : List (List UInt8)} {sep : List UInt8} (h : ∀ x ∈ l, x.length ≤ 200) (hl : l.length ≤ 100) (hs : sep.length ≤ 1) : l.length * sep.length + tot l ≤ 100000 := by
 have h1 := tot_le l h
 have h2 : l.length * sep.length ≤ 100 * 1 := Nat.mul_le_mul hl hs
 omega
theorem joinLen (l : List (List UInt8)) (sep : List UInt8) : (Go.Lib.join l sep).length ≤ l.length * sep.length + tot l := by
 cases l with
 | nil => simp [Go.Lib.join_nil]
 | cons x r =>
  have := tail_len sep r
  rw [Go.Lib.join_cons, List.length_append, List.length_cons, tot, Nat.add_mul]
  omega
theorem map_data (xs : List (List UInt8)) : (xs.map bs).map (·.data.toList) = xs := by
 rw [List.map_map]
 conv => rhs; rw [← List.map_id xs]
 exact List.map_congr_left fun a _ => by simp [bs]
theorem implJoin {l : List (List UInt8)} {sep : List UInt8} (h : l.length * sep.length + tot l ≤ 100000) (hl : l.length ≤ 1000) : impl_Join.f (l.map bs) (bs sep) = some (bs (Go.Lib.join l sep)) := by
 have h2 := joinLen l sep
 rw [impl_Join.f, strings_Join.f, if_pos (by simp; omega), map_data, show (bs sep).data.toList = sep by simp [bs], if_pos (by omega), Option.bind_some]
 rfl

theorem specTT_l2 {I : List Int} {R : List (List Int)} {i : Nat} (hi : i < R.length) (hR : R.length ≤ 9) {x3 : List ByteArray} (h3 : x3.length ≤ 100) : ∀ (rest pre : List Int) (acc : List UInt8) (k : Nat), R[i] = pre ++ rest → (pre ++ rest).length ≤ 9 → (∀ x ∈ rest, 1 ≤ x ∧ x ≤ 9) → acc.length + 30 * rest.length ≤ 1000 → 40 < k →
  spec_TableauText.l2 (k + rest.length + 1) x3 (i : Int) (bs acc) (pre.length : Int) I R = spec_TableauText.l0 k (x3 ++ [bs (acc ++ rest.flatMap itoa)]) ((i + 1 : Nat) : Int) I R
 | [], pre, acc, k, e, hl, hx, ha, hk => by
  rw [List.length_nil, Nat.add_zero, spec_TableauText.l2, if_pos (by omega), if_pos (by omega), rdl_nat R i hi, e, if_neg (by simp), if_pos (by omega), w64 (by omega) (by omega)]
  simp
 | x :: rest, pre, acc, k, e, hl, hx, ha, hk => by
  have hxx := hx x (List.mem_cons_self ..)
  have hlx := Go.Lib.itoa_length_le x (by omega) (by omega)
  have hrd : rd (pre ++ x :: rest) (pre.length : Int) = x := by
   rw [rd_nat _ _ (by simp)]
   simp
  have ih := specTT_l2 (I := I) (x3 := x3) hi hR h3 rest (pre ++ [x]) (acc ++ itoa x) k (by rw [e]; simp) (by simpa using hl) (fun y hy => hx y (List.mem_cons_of_mem _ hy)) (by rw [List.length_append]; rw [List.length_cons] at ha; omega) hk
  simp only [List.length_append, List.length_cons] at hl
  rw [show k + (x :: rest).length + 1 = (k + rest.length + 1) + 1 by rw [List.length_cons]; omega, spec_TableauText.l2, if_pos (by omega), if_pos (by omega), rdl_nat R i hi, e, if_pos (by simp; omega), if_pos (by omega), hrd, specFmt_eq (by omega) (by omega) (by omega), Option.bind_some, bs_size, bs_size,
   if_pos (by rw [List.length_cons] at ha; omega), bs_app, w64 (by omega) (by omega)]
  rw [show ((pre ++ [x]).length : Int) = (pre.length : Int) + 1 by simp] at ih
  rw [ih]
  simp
theorem specTT_l1 {I : List Int} {R : List (List Int)} {i : Nat} {x3 : List ByteArray} : ∀ (d x6 : Nat) (acc : List UInt8) (k : Nat), atv I (i : Int) = ((x6 + d : Nat) : Int) → x6 + d ≤ 100 → acc.length + d ≤ 1000 →
  spec_TableauText.l1 (k + d + 1) x3 (i : Int) (bs acc) (x6 : Int) I R = spec_TableauText.l2 k x3 (i : Int) (bs (acc ++ List.replicate d 46)) 0 I R
 | 0, x6, acc, k, e, hx, ha => by
  rw [Nat.add_zero, spec_TableauText.l1, l2At_eq, Option.bind_some, e, if_neg (by omega)]
  simp
 | d + 1, x6, acc, k, e, hx, ha => by
  have ih := specTT_l1 (I := I) (R := R) (i := i) (x3 := x3) d (x6 + 1) (acc ++ [46]) k (by rw [e]; omega) (by omega) (by rw [List.length_append]; simp only [List.length_cons, List.length_nil]; omega)
  rw [show k + (d + 1) + 1 = (k + d + 1) + 1 by omega, spec_TableauText.l1, l2At_eq, Option.bind_some, e, if_pos (by omega), bs_size, if_pos (by omega), show (⟨#[46]⟩ : ByteArray) = bs [46] from rfl, bs_app, w64 (by omega) (by omega)]
  rw [show ((x6 + 1 : Nat) : Int) = (x6 : Int) + 1 by omega] at ih
  rw [ih, List.append_assoc]
  rfl
theorem specTT_l0 {I : List Int} {R : List (List Int)} (h : tabB I R = true) : ∀ (m i : Nat) (xs : List (List UInt8)) (k : Nat), i + m = R.length → xs.length = i → (∀ x ∈ xs, x.length ≤ 200) →
  spec_TableauText.l0 (k + 40 * m + 80) (xs.map bs) (i : Int) I R = some (bs (Go.Lib.join (xs ++ lins I R i m) [47]))
 | 0, i, xs, k, hi, hx, hm => by
  have hR := okShape_len (tabB_ok h)
  have hj := join_size (sep := [47]) hm (by omega) (by simp)
  rw [show k + 40 * 0 + 80 = (k + 79) + 1 by omega, spec_TableauText.l0, if_neg (by omega), show (⟨#[47]⟩ : ByteArray) = bs [47] from rfl, specJoin (by omega) (by omega) (by omega), Option.bind_some, lins, List.append_nil]
 | m + 1, i, xs, k, hi, hx, hm => by
  have hR := okShape_len (tabB_ok h)
  have hiR : i < R.length := by omega
  have ha := atv_rng (tabB_isP h) (i : Int)
  obtain ⟨r1, r2⟩ := tabB_row h hiR
  obtain ⟨d, hd⟩ : ∃ d : Nat, atv I (i : Int) = (d : Int) := ⟨(atv I (i : Int)).toNat, by omega⟩
  have e1 := specTT_l1 (I := I) (R := R) (i := i) (x3 := xs.map bs) d 0 [] (k + 40 * m + 80 + (R[i]).length + 1 + (38 - (R[i]).length - d - 1)) (by rw [hd]; simp) (by omega) (by simp; omega)
  have e2 := specTT_l2 (I := I) hiR hR (x3 := xs.map bs) (by simp; omega) (R[i]) [] (List.replicate d 46) (k + 40 * m + 80 + (38 - (R[i]).length - d - 1)) rfl r1 r2 (by simp; omega) (by omega)
  have ih := specTT_l0 h m (i + 1) (xs ++ [lin I R i]) (k + (38 - (R[i]).length - d - 1)) (by omega) (by simp; omega) (fun x hxm => by
   rcases List.mem_append.mp hxm with hxm | hxm
   ·exact hm x hxm
   ·obtain rfl := List.mem_singleton.mp hxm
    exact lin_len h hiR)
  rw [show k + 40 * (m + 1) + 80 = (k + 40 * m + 80 + (R[i]).length + 1 + (38 - (R[i]).length - d - 1) + d + 1) + 1 by omega, spec_TableauText.l0, if_pos (by omega)]
  refine Eq.trans e1 ?_
  rw [List.nil_append, show k + 40 * m + 80 + (R[i]).length + 1 + (38 - (R[i]).length - d - 1) = (k + 40 * m + 80 + (38 - (R[i]).length - d - 1)) + (R[i]).length + 1 by omega]
  refine Eq.trans e2 ?_
  have el : List.replicate d 46 ++ (R[i]).flatMap itoa = lin I R i := by rw [lin_eq hiR, hd]; rfl
  rw [el, show (xs.map bs) ++ [bs (lin I R i)] = (xs ++ [lin I R i]).map bs by simp, show k + 40 * m + 80 + (38 - (R[i]).length - d - 1) = (k + (38 - (R[i]).length - d - 1)) + 40 * m + 80 by omega, ih, lins]
  simp
theorem specTT_eq {I : List Int} {R : List (List Int)} {k : Nat} (hI : I.length ≤ 2097152) (hR : R.length ≤ 2097152) (hs : sizes R ≤ 2097152) (hk : 16777216 < k) : spec_TableauText.f k I R = some (ttext I R) := by
 rw [spec_TableauText.f, specTab_eq hI hR hs hk, Option.bind_some, ttext]
 cases h : tabB I R with
 | false => rw [if_neg (by decide), if_neg (by decide)]
 | true =>
  have h9 := okShape_len (tabB_ok h)
  rw [if_pos rfl, if_pos rfl]
  by_cases h0 : R.length = 0
  ·rw [if_pos (by omega), if_pos h0]
  ·rw [if_neg (by omega), if_neg h0]
   have := specTT_l0 h R.length 0 [] (k - 40 * R.length - 80) (by omega) rfl (fun x hx => by cases hx)
   rw [show k - 40 * R.length - 80 + 40 * R.length + 80 = k by omega] at this
   exact this

theorem joined_l0 {sep : ByteArray} : ∀ (rest pre : List Int) (k : Nat), (∀ x ∈ rest, 1 ≤ x ∧ x ≤ 9) → pre.length + rest.length ≤ 1000 → rest.length < k →
  impl_joined.l0 k sep (pre.map fun x => bs (itoa x)) (pre ++ rest) ((pre ++ rest).length : Int) (pre.length : Int) = impl_Join.f ((pre ++ rest).map fun x => bs (itoa x)) sep
 | [], pre, k, hx, hl, hk => by
  obtain ⟨k, rfl⟩ : ∃ j, k = j + 1 := ⟨k - 1, by omega⟩
  rw [impl_joined.l0, if_neg (by simp), List.append_nil]
  cases impl_Join.f (List.map (fun x => bs (itoa x)) pre) sep <;> rfl
 | x :: rest, pre, k, hx, hl, hk => by
  obtain ⟨k, rfl⟩ : ∃ j, k = j + 1 := ⟨k - 1, by omega⟩
  have hxx := hx x (List.mem_cons_self ..)
  rw [List.length_cons] at hl hk
  have hrd : rd (pre ++ x :: rest) (pre.length : Int) = x := by
   rw [rd_nat _ _ (by simp)]
   simp
  have ih := joined_l0 (sep := sep) rest (pre ++ [x]) k (fun y hy => hx y (List.mem_cons_of_mem _ hy)) (by simp; omega) (by omega)
  rw [impl_joined.l0, if_pos (by simp; omega), if_pos (by omega), if_pos (by simp; omega), hrd, implFmt_eq (by omega) (by omega), Option.bind_some, if_pos (by simp; omega), w64 (by omega) (by omega)]
  rw [show ((pre ++ [x]).length : Int) = (pre.length : Int) + 1 by simp, show (pre ++ [x]) ++ rest = pre ++ x :: rest by simp, List.map_append] at ih
  exact ih
theorem tot_itoa : ∀ l : List Int, tot (l.map itoa) = (l.flatMap itoa).length
 | [] => rfl
 | x :: l => by rw [List.map_cons, tot, tot_itoa l, List.flatMap_cons, List.length_append]
theorem join_flat : ∀ l : List (List UInt8), Go.Lib.join l [] = l.flatten
 | [] => rfl
 | x :: r => by
  rw [Go.Lib.join_cons, Go.Lib.joinTail]
  simp
theorem joined_eq {l : List Int} {k : Nat} (hx : ∀ x ∈ l, 1 ≤ x ∧ x ≤ 9) (hl : l.length ≤ 9) (hk : 9 < k) : impl_joined.f k l ⟨#[]⟩ = some (bs (l.flatMap itoa)) := by
 have h1 := flat_itoa_len l hx
 have e := joined_l0 (sep := ⟨#[]⟩) l [] k hx (by simp; omega) (by omega)
 rw [impl_joined.f]
 refine Eq.trans e ?_
 have e2 : ([] ++ l).map (fun x => bs (itoa x)) = (l.map itoa).map bs := by simp
 rw [e2, show (⟨#[]⟩ : ByteArray) = bs [] from rfl, implJoin (by rw [tot_itoa, List.length_nil, Nat.mul_zero]; omega) (by rw [List.length_map]; omega), join_flat, List.flatMap_def]
theorem repeat_one (n : Nat) : Go.Lib.repeatL [46] n = List.replicate n 46 := by
 induction n with
 | zero => rfl
 | succ n ih => rw [Go.Lib.repeatL, ih, List.replicate_succ]; rfl
theorem implTT_l0 {I : List Int} {R : List (List Int)} (h : tabB I R = true) : ∀ (m i : Nat) (xs : List (List UInt8)) (k : Nat), i + m = R.length → xs.length = i → (∀ x ∈ xs, x.length ≤ 200) → m + 20 < k →
  impl_TableauText.l0 k (xs.map bs) R (R.length : Int) (i : Int) I R = some (bs (Go.Lib.join (xs ++ lins I R i m) [47]))
 | 0, i, xs, k, hi, hx, hm, hk => by
  obtain ⟨k, rfl⟩ : ∃ j, k = j + 1 := ⟨k - 1, by omega⟩
  have hR := okShape_len (tabB_ok h)
  have hj := join_size (sep := [47]) hm (by omega) (by simp)
  rw [impl_TableauText.l0, if_neg (by omega), show (⟨#[47]⟩ : ByteArray) = bs [47] from rfl, implJoin hj (by omega), Option.bind_some, lins, List.append_nil]
 | m + 1, i, xs, k, hi, hx, hm, hk => by
  obtain ⟨k, rfl⟩ : ∃ j, k = j + 1 := ⟨k - 1, by omega⟩
  have hR := okShape_len (tabB_ok h)
  have hiR : i < R.length := by omega
  have ha := atv_rng (tabB_isP h) (i : Int)
  have hIl := isP_len (tabB_isP h)
  obtain ⟨r1, r2⟩ := tabB_row h hiR
  obtain ⟨d, hd⟩ : ∃ d : Nat, atv I (i : Int) = (d : Int) := ⟨(atv I (i : Int)).toNat, by omega⟩
  have hf := flat_itoa_len _ r2
  have el : List.replicate d 46 ++ (R[i]).flatMap itoa = lin I R i := by rw [lin_eq hiR, hd]; rfl
  have hrep : strings_Repeat.f (⟨#[46]⟩ : ByteArray) (d : Int) = some (bs (List.replicate d 46)) := by
   rw [strings_Repeat.f, if_pos (by omega), if_pos (by omega), if_pos (by show 1 * d ≤ _; omega)]
   show some (bs (Go.Lib.repeatL [46] d)) = _
   rw [repeat_one]
  have ih := implTT_l0 h m (i + 1) (xs ++ [lin I R i]) k (by omega) (by simp; omega) (fun x hxm => by
   rcases List.mem_append.mp hxm with hxm | hxm
   ·exact hm x hxm
   ·obtain rfl := List.mem_singleton.mp hxm
    exact lin_len h hiR) (by omega)
  rw [impl_TableauText.l0, if_pos (by omega), if_pos (by omega), if_pos (by omega), at_eq (by omega), hd, Option.bind_some, hrep, Option.bind_some, rdl_nat R i hiR, joined_eq r2 r1 (by omega), Option.bind_some, bs_size, bs_size, if_pos (by rw [List.length_replicate]; omega),
   if_pos (by simp; omega), bs_app, el, w64 (by omega) (by omega)]
  rw [show ((i + 1 : Nat) : Int) = (i : Int) + 1 by omega] at ih
  rw [show (xs.map bs) ++ [bs (lin I R i)] = (xs ++ [lin I R i]).map bs by simp, ih, lins]
  simp
theorem implTT_eq {I : List Int} {R : List (List Int)} {k : Nat} (hI : I.length ≤ 2097152) (hR : R.length ≤ 2097152) (hs : sizes R ≤ 2097152) (hk : 16777216 < k) : impl_TableauText.f k I R = some (ttext I R) := by
 rw [impl_TableauText.f, implTab_eq hI hR hs hk, Option.bind_some, ttext]
 cases h : tabB I R with
 | false => rw [if_neg (by decide), if_neg (by decide)]
 | true =>
  have h9 := okShape_len (tabB_ok h)
  rw [if_pos rfl, if_pos rfl]
  by_cases h0 : R.length = 0
  ·rw [if_pos (by omega), if_pos h0]
  ·rw [if_neg (by omega), if_neg h0]
   exact implTT_l0 h R.length 0 [] k (by omega) rfl (fun x hx => by cases hx) (by omega)

def spAcc (c : UInt8) : List UInt8 → List UInt8 → List (List UInt8)
 | cur, [] => [cur]
 | cur, x :: r => if x = c then cur :: spAcc c [] r else spAcc c (cur ++ [x]) r
theorem sp_none (c : UInt8) : ∀ (r cur : List UInt8), c ∉ r → spAcc c cur r = [cur ++ r]
 | [], cur, _ => by rw [List.append_nil]; rfl
 | x :: r, cur, h => by
  have h1 : x ≠ c := fun e => h (by rw [e]; exact List.mem_cons_self ..)
  rw [spAcc, if_neg h1, sp_none c r _ (fun m => h (List.mem_cons_of_mem _ m))]
  simp
theorem sp_some (c : UInt8) (b : List UInt8) : ∀ (a cur : List UInt8), c ∉ a → spAcc c cur (a ++ c :: b) = (cur ++ a) :: spAcc c [] b
 | [], cur, _ => by rw [List.append_nil]; show spAcc c cur (c :: b) = _; rw [spAcc, if_pos rfl]
 | x :: a, cur, h => by
  have h1 : x ≠ c := fun e => h (by rw [e]; exact List.mem_cons_self ..)
  show spAcc c cur (x :: (a ++ c :: b)) = _
  rw [spAcc, if_neg h1, sp_some c b a _ (fun m => h (List.mem_cons_of_mem _ m))]
  simp
theorem ib_none (c : UInt8) : ∀ l : List UInt8, c ∉ l → Go.Lib.indexByte l c = -1
 | [], _ => rfl
 | x :: l, h => by
  have h1 : (x == c) = false := beq_eq_false_iff_ne.mpr fun e => h (by rw [e]; exact List.mem_cons_self ..)
  rw [Go.Lib.indexByte, h1, ib_none c l (fun m => h (List.mem_cons_of_mem _ m))]
  rfl
theorem ib_some (c : UInt8) (b : List UInt8) : ∀ a : List UInt8, c ∉ a → Go.Lib.indexByte (a ++ c :: b) c = (a.length : Int)
 | [], _ => by show Go.Lib.indexByte (c :: b) c = _; rw [Go.Lib.indexByte, beq_self_eq_true]; rfl
 | x :: a, h => by
  have h1 : (x == c) = false := beq_eq_false_iff_ne.mpr fun e => h (by rw [e]; exact List.mem_cons_self ..)
  have ih := ib_some c b a (fun m => h (List.mem_cons_of_mem _ m))
  have h2 : ((a.length : Int) == -1) = false := beq_eq_false_iff_ne.mpr (by omega)
  show Go.Lib.indexByte (x :: (a ++ c :: b)) c = _
  rw [Go.Lib.indexByte, h1, ih, h2]
  simp
theorem split_one (c : UInt8) : ∀ (n : Nat) (s : List UInt8), s.length ≤ n → Go.Lib.splitK [c] 0 (Go.Lib.count s [c]) s = spAcc c [] s := by
 intro n
 induction n with
 | zero =>
  intro s hs
  obtain rfl := List.eq_nil_of_length_eq_zero (Nat.le_zero.mp hs)
  have hi : Go.Lib.index [] [c] = -1 := by rw [Go.Lib.index_one]; rfl
  rw [Go.Lib.count_miss hi]
  rfl
 | succ n ih =>
  intro s hs
  by_cases h : c ∈ s
  ·obtain ⟨a, b, rfl, ha⟩ := List.eq_append_cons_of_mem h
   have hi : Go.Lib.index (a ++ c :: b) [c] = (a.length : Int) := by rw [Go.Lib.index_one, ib_some c b a ha]
   have hdrop : (a ++ c :: b).drop (a.length + 1) = b := by simp
   have e1 : Go.Lib.count (a ++ c :: b) [c] = 1 + Go.Lib.count b [c] := by
    have := Go.Lib.count_hit (s := a ++ c :: b) (sub := [c]) (i := a.length) (by simp) hi
    rw [this, show [c].length = 1 from rfl, hdrop]
   have hm : ¬ ((Go.Lib.index (a ++ c :: b) [c] == -1) = true) := fun e => by have := beq_iff_eq.mp e; omega
   rw [e1, Nat.add_comm, Go.Lib.splitK, if_neg hm, hi, show [c].length = 1 from rfl, show ((a.length : Int)).toNat = a.length from rfl, hdrop, ih b (by simp at hs; omega), sp_some c b a [] ha]
   simp
  ·have hi : Go.Lib.index s [c] = -1 := by rw [Go.Lib.index_one, ib_none c s h]
   rw [Go.Lib.count_miss hi, sp_none c s [] h]
   rfl
theorem bs_eta (x : List ByteArray) : (x.map (·.data.toList)).map bs = x := by
 rw [List.map_map]
 conv => rhs; rw [← List.map_id x]
 exact List.map_congr_left fun a _ => bs_of a
theorem splitB_one (c : UInt8) (l : List UInt8) : Go.Lib.splitB (bs [c]) 0 (Go.Lib.countB (bs l) (bs [c])) (bs l) = (spAcc c [] l).map bs := by
 rw [← bs_eta (Go.Lib.splitB _ _ _ _), Go.Lib.splitB_data]
 have e : Go.Lib.countB (bs l) (bs [c]) = Go.Lib.count l [c] := by
  show Go.Lib.count (bs l).data.toList (bs [c]).data.toList = _
  simp [bs]
 rw [e]
 have e2 : (bs [c]).data.toList = [c] := by simp [bs]
 have e3 : (bs l).data.toList = l := by simp [bs]
 rw [e2, e3, split_one c l.length l (Nat.le_refl _)]
theorem sp_len (c : UInt8) : ∀ (r cur : List UInt8), (spAcc c cur r).length ≤ r.length + 1
 | [], cur => by simp [spAcc]
 | x :: r, cur => by
  rw [spAcc]
  split
  ·have := sp_len c r []
   simp only [List.length_cons]
   omega
  ·have := sp_len c r (cur ++ [x])
   simp only [List.length_cons]
   omega
theorem implSplit {l : List UInt8} {c : UInt8} (hl : l.length ≤ 1048576) : strings_Split.f (bs l) (bs [c]) = some ((spAcc c [] l).map bs) := by
 rw [strings_Split.f, bs_size, bs_size, if_pos (by omega), if_pos (by simp), splitB_one]
theorem bs_extract (pre cur r : List UInt8) : (bs (pre ++ cur ++ r)).extract pre.length (pre.length + cur.length) = bs cur := by
 apply ByteArray.ext
 rw [ByteArray.data_extract]
 simp [bs]
theorem specSplit_l0 (c : UInt8) : ∀ (r pre cur : List UInt8) (out : List ByteArray) (k : Nat), (pre ++ cur ++ r).length ≤ 1048576 → out.length + r.length ≤ 2000000 → r.length + 2 ≤ k →
  spec_SplitByte.l0 k (bs (pre ++ cur ++ r)) (c.toNat : Int) out (pre.length : Int) ((pre.length + cur.length : Nat) : Int) = some (out ++ (spAcc c cur r).map bs)
 | [], pre, cur, out, k, hl, ho, hk => by
  obtain ⟨k, rfl⟩ : ∃ j, k = j + 2 := ⟨k - 2, by omega⟩
  have hlen : (pre ++ cur ++ ([] : List UInt8)).length = pre.length + cur.length := by simp
  rw [hlen] at hl
  rw [spec_SplitByte.l0, bs_size, hlen, if_pos (by omega), if_pos rfl, if_pos (by omega), if_pos (by omega), if_pos (by simp only [List.length_nil] at ho; omega), w64 (x := ((pre.length + cur.length : Nat) : Int) + 1) (by omega) (by omega),
   spec_SplitByte.l0, bs_size, hlen, if_neg (by omega)]
  rw [show ((pre.length : Int)).toNat = pre.length from rfl, show (((pre.length + cur.length : Nat) : Int)).toNat = pre.length + cur.length from rfl, bs_extract]
  rfl
 | x :: r, pre, cur, out, k, hl, ho, hk => by
  obtain ⟨k, rfl⟩ : ∃ j, k = j + 1 := ⟨k - 1, by omega⟩
  rw [List.length_cons] at ho hk
  have hlen : (pre ++ cur ++ x :: r).length = pre.length + cur.length + (r.length + 1) := by simp; omega
  have hl' := hl
  rw [hlen] at hl'
  have hat : bt (bs (pre ++ cur ++ x :: r)) ((pre.length + cur.length : Nat) : Int) = (x.toNat : Int) := by
   rw [bt_bs _ _ (by rw [hlen]; omega)]
   congr 2
   rw [List.getElem_append_right (by simp)]
   simp
  rw [spec_SplitByte.l0, bs_size, hlen, if_pos (by omega), if_neg (by omega), if_pos (by omega), if_pos (by omega), hat]
  by_cases h : x = c
  ·rw [if_pos (by rw [h]), if_pos (by omega), if_pos (by omega), if_pos (by omega), w64 (x := ((pre.length + cur.length : Nat) : Int) + 1) (by omega) (by omega)]
   rw [show ((pre.length : Int)).toNat = pre.length from rfl, show (((pre.length + cur.length : Nat) : Int)).toNat = pre.length + cur.length from rfl, bs_extract]
   have e : pre ++ cur ++ x :: r = (pre ++ cur ++ [x]) ++ [] ++ r := by simp
   have ih := specSplit_l0 c r (pre ++ cur ++ [x]) [] (out ++ [bs cur]) k (by rw [← e]; exact hl) (by simp; omega) (by omega)
   rw [← e] at ih
   have e2 : ((pre ++ cur ++ [x]).length : Int) = ((pre.length + cur.length : Nat) : Int) + 1 := by simp; omega
   have e3 : (((pre ++ cur ++ [x]).length + ([] : List UInt8).length : Nat) : Int) = ((pre.length + cur.length : Nat) : Int) + 1 := by simp; omega
   rw [e2, e3] at ih
   rw [ih, spAcc, if_pos h]
   simp
  ·rw [if_neg (by intro e; exact h (UInt8.toNat.inj (by omega))), w64 (x := ((pre.length + cur.length : Nat) : Int) + 1) (by omega) (by omega)]
   have e : pre ++ cur ++ x :: r = pre ++ (cur ++ [x]) ++ r := by simp
   have ih := specSplit_l0 c r pre (cur ++ [x]) out k (by rw [← e]; exact hl) (by omega) (by omega)
   rw [← e] at ih
   have e3 : ((pre.length + (cur ++ [x]).length : Nat) : Int) = ((pre.length + cur.length : Nat) : Int) + 1 := by simp; omega
   rw [e3] at ih
   rw [ih, spAcc, if_neg h]
theorem specSplit {l : List UInt8} {c : UInt8} {k : Nat} (hl : l.length ≤ 1048576) (hk : l.length + 2 ≤ k) : spec_SplitByte.f k (bs l) (c.toNat : Int) = some ((spAcc c [] l).map bs) := by
 have := specSplit_l0 c l [] [] [] k (by simpa using hl) (by simp; omega) hk
 rw [spec_SplitByte.f]
 exact this

def dig (c : UInt8) : Int := (c.toNat : Int) - 48
def dN : List UInt8 → Nat
 | [] => 0
 | x :: l => if x = 46 then dN l + 1 else 0
def rest (l : List UInt8) : List UInt8 := Go.Lib.trimLeftB l 46
theorem dN_split : ∀ l : List UInt8, l = List.replicate (dN l) 46 ++ rest l
 | [] => rfl
 | x :: l => by
  by_cases h : x = 46
  ·subst h
   have e : rest (46 :: l) = rest l := rfl
   rw [dN, if_pos rfl, e, List.replicate_succ, List.cons_append, ← dN_split l]
  ·have e : rest (x :: l) = x :: l := by
    unfold rest Go.Lib.trimLeftB
    rw [List.dropWhile_cons_of_neg (by simpa using h)]
   rw [dN, if_neg h, e]
   rfl
theorem dN_len (l : List UInt8) : dN l + (rest l).length = l.length := by
 have := congrArg List.length (dN_split l)
 rw [List.length_append, List.length_replicate] at this
 omega
def inn : List (List UInt8) → List Int
 | [] => []
 | x :: r => if 0 < dN x then (dN x : Int) :: inn r else inn r
def rowP (x : List UInt8) : List Int := (rest x).map dig
def cost : List (List UInt8) → Nat
 | [] => 0
 | x :: r => x.length + 6 + cost r
abbrev badT : List Int × List (List Int) × Bool := ([], [], false)
def tEnd (t : List UInt8) (I : List Int) (R : List (List Int)) : List Int × List (List Int) × Bool := if ttext I R = bs t then (I, R, true) else badT
theorem toList_bs (a : ByteArray) (l : List UInt8) : a.toList = (bs l).toList ↔ a = bs l := by
 constructor
 ·intro h
  rw [bs_toList, Go.Lib.toList_data] at h
  rw [← h, bs_of]
 ·intro h
  rw [h]
theorem ttext_false {I : List Int} {R : List (List Int)} (h : tabB I R = false) : ttext I R = bs [] := by
 rw [ttext, h, if_neg (by decide)]
 rfl
theorem sizes_app (R : List (List Int)) (x : List Int) : sizes (R ++ [x]) = sizes R + x.length := by simp [sizes]
theorem specPT_l1 {t : ByteArray} {x5 : List ByteArray} {i : Nat} {part : List UInt8} {I : List Int} {R : List (List Int)} (hi : (i : Int) < (x5.length : Int)) (hp : rdOf ByteArray.empty x5 (i : Int) = bs part) (hl : part.length ≤ 2097152) : ∀ (r pre : List UInt8) (k : Nat), part = pre ++ r →
  spec_ParseTableau.l1 (k + dN r + 1) t x5 (i : Int) (pre.length : Int) I R = spec_ParseTableau.j3 k t x5 (i : Int) ((pre.length + dN r : Nat) : Int) I R
 | [], pre, k, e => by
  rw [dN, Nat.add_zero, spec_ParseTableau.l1, if_pos (by omega), if_pos hi, hp, bs_size, e, if_neg (by simp)]
  rfl
 | x :: r, pre, k, e => by
  have hlen : part.length = pre.length + (r.length + 1) := by rw [e]; simp
  have hat : bt (bs part) (pre.length : Int) = (x.toNat : Int) := by
   rw [bt_bs _ _ (by omega)]
   congr 2
   simp [e]
  by_cases h : x = 46
  ·subst h
   have ih := specPT_l1 hi hp hl (I := I) (R := R) (t := t) r (pre ++ [46]) k (by rw [e]; simp)
   have hd : dN (46 :: r) = dN r + 1 := by rw [dN, if_pos rfl]
   rw [hd, show k + (dN r + 1) + 1 = (k + dN r + 1) + 1 by omega, spec_ParseTableau.l1, if_pos (by omega), if_pos hi, hp, bs_size, if_pos (by omega), if_pos (by omega), hat, if_pos (by rfl), w64 (by omega) (by omega)]
   rw [show ((pre ++ [(46 : UInt8)]).length : Int) = (pre.length : Int) + 1 by simp, show ((pre ++ [(46 : UInt8)]).length + dN r) = pre.length + (dN r + 1) by simp; omega] at ih
   exact ih
  ·have hd : dN (x :: r) = 0 := by rw [dN, if_neg h]
   have hx : ¬ (x.toNat : Int) = 46 := fun e => h (UInt8.toNat.inj (by show x.toNat = 46; omega))
   rw [hd, Nat.add_zero, Nat.add_zero, spec_ParseTableau.l1, if_pos (by omega), if_pos hi, hp, bs_size, if_pos (by omega), if_pos (by omega), hat, if_neg hx]
   rfl
theorem dig_wrap (x : UInt8) : wrap64 (wrap64 (x.toNat : Int) - 48) = dig x := by
 have := x.toNat_lt
 rw [w64 (x := (x.toNat : Int)) (by omega) (by omega), w64 (by omega) (by omega), dig]
theorem specPT_l2 {t : ByteArray} {x5 : List ByteArray} {i : Nat} {part : List UInt8} {I : List Int} {R : List (List Int)} (hi : (i : Int) < (x5.length : Int)) (hi2 : i ≤ 2097152) (hp : rdOf ByteArray.empty x5 (i : Int) = bs part) (hl : part.length ≤ 2097152) (hR : R.length ≤ 2097152) : ∀ (r pre : List UInt8) (x8 : List Int) (k : Nat), part = pre ++ r → x8.length + r.length ≤ 2097152 →
  spec_ParseTableau.l2 (k + r.length + 1) t x5 (i : Int) x8 (pre.length : Int) I R = spec_ParseTableau.l0 k t x5 ((i : Int) + 1) I (R ++ [x8 ++ r.map dig])
 | [], pre, x8, k, e, h8 => by
  rw [List.length_nil, Nat.add_zero, spec_ParseTableau.l2, if_pos (by omega), if_pos hi, hp, bs_size, e, if_neg (by simp), if_pos (by omega), w64 (by omega) (by omega)]
  simp
 | x :: r, pre, x8, k, e, h8 => by
  rw [List.length_cons] at h8
  have hlen : part.length = pre.length + (r.length + 1) := by rw [e]; simp
  have hat : bt (bs part) (pre.length : Int) = (x.toNat : Int) := by
   rw [bt_bs _ _ (by omega)]
   congr 2
   simp [e]
  have ih := specPT_l2 hi hi2 hp hl hR (I := I) (t := t) r (pre ++ [x]) (x8 ++ [dig x]) k (by rw [e]; simp) (by simp; omega)
  rw [show k + (x :: r).length + 1 = (k + r.length + 1) + 1 by rw [List.length_cons]; omega, spec_ParseTableau.l2, if_pos (by omega), if_pos hi, hp, bs_size, if_pos (by omega), if_pos (by omega), if_pos (by omega), hat, dig_wrap, w64 (x := (pre.length : Int) + 1) (by omega) (by omega)]
  rw [show ((pre ++ [x]).length : Int) = (pre.length : Int) + 1 by simp] at ih
  rw [ih]
  simp
theorem specPT_l0 (t : List UInt8) (ht : t ≠ [45]) (ht0 : t ≠ []) : ∀ (r pre : List (List UInt8)) (I : List Int) (R : List (List Int)) (k : Nat), pre.length + r.length ≤ 2097152 → I.length + r.length ≤ 2097152 → R.length + r.length ≤ 2097152 → sizes R + tot r ≤ 2097152 → cost r + 16777300 < k →
  spec_ParseTableau.l0 k (bs t) ((pre ++ r).map bs) (pre.length : Int) I R = some (tEnd t (I ++ inn r) (R ++ r.map rowP))
 | [], pre, I, R, k, hl, hI, hR, hs, hk => by
  obtain ⟨k, rfl⟩ : ∃ j, k = j + 2 := ⟨k - 2, by omega⟩
  simp only [List.length_nil, tot, Nat.add_zero] at hl hI hR hs
  rw [spec_ParseTableau.l0, if_neg (by simp), spec_ParseTableau.j1, if_neg (by decide), specTab_eq hI hR hs (by omega), Option.bind_some, inn, List.append_nil, List.map_nil, List.append_nil, tEnd]
  cases h : tabB I R with
  | false =>
   rw [if_neg (by decide), if_neg]
   rw [ttext_false h]
   exact fun e => ht0 (bs_inj e).symm
  | true =>
   rw [if_pos rfl, specTT_eq hI hR hs (by omega), Option.bind_some]
   by_cases h2 : ttext I R = bs t
   ·rw [if_pos h2, if_pos (by rw [h2])]
   ·rw [if_neg h2, if_neg (fun e => h2 ((toList_bs _ _).mp e))]
 | x :: r, pre, I, R, k, hl, hI, hR, hs, hk => by
  rw [List.length_cons] at hl hI hR
  rw [tot] at hs
  rw [cost] at hk
  have hdl := dN_len x
  have h45 : ((bs t).toList != ([45] : List UInt8)) = true := by rw [bs_toList]; exact bne_iff_ne.mpr ht
  have hi : (pre.length : Int) < (((pre ++ x :: r).map bs).length : Int) := by simp; omega
  have hp := rdOf_bs pre x r
  obtain ⟨k, rfl⟩ : ∃ j, k = j + (rest x).length + 1 + 2 + dN x + 1 + 2 := ⟨k - (rest x).length - dN x - 6, by omega⟩
  have e1 := specPT_l1 (t := bs t) (I := I) (R := R) hi hp (by omega) x [] (k + (rest x).length + 1 + 2) rfl
  have e2 : ∀ J : List Int, spec_ParseTableau.l2 (k + (rest x).length + 1) (bs t) ((pre ++ x :: r).map bs) (pre.length : Int) [] ((List.replicate (dN x) (46 : UInt8)).length : Int) J R = spec_ParseTableau.l0 k (bs t) ((pre ++ x :: r).map bs) ((pre.length : Int) + 1) J (R ++ [[] ++ (rest x).map dig]) := fun J =>
   specPT_l2 (t := bs t) (I := J) (R := R) hi (by omega) hp (by omega) (by omega) (rest x) (List.replicate (dN x) 46) [] k (dN_split x) (by simp; omega)
  have ih := fun (J : List Int) (hJ : J.length + r.length ≤ 2097152) => specPT_l0 t ht ht0 r (pre ++ [x]) J (R ++ [rowP x]) k (by simp; omega) hJ (by simp; omega) (by rw [sizes_app, rowP, List.length_map]; omega) (by omega)
  rw [show ((pre ++ [x]).length : Int) = (pre.length : Int) + 1 by simp, show (pre ++ [x]) ++ r = pre ++ x :: r by simp] at ih
  have fin : ∀ J : List Int, J.length + r.length ≤ 2097152 → spec_ParseTableau.j4 (k + (rest x).length + 1 + 1) (bs t) ((pre ++ x :: r).map bs) (pre.length : Int) (dN x : Int) J R = some (tEnd t (J ++ inn r) (R ++ [rowP x] ++ r.map rowP)) := by
   intro J hJ
   rw [spec_ParseTableau.j4]
   have := e2 J
   rw [List.length_replicate] at this
   rw [this]
   exact ih J hJ
  rw [spec_ParseTableau.l0, if_pos hi, h45, spec_ParseTableau.j1, if_pos rfl]
  refine Eq.trans e1 ?_
  rw [List.length_nil, Nat.zero_add, spec_ParseTableau.j3]
  by_cases hd : 0 < dN x
  ·rw [if_pos (by omega), if_pos (by omega), fin _ (by simp; omega), inn, if_pos hd]
   simp
  ·rw [if_neg (by omega), fin _ (by omega), inn, if_neg hd]
   simp
theorem implPT_l1 {t : ByteArray} {x15 : List ByteArray} {x16 i : Int} {I : List Int} {R : List (List Int)} (hi : 0 ≤ i) (hi2 : i ≤ 2097152) (hR : R.length ≤ 2097152) (hd : List UInt8) (hl : hd.length ≤ 2097152) : ∀ (r pre : List UInt8) (x9 : List Int) (k : Nat), hd = pre ++ r → x9.length + r.length ≤ 2097152 →
  impl_ParseTableau.l1 (k + r.length + 1) t (bs hd) x9 x15 x16 i (hd.length : Int) (pre.length : Int) I R = impl_ParseTableau.l0 k t x15 x16 (i + 1) I (R ++ [x9 ++ r.map dig])
 | [], pre, x9, k, e, h9 => by
  rw [List.length_nil, Nat.add_zero, impl_ParseTableau.l1, if_neg (by rw [e]; simp), if_pos (by omega), w64 (by omega) (by omega)]
  simp
 | x :: r, pre, x9, k, e, h9 => by
  rw [List.length_cons] at h9
  have hlen : hd.length = pre.length + (r.length + 1) := by rw [e]; simp
  have hat : bt (bs hd) (pre.length : Int) = (x.toNat : Int) := by
   rw [bt_bs _ _ (by omega)]
   congr 2
   simp [e]
  have ih := implPT_l1 (t := t) (x15 := x15) (x16 := x16) (I := I) hi hi2 hR hd hl r (pre ++ [x]) (x9 ++ [dig x]) k (by rw [e]; simp) (by simp; omega)
  rw [show k + (x :: r).length + 1 = (k + r.length + 1) + 1 by rw [List.length_cons]; omega, impl_ParseTableau.l1, if_pos (by omega), if_pos (by omega), bs_size, if_pos (by omega), if_pos (by omega), hat, dig_wrap, w64 (x := (pre.length : Int) + 1) (by omega) (by omega)]
  rw [show ((pre ++ [x]).length : Int) = (pre.length : Int) + 1 by simp] at ih
  rw [ih]
  simp
theorem implPT_l0 (t : List UInt8) (ht0 : t ≠ []) : ∀ (r pre : List (List UInt8)) (I : List Int) (R : List (List Int)) (k : Nat), pre.length + r.length ≤ 2097152 → I.length + r.length ≤ 2097152 → R.length + r.length ≤ 2097152 → sizes R + tot r ≤ 2097152 → cost r + 16777300 < k →
  impl_ParseTableau.l0 k (bs t) ((pre ++ r).map bs) (((pre ++ r).map bs).length : Int) (pre.length : Int) I R = some (tEnd t (I ++ inn r) (R ++ r.map rowP))
 | [], pre, I, R, k, hl, hI, hR, hs, hk => by
  obtain ⟨k, rfl⟩ : ∃ j, k = j + 1 := ⟨k - 1, by omega⟩
  simp only [List.length_nil, tot, Nat.add_zero] at hl hI hR hs
  rw [impl_ParseTableau.l0, if_neg (by simp), if_neg (by rw [bs_toList]; exact ht0), implTT_eq hI hR hs (by omega), Option.bind_some, inn, List.append_nil, List.map_nil, List.append_nil, tEnd]
  by_cases h2 : ttext I R = bs t
  ·rw [if_pos h2, if_pos (by rw [h2])]
  ·rw [if_neg h2, if_neg (fun e => h2 ((toList_bs _ _).mp e))]
 | x :: r, pre, I, R, k, hl, hI, hR, hs, hk => by
  rw [List.length_cons] at hl hI hR
  rw [tot] at hs
  rw [cost] at hk
  have hdl := dN_len x
  have hp := rdOf_bs pre x r
  obtain ⟨k, rfl⟩ : ∃ j, k = j + (rest x).length + 1 + 2 := ⟨k - (rest x).length - 3, by omega⟩
  have htr : strings_TrimLeft.f (bs x) (⟨#[46]⟩ : ByteArray) = some (bs (rest x)) := by
   rw [strings_TrimLeft.f, if_pos rfl]
   have e : (bs x).data.toList = x := by simp [bs]
   rw [e]
   rfl
  have ih := fun (J : List Int) (hJ : J.length + r.length ≤ 2097152) => implPT_l0 t ht0 r (pre ++ [x]) J (R ++ [rowP x]) k (by simp; omega) hJ (by simp; omega) (by rw [sizes_app, rowP, List.length_map]; omega) (by omega)
  rw [show ((pre ++ [x]).length : Int) = (pre.length : Int) + 1 by simp, show (pre ++ [x]) ++ r = pre ++ x :: r by simp] at ih
  have fin : ∀ J : List Int, J.length + r.length ≤ 2097152 → impl_ParseTableau.j1 (k + (rest x).length + 1 + 1) (bs t) (bs (rest x)) ((pre ++ x :: r).map bs) (((pre ++ x :: r).map bs).length : Int) (pre.length : Int) J R = some (tEnd t (J ++ inn r) (R ++ [rowP x] ++ r.map rowP)) := by
   intro J hJ
   have e2 := implPT_l1 (t := bs t) (x15 := (pre ++ x :: r).map bs) (x16 := (((pre ++ x :: r).map bs).length : Int)) (i := (pre.length : Int)) (I := J) (R := R) (by omega) (by omega) (by omega) (rest x) (by omega) (rest x) [] [] k rfl (by simp; omega)
   rw [impl_ParseTableau.j1, bs_size]
   refine Eq.trans e2 ?_
   exact ih J hJ
  rw [impl_ParseTableau.l0, if_pos (by simp; omega), if_pos (by omega), if_pos (by simp; omega), hp, htr, Option.bind_some, bs_size, bs_size, show ((x.length : Nat) : Int) - ((rest x).length : Int) = (dN x : Int) by omega, w64 (x := (dN x : Int)) (by omega) (by omega)]
  by_cases hd : 0 < dN x
  ·rw [if_pos (by omega), if_pos (by omega), fin _ (by simp; omega), inn, if_pos hd]
   simp
  ·rw [if_neg (by omega), fin _ (by omega), inn, if_neg hd]
   simp
theorem sp_tot (c : UInt8) : ∀ (r cur : List UInt8), tot (spAcc c cur r) ≤ cur.length + r.length
 | [], cur => by simp [spAcc, tot]
 | y :: r, cur => by
  rw [spAcc]
  split
  ·have := sp_tot c r []
   rw [tot, List.length_cons]
   simp only [List.length_nil] at this
   omega
  ·have := sp_tot c r (cur ++ [y])
   simp only [List.length_append, List.length_cons, List.length_nil] at this
   rw [List.length_cons]
   omega
theorem cost_le : ∀ r : List (List UInt8), cost r = tot r + 6 * r.length
 | [] => rfl
 | x :: r => by
  rw [cost, tot, cost_le r, List.length_cons]
  omega
/-- What a text spells. -/
def pt (l : List UInt8) : List Int × List (List Int) × Bool := if l = [] then badT else if l = [45] then ([], [], true) else tEnd l (inn (spAcc 47 [] l)) ((spAcc 47 [] l).map rowP)
theorem tab_dash : tabB [] [] = true := by decide
theorem tab_none : tabB [] [[]] = false := by decide
theorem specPTab {l : List UInt8} {k : Nat} (hl : l.length ≤ 1048576) (hk : 33554432 < k) : spec_ParseTableau.f k (bs l) = some (pt l) := by
 have h47 : spec_SplitByte.f k (bs l) 47 = some ((spAcc 47 [] l).map bs) := specSplit (c := 47) hl (by omega)
 have h1 := sp_len 47 l []
 have h2 := sp_tot 47 l []
 have h3 := cost_le (spAcc 47 [] l)
 simp only [List.length_nil] at h2
 rw [spec_ParseTableau.f, h47, Option.bind_some, pt]
 by_cases h0 : l = []
 ·subst h0
  obtain ⟨k, rfl⟩ : ∃ j, k = j + 20 := ⟨k - 20, by omega⟩
  have hp : rdOf ByteArray.empty ([[]].map bs) (0 : Int) = bs [] := rfl
  have e1 := specPT_l1 (t := bs []) (x5 := [[]].map bs) (i := 0) (part := []) (I := []) (R := []) (by decide) hp (by decide) [] [] (k + 17) rfl
  have e2 := specPT_l2 (t := bs []) (x5 := [[]].map bs) (i := 0) (part := []) (I := []) (R := []) (by decide) (by decide) hp (by decide) (by decide) [] [] [] (k + 14) rfl (by decide)
  have h45 : ((bs []).toList != ([45] : List UInt8)) = true := by rw [bs_toList]; rfl
  rw [if_pos rfl]
  show spec_ParseTableau.l0 (k + 19 + 1) (bs []) ([[]].map bs) 0 [] [] = _
  rw [spec_ParseTableau.l0, if_pos (by decide), h45]
  show spec_ParseTableau.j1 (k + 18 + 1) _ _ _ _ _ _ = _
  rw [spec_ParseTableau.j1, if_pos rfl]
  refine Eq.trans e1 ?_
  show spec_ParseTableau.j3 (k + 16 + 1) _ _ _ 0 _ _ = _
  rw [spec_ParseTableau.j3, if_neg (by decide)]
  show spec_ParseTableau.j4 (k + 15 + 1) _ _ _ 0 _ _ = _
  rw [spec_ParseTableau.j4]
  refine Eq.trans e2 ?_
  show spec_ParseTableau.l0 (k + 13 + 1) (bs []) ([[]].map bs) 1 [] [[]] = _
  rw [spec_ParseTableau.l0, if_neg (by decide)]
  show spec_ParseTableau.j1 (k + 12 + 1) _ _ _ _ _ _ = _
  rw [spec_ParseTableau.j1, if_neg (by decide), specTab_eq (by decide) (by decide) (by decide) (by omega), Option.bind_some, tab_none, if_neg (by decide)]
 ·rw [if_neg h0]
  by_cases h45 : l = [45]
  ·subst h45
   obtain ⟨k, rfl⟩ : ∃ j, k = j + 2 := ⟨k - 2, by omega⟩
   have hb : ((bs [45]).toList != ([45] : List UInt8)) = false := by rw [bs_toList]; rfl
   have et : ttext [] [] = bs [45] := by rw [ttext, tab_dash, if_pos rfl, if_pos (by decide)]; rfl
   rw [if_pos rfl, spec_ParseTableau.l0, if_pos (by decide), hb, spec_ParseTableau.j1, if_neg (by decide), specTab_eq (by decide) (by decide) (by decide) (by omega), Option.bind_some, tab_dash, if_pos rfl, specTT_eq (by decide) (by decide) (by decide) (by omega), Option.bind_some, et, if_pos rfl]
  ·rw [if_neg h45]
   exact specPT_l0 l h45 h0 (spAcc 47 [] l) [] [] [] k (by simp; omega) (by simp; omega) (by simp; omega) (by simp [sizes]; omega) (by omega)
theorem implPTab {l : List UInt8} {k : Nat} (hl : l.length ≤ 1048576) (hk : 33554432 < k) : impl_ParseTableau.f k (bs l) = some (pt l) := by
 have h1 := sp_len 47 l []
 have h2 := sp_tot 47 l []
 have h3 := cost_le (spAcc 47 [] l)
 simp only [List.length_nil] at h2
 rw [impl_ParseTableau.f, bs_toList, pt]
 by_cases h45 : l = [45]
 ·subst h45
  have et : ttext [] [] = bs [45] := by rw [ttext, tab_dash, if_pos rfl, if_pos (by decide)]; rfl
  rw [if_pos rfl, if_neg (by decide), if_neg (by decide), if_pos rfl, implTT_eq (by decide) (by decide) (by decide) (by omega), Option.bind_some, et, bs_toList, if_pos rfl]
 ·rw [if_neg h45, show (⟨#[47]⟩ : ByteArray) = bs [47] from rfl, implSplit hl, Option.bind_some, if_neg h45]
  by_cases h0 : l = []
  ·subst h0
   obtain ⟨k, rfl⟩ : ∃ j, k = j + 20 := ⟨k - 20, by omega⟩
   have e2 := implPT_l1 (t := bs []) (x15 := [[]].map bs) (x16 := 1) (i := 0) (I := []) (R := []) (by decide) (by decide) (by decide) [] (by decide) [] [] [] (k + 17) rfl (by decide)
   have htr : strings_TrimLeft.f (bs []) (⟨#[46]⟩ : ByteArray) = some (bs []) := by decide
   rw [if_pos rfl]
   show impl_ParseTableau.l0 (k + 19 + 1) (bs []) ([[]].map bs) 1 0 [] [] = _
   rw [impl_ParseTableau.l0, if_pos (by decide), if_pos (by decide), if_pos (by decide), show rdOf ByteArray.empty ([[]].map bs) 0 = bs [] from rfl, htr, Option.bind_some, Int.sub_self, w64 (x := 0) (by decide) (by decide), if_neg (by decide)]
   show impl_ParseTableau.j1 (k + 18 + 1) _ _ _ _ _ _ _ = _
   rw [impl_ParseTableau.j1]
   refine Eq.trans e2 ?_
   show impl_ParseTableau.l0 (k + 16 + 1) (bs []) ([[]].map bs) 1 1 [] [[]] = _
   rw [impl_ParseTableau.l0, if_neg (by decide), if_pos (by rw [bs_toList])]
  ·rw [if_neg h0]
   exact implPT_l0 l h0 (spAcc 47 [] l) [] [] [] k (by simp; omega) (by simp; omega) (by simp; omega) (by simp [sizes]; omega) (by omega)

def markL : Int → List Int → List Int
 | _, [] => []
 | m, _ :: xs => m :: markL (m + 1) xs

theorem markL_len : ∀ (xs : List Int) (m : Int), (markL m xs).length = xs.length
 | [], _ => rfl
 | _ :: xs, m => by simp [markL, markL_len xs]

theorem markIntS_l0 : ∀ (d k i : Nat) (xs : List Int) (m : Int), i + d = xs.length → d < k → 0 ≤ m → m + d ≤ 4611686018427387904 → xs.length ≤ 1099511627776 →
  laws_markIntS.l0 k xs m (i : Int) = some (m + d, xs.take i ++ markL m (xs.drop i)) := by
 intro d
 induction d with
 | zero =>
  intro k i xs m hi hk hm hb hn
  obtain ⟨k, rfl⟩ := succ_of_pos hk
  rw [laws_markIntS.l0, if_neg (by omega), List.drop_of_length_le (by omega), List.take_of_length_le (by omega)]
  simp [markL]
 | succ d ih =>
  intro k i xs m hi hk hm hb hn
  obtain ⟨k, rfl⟩ := succ_of_pos hk
  rw [laws_markIntS.l0, if_pos (by omega), if_pos (by omega), w64 (by omega) (by omega), w64 (by omega) (by omega), Int.toNat_natCast]
  have := ih k (i + 1) (xs.set i m) (m + 1) (by simp; omega) (by omega) (by omega) (by omega) (by simpa using hn)
  refine Eq.trans this ?_
  have e1 : (xs.set i m).take (i + 1) = xs.take i ++ [m] := by
   rw [List.take_succ_eq_append_getElem (by simp; omega)]
   simp [List.take_set_of_le]
  have e2 : (xs.set i m).drop (i + 1) = xs.drop (i + 1) := by
   rw [List.drop_set_of_lt (by omega)]
  rw [e1, e2, List.drop_eq_getElem_cons (l := xs) (i := i) (by omega), markL]
  congr 2
  ·omega
  ·simp

theorem markIntS_eq {k : Nat} {xs : List Int} {m : Int} (hn : xs.length ≤ 1099511627776) (hk : xs.length < k) (h0 : 0 ≤ m) (h1 : m ≤ 2305843009213693952) : laws_markIntS.f k xs m = some (m + xs.length, markL m xs) := by
 have := markIntS_l0 xs.length k 0 xs m (by omega) hk h0 (by omega) hn
 rw [laws_markIntS.f]
 simpa using this

theorem heldIntS_l0 : ∀ (xs : List Int) (k : Nat) (ys : List Int) (m : Int), xs.length < k → 0 ≤ m → m + xs.length ≤ 4611686018427387904 → ys.length + xs.length ≤ 1099511627776 →
  laws_heldIntS.l0 k (ys ++ markL m xs) m (ys.length : Int) = some (m + xs.length) := by
 intro xs
 induction xs with
 | nil =>
  intro k ys m hk hm hb hn
  obtain ⟨k, rfl⟩ := succ_of_pos hk
  rw [laws_heldIntS.l0, if_neg (by simp [markL])]
  simp
 | cons x xs ih =>
  intro k ys m hk hm hb hn
  obtain ⟨k, rfl⟩ := succ_of_pos hk
  simp only [List.length_cons] at hk hb hn
  have hl : (ys ++ markL m (x :: xs)).length = ys.length + (xs.length + 1) := by simp [markL_len]
  rw [laws_heldIntS.l0, if_pos (by omega), if_pos (by omega), rd_nat _ _ (by omega), w64 (by omega) (by omega), w64 (by omega) (by omega)]
  have e : (ys ++ markL m (x :: xs))[ys.length]'(by omega) = m := by simp [markL]
  rw [if_pos e]
  have := ih k (ys ++ [m]) (m + 1) (by omega) (by omega) (by omega) (by simp; omega)
  simp only [List.append_assoc, List.singleton_append, List.length_append, List.length_cons, List.length_nil] at this
  refine Eq.trans ?_ (this.trans ?_)
  ·rfl
  ·congr 1
   simp only [List.length_cons]
   omega

theorem heldIntS_eq {k : Nat} {xs : List Int} {m : Int} (hn : xs.length ≤ 1099511627776) (hk : xs.length < k) (h0 : 0 ≤ m) (h1 : m ≤ 2305843009213693952) : laws_heldIntS.f k (markL m xs) m = some (m + xs.length) := by
 have := heldIntS_l0 xs k [] m hk h0 (by omega) (by simpa using hn)
 simpa [laws_heldIntS.f] using this

def markLL : Int → List (List Int) → List (List Int)
 | _, [] => []
 | m, r :: rs => markL m r :: markLL (m + r.length) rs

theorem markLL_len : ∀ (R : List (List Int)) (m : Int), (markLL m R).length = R.length
 | [], _ => rfl
 | _ :: rs, m => by simp [markLL, markLL_len rs]

theorem markIntSS_l0 {B : Nat} (hB : B ≤ 1099511627776) : ∀ (d k i : Nat) (xs : List (List Int)) (m : Int), i + d = xs.length → d + B + 1 < k → 0 ≤ m → m + sizes (xs.drop i) ≤ 1152921504606846976 → xs.length ≤ 1099511627776 → (∀ x ∈ xs.drop i, x.length ≤ B) →
  laws_markIntSS.l0 k xs m (i : Int) = some (m + sizes (xs.drop i), xs.take i ++ markLL m (xs.drop i)) := by
 intro d
 induction d with
 | zero =>
  intro k i xs m hi hk hm hb hn hr
  obtain ⟨k, rfl⟩ := succ_of_pos hk
  rw [laws_markIntSS.l0, if_neg (by omega), List.drop_of_length_le (by omega), List.take_of_length_le (by omega)]
  simp [markLL, sizes]
 | succ d ih =>
  intro k i xs m hi hk hm hb hn hr
  obtain ⟨k, rfl⟩ := succ_of_pos hk
  have hil : i < xs.length := by omega
  have hd := List.drop_eq_getElem_cons hil
  rw [hd, sizes_cons] at hb
  have hrow := hr xs[i] (by rw [hd]; exact List.mem_cons_self ..)
  rw [laws_markIntSS.l0, if_pos (by omega), if_pos (by omega), rdl_nat xs i hil, markIntS_eq (by omega) (by omega) hm (by omega), Option.bind_some, w64 (by omega) (by omega), Int.toNat_natCast]
  have e2 : (xs.set i (markL m xs[i])).drop (i + 1) = xs.drop (i + 1) := by rw [List.drop_set_of_lt (by omega)]
  have e1 : (xs.set i (markL m xs[i])).take (i + 1) = xs.take i ++ [markL m xs[i]] := by
   rw [List.take_succ_eq_append_getElem (by simp; omega)]
   simp [List.take_set_of_le]
  have := ih k (i + 1) (xs.set i (markL m xs[i])) (m + (xs[i]).length) (by simp; omega) (by omega) (by omega) (by rw [e2]; omega) (by simpa using hn) (by rw [e2]; intro x hx; exact hr x (by rw [hd]; exact List.mem_cons_of_mem _ hx))
  refine Eq.trans this ?_
  rw [e1, e2, hd, sizes_cons, markLL]
  congr 2
  ·omega
  ·simp

theorem markIntSS_eq {k : Nat} {R : List (List Int)} {m : Int} (hR : R.length ≤ 1048576) (hs : sizes R ≤ 1048576) (hk : 4194304 < k) (h0 : 0 ≤ m) (h1 : m ≤ 1099511627776) : laws_markIntSS.f k R m = some (m + sizes R, markLL m R) := by
 have hr : ∀ x ∈ R, x.length ≤ 1048576 := by
  intro x hx
  obtain ⟨i, hi, rfl⟩ := List.getElem_of_mem hx
  exact Nat.le_trans (sizes_at hi) hs
 have := markIntSS_l0 (B := 1048576) (by omega) R.length k 0 R m (by omega) (by omega) h0 (by rw [List.drop_zero]; omega) (by omega) (by simpa using hr)
 rw [laws_markIntSS.f]
 simpa using this

theorem heldIntSS_l0 {B : Nat} (hB : B ≤ 1099511627776) : ∀ (R : List (List Int)) (k : Nat) (ys : List (List Int)) (m : Int), R.length + B + 1 < k → 0 ≤ m → m + sizes R ≤ 1152921504606846976 → ys.length + R.length ≤ 1099511627776 → (∀ x ∈ R, x.length ≤ B) →
  laws_heldIntSS.l0 k (ys ++ markLL m R) m (ys.length : Int) = some (m + sizes R) := by
 intro R
 induction R with
 | nil =>
  intro k ys m hk hm hb hn hr
  obtain ⟨k, rfl⟩ := succ_of_pos hk
  rw [laws_heldIntSS.l0, if_neg (by simp [markLL])]
  simp [sizes]
 | cons r R ih =>
  intro k ys m hk hm hb hn hr
  obtain ⟨k, rfl⟩ := succ_of_pos hk
  rw [sizes_cons] at hb ⊢
  simp only [List.length_cons] at hk hn
  have hrow := hr r (List.mem_cons_self ..)
  have hl : (ys ++ markLL m (r :: R)).length = ys.length + (R.length + 1) := by simp [markLL_len]
  rw [laws_heldIntSS.l0, if_pos (by omega), if_pos (by omega), rdl_nat _ _ (by omega)]
  have e : (ys ++ markLL m (r :: R))[ys.length]'(by omega) = markL m r := by simp [markLL]
  rw [e, heldIntS_eq (by omega) (by omega) hm (by omega), Option.bind_some, if_neg (by omega), w64 (by omega) (by omega)]
  have := ih k (ys ++ [markL m r]) (m + r.length) (by omega) (by omega) (by omega) (by simp; omega) (fun x hx => hr x (List.mem_cons_of_mem _ hx))
  simp only [List.append_assoc, List.singleton_append, List.length_append, List.length_cons, List.length_nil] at this
  refine Eq.trans ?_ (this.trans ?_)
  ·rfl
  ·congr 1
   omega

theorem heldIntSS_eq {k : Nat} {R : List (List Int)} {m : Int} (hR : R.length ≤ 1048576) (hs : sizes R ≤ 1048576) (hk : 4194304 < k) (h0 : 0 ≤ m) (h1 : m ≤ 1099511627776) : laws_heldIntSS.f k (markLL m R) m = some (m + sizes R) := by
 have hr : ∀ x ∈ R, x.length ≤ 1048576 := by
  intro x hx
  obtain ⟨i, hi, rfl⟩ := List.getElem_of_mem hx
  exact Nat.le_trans (sizes_at hi) hs
 have := heldIntSS_l0 (B := 1048576) (by omega) R k [] m (by omega) h0 (by omega) (by simpa using (by omega : R.length ≤ 1099511627776)) hr
 simpa [laws_heldIntSS.f] using this

theorem pt_small (l : List UInt8) : (pt l).1.length ≤ 9 ∧ (pt l).2.1.length ≤ 9 ∧ sizes (pt l).2.1 ≤ 9 := by
 unfold pt
 split
 ·exact ⟨by decide, by decide, by decide⟩
 ·rename_i h0
  split
  ·exact ⟨by decide, by decide, by decide⟩
  ·unfold tEnd
   split
   ·rename_i he
    cases h : tabB (inn (spAcc 47 [] l)) ((spAcc 47 [] l).map rowP) with
    | false =>
     rw [ttext_false h] at he
     exact absurd (bs_inj he).symm h0
    | true => exact ⟨isP_len (tabB_isP h), okShape_len (tabB_ok h), okShape_sizes (tabB_ok h)⟩
   ·exact ⟨by decide, by decide, by decide⟩
theorem FnExactParseTableau (a0 : ByteArray) (hw : a0.size ≤ 140737488351232) : ∃ k, laws_FnExactParseTableau.ok k a0 := by
 refine ⟨33554500, ⟨?_⟩⟩
 by_cases hs : (a0.size : Int) > 1048576
 ·exact .inl hs
 ·obtain ⟨l, rfl⟩ : ∃ l, a0 = bs l := ⟨_, (bs_of a0).symm⟩
  have hl := hs
  rw [bs_size] at hl
  obtain ⟨h1, h2, h3⟩ := pt_small l
  have e2 : spec_ParseTableau.f 33554500 (bs l) = some (pt l) := specPTab (by omega) (by omega)
  have e3 : impl_ParseTableau.f 33554500 (bs l) = some (pt l) := implPTab (by omega) (by omega)
  generalize pt l = e at *
  obtain ⟨P, Q, b⟩ := e
  replace h1 : P.length ≤ 9 := h1
  replace h2 : Q.length ≤ 9 := h2
  replace h3 : sizes Q ≤ 9 := h3
  have h6 : laws_heldTableau.f 33554500 (markL 1 P) (markLL (1 + (P.length : Int)) Q) 1 = some (1 + (P.length : Int) + sizes Q) := by
   rw [laws_heldTableau.f, heldIntS_eq (by omega) (by omega) (by omega) (by omega), Option.bind_some, if_neg (by omega), heldIntSS_eq (by omega) (by omega) (by omega) (by omega) (by omega), Option.bind_some, if_neg (by omega)]
  exact .inr ⟨1 + (P.length : Int) + sizes Q, 1 + (P.length : Int), P, Q, markL 1 P, markLL (1 + (P.length : Int)) Q, b, hs, e2, e3, eqTableau_self (by omega) (by omega) (by omega) (by omega), markIntS_eq (by omega) (by omega) (by omega) (by omega), markIntSS_eq (by omega) (by omega) (by omega) (by omega) (by omega), by omega, h6⟩

end Go.Proofs.YtcegeleoicjciaaDoor.Pure
