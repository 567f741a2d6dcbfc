/- For every shape the program's ShapeText and the reference's return the same text, and the argument reads as before (the law's plain function; pure part here). No condition. -/
import Derived.Test.YtcegeleoicjciaaDoorQFnExactShapeTextx4
namespace Go.Proofs.YtcegeleoicjciaaDoor.Pure
open Go.RowKit Go.Proofs.YtcegeleoicjciaaDoor.QFnExactShapeText Go.Proofs.YtcegeleoicjciaaDoorW.PrintWords Go.Proofs.YtcegeleoicjciaaDoorW.PrintLast
set_option linter.unusedVariables false
set_option linter.unusedSimpArgs false

theorem w64 {x : Int} (h1 : -9223372036854775808 ≤ x) (h2 : x ≤ 9223372036854775807) : wrap64 x = x := by
  unfold wrap64; omega

theorem rd_nat (xs : List Int) (i : Nat) (h : i < xs.length) : rd xs (i : Int) = xs[i] := by
  unfold rd; rw [Int.toNat_natCast]; simp [List.getD, h]

theorem succ_of_pos {d k : Nat} (h : d < k) : ∃ m, k = m + 1 := ⟨k - 1, by omega⟩

theorem wf_ints {l : List Int} (h : ∀ x ∈ l, (Lit.int .i64 x).wf = true) : ∀ x ∈ l, -9223372036854775808 ≤ x ∧ x ≤ 9223372036854775807 := by
  intro x hx
  have := h x hx
  simp [Lit.wf, IntKind.min, IntKind.max, IntKind.bits, IntKind.signed] at this
  omega

theorem wf_int {x : Int} (h : (Lit.int .i64 x).wf = true) : -9223372036854775808 ≤ x ∧ x ≤ 9223372036854775807 := by
  simp [Lit.wf, IntKind.min, IntKind.max, IntKind.bits, IntKind.signed] at h
  omega

theorem toIntS_l0 (xs : List Int) (hn : xs.length ≤ 1099511627776) : ∀ (d k i : Nat) (ys : List Int), i + d = xs.length → ys.length = xs.length → (∀ j, j < i → ys[j]? = xs[j]?) → d < k → laws_toIntS.l0 k xs ys (i : Int) = some xs := by
  intro d
  induction d with
  | zero =>
    intro k i ys hi hl ht hk
    obtain ⟨k, rfl⟩ := succ_of_pos hk
    rw [laws_toIntS.l0, if_neg (by omega)]
    congr 1
    refine List.ext_getElem? fun j => ?_
    by_cases hj : j < i
    · exact ht j hj
    · rw [List.getElem?_eq_none (by omega), List.getElem?_eq_none (by omega)]
  | succ d ih =>
    intro k i ys hi hl ht hk
    obtain ⟨k, rfl⟩ := succ_of_pos hk
    rw [laws_toIntS.l0, if_pos (by omega), if_pos (by omega), if_pos (by omega), w64 (by omega) (by omega), rd_nat _ _ (by omega), Int.toNat_natCast]
    refine ih k (i + 1) (ys.set i xs[i]) (by omega) (by simp [hl]) (fun j hj => ?_) (by omega)
    rw [List.getElem?_set]
    by_cases hij : i = j
    · subst hij
      rw [if_pos rfl, if_pos (by omega), List.getElem?_eq_getElem]
    · rw [if_neg hij]
      exact ht j (by omega)

theorem toIntS_eq {k : Nat} {xs : List Int} (hn : xs.length ≤ 1099511627776) (hk : xs.length < k) : laws_toIntS.f k xs = some xs := by
  rw [laws_toIntS.f, if_pos (by omega), if_pos (by omega)]
  exact toIntS_l0 xs hn xs.length k 0 _ (by omega) (by simp) (fun j hj => by omega) hk

theorem eqIntS_l0 (xs ys : List Int) (hn : xs.length ≤ 1099511627776) (hl : xs.length = ys.length) : ∀ (d k i : Nat), i + d = xs.length → d < k → laws_eqIntS.l0 k xs ys (i : Int) = some (decide (xs.drop i = ys.drop i)) := by
  intro d
  induction d with
  | zero =>
    intro k i hi hk
    obtain ⟨k, rfl⟩ := succ_of_pos hk
    rw [laws_eqIntS.l0, if_neg (by omega), List.drop_of_length_le (by omega), List.drop_of_length_le (by omega)]
    rfl
  | succ d ih =>
    intro k i hi hk
    obtain ⟨k, rfl⟩ := succ_of_pos hk
    rw [laws_eqIntS.l0, if_pos (by omega), if_pos (by omega), if_pos (by omega), w64 (by omega) (by omega), rd_nat xs i (by omega), rd_nat ys i (by omega), List.drop_eq_getElem_cons (l := xs) (i := i) (by omega), List.drop_eq_getElem_cons (l := ys) (i := i) (by omega)]
    by_cases h : xs[i] = ys[i]
    · rw [if_pos h, h]
      simp only [List.cons.injEq, true_and]
      exact ih k (i + 1) (by omega) (by omega)
    · rw [if_neg h]
      simp only [List.cons.injEq, h, false_and, decide_false]

theorem eqIntS_eq {k : Nat} {xs ys : List Int} (hn : xs.length ≤ 1099511627776) (hk : xs.length < k) : laws_eqIntS.f k xs ys = some (decide (xs = ys)) := by
  rw [laws_eqIntS.f]
  by_cases h : xs.length = ys.length
  · rw [if_pos (by omega)]
    exact eqIntS_l0 xs ys hn h xs.length k 0 (by omega) hk
  · rw [if_neg (by omega)]
    have : xs ≠ ys := fun e => h (by rw [e])
    simp [this]

theorem eqIntS_self {k : Nat} {xs : List Int} (hn : xs.length ≤ 1099511627776) (hk : xs.length < k) : laws_eqIntS.f k xs xs = some true := by
  rw [eqIntS_eq hn hk]; simp

theorem toShape_eq {k : Nat} {l0 l1 : List Int} (hn : l0.length ≤ 1099511627776) (hn1 : l1.length ≤ 1099511627776) (hk : l0.length + l1.length < k) : laws_toShape.f k l0 l1 = some (l0, l1) := by
  rw [laws_toShape.f, toIntS_eq hn (by omega), Option.bind_some, toIntS_eq hn1 (by omega), Option.bind_some]

theorem eqShape_self {k : Nat} {l0 l1 : List Int} (hn : l0.length ≤ 1099511627776) (hn1 : l1.length ≤ 1099511627776) (hk : l0.length + l1.length < k) : laws_eqShape.f k l0 l1 l0 l1 = some true := by
  rw [laws_eqShape.f, eqIntS_self hn (by omega), Option.bind_some, if_pos rfl, eqIntS_self hn1 (by omega), Option.bind_some, if_pos rfl]

theorem szShape_two {l0 l1 : List Int} {m : Int} (h0 : l0.length ≤ maxLen) (h1 : l1.length ≤ maxLen) (hm : 0 ≤ m) (hm1 : m ≤ 1048576) :
    ∃ s, laws_szShape.f l0 l1 m = some s ∧ (s < 0 ∨ (l0.length ≤ 1048576 ∧ l1.length ≤ 1048576 ∧ 0 ≤ s ∧ s ≤ 1048576)) := by
  unfold maxLen at h0 h1
  simp only [laws_szShape.f, laws_szIntS.f]
  rw [w64 (x := m - (l0.length : Int)) (by omega) (by omega)]
  by_cases ha : m - (l0.length : Int) < 0
  · exact ⟨-1, by rw [if_pos ha]; simp, .inl (by omega)⟩
  · rw [if_neg ha]
    simp only [Option.bind_some]
    rw [if_neg ha, w64 (x := m - (l0.length : Int) - (l1.length : Int)) (by omega) (by omega)]
    by_cases hb : m - (l0.length : Int) - (l1.length : Int) < 0
    · exact ⟨-1, by rw [if_pos hb]; simp, .inl (by omega)⟩
    · exact ⟨m - (l0.length : Int) - (l1.length : Int), by rw [if_neg hb]; simp [hb], .inr ⟨by omega, by omega, by omega, by omega⟩⟩

def isPfrom : Int → Int → List Int → Bool
  | _, _, [] => true
  | prev, sum, x :: xs => decide (1 ≤ x) && decide (x ≤ 9) && decide (x ≤ prev) && decide (sum + x ≤ 9) && isPfrom x (sum + x) xs

def isP (p : List Int) : Bool := isPfrom 9 0 p

def prevAt (xs : List Int) (i : Nat) : Int := if i = 0 then 9 else rd xs ((i : Int) - 1)

theorem prevAt_succ (xs : List Int) (i : Nat) (h : i < xs.length) : prevAt xs (i + 1) = xs[i] := by
  unfold prevAt
  rw [if_neg (by omega), show ((i + 1 : Nat) : Int) - 1 = (i : Int) by omega, rd_nat _ _ h]

theorem isPfrom_step (xs : List Int) (i : Nat) (sum : Int) (h : i < xs.length) :
    isPfrom (prevAt xs i) sum (xs.drop i) = (decide (1 ≤ xs[i]) && decide (xs[i] ≤ 9) && decide (xs[i] ≤ prevAt xs i) && decide (sum + xs[i] ≤ 9) && isPfrom (prevAt xs (i + 1)) (sum + xs[i]) (xs.drop (i + 1))) := by
  rw [List.drop_eq_getElem_cons h, isPfrom, prevAt_succ xs i h]

def genP : Nat → Nat → Nat → List (List Int)
  | 0, _, _ => [[]]
  | f + 1, m, b => [] :: (List.range (min m b)).flatMap fun a => (genP f (a + 1) (b - (a + 1))).map (((a + 1 : Nat) : Int) :: ·)

theorem mem_genP : ∀ (xs : List Int) (f m b : Nat) (prev sum : Int), isPfrom prev sum xs = true → prev ≤ m → 9 - sum ≤ b → b ≤ f → sum ≤ 9 → xs ∈ genP f m b
  | [], 0, _, _, _, _, _, _, _, _, _ => by simp [genP]
  | [], f + 1, _, _, _, _, _, _, _, _, _ => by simp [genP]
  | x :: xs, 0, m, b, prev, sum, h, hm, hb, hf, hs => by
    simp [isPfrom] at h
    omega
  | x :: xs, f + 1, m, b, prev, sum, h, hm, hb, hf, hs => by
    simp only [isPfrom, Bool.and_eq_true, decide_eq_true_eq] at h
    obtain ⟨⟨⟨⟨h1, h2⟩, h3⟩, h4⟩, h5⟩ := h
    simp only [genP, List.mem_cons, List.mem_flatMap, List.mem_map, List.mem_range]
    refine .inr ⟨(x - 1).toNat, by omega, xs, ?_, ?_⟩
    · exact mem_genP xs f _ _ x (sum + x) h5 (by omega) (by omega) (by omega) (by omega)
    · congr 1
      omega

theorem isP_mem {p : List Int} (h : isP p = true) : p ∈ genP 9 9 9 := mem_genP p 9 9 9 9 0 h (by omega) (by omega) (by omega) (by omega)

theorem all_at {α : Type} {l : List α} {f : α → Bool} (h : l.all f = true) {x : α} (hx : x ∈ l) : f x = true := List.all_eq_true.1 h x hx

theorem genP_len : (genP 9 9 9).all (fun p => decide (p.length ≤ 9)) = true := by decide +kernel

theorem isP_len {p : List Int} (h : isP p = true) : p.length ≤ 9 := of_decide_eq_true (all_at genP_len (isP_mem h))

theorem genP_rng : (genP 9 9 9).all (fun p => p.all fun x => decide (1 ≤ x) && decide (x ≤ 9)) = true := by decide +kernel

theorem rd_mem {l : List Int} {i : Int} (h0 : 0 ≤ i) (h1 : i < l.length) : rd l i ∈ l := by
  obtain ⟨n, rfl⟩ := Int.eq_ofNat_of_zero_le h0
  rw [rd_nat l n (by omega)]
  exact List.getElem_mem _

theorem isP_rd {l : List Int} {i : Int} (h : isP l = true) (h0 : 0 ≤ i) (h1 : i < l.length) : 1 ≤ rd l i ∧ rd l i ≤ 9 := by
  have := all_at (all_at genP_rng (isP_mem h)) (rd_mem h0 h1)
  simpa using this

theorem specIsP_l0 (xs : List Int) (hn : xs.length ≤ 1099511627776) : ∀ (d k i : Nat) (sum : Int), i + d = xs.length → 0 ≤ sum → sum ≤ 9 → 2 * d < k → spec_IsPartition.l0 k xs sum (i : Int) = some (isPfrom (prevAt xs i) sum (xs.drop i)) := by
  intro d
  induction d with
  | zero =>
    intro k i sum hi _ _ hk
    obtain ⟨k, rfl⟩ := succ_of_pos hk
    rw [spec_IsPartition.l0, if_neg (by omega), List.drop_of_length_le (by omega)]
    rfl
  | succ d ih =>
    intro k i sum hi hs0 hs9 hk
    obtain ⟨k, rfl⟩ : ∃ m, k = m + 2 := ⟨k - 2, by omega⟩
    have hil : i < xs.length := by omega
    rw [spec_IsPartition.l0, if_pos (by omega), if_pos (by omega), rd_nat _ _ hil, isPfrom_step xs i sum hil, spec_l1In.f]
    by_cases h1 : xs[i] ≥ 1
    · rw [if_pos h1]
      by_cases h2 : xs[i] ≤ 9
      · have e1 : decide (1 ≤ xs[i]) = true := by simp; omega
        simp only [h2, e1, decide_true, Option.bind_some, Bool.true_and]
        rw [if_pos trivial]
        have hj : ∀ b : Bool, b = decide (xs[i] ≤ prevAt xs i) → spec_IsPartition.j1 (k + 1) xs sum (i : Int) (!b) = some (b && decide (sum + xs[i] ≤ 9) && isPfrom (prevAt xs (i + 1)) (sum + xs[i]) (xs.drop (i + 1))) := by
          intro b hb
          rw [spec_IsPartition.j1]
          cases b with
          | false => simp
          | true =>
            rw [if_neg (by simp), if_pos (by omega), if_pos (by omega), rd_nat _ _ hil, w64 (by omega) (by omega), w64 (by omega) (by omega)]
            by_cases h4 : sum + xs[i] > 9
            · rw [if_pos h4]
              have : ¬ (sum + xs[i] ≤ 9) := by omega
              simp [this]
            · rw [if_neg h4]
              have h5 : sum + xs[i] ≤ 9 := by omega
              have := ih k (i + 1) (sum + xs[i]) (by omega) (by omega) h5 (by omega)
              simp only [h5, decide_true, Bool.true_and]
              exact this
        by_cases h0 : (i : Int) > 0
        · rw [if_pos h0, w64 (by omega) (by omega), if_pos (by omega), if_pos (by omega)]
          have e : decide (xs[i] > rd xs ((i : Int) - 1)) = !(decide (xs[i] ≤ prevAt xs i)) := by
            unfold prevAt
            rw [if_neg (by omega)]
            by_cases hc : xs[i] ≤ rd xs ((i : Int) - 1)
            · have : ¬ (xs[i] > rd xs ((i : Int) - 1)) := by omega
              simp [hc]
            · have : xs[i] > rd xs ((i : Int) - 1) := by omega
              simp [hc, this]
          rw [e]
          exact hj _ rfl
        · rw [if_neg h0]
          have e : decide (xs[i] ≤ prevAt xs i) = true := by
            unfold prevAt
            rw [if_pos (by omega)]
            simpa using h2
          have := hj true e.symm
          rw [e]
          exact this
      · simp [h2]
        rfl
    · rw [if_neg h1]
      have : ¬ (1 ≤ xs[i]) := by omega
      simp [this]
      rfl

theorem specIsP_eq {k : Nat} {xs : List Int} (hn : xs.length ≤ 1099511627776) (hk : 2 * xs.length < k) : spec_IsPartition.f k xs = some (isP xs) :=
  specIsP_l0 xs hn xs.length k 0 0 (by omega) (by omega) (by omega) hk

theorem implIsP_l0 (xs : List Int) (hn : xs.length ≤ 1099511627776) : ∀ (d k i : Nat) (sum : Int), i + d = xs.length → 0 ≤ sum → sum ≤ 9 → 2 * d < k → impl_IsPartition.l0 k xs sum xs (xs.length : Int) (i : Int) = some (isPfrom (prevAt xs i) sum (xs.drop i)) := by
  intro d
  induction d with
  | zero =>
    intro k i sum hi _ _ hk
    obtain ⟨k, rfl⟩ := succ_of_pos hk
    rw [impl_IsPartition.l0, if_neg (by omega), List.drop_of_length_le (by omega)]
    rfl
  | succ d ih =>
    intro k i sum hi hs0 hs9 hk
    obtain ⟨k, rfl⟩ : ∃ m, k = m + 2 := ⟨k - 2, by omega⟩
    have hil : i < xs.length := by omega
    rw [impl_IsPartition.l0, if_pos (by omega), if_pos (by omega), if_pos (by omega), rd_nat _ _ hil, isPfrom_step xs i sum hil, impl_within.f]
    by_cases h1 : 1 ≤ xs[i]
    · rw [if_pos h1]
      by_cases h2 : xs[i] ≤ 9
      · simp only [h2, h1, decide_true, Option.bind_some, Bool.true_and]
        rw [if_pos trivial]
        have hj : ∀ b : Bool, b = decide (xs[i] ≤ prevAt xs i) → impl_IsPartition.j1 (k + 1) xs sum xs[i] xs (xs.length : Int) (i : Int) (!b) = some (b && decide (sum + xs[i] ≤ 9) && isPfrom (prevAt xs (i + 1)) (sum + xs[i]) (xs.drop (i + 1))) := by
          intro b hb
          rw [impl_IsPartition.j1]
          cases b with
          | false => simp
          | true =>
            rw [if_neg (by simp), w64 (by omega) (by omega), w64 (by omega) (by omega)]
            by_cases h4 : sum + xs[i] > 9
            · rw [if_pos h4]
              have : ¬ (sum + xs[i] ≤ 9) := by omega
              simp [this]
            · rw [if_neg h4]
              have h5 : sum + xs[i] ≤ 9 := by omega
              have := ih k (i + 1) (sum + xs[i]) (by omega) (by omega) h5 (by omega)
              simp only [h5, decide_true, Bool.true_and]
              exact this
        by_cases h0 : (i : Int) > 0
        · rw [if_pos h0, w64 (by omega) (by omega), if_pos (by omega), if_pos (by omega)]
          have e : decide (xs[i] > rd xs ((i : Int) - 1)) = !(decide (xs[i] ≤ prevAt xs i)) := by
            unfold prevAt
            rw [if_neg (by omega)]
            by_cases hc : xs[i] ≤ rd xs ((i : Int) - 1)
            · have : ¬ (xs[i] > rd xs ((i : Int) - 1)) := by omega
              simp [hc]
            · have : xs[i] > rd xs ((i : Int) - 1) := by omega
              simp [hc, this]
          rw [e]
          exact hj _ rfl
        · rw [if_neg h0]
          have e : decide (xs[i] ≤ prevAt xs i) = true := by
            unfold prevAt
            rw [if_pos (by omega)]
            simpa using h2
          have := hj true e.symm
          rw [e]
          exact this
      · simp [h2]
        rfl
    · rw [if_neg h1]
      simp [h1]
      rfl

theorem implIsP_eq {k : Nat} {xs : List Int} (hn : xs.length ≤ 1099511627776) (hk : 2 * xs.length < k) : impl_IsPartition.f k xs = some (isP xs) :=
  implIsP_l0 xs hn xs.length k 0 0 (by omega) (by omega) (by omega) hk

theorem leo_up {α β : Type} {f : Nat → Option α} (h : ∀ k, LeO (f k) (f (k + 1))) {k : Nat} {r : α} (e : f k = some r) : ∀ d, f (k + d) = some r
  | 0 => e
  | d + 1 => h (k + d) r (leo_up (β := β) h e d)
def ptext (p : List Int) : ByteArray := if isP p = true then (if p.length = 0 then ⟨#[45]⟩ else (spec_l2Commas.f 60 p).getD ByteArray.empty) else ⟨#[]⟩

def insB : List Int → List Int → Bool
  | [], _ => true
  | _ :: _, [] => false
  | x :: xs, y :: ys => decide (x ≤ y) && insB xs ys

theorem ins_parts : (genP 9 9 9).all (fun q => (genP 9 9 9).all fun p => spec_IsInside.f 50 q p == some (insB q p) && impl_IsInside.f 50 q p == some (insB q p)) = true := by decide +kernel

theorem specInside_eq {k : Nat} {l0 l1 : List Int} (hn : l0.length ≤ 1099511627776) (hn1 : l1.length ≤ 1099511627776) (hk : 2 * l0.length + 2 * l1.length + 50 < k) : spec_IsInside.f k l0 l1 = some (isP l0 && isP l1 && insB l0 l1) := by
  by_cases hc : isP l0 = true ∧ isP l1 = true
  · have h := all_at (all_at ins_parts (isP_mem hc.1)) (isP_mem hc.2)
    simp only [Bool.and_eq_true, beq_iff_eq] at h
    rw [hc.1, hc.2]
    exact at_rounds (spec_IsInside.mono l0 l1) (by omega) h.1
  · obtain ⟨k, rfl⟩ := succ_of_pos hk
    rw [spec_IsInside.f, specIsP_eq hn (by omega)]
    simp only [Option.bind_some]
    cases h0 : isP l0 with
    | false => simp [spec_IsInside.j0]
    | true =>
      have h1 : isP l1 = false := by
        cases h1 : isP l1 with
        | false => rfl
        | true => exact absurd ⟨h0, h1⟩ hc
      rw [if_pos rfl, specIsP_eq hn1 (by omega), h1]
      simp [spec_IsInside.j0]

theorem implInside_eq {k : Nat} {l0 l1 : List Int} (hn : l0.length ≤ 1099511627776) (hn1 : l1.length ≤ 1099511627776) (hk : 2 * l0.length + 2 * l1.length + 50 < k) : impl_IsInside.f k l0 l1 = some (isP l0 && isP l1 && insB l0 l1) := by
  by_cases hc : isP l0 = true ∧ isP l1 = true
  · have h := all_at (all_at ins_parts (isP_mem hc.1)) (isP_mem hc.2)
    simp only [Bool.and_eq_true, beq_iff_eq] at h
    rw [hc.1, hc.2]
    exact at_rounds (impl_IsInside.mono l0 l1) (by omega) h.2
  · obtain ⟨k, rfl⟩ := succ_of_pos hk
    rw [impl_IsInside.f, implIsP_eq hn (by omega)]
    simp only [Option.bind_some]
    cases h0 : isP l0 with
    | false => simp [impl_IsInside.j0]
    | true =>
      have h1 : isP l1 = false := by
        cases h1 : isP l1 with
        | false => rfl
        | true => exact absurd ⟨h0, h1⟩ hc
      rw [if_pos rfl, implIsP_eq hn1 (by omega), h1]
      simp [impl_IsInside.j0]

def insPairs : List (List Int × List Int) := (genP 9 9 9).flatMap fun p => ((genP 9 9 9).filter fun q => insB q p).map fun q => (p, q)

theorem insPairs_mem {p q : List Int} (hp : isP p = true) (hq : isP q = true) (h : insB q p = true) : (p, q) ∈ insPairs := by
  simp only [insPairs, List.mem_flatMap, List.mem_map, List.mem_filter]
  exact ⟨p, isP_mem hp, q, ⟨isP_mem hq, h⟩, rfl⟩

theorem ins_three {p q : List Int} (h : ¬ (isP q && isP p && insB q p) = false) : isP p = true ∧ isP q = true ∧ insB q p = true := by
  simp only [Bool.not_eq_false, Bool.and_eq_true] at h
  exact ⟨h.1.2, h.1.1, h.2⟩

def stext (l0 l1 : List Int) : ByteArray := if (isP l1 && isP l0 && insB l1 l0) = true then (if l1.length = 0 then ptext l0 else (ptext l0 ++ (⟨#[47]⟩ : ByteArray)) ++ ptext l1) else ⟨#[]⟩
theorem ptext_sz : (genP 9 9 9).all (fun p => decide ((ptext p).size ≤ 30)) = true := by decide +kernel
theorem ptext_size {p : List Int} (h : isP p = true) : (ptext p).size ≤ 30 := of_decide_eq_true (all_at ptext_sz (isP_mem h))

theorem commas_spec : (genP 9 9 9).all (fun p => decide (spec_l2Commas.f 60 p = some ((spec_l2Commas.f 60 p).getD ByteArray.empty))) = true := by decide +kernel
theorem specPT {p : List Int} {k : Nat} (hn : p.length ≤ 1099511627776) (hk : 2 * p.length < k) (h60 : 60 ≤ k) : spec_PartitionText.f k p = some (ptext p) := by
  rw [spec_PartitionText.f, specIsP_eq hn hk, Option.bind_some, ptext]
  cases h : isP p with
  | false => rw [if_neg (by decide), if_neg (by decide)]
  | true =>
    rw [if_pos rfl, if_pos rfl]
    by_cases h0 : p.length = 0
    · rw [if_pos (by omega), if_pos h0]
    · rw [if_neg (by omega), if_neg h0]
      obtain ⟨d, rfl⟩ : ∃ d, k = 60 + d := ⟨k - 60, by omega⟩
      rw [leo_up (β := Unit) (f := fun k => spec_l2Commas.f k p) (fun k => spec_l2Commas.mono p k) (of_decide_eq_true (all_at commas_spec (isP_mem h))) d, Option.bind_some]

theorem specST {l0 l1 : List Int} {k : Nat} (hn : l0.length ≤ 1099511627776) (hn1 : l1.length ≤ 1099511627776) (hk : 2 * l0.length + 2 * l1.length + 100 < k) : spec_ShapeText.f k l0 l1 = some (stext l0 l1) := by
  rw [spec_ShapeText.f, spec_IsShape.f, specInside_eq hn1 hn (by omega), Option.bind_some, Option.bind_some, stext]
  cases h : (isP l1 && isP l0 && insB l1 l0) with
  | false => rw [if_neg (by decide), if_neg (by decide)]
  | true =>
    simp only [Bool.and_eq_true] at h
    rw [if_pos rfl, if_pos rfl]
    by_cases h0 : l1.length = 0
    · rw [if_pos (by omega), if_pos h0, specPT hn (by omega) (by omega), Option.bind_some]
    · have s0 := ptext_size h.1.2
      have s1 := ptext_size h.1.1
      rw [if_neg (by omega), if_neg h0, specPT hn (by omega) (by omega), Option.bind_some, if_pos (by omega), specPT hn1 (by omega) (by omega), Option.bind_some, if_pos (by rw [ByteArray.size_append]; show (ptext l0).size + 1 + _ ≤ _; omega)]

theorem commas_impl : (genP 9 9 9).all (fun p => decide (impl_joined.f 60 p ⟨#[44]⟩ = some ((spec_l2Commas.f 60 p).getD ByteArray.empty))) = true := by decide +kernel
theorem implPT {p : List Int} {k : Nat} (hn : p.length ≤ 1099511627776) (hk : 2 * p.length < k) (h60 : 60 ≤ k) : impl_PartitionText.f k p = some (ptext p) := by
  rw [impl_PartitionText.f, implIsP_eq hn hk, Option.bind_some, ptext]
  cases h : isP p with
  | false => rw [if_neg (by decide), if_neg (by decide)]
  | true =>
    rw [if_pos rfl, if_pos rfl]
    by_cases h0 : p.length = 0
    · rw [if_pos (by omega), if_pos h0]
    · rw [if_neg (by omega), if_neg h0]
      obtain ⟨d, rfl⟩ : ∃ d, k = 60 + d := ⟨k - 60, by omega⟩
      rw [leo_up (β := Unit) (f := fun k => impl_joined.f k p ⟨#[44]⟩) (fun k => impl_joined.mono p _ k) (of_decide_eq_true (all_at commas_impl (isP_mem h))) d, Option.bind_some]

theorem implST {l0 l1 : List Int} {k : Nat} (hn : l0.length ≤ 1099511627776) (hn1 : l1.length ≤ 1099511627776) (hk : 2 * l0.length + 2 * l1.length + 100 < k) : impl_ShapeText.f k l0 l1 = some (stext l0 l1) := by
  rw [impl_ShapeText.f, impl_IsShape.f, implInside_eq hn1 hn (by omega), Option.bind_some, Option.bind_some, stext]
  cases h : (isP l1 && isP l0 && insB l1 l0) with
  | false => rw [if_neg (by decide), if_neg (by decide)]
  | true =>
    simp only [Bool.and_eq_true] at h
    rw [if_pos rfl, if_pos rfl]
    by_cases h0 : l1.length = 0
    · rw [if_pos (by omega), if_pos h0, implPT hn (by omega) (by omega), Option.bind_some]
    · have s0 := ptext_size h.1.2
      have s1 := ptext_size h.1.1
      rw [if_neg (by omega), if_neg h0, implPT hn (by omega) (by omega), Option.bind_some, if_pos (by omega), implPT hn1 (by omega) (by omega), Option.bind_some, if_pos (by rw [ByteArray.size_append]; show (ptext l0).size + 1 + _ ≤ _; omega)]

theorem FnExactShapeText (l0 l1 : List Int) (hm0 : l0.length ≤ maxLen) (_ : ∀ x ∈ l0, (Lit.int .i64 x).wf = true) (hm1 : l1.length ≤ maxLen) (_ : ∀ x ∈ l1, (Lit.int .i64 x).wf = true) : ∃ k, laws_FnExactShapeText.f k l0 l1 = some true := by
  obtain ⟨s, hs, hs2⟩ := szShape_two (m := 1048576) hm0 hm1 (by omega) (by omega)
  rcases hs2 with hneg | ⟨hl0, hl1, hs0, _⟩
  · exact ⟨0, by rw [laws_FnExactShapeText.f, hs, Option.bind_some, if_pos hneg]⟩
  have hn : l0.length ≤ 1099511627776 := by omega
  have hn1 : l1.length ≤ 1099511627776 := by omega
  refine ⟨2 * l0.length + 2 * l1.length + 200, ?_⟩
  have e1 : ∀ k, l0.length + l1.length < k → laws_toShape.f k l0 l1 = some (l0, l1) := fun k hk => toShape_eq hn hn1 hk
  have e5 : ∀ k, l0.length + l1.length < k → laws_eqShape.f k l0 l1 l0 l1 = some true := fun k hk => eqShape_self hn hn1 hk
  rw [laws_FnExactShapeText.f, hs, Option.bind_some, if_neg (by omega), e1 _ (by omega), Option.bind_some, specST hn hn1 (by omega), Option.bind_some, Option.bind_some, implST hn hn1 (by omega), Option.bind_some, if_pos rfl, Option.bind_some,
    e5 _ (by omega), Option.bind_some, if_pos rfl]

end Go.Proofs.YtcegeleoicjciaaDoor.Pure
