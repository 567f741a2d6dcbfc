/- For every tableau value the program's ShapeOf and the reference's return the same shape, in memory of its own, and the argument reads as before (the facts that the law's walk asks for; pure part here). No condition. -/
import Derived.Test.YtiehngfcfdlbnaaVFnExactShapeOf
namespace Go.Proofs.Ytiehngfcfdlbnaa.Pure
open Go.RowKit Go.Proofs.Ytiehngfcfdlbnaa.QFnExactShapeOf Go.Proofs.YtiehngfcfdlbnaaW.PrintWords Go.Proofs.YtiehngfcfdlbnaaW.PrintLast
set_option linter.unusedVariables false
set_option linter.unusedSimpArgs false

theorem w64 {x : Int} (h1 : -9223372036854775808 ≤ x) (h2 : x ≤ 9223372036854775807) : wrap64 x = x := by
  unfold wrap64; omega

theorem rd_nat (xs : List Int) (i : Nat) (h : i < xs.length) : rd xs (i : Int) = xs[i] := by
  unfold rd; rw [Int.toNat_natCast]; simp [List.getD, h]

theorem succ_of_pos {d k : Nat} (h : d < k) : ∃ m, k = m + 1 := ⟨k - 1, by omega⟩

theorem wf_ints {l : List Int} (h : ∀ x ∈ l, (Lit.int .i64 x).wf = true) : ∀ x ∈ l, -9223372036854775808 ≤ x ∧ x ≤ 9223372036854775807 := by
  intro x hx
  have := h x hx
  simp [Lit.wf, IntKind.min, IntKind.max, IntKind.bits, IntKind.signed] at this
  omega

theorem wf_int {x : Int} (h : (Lit.int .i64 x).wf = true) : -9223372036854775808 ≤ x ∧ x ≤ 9223372036854775807 := by
  simp [Lit.wf, IntKind.min, IntKind.max, IntKind.bits, IntKind.signed] at h
  omega

theorem toIntS_l0 (xs : List Int) (hn : xs.length ≤ 1099511627776) : ∀ (d k i : Nat) (ys : List Int), i + d = xs.length → ys.length = xs.length → (∀ j, j < i → ys[j]? = xs[j]?) → d < k → laws_toIntS.l0 k xs ys (i : Int) = some xs := by
  intro d
  induction d with
  | zero =>
    intro k i ys hi hl ht hk
    obtain ⟨k, rfl⟩ := succ_of_pos hk
    rw [laws_toIntS.l0, if_neg (by omega)]
    congr 1
    refine List.ext_getElem? fun j => ?_
    by_cases hj : j < i
    · exact ht j hj
    · rw [List.getElem?_eq_none (by omega), List.getElem?_eq_none (by omega)]
  | succ d ih =>
    intro k i ys hi hl ht hk
    obtain ⟨k, rfl⟩ := succ_of_pos hk
    rw [laws_toIntS.l0, if_pos (by omega), if_pos (by omega), if_pos (by omega), w64 (by omega) (by omega), rd_nat _ _ (by omega), Int.toNat_natCast]
    refine ih k (i + 1) (ys.set i xs[i]) (by omega) (by simp [hl]) (fun j hj => ?_) (by omega)
    rw [List.getElem?_set]
    by_cases hij : i = j
    · subst hij
      rw [if_pos rfl, if_pos (by omega), List.getElem?_eq_getElem]
    · rw [if_neg hij]
      exact ht j (by omega)

theorem toIntS_eq {k : Nat} {xs : List Int} (hn : xs.length ≤ 1099511627776) (hk : xs.length < k) : laws_toIntS.f k xs = some xs := by
  rw [laws_toIntS.f, if_pos (by omega), if_pos (by omega)]
  exact toIntS_l0 xs hn xs.length k 0 _ (by omega) (by simp) (fun j hj => by omega) hk

theorem eqIntS_l0 (xs ys : List Int) (hn : xs.length ≤ 1099511627776) (hl : xs.length = ys.length) : ∀ (d k i : Nat), i + d = xs.length → d < k → laws_eqIntS.l0 k xs ys (i : Int) = some (decide (xs.drop i = ys.drop i)) := by
  intro d
  induction d with
  | zero =>
    intro k i hi hk
    obtain ⟨k, rfl⟩ := succ_of_pos hk
    rw [laws_eqIntS.l0, if_neg (by omega), List.drop_of_length_le (by omega), List.drop_of_length_le (by omega)]
    rfl
  | succ d ih =>
    intro k i hi hk
    obtain ⟨k, rfl⟩ := succ_of_pos hk
    rw [laws_eqIntS.l0, if_pos (by omega), if_pos (by omega), if_pos (by omega), w64 (by omega) (by omega), rd_nat xs i (by omega), rd_nat ys i (by omega), List.drop_eq_getElem_cons (l := xs) (i := i) (by omega), List.drop_eq_getElem_cons (l := ys) (i := i) (by omega)]
    by_cases h : xs[i] = ys[i]
    · rw [if_pos h, h]
      simp only [List.cons.injEq, true_and]
      exact ih k (i + 1) (by omega) (by omega)
    · rw [if_neg h]
      simp only [List.cons.injEq, h, false_and, decide_false]

theorem eqIntS_eq {k : Nat} {xs ys : List Int} (hn : xs.length ≤ 1099511627776) (hk : xs.length < k) : laws_eqIntS.f k xs ys = some (decide (xs = ys)) := by
  rw [laws_eqIntS.f]
  by_cases h : xs.length = ys.length
  · rw [if_pos (by omega)]
    exact eqIntS_l0 xs ys hn h xs.length k 0 (by omega) hk
  · rw [if_neg (by omega)]
    have : xs ≠ ys := fun e => h (by rw [e])
    simp [this]

theorem eqIntS_self {k : Nat} {xs : List Int} (hn : xs.length ≤ 1099511627776) (hk : xs.length < k) : laws_eqIntS.f k xs xs = some true := by
  rw [eqIntS_eq hn hk]; simp

theorem rdl_nat (xs : List (List Int)) (i : Nat) (h : i < xs.length) : rd_L1 xs (i : Int) = xs[i] := by
  unfold rd_L1; rw [Int.toNat_natCast]; simp [List.getD, h]

def sizes (R : List (List Int)) : Nat := (R.map List.length).sum

theorem sizes_cons (x : List Int) (R : List (List Int)) : sizes (x :: R) = x.length + sizes R := by simp [sizes]

theorem le_sum_mem : ∀ {l : List Nat} {x : Nat}, x ∈ l → x ≤ l.sum
  | a :: l, x, h => by
    rw [List.sum_cons]
    rcases List.mem_cons.1 h with rfl | h
    · omega
    · have := le_sum_mem h
      omega

theorem sizes_at {R : List (List Int)} {i : Nat} (h : i < R.length) : (R[i]).length ≤ sizes R := by
  unfold sizes
  exact le_sum_mem (List.mem_map.2 ⟨R[i], List.getElem_mem _, rfl⟩)

theorem szIntSS_l0 (R : List (List Int)) (hR : R.length ≤ 1099511627776) (hr : ∀ x ∈ R, x.length ≤ maxLen) : ∀ (d k i : Nat) (m : Int), i + d = R.length → d < k → 0 ≤ m → m ≤ 1048576 →
    ∃ s, laws_szIntSS.l0 k R m (i : Int) = some s ∧ (s < 0 ∨ (0 ≤ s ∧ s = m - sizes (R.drop i))) := by
  intro d
  induction d with
  | zero =>
    intro k i m hi hk h0 h1
    obtain ⟨k, rfl⟩ := succ_of_pos hk
    refine ⟨m, by rw [laws_szIntSS.l0, if_neg (by omega)], .inr ⟨h0, ?_⟩⟩
    rw [List.drop_of_length_le (by omega)]
    simp [sizes]
  | succ d ih =>
    intro k i m hi hk h0 h1
    obtain ⟨k, rfl⟩ := succ_of_pos hk
    have hil : i < R.length := by omega
    have hb := hr R[i] (List.getElem_mem _)
    unfold maxLen at hb
    rw [laws_szIntSS.l0, if_pos (by omega), if_pos (by omega), rdl_nat R i hil, laws_szIntS.f, w64 (x := m - ((R[i]).length : Int)) (by omega) (by omega), w64 (x := (i : Int) + 1) (by omega) (by omega)]
    by_cases hc : m - ((R[i]).length : Int) < 0
    · exact ⟨-1, by rw [if_pos hc]; simp, .inl (by omega)⟩
    · rw [if_neg hc]
      simp only [Option.bind_some]
      rw [if_neg hc]
      obtain ⟨s, hs, h⟩ := ih k (i + 1) (m - ((R[i]).length : Int)) (by omega) (by omega) (by omega) (by omega)
      refine ⟨s, hs, h.imp id fun h => ⟨h.1, ?_⟩⟩
      rw [h.2, List.drop_eq_getElem_cons hil, sizes_cons]
      omega

theorem szTableau_two {I : List Int} {R : List (List Int)} {m : Int} {k : Nat} (h0 : I.length ≤ maxLen) (h1 : R.length ≤ maxLen) (hr : ∀ x ∈ R, x.length ≤ maxLen) (hm : 0 ≤ m) (hm1 : m ≤ 1048576) (hk : 1048580 < k) :
    ∃ s, laws_szTableau.f k I R m = some s ∧ (s < 0 ∨ (I.length ≤ 1048576 ∧ R.length ≤ 1048576 ∧ sizes R ≤ 1048576 ∧ 0 ≤ s ∧ s ≤ 1048576)) := by
  have hr' := hr
  unfold maxLen at h0 h1
  simp only [laws_szTableau.f, laws_szIntS.f, laws_szIntSS.f]
  rw [w64 (x := m - (I.length : Int)) (by omega) (by omega)]
  by_cases ha : m - (I.length : Int) < 0
  · exact ⟨-1, by rw [if_pos ha]; simp, .inl (by omega)⟩
  · rw [if_neg ha]
    simp only [Option.bind_some]
    rw [if_neg ha, w64 (x := m - (I.length : Int) - (R.length : Int)) (by omega) (by omega)]
    by_cases hb : m - (I.length : Int) - (R.length : Int) < 0
    · exact ⟨-1, by rw [if_pos hb]; simp, .inl (by omega)⟩
    · rw [if_neg hb]
      obtain ⟨s, hs, h⟩ := szIntSS_l0 R (by omega) hr' R.length k 0 (m - (I.length : Int) - (R.length : Int)) (by omega) (by omega) (by omega) (by omega)
      have hs' : laws_szIntSS.l0 k R (m - (I.length : Int) - (R.length : Int)) 0 = some s := hs
      rw [hs', Option.bind_some]
      rcases h with h | ⟨h2, h3⟩
      · exact ⟨-1, by rw [if_pos h], .inl (by omega)⟩
      · rw [List.drop_zero] at h3
        exact ⟨s, by rw [if_neg (by omega)], .inr ⟨by omega, by omega, by omega, h2, by omega⟩⟩

theorem toIntSS_l0 (R : List (List Int)) (hR : R.length ≤ 1099511627776) {B : Nat} (hB : B ≤ 1099511627776) (hr : ∀ x ∈ R, x.length ≤ B) : ∀ (d k i : Nat) (ys : List (List Int)), i + d = R.length → ys.length = R.length → (∀ j, j < i → ys[j]? = R[j]?) → d + B + 1 < k → laws_toIntSS.l0 k R ys (i : Int) = some R := by
  intro d
  induction d with
  | zero =>
    intro k i ys hi hl ht hk
    obtain ⟨k, rfl⟩ := succ_of_pos hk
    rw [laws_toIntSS.l0, if_neg (by omega)]
    congr 1
    refine List.ext_getElem? fun j => ?_
    by_cases hj : j < i
    · exact ht j hj
    · rw [List.getElem?_eq_none (by omega), List.getElem?_eq_none (by omega)]
  | succ d ih =>
    intro k i ys hi hl ht hk
    obtain ⟨k, rfl⟩ := succ_of_pos hk
    have hil : i < R.length := by omega
    have hb := hr R[i] (List.getElem_mem _)
    rw [laws_toIntSS.l0, if_pos (by omega), if_pos (by omega), rdl_nat R i hil, toIntS_eq (by omega) (by omega), Option.bind_some, if_pos (by omega), w64 (by omega) (by omega), Int.toNat_natCast]
    refine ih k (i + 1) (ys.set i R[i]) (by omega) (by simp [hl]) (fun j hj => ?_) (by omega)
    rw [List.getElem?_set]
    by_cases hij : i = j
    · subst hij
      rw [if_pos rfl, if_pos (by omega), List.getElem?_eq_getElem]
    · rw [if_neg hij]
      exact ht j (by omega)

theorem toTableau_eq {k : Nat} {I : List Int} {R : List (List Int)} (hn : I.length ≤ 1048576) (hR : R.length ≤ 1048576) (hs : sizes R ≤ 1048576) (hk : 4194304 < k) : laws_toTableau.f k I R = some (I, R) := by
  have hr : ∀ x ∈ R, x.length ≤ 1048576 := by
    intro x hx
    obtain ⟨i, hi, rfl⟩ := List.getElem_of_mem hx
    exact Nat.le_trans (sizes_at hi) hs
  rw [laws_toTableau.f, toIntS_eq (by omega) (by omega), Option.bind_some, laws_toIntSS.f, if_pos (by omega), if_pos (by omega)]
  have := toIntSS_l0 R (by omega) (B := 1048576) (by omega) hr R.length k 0 (List.replicate ((R.length : Int) : Int).toNat []) (by omega) (by simp) (fun j hj => by omega) (by omega)
  have h2 : laws_toIntSS.l0 k R (List.replicate ((R.length : Int) : Int).toNat []) 0 = some R := this
  rw [h2, Option.bind_some]

theorem eqIntSS_l0 (R : List (List Int)) (hR : R.length ≤ 1099511627776) {B : Nat} (hB : B ≤ 1099511627776) (hr : ∀ x ∈ R, x.length ≤ B) : ∀ (d k i : Nat), i + d = R.length → d + B + 1 < k → laws_eqIntSS.l0 k R R (i : Int) = some true := by
  intro d
  induction d with
  | zero =>
    intro k i hi hk
    obtain ⟨k, rfl⟩ := succ_of_pos hk
    rw [laws_eqIntSS.l0, if_neg (by omega)]
  | succ d ih =>
    intro k i hi hk
    obtain ⟨k, rfl⟩ := succ_of_pos hk
    have hil : i < R.length := by omega
    have hb := hr R[i] (List.getElem_mem _)
    rw [laws_eqIntSS.l0, if_pos (by omega), if_pos (by omega), if_pos (by omega), rdl_nat R i hil, eqIntS_self (by omega) (by omega), Option.bind_some, if_pos rfl, w64 (by omega) (by omega)]
    exact ih k (i + 1) (by omega) (by omega)

theorem eqTableau_self {k : Nat} {I : List Int} {R : List (List Int)} (hn : I.length ≤ 1048576) (hR : R.length ≤ 1048576) (hs : sizes R ≤ 1048576) (hk : 4194304 < k) : laws_eqTableau.f k I R I R = some true := by
  have hr : ∀ x ∈ R, x.length ≤ 1048576 := by
    intro x hx
    obtain ⟨i, hi, rfl⟩ := List.getElem_of_mem hx
    exact Nat.le_trans (sizes_at hi) hs
  have h2 : laws_eqIntSS.l0 k R R 0 = some true := eqIntSS_l0 R (by omega) (B := 1048576) (by omega) hr R.length k 0 (by omega) (by omega)
  rw [laws_eqTableau.f, eqIntS_self (by omega) (by omega), Option.bind_some, if_pos rfl, laws_eqIntSS.f, if_pos rfl, h2, Option.bind_some, if_pos rfl]

def isPfrom : Int → Int → List Int → Bool
  | _, _, [] => true
  | prev, sum, x :: xs => decide (1 ≤ x) && decide (x ≤ 9) && decide (x ≤ prev) && decide (sum + x ≤ 9) && isPfrom x (sum + x) xs

def isP (p : List Int) : Bool := isPfrom 9 0 p

def prevAt (xs : List Int) (i : Nat) : Int := if i = 0 then 9 else rd xs ((i : Int) - 1)

theorem prevAt_succ (xs : List Int) (i : Nat) (h : i < xs.length) : prevAt xs (i + 1) = xs[i] := by
  unfold prevAt
  rw [if_neg (by omega), show ((i + 1 : Nat) : Int) - 1 = (i : Int) by omega, rd_nat _ _ h]

theorem isPfrom_step (xs : List Int) (i : Nat) (sum : Int) (h : i < xs.length) :
    isPfrom (prevAt xs i) sum (xs.drop i) = (decide (1 ≤ xs[i]) && decide (xs[i] ≤ 9) && decide (xs[i] ≤ prevAt xs i) && decide (sum + xs[i] ≤ 9) && isPfrom (prevAt xs (i + 1)) (sum + xs[i]) (xs.drop (i + 1))) := by
  rw [List.drop_eq_getElem_cons h, isPfrom, prevAt_succ xs i h]

def genP : Nat → Nat → Nat → List (List Int)
  | 0, _, _ => [[]]
  | f + 1, m, b => [] :: (List.range (min m b)).flatMap fun a => (genP f (a + 1) (b - (a + 1))).map (((a + 1 : Nat) : Int) :: ·)

theorem mem_genP : ∀ (xs : List Int) (f m b : Nat) (prev sum : Int), isPfrom prev sum xs = true → prev ≤ m → 9 - sum ≤ b → b ≤ f → sum ≤ 9 → xs ∈ genP f m b
  | [], 0, _, _, _, _, _, _, _, _, _ => by simp [genP]
  | [], f + 1, _, _, _, _, _, _, _, _, _ => by simp [genP]
  | x :: xs, 0, m, b, prev, sum, h, hm, hb, hf, hs => by
    simp [isPfrom] at h
    omega
  | x :: xs, f + 1, m, b, prev, sum, h, hm, hb, hf, hs => by
    simp only [isPfrom, Bool.and_eq_true, decide_eq_true_eq] at h
    obtain ⟨⟨⟨⟨h1, h2⟩, h3⟩, h4⟩, h5⟩ := h
    simp only [genP, List.mem_cons, List.mem_flatMap, List.mem_map, List.mem_range]
    refine .inr ⟨(x - 1).toNat, by omega, xs, ?_, ?_⟩
    · exact mem_genP xs f _ _ x (sum + x) h5 (by omega) (by omega) (by omega) (by omega)
    · congr 1
      omega

theorem isP_mem {p : List Int} (h : isP p = true) : p ∈ genP 9 9 9 := mem_genP p 9 9 9 9 0 h (by omega) (by omega) (by omega) (by omega)

theorem all_at {α : Type} {l : List α} {f : α → Bool} (h : l.all f = true) {x : α} (hx : x ∈ l) : f x = true := List.all_eq_true.1 h x hx

theorem genP_len : (genP 9 9 9).all (fun p => decide (p.length ≤ 9)) = true := by decide +kernel

theorem isP_len {p : List Int} (h : isP p = true) : p.length ≤ 9 := of_decide_eq_true (all_at genP_len (isP_mem h))

theorem genP_rng : (genP 9 9 9).all (fun p => p.all fun x => decide (1 ≤ x) && decide (x ≤ 9)) = true := by decide +kernel

theorem rd_mem {l : List Int} {i : Int} (h0 : 0 ≤ i) (h1 : i < l.length) : rd l i ∈ l := by
  obtain ⟨n, rfl⟩ := Int.eq_ofNat_of_zero_le h0
  rw [rd_nat l n (by omega)]
  exact List.getElem_mem _

theorem isP_rd {l : List Int} {i : Int} (h : isP l = true) (h0 : 0 ≤ i) (h1 : i < l.length) : 1 ≤ rd l i ∧ rd l i ≤ 9 := by
  have := all_at (all_at genP_rng (isP_mem h)) (rd_mem h0 h1)
  simpa using this

theorem specIsP_l0 (xs : List Int) (hn : xs.length ≤ 1099511627776) : ∀ (d k i : Nat) (sum : Int), i + d = xs.length → 0 ≤ sum → sum ≤ 9 → 2 * d < k → spec_IsPartition.l0 k xs sum (i : Int) = some (isPfrom (prevAt xs i) sum (xs.drop i)) := by
  intro d
  induction d with
  | zero =>
    intro k i sum hi _ _ hk
    obtain ⟨k, rfl⟩ := succ_of_pos hk
    rw [spec_IsPartition.l0, if_neg (by omega), List.drop_of_length_le (by omega)]
    rfl
  | succ d ih =>
    intro k i sum hi hs0 hs9 hk
    obtain ⟨k, rfl⟩ : ∃ m, k = m + 2 := ⟨k - 2, by omega⟩
    have hil : i < xs.length := by omega
    rw [spec_IsPartition.l0, if_pos (by omega), if_pos (by omega), rd_nat _ _ hil, isPfrom_step xs i sum hil, spec_l1In.f]
    by_cases h1 : xs[i] ≥ 1
    · rw [if_pos h1]
      by_cases h2 : xs[i] ≤ 9
      · have e1 : decide (1 ≤ xs[i]) = true := by simp; omega
        simp only [h2, e1, decide_true, Option.bind_some, Bool.true_and]
        rw [if_pos trivial]
        have hj : ∀ b : Bool, b = decide (xs[i] ≤ prevAt xs i) → spec_IsPartition.j1 (k + 1) xs sum (i : Int) (!b) = some (b && decide (sum + xs[i] ≤ 9) && isPfrom (prevAt xs (i + 1)) (sum + xs[i]) (xs.drop (i + 1))) := by
          intro b hb
          rw [spec_IsPartition.j1]
          cases b with
          | false => simp
          | true =>
            rw [if_neg (by simp), if_pos (by omega), if_pos (by omega), rd_nat _ _ hil, w64 (by omega) (by omega), w64 (by omega) (by omega)]
            by_cases h4 : sum + xs[i] > 9
            · rw [if_pos h4]
              have : ¬ (sum + xs[i] ≤ 9) := by omega
              simp [this]
            · rw [if_neg h4]
              have h5 : sum + xs[i] ≤ 9 := by omega
              have := ih k (i + 1) (sum + xs[i]) (by omega) (by omega) h5 (by omega)
              simp only [h5, decide_true, Bool.true_and]
              exact this
        by_cases h0 : (i : Int) > 0
        · rw [if_pos h0, w64 (by omega) (by omega), if_pos (by omega), if_pos (by omega)]
          have e : decide (xs[i] > rd xs ((i : Int) - 1)) = !(decide (xs[i] ≤ prevAt xs i)) := by
            unfold prevAt
            rw [if_neg (by omega)]
            by_cases hc : xs[i] ≤ rd xs ((i : Int) - 1)
            · have : ¬ (xs[i] > rd xs ((i : Int) - 1)) := by omega
              simp [hc]
            · have : xs[i] > rd xs ((i : Int) - 1) := by omega
              simp [hc, this]
          rw [e]
          exact hj _ rfl
        · rw [if_neg h0]
          have e : decide (xs[i] ≤ prevAt xs i) = true := by
            unfold prevAt
            rw [if_pos (by omega)]
            simpa using h2
          have := hj true e.symm
          rw [e]
          exact this
      · simp [h2]
        rfl
    · rw [if_neg h1]
      have : ¬ (1 ≤ xs[i]) := by omega
      simp [this]
      rfl

theorem specIsP_eq {k : Nat} {xs : List Int} (hn : xs.length ≤ 1099511627776) (hk : 2 * xs.length < k) : spec_IsPartition.f k xs = some (isP xs) :=
  specIsP_l0 xs hn xs.length k 0 0 (by omega) (by omega) (by omega) hk

theorem implIsP_l0 (xs : List Int) (hn : xs.length ≤ 1099511627776) : ∀ (d k i : Nat) (sum : Int), i + d = xs.length → 0 ≤ sum → sum ≤ 9 → 2 * d < k → impl_IsPartition.l0 k xs sum xs (xs.length : Int) (i : Int) = some (isPfrom (prevAt xs i) sum (xs.drop i)) := by
  intro d
  induction d with
  | zero =>
    intro k i sum hi _ _ hk
    obtain ⟨k, rfl⟩ := succ_of_pos hk
    rw [impl_IsPartition.l0, if_neg (by omega), List.drop_of_length_le (by omega)]
    rfl
  | succ d ih =>
    intro k i sum hi hs0 hs9 hk
    obtain ⟨k, rfl⟩ : ∃ m, k = m + 2 := ⟨k - 2, by omega⟩
    have hil : i < xs.length := by omega
    rw [impl_IsPartition.l0, if_pos (by omega), if_pos (by omega), if_pos (by omega), rd_nat _ _ hil, isPfrom_step xs i sum hil, impl_within.f]
    by_cases h1 : 1 ≤ xs[i]
    · rw [if_pos h1]
      by_cases h2 : xs[i] ≤ 9
      · simp only [h2, h1, decide_true, Option.bind_some, Bool.true_and]
        rw [if_pos trivial]
        have hj : ∀ b : Bool, b = decide (xs[i] ≤ prevAt xs i) → impl_IsPartition.j1 (k + 1) xs sum xs[i] xs (xs.length : Int) (i : Int) (!b) = some (b && decide (sum + xs[i] ≤ 9) && isPfrom (prevAt xs (i + 1)) (sum + xs[i]) (xs.drop (i + 1))) := by
          intro b hb
          rw [impl_IsPartition.j1]
          cases b with
          | false => simp
          | true =>
            rw [if_neg (by simp), w64 (by omega) (by omega), w64 (by omega) (by omega)]
            by_cases h4 : sum + xs[i] > 9
            · rw [if_pos h4]
              have : ¬ (sum + xs[i] ≤ 9) := by omega
              simp [this]
            · rw [if_neg h4]
              have h5 : sum + xs[i] ≤ 9 := by omega
              have := ih k (i + 1) (sum + xs[i]) (by omega) (by omega) h5 (by omega)
              simp only [h5, decide_true, Bool.true_and]
              exact this
        by_cases h0 : (i : Int) > 0
        · rw [if_pos h0, w64 (by omega) (by omega), if_pos (by omega), if_pos (by omega)]
          have e : decide (xs[i] > rd xs ((i : Int) - 1)) = !(decide (xs[i] ≤ prevAt xs i)) := by
            unfold prevAt
            rw [if_neg (by omega)]
            by_cases hc : xs[i] ≤ rd xs ((i : Int) - 1)
            · have : ¬ (xs[i] > rd xs ((i : Int) - 1)) := by omega
              simp [hc]
            · have : xs[i] > rd xs ((i : Int) - 1) := by omega
              simp [hc, this]
          rw [e]
          exact hj _ rfl
        · rw [if_neg h0]
          have e : decide (xs[i] ≤ prevAt xs i) = true := by
            unfold prevAt
            rw [if_pos (by omega)]
            simpa using h2
          have := hj true e.symm
          rw [e]
          exact this
      · simp [h2]
        rfl
    · rw [if_neg h1]
      simp [h1]
      rfl

theorem implIsP_eq {k : Nat} {xs : List Int} (hn : xs.length ≤ 1099511627776) (hk : 2 * xs.length < k) : impl_IsPartition.f k xs = some (isP xs) :=
  implIsP_l0 xs hn xs.length k 0 0 (by omega) (by omega) (by omega) hk

def insB : List Int → List Int → Bool
  | [], _ => true
  | _ :: _, [] => false
  | x :: xs, y :: ys => decide (x ≤ y) && insB xs ys

theorem ins_parts : (genP 9 9 9).all (fun q => (genP 9 9 9).all fun p => spec_IsInside.f 50 q p == some (insB q p) && impl_IsInside.f 50 q p == some (insB q p)) = true := by decide +kernel

theorem specInside_eq {k : Nat} {l0 l1 : List Int} (hn : l0.length ≤ 1099511627776) (hn1 : l1.length ≤ 1099511627776) (hk : 2 * l0.length + 2 * l1.length + 50 < k) : spec_IsInside.f k l0 l1 = some (isP l0 && isP l1 && insB l0 l1) := by
  by_cases hc : isP l0 = true ∧ isP l1 = true
  · have h := all_at (all_at ins_parts (isP_mem hc.1)) (isP_mem hc.2)
    simp only [Bool.and_eq_true, beq_iff_eq] at h
    rw [hc.1, hc.2]
    exact at_rounds (spec_IsInside.mono l0 l1) (by omega) h.1
  · obtain ⟨k, rfl⟩ := succ_of_pos hk
    rw [spec_IsInside.f, specIsP_eq hn (by omega)]
    simp only [Option.bind_some]
    cases h0 : isP l0 with
    | false => simp [spec_IsInside.j0]
    | true =>
      have h1 : isP l1 = false := by
        cases h1 : isP l1 with
        | false => rfl
        | true => exact absurd ⟨h0, h1⟩ hc
      rw [if_pos rfl, specIsP_eq hn1 (by omega), h1]
      simp [spec_IsInside.j0]

theorem implInside_eq {k : Nat} {l0 l1 : List Int} (hn : l0.length ≤ 1099511627776) (hn1 : l1.length ≤ 1099511627776) (hk : 2 * l0.length + 2 * l1.length + 50 < k) : impl_IsInside.f k l0 l1 = some (isP l0 && isP l1 && insB l0 l1) := by
  by_cases hc : isP l0 = true ∧ isP l1 = true
  · have h := all_at (all_at ins_parts (isP_mem hc.1)) (isP_mem hc.2)
    simp only [Bool.and_eq_true, beq_iff_eq] at h
    rw [hc.1, hc.2]
    exact at_rounds (impl_IsInside.mono l0 l1) (by omega) h.2
  · obtain ⟨k, rfl⟩ := succ_of_pos hk
    rw [impl_IsInside.f, implIsP_eq hn (by omega)]
    simp only [Option.bind_some]
    cases h0 : isP l0 with
    | false => simp [impl_IsInside.j0]
    | true =>
      have h1 : isP l1 = false := by
        cases h1 : isP l1 with
        | false => rfl
        | true => exact absurd ⟨h0, h1⟩ hc
      rw [if_pos rfl, implIsP_eq hn1 (by omega), h1]
      simp [impl_IsInside.j0]

def insPairs : List (List Int × List Int) := (genP 9 9 9).flatMap fun p => ((genP 9 9 9).filter fun q => insB q p).map fun q => (p, q)

theorem insPairs_mem {p q : List Int} (hp : isP p = true) (hq : isP q = true) (h : insB q p = true) : (p, q) ∈ insPairs := by
  simp only [insPairs, List.mem_flatMap, List.mem_map, List.mem_filter]
  exact ⟨p, isP_mem hp, q, ⟨isP_mem hq, h⟩, rfl⟩

theorem ins_three {p q : List Int} (h : ¬ (isP q && isP p && insB q p) = false) : isP p = true ∧ isP q = true ∧ insB q p = true := by
  simp only [Bool.not_eq_false, Bool.and_eq_true] at h
  exact ⟨h.1.2, h.1.1, h.2⟩

def atv (l : List Int) (a : Int) : Int := if a < 0 then 0 else if a ≥ (l.length : Int) then 0 else rd l a

theorem l2At_eq (l : List Int) (a : Int) : spec_l2At.f l a = some (atv l a) := by
  unfold spec_l2At.f atv
  by_cases h1 : a < 0
  · rw [if_pos h1, if_pos h1]
  · rw [if_neg h1, if_neg h1]
    by_cases h2 : a ≥ (l.length : Int)
    · rw [if_pos h2, if_pos h2]
    · rw [if_neg h2, if_neg h2, if_pos (by omega), if_pos (by omega)]

theorem at_eq {l : List Int} (hn : l.length ≤ 1099511627776) (a : Int) : impl_at.f l a = some (atv l a) := by
  unfold impl_at.f atv impl_within.f
  rw [w64 (by omega) (by omega)]
  by_cases h1 : a < 0
  · rw [if_neg (by omega), Option.bind_some, if_neg (by decide), if_pos h1]
  · rw [if_pos (by omega), Option.bind_some, if_neg h1]
    by_cases h2 : a ≥ (l.length : Int)
    · have : decide (a ≤ (l.length : Int) - 1) = false := by simp; omega
      rw [this, if_neg (by decide), if_pos h2]
    · have : decide (a ≤ (l.length : Int) - 1) = true := by simp; omega
      rw [this, if_pos rfl, if_pos (by omega), if_pos (by omega), if_neg h2]

theorem atv_nat {l : List Int} {i : Nat} (h : i < l.length) : atv l (i : Int) = l[i] := by
  unfold atv
  rw [if_neg (by omega), if_neg (by omega), rd_nat l i h]

theorem atv_out {l : List Int} {a : Int} (h : a < 0 ∨ (l.length : Int) ≤ a) : atv l a = 0 := by
  unfold atv
  by_cases h1 : a < 0
  · rw [if_pos h1]
  · rw [if_neg h1, if_pos (by omega)]

theorem atv_rng {l : List Int} (h : isP l = true) (a : Int) : 0 ≤ atv l a ∧ atv l a ≤ 9 := by
  unfold atv
  by_cases h1 : a < 0
  · rw [if_pos h1]; omega
  · rw [if_neg h1]
    by_cases h2 : a ≥ (l.length : Int)
    · rw [if_pos h2]; omega
    · rw [if_neg h2]
      have := isP_rd h (by omega) (by omega : a < l.length)
      omega

def outF (I : List Int) : Nat → List (List Int) → List Int
  | _, [] => []
  | i, r :: rs => (atv I i + r.length) :: outF I (i + 1) rs

theorem outF_len (I : List Int) : ∀ (R : List (List Int)) (i : Nat), (outF I i R).length = R.length
  | [], _ => rfl
  | _ :: rs, i => by simp [outF, outF_len I rs]

theorem outF_at (I : List Int) : ∀ (R : List (List Int)) (i j : Nat) (h : j < R.length), (outF I i R)[j]'(by rw [outF_len]; exact h) = atv I ((i + j : Nat) : Int) + (R[j]).length
  | r :: rs, i, 0, _ => by simp [outF]
  | r :: rs, i, j + 1, h => by
    have := outF_at I rs (i + 1) j (by simpa using h)
    simp only [outF, List.getElem_cons_succ]
    rw [this]
    congr 2
    omega

def okShape (I : List Int) (R : List (List Int)) : Bool := isP I && decide (I.length ≤ R.length) && isP (outF I 0 R) && insB I (outF I 0 R)

def shapeV (I : List Int) (R : List (List Int)) : List Int × List Int × Bool := if okShape I R then (outF I 0 R, I, true) else ([], [], false)

theorem specShape_l0 {I : List Int} {R : List (List Int)} (hI : isP I = true) (hIR : I.length ≤ R.length) (hR : R.length ≤ 1048576) (hr : ∀ x ∈ R, x.length ≤ 1048576) : ∀ (d k i : Nat) (acc : List Int), i + d = R.length → acc.length = i → outF I 0 R = acc ++ outF I i (R.drop i) → d + 4 * R.length + 100 < k →
    spec_ShapeOf.l0 k (i : Int) I R acc I = some (shapeV I R) := by
  have hIl := isP_len hI
  intro d
  induction d with
  | zero =>
    intro k i acc hi ha ho hk
    obtain ⟨k, rfl⟩ := succ_of_pos hk
    rw [List.drop_of_length_le (by omega)] at ho
    simp only [outF, List.append_nil] at ho
    subst ho
    rw [spec_ShapeOf.l0, if_neg (by omega), spec_IsShape.f, specInside_eq (by omega) (by rw [outF_len]; omega) (by rw [outF_len]; omega)]
    simp only [Option.bind_some]
    unfold shapeV okShape
    rw [hI, decide_eq_true hIR]
    simp only [Bool.true_and]
    by_cases hb : (isP (outF I 0 R) && insB I (outF I 0 R)) = true
    · rw [if_pos hb, if_pos hb]
    · rw [if_neg hb, if_neg hb]
  | succ d ih =>
    intro k i acc hi ha ho hk
    obtain ⟨k, rfl⟩ := succ_of_pos hk
    have hil : i < R.length := by omega
    have hb := hr R[i] (List.getElem_mem _)
    have hv := atv_rng hI (i : Int)
    rw [spec_ShapeOf.l0, if_pos (by omega), l2At_eq, Option.bind_some, if_pos (by omega), if_pos (by omega), rdl_nat R i hil, w64 (x := (i : Int) + 1) (by omega) (by omega), w64 (x := atv I (i : Int) + ((R[i]).length : Int)) (by omega) (by omega)]
    refine ih k (i + 1) _ (by omega) (by simp [ha]) ?_ (by omega)
    rw [ho, List.drop_eq_getElem_cons hil, outF]
    simp

theorem implShape_l0 {I : List Int} {R : List (List Int)} (hI : isP I = true) (hIR : I.length ≤ R.length) (hR : R.length ≤ 1048576) (hr : ∀ x ∈ R, x.length ≤ 1048576) : ∀ (d k i : Nat) (acc : List Int), i + d = R.length → acc.length = i → outF I 0 R = acc ++ outF I i (R.drop i) → d + 4 * R.length + 100 < k →
    impl_ShapeOf.l0 k R (R.length : Int) (i : Int) I R acc I = some (shapeV I R) := by
  have hIl := isP_len hI
  intro d
  induction d with
  | zero =>
    intro k i acc hi ha ho hk
    obtain ⟨k, rfl⟩ := succ_of_pos hk
    rw [List.drop_of_length_le (by omega)] at ho
    simp only [outF, List.append_nil] at ho
    subst ho
    rw [impl_ShapeOf.l0, if_neg (by omega), impl_IsShape.f, implInside_eq (by omega) (by rw [outF_len]; omega) (by rw [outF_len]; omega)]
    simp only [Option.bind_some]
    unfold shapeV okShape
    rw [hI, decide_eq_true hIR]
    simp only [Bool.true_and]
    by_cases hb : (isP (outF I 0 R) && insB I (outF I 0 R)) = true
    · rw [if_pos hb, if_pos hb]
    · rw [if_neg hb, if_neg hb]
  | succ d ih =>
    intro k i acc hi ha ho hk
    obtain ⟨k, rfl⟩ := succ_of_pos hk
    have hil : i < R.length := by omega
    have hb := hr R[i] (List.getElem_mem _)
    have hv := atv_rng hI (i : Int)
    rw [impl_ShapeOf.l0, if_pos (by omega), if_pos (by omega), if_pos (by omega), at_eq (by omega), Option.bind_some, if_pos (by omega), rdl_nat R i hil, w64 (x := (i : Int) + 1) (by omega) (by omega), w64 (x := atv I (i : Int) + ((R[i]).length : Int)) (by omega) (by omega)]
    refine ih k (i + 1) _ (by omega) (by simp [ha]) ?_ (by omega)
    rw [ho, List.drop_eq_getElem_cons hil, outF]
    simp

theorem rows_small {R : List (List Int)} (hs : sizes R ≤ 1048576) : ∀ x ∈ R, x.length ≤ 1048576 := by
  intro x hx
  obtain ⟨i, hi, rfl⟩ := List.getElem_of_mem hx
  exact Nat.le_trans (sizes_at hi) hs

theorem shapeV_no {I : List Int} {R : List (List Int)} (h : isP I = false ∨ R.length < I.length ∨ 9 < R.length) : shapeV I R = ([], [], false) := by
  unfold shapeV okShape
  rcases h with h | h | h
  · rw [h]; rfl
  · rw [decide_eq_false (by omega)]; simp
  · have : isP (outF I 0 R) = false := by
      cases hp : isP (outF I 0 R) with
      | false => rfl
      | true =>
        have := isP_len hp
        rw [outF_len] at this
        omega
    rw [this]; simp

theorem specShapeOf_eq {I : List Int} {R : List (List Int)} {k : Nat} (hI : I.length ≤ 1048576) (hR : R.length ≤ 1048576) (hs : sizes R ≤ 1048576) (hk : 8388608 < k) : spec_ShapeOf.f k I R = some (shapeV I R) := by
  obtain ⟨k, rfl⟩ := succ_of_pos hk
  have ht : ∀ x y z, spec_ShapeOf.j0 (k + 1) true x y z = some ([], [], false) := fun x y z => by rw [spec_ShapeOf.j0]; rfl
  rw [spec_ShapeOf.f]
  simp only [Option.bind_some, List.nil_append, List.length_nil, Nat.zero_add]
  rw [if_pos (by omega), specIsP_eq (by omega) (by omega), Option.bind_some]
  cases hp : isP I with
  | false => rw [if_neg (by decide), ht, shapeV_no (.inl hp)]
  | true =>
    rw [if_pos rfl]
    by_cases h1 : (I.length : Int) > (R.length : Int)
    · rw [if_pos h1, ht, shapeV_no (.inr (.inl (by omega)))]
    · rw [if_neg h1]
      by_cases h2 : (R.length : Int) > 9
      · rw [decide_eq_true h2, ht, shapeV_no (.inr (.inr (by omega)))]
      · rw [decide_eq_false h2, spec_ShapeOf.j0, if_neg (by decide)]
        exact specShape_l0 hp (by omega) hR (rows_small hs) R.length k 0 [] (by omega) rfl rfl (by omega)

theorem implShapeOf_eq {I : List Int} {R : List (List Int)} {k : Nat} (hI : I.length ≤ 1048576) (hR : R.length ≤ 1048576) (hs : sizes R ≤ 1048576) (hk : 8388608 < k) : impl_ShapeOf.f k I R = some (shapeV I R) := by
  obtain ⟨k, rfl⟩ := succ_of_pos hk
  have ht : ∀ x y, impl_ShapeOf.j0 (k + 1) true x y = some ([], [], false) := fun x y => by rw [impl_ShapeOf.j0]; rfl
  rw [impl_ShapeOf.f, implIsP_eq (by omega) (by omega), Option.bind_some]
  cases hp : isP I with
  | false => rw [if_neg (by decide), ht, shapeV_no (.inl hp)]
  | true =>
    rw [if_pos rfl]
    by_cases h1 : (I.length : Int) > (R.length : Int)
    · rw [decide_eq_true h1, ht, shapeV_no (.inr (.inl (by omega)))]
    · rw [decide_eq_false h1, impl_ShapeOf.j0, if_neg (by decide), slices_Clone_int_int.f]
      simp only [Option.bind_some, List.nil_append, List.length_nil, Nat.zero_add]
      rw [if_pos (by omega), Option.bind_some]
      exact implShape_l0 hp (by omega) hR (rows_small hs) R.length k 0 [] (by omega) rfl rfl (by omega)

def markL : Int → List Int → List Int
  | _, [] => []
  | m, _ :: xs => m :: markL (m + 1) xs

theorem markL_len : ∀ (xs : List Int) (m : Int), (markL m xs).length = xs.length
  | [], _ => rfl
  | _ :: xs, m => by simp [markL, markL_len xs]

theorem markIntS_l0 : ∀ (d k i : Nat) (xs : List Int) (m : Int), i + d = xs.length → d < k → 0 ≤ m → m + d ≤ 4611686018427387904 → xs.length ≤ 1099511627776 →
    laws_markIntS.l0 k xs m (i : Int) = some (m + d, xs.take i ++ markL m (xs.drop i)) := by
  intro d
  induction d with
  | zero =>
    intro k i xs m hi hk hm hb hn
    obtain ⟨k, rfl⟩ := succ_of_pos hk
    rw [laws_markIntS.l0, if_neg (by omega), List.drop_of_length_le (by omega), List.take_of_length_le (by omega)]
    simp [markL]
  | succ d ih =>
    intro k i xs m hi hk hm hb hn
    obtain ⟨k, rfl⟩ := succ_of_pos hk
    rw [laws_markIntS.l0, if_pos (by omega), if_pos (by omega), w64 (by omega) (by omega), w64 (by omega) (by omega), Int.toNat_natCast]
    have := ih k (i + 1) (xs.set i m) (m + 1) (by simp; omega) (by omega) (by omega) (by omega) (by simpa using hn)
    refine Eq.trans this ?_
    have e1 : (xs.set i m).take (i + 1) = xs.take i ++ [m] := by
      rw [List.take_succ_eq_append_getElem (by simp; omega)]
      simp [List.take_set_of_le]
    have e2 : (xs.set i m).drop (i + 1) = xs.drop (i + 1) := by
      rw [List.drop_set_of_lt (by omega)]
    rw [e1, e2, List.drop_eq_getElem_cons (l := xs) (i := i) (by omega), markL]
    congr 2
    · omega
    · simp

theorem markIntS_eq {k : Nat} {xs : List Int} {m : Int} (hn : xs.length ≤ 1099511627776) (hk : xs.length < k) (h0 : 0 ≤ m) (h1 : m ≤ 2305843009213693952) : laws_markIntS.f k xs m = some (m + xs.length, markL m xs) := by
  have := markIntS_l0 xs.length k 0 xs m (by omega) hk h0 (by omega) hn
  rw [laws_markIntS.f]
  simpa using this

theorem heldIntS_l0 : ∀ (xs : List Int) (k : Nat) (ys : List Int) (m : Int), xs.length < k → 0 ≤ m → m + xs.length ≤ 4611686018427387904 → ys.length + xs.length ≤ 1099511627776 →
    laws_heldIntS.l0 k (ys ++ markL m xs) m (ys.length : Int) = some (m + xs.length) := by
  intro xs
  induction xs with
  | nil =>
    intro k ys m hk hm hb hn
    obtain ⟨k, rfl⟩ := succ_of_pos hk
    rw [laws_heldIntS.l0, if_neg (by simp [markL])]
    simp
  | cons x xs ih =>
    intro k ys m hk hm hb hn
    obtain ⟨k, rfl⟩ := succ_of_pos hk
    simp only [List.length_cons] at hk hb hn
    have hl : (ys ++ markL m (x :: xs)).length = ys.length + (xs.length + 1) := by simp [markL_len]
    rw [laws_heldIntS.l0, if_pos (by omega), if_pos (by omega), rd_nat _ _ (by omega), w64 (by omega) (by omega), w64 (by omega) (by omega)]
    have e : (ys ++ markL m (x :: xs))[ys.length]'(by omega) = m := by simp [markL]
    rw [if_pos e]
    have := ih k (ys ++ [m]) (m + 1) (by omega) (by omega) (by omega) (by simp; omega)
    simp only [List.append_assoc, List.singleton_append, List.length_append, List.length_cons, List.length_nil] at this
    refine Eq.trans ?_ (this.trans ?_)
    · rfl
    · congr 1
      simp only [List.length_cons]
      omega

theorem heldIntS_eq {k : Nat} {xs : List Int} {m : Int} (hn : xs.length ≤ 1099511627776) (hk : xs.length < k) (h0 : 0 ≤ m) (h1 : m ≤ 2305843009213693952) : laws_heldIntS.f k (markL m xs) m = some (m + xs.length) := by
  have := heldIntS_l0 xs k [] m hk h0 (by omega) (by simpa using hn)
  simpa [laws_heldIntS.f] using this

def markLL : Int → List (List Int) → List (List Int)
  | _, [] => []
  | m, r :: rs => markL m r :: markLL (m + r.length) rs

theorem markLL_len : ∀ (R : List (List Int)) (m : Int), (markLL m R).length = R.length
  | [], _ => rfl
  | _ :: rs, m => by simp [markLL, markLL_len rs]

theorem markIntSS_l0 {B : Nat} (hB : B ≤ 1099511627776) : ∀ (d k i : Nat) (xs : List (List Int)) (m : Int), i + d = xs.length → d + B + 1 < k → 0 ≤ m → m + sizes (xs.drop i) ≤ 1152921504606846976 → xs.length ≤ 1099511627776 → (∀ x ∈ xs.drop i, x.length ≤ B) →
    laws_markIntSS.l0 k xs m (i : Int) = some (m + sizes (xs.drop i), xs.take i ++ markLL m (xs.drop i)) := by
  intro d
  induction d with
  | zero =>
    intro k i xs m hi hk hm hb hn hr
    obtain ⟨k, rfl⟩ := succ_of_pos hk
    rw [laws_markIntSS.l0, if_neg (by omega), List.drop_of_length_le (by omega), List.take_of_length_le (by omega)]
    simp [markLL, sizes]
  | succ d ih =>
    intro k i xs m hi hk hm hb hn hr
    obtain ⟨k, rfl⟩ := succ_of_pos hk
    have hil : i < xs.length := by omega
    have hd := List.drop_eq_getElem_cons hil
    rw [hd, sizes_cons] at hb
    have hrow := hr xs[i] (by rw [hd]; exact List.mem_cons_self ..)
    rw [laws_markIntSS.l0, if_pos (by omega), if_pos (by omega), rdl_nat xs i hil, markIntS_eq (by omega) (by omega) hm (by omega), Option.bind_some, w64 (by omega) (by omega), Int.toNat_natCast]
    have e2 : (xs.set i (markL m xs[i])).drop (i + 1) = xs.drop (i + 1) := by rw [List.drop_set_of_lt (by omega)]
    have e1 : (xs.set i (markL m xs[i])).take (i + 1) = xs.take i ++ [markL m xs[i]] := by
      rw [List.take_succ_eq_append_getElem (by simp; omega)]
      simp [List.take_set_of_le]
    have := ih k (i + 1) (xs.set i (markL m xs[i])) (m + (xs[i]).length) (by simp; omega) (by omega) (by omega) (by rw [e2]; omega) (by simpa using hn) (by rw [e2]; intro x hx; exact hr x (by rw [hd]; exact List.mem_cons_of_mem _ hx))
    refine Eq.trans this ?_
    rw [e1, e2, hd, sizes_cons, markLL]
    congr 2
    · omega
    · simp

theorem markIntSS_eq {k : Nat} {R : List (List Int)} {m : Int} (hR : R.length ≤ 1048576) (hs : sizes R ≤ 1048576) (hk : 4194304 < k) (h0 : 0 ≤ m) (h1 : m ≤ 1099511627776) : laws_markIntSS.f k R m = some (m + sizes R, markLL m R) := by
  have hr : ∀ x ∈ R, x.length ≤ 1048576 := by
    intro x hx
    obtain ⟨i, hi, rfl⟩ := List.getElem_of_mem hx
    exact Nat.le_trans (sizes_at hi) hs
  have := markIntSS_l0 (B := 1048576) (by omega) R.length k 0 R m (by omega) (by omega) h0 (by rw [List.drop_zero]; omega) (by omega) (by simpa using hr)
  rw [laws_markIntSS.f]
  simpa using this

theorem eqShape_self {k : Nat} {l0 l1 : List Int} (hn : l0.length ≤ 1099511627776) (hn1 : l1.length ≤ 1099511627776) (hk : l0.length + l1.length < k) : laws_eqShape.f k l0 l1 l0 l1 = some true := by
  rw [laws_eqShape.f, eqIntS_self hn (by omega), Option.bind_some, if_pos rfl, eqIntS_self hn1 (by omega), Option.bind_some, if_pos rfl]

theorem shapeV_small {I : List Int} {R : List (List Int)} (hI : I.length ≤ 1048576) (hR : R.length ≤ 1048576) : (shapeV I R).1.length ≤ 1048576 ∧ (shapeV I R).2.1.length ≤ 1048576 := by
  unfold shapeV
  split
  · exact ⟨by rw [outF_len]; exact hR, hI⟩
  · exact ⟨by simp, by simp⟩

theorem FnExactShapeOf (I : List Int) (R : List (List Int)) (hm0 : I.length ≤ maxLen) (_ : ∀ x ∈ I, (Lit.int .i64 x).wf = true) (hm1 : R.length ≤ maxLen) (hr : ∀ x ∈ R, x.length ≤ maxLen ∧ ∀ n ∈ x, (Lit.int .i64 n).wf = true) : ∃ k, laws_FnExactShapeOf.ok k I R := by
  refine ⟨8388700, ⟨?_⟩⟩
  obtain ⟨s, hs, h⟩ := szTableau_two (m := 1048576) (k := 8388700) hm0 hm1 (fun x hx => (hr x hx).1) (by omega) (by omega) (by omega)
  rcases h with h | ⟨h1, h2, h3, h4, _⟩
  · exact .inl ⟨s, h, hs⟩
  · obtain ⟨hp, hq⟩ := shapeV_small h1 h2
    have e2 := specShapeOf_eq h1 h2 h3 (show 8388608 < 8388700 by omega)
    have e3 := implShapeOf_eq h1 h2 h3 (show 8388608 < 8388700 by omega)
    obtain ⟨⟨P, Q, b⟩, hv⟩ : ∃ v, shapeV I R = v := ⟨_, rfl⟩
    rw [hv] at hp hq e2 e3
    dsimp only at hp hq
    have h5 : laws_markShape.f 8388700 P Q 1 = some (1 + (P.length : Int) + (Q.length : Int), markL 1 P, markL (1 + (P.length : Int)) Q) := by
      rw [laws_markShape.f, markIntS_eq (by omega) (by omega) (by omega) (by omega), Option.bind_some, markIntS_eq (by omega) (by omega) (by omega) (by omega)]
      rfl
    have h6 : laws_heldShape.f 8388700 (markL 1 P) (markL (1 + (P.length : Int)) Q) 1 = some (1 + (P.length : Int) + (Q.length : Int)) := by
      rw [laws_heldShape.f, heldIntS_eq (by omega) (by omega) (by omega) (by omega), Option.bind_some, if_neg (by omega), heldIntS_eq (by omega) (by omega) (by omega) (by omega), Option.bind_some, if_neg (by omega)]
    exact .inr ⟨s, 1 + I.length, 1 + I.length + sizes R, 1 + (P.length : Int) + (Q.length : Int), P, Q, markL 1 I, markL 1 P, markL (1 + (P.length : Int)) Q, b, markLL (1 + I.length) R, h4, hs, toTableau_eq h1 h2 h3 (by omega), e2, e3, eqShape_self (by omega) (by omega) (by omega), eqTableau_self h1 h2 h3 (by omega), markIntS_eq (by omega) (by omega) (by omega) (by omega), markIntSS_eq h2 h3 (by omega) (by omega) (by omega), by omega, h5, by omega, h6⟩

end Go.Proofs.Ytiehngfcfdlbnaa.Pure
