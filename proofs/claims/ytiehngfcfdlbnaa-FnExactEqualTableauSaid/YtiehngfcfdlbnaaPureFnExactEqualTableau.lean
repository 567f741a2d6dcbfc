/- For every two tableau values the program's EqualTableau and the reference's return the same, and the arguments read as before (the law's plain function; pure part here). No condition. -/
import Derived.Test.YtiehngfcfdlbnaaQFnExactEqualTableaux4
namespace Go.Proofs.Ytiehngfcfdlbnaa.Pure
open Go.RowKit Go.Proofs.Ytiehngfcfdlbnaa.QFnExactEqualTableau Go.Proofs.YtiehngfcfdlbnaaW.PrintWords Go.Proofs.YtiehngfcfdlbnaaW.PrintLast
set_option linter.unusedVariables false
set_option linter.unusedSimpArgs false

theorem w64 {x : Int} (h1 : -9223372036854775808 ≤ x) (h2 : x ≤ 9223372036854775807) : wrap64 x = x := by
  unfold wrap64; omega

theorem rd_nat (xs : List Int) (i : Nat) (h : i < xs.length) : rd xs (i : Int) = xs[i] := by
  unfold rd; rw [Int.toNat_natCast]; simp [List.getD, h]

theorem succ_of_pos {d k : Nat} (h : d < k) : ∃ m, k = m + 1 := ⟨k - 1, by omega⟩

theorem wf_ints {l : List Int} (h : ∀ x ∈ l, (Lit.int .i64 x).wf = true) : ∀ x ∈ l, -9223372036854775808 ≤ x ∧ x ≤ 9223372036854775807 := by
  intro x hx
  have := h x hx
  simp [Lit.wf, IntKind.min, IntKind.max, IntKind.bits, IntKind.signed] at this
  omega

theorem wf_int {x : Int} (h : (Lit.int .i64 x).wf = true) : -9223372036854775808 ≤ x ∧ x ≤ 9223372036854775807 := by
  simp [Lit.wf, IntKind.min, IntKind.max, IntKind.bits, IntKind.signed] at h
  omega

theorem toIntS_l0 (xs : List Int) (hn : xs.length ≤ 1099511627776) : ∀ (d k i : Nat) (ys : List Int), i + d = xs.length → ys.length = xs.length → (∀ j, j < i → ys[j]? = xs[j]?) → d < k → laws_toIntS.l0 k xs ys (i : Int) = some xs := by
  intro d
  induction d with
  | zero =>
    intro k i ys hi hl ht hk
    obtain ⟨k, rfl⟩ := succ_of_pos hk
    rw [laws_toIntS.l0, if_neg (by omega)]
    congr 1
    refine List.ext_getElem? fun j => ?_
    by_cases hj : j < i
    · exact ht j hj
    · rw [List.getElem?_eq_none (by omega), List.getElem?_eq_none (by omega)]
  | succ d ih =>
    intro k i ys hi hl ht hk
    obtain ⟨k, rfl⟩ := succ_of_pos hk
    rw [laws_toIntS.l0, if_pos (by omega), if_pos (by omega), if_pos (by omega), w64 (by omega) (by omega), rd_nat _ _ (by omega), Int.toNat_natCast]
    refine ih k (i + 1) (ys.set i xs[i]) (by omega) (by simp [hl]) (fun j hj => ?_) (by omega)
    rw [List.getElem?_set]
    by_cases hij : i = j
    · subst hij
      rw [if_pos rfl, if_pos (by omega), List.getElem?_eq_getElem]
    · rw [if_neg hij]
      exact ht j (by omega)

theorem toIntS_eq {k : Nat} {xs : List Int} (hn : xs.length ≤ 1099511627776) (hk : xs.length < k) : laws_toIntS.f k xs = some xs := by
  rw [laws_toIntS.f, if_pos (by omega), if_pos (by omega)]
  exact toIntS_l0 xs hn xs.length k 0 _ (by omega) (by simp) (fun j hj => by omega) hk

theorem eqIntS_l0 (xs ys : List Int) (hn : xs.length ≤ 1099511627776) (hl : xs.length = ys.length) : ∀ (d k i : Nat), i + d = xs.length → d < k → laws_eqIntS.l0 k xs ys (i : Int) = some (decide (xs.drop i = ys.drop i)) := by
  intro d
  induction d with
  | zero =>
    intro k i hi hk
    obtain ⟨k, rfl⟩ := succ_of_pos hk
    rw [laws_eqIntS.l0, if_neg (by omega), List.drop_of_length_le (by omega), List.drop_of_length_le (by omega)]
    rfl
  | succ d ih =>
    intro k i hi hk
    obtain ⟨k, rfl⟩ := succ_of_pos hk
    rw [laws_eqIntS.l0, if_pos (by omega), if_pos (by omega), if_pos (by omega), w64 (by omega) (by omega), rd_nat xs i (by omega), rd_nat ys i (by omega), List.drop_eq_getElem_cons (l := xs) (i := i) (by omega), List.drop_eq_getElem_cons (l := ys) (i := i) (by omega)]
    by_cases h : xs[i] = ys[i]
    · rw [if_pos h, h]
      simp only [List.cons.injEq, true_and]
      exact ih k (i + 1) (by omega) (by omega)
    · rw [if_neg h]
      simp only [List.cons.injEq, h, false_and, decide_false]

theorem eqIntS_eq {k : Nat} {xs ys : List Int} (hn : xs.length ≤ 1099511627776) (hk : xs.length < k) : laws_eqIntS.f k xs ys = some (decide (xs = ys)) := by
  rw [laws_eqIntS.f]
  by_cases h : xs.length = ys.length
  · rw [if_pos (by omega)]
    exact eqIntS_l0 xs ys hn h xs.length k 0 (by omega) hk
  · rw [if_neg (by omega)]
    have : xs ≠ ys := fun e => h (by rw [e])
    simp [this]

theorem eqIntS_self {k : Nat} {xs : List Int} (hn : xs.length ≤ 1099511627776) (hk : xs.length < k) : laws_eqIntS.f k xs xs = some true := by
  rw [eqIntS_eq hn hk]; simp

theorem rdl_nat (xs : List (List Int)) (i : Nat) (h : i < xs.length) : rd_L1 xs (i : Int) = xs[i] := by
  unfold rd_L1; rw [Int.toNat_natCast]; simp [List.getD, h]

def sizes (R : List (List Int)) : Nat := (R.map List.length).sum

theorem sizes_cons (x : List Int) (R : List (List Int)) : sizes (x :: R) = x.length + sizes R := by simp [sizes]

theorem le_sum_mem : ∀ {l : List Nat} {x : Nat}, x ∈ l → x ≤ l.sum
  | a :: l, x, h => by
    rw [List.sum_cons]
    rcases List.mem_cons.1 h with rfl | h
    · omega
    · have := le_sum_mem h
      omega

theorem sizes_at {R : List (List Int)} {i : Nat} (h : i < R.length) : (R[i]).length ≤ sizes R := by
  unfold sizes
  exact le_sum_mem (List.mem_map.2 ⟨R[i], List.getElem_mem _, rfl⟩)

theorem szIntSS_l0 (R : List (List Int)) (hR : R.length ≤ 1099511627776) (hr : ∀ x ∈ R, x.length ≤ maxLen) : ∀ (d k i : Nat) (m : Int), i + d = R.length → d < k → 0 ≤ m → m ≤ 1048576 →
    ∃ s, laws_szIntSS.l0 k R m (i : Int) = some s ∧ (s < 0 ∨ (0 ≤ s ∧ s = m - sizes (R.drop i))) := by
  intro d
  induction d with
  | zero =>
    intro k i m hi hk h0 h1
    obtain ⟨k, rfl⟩ := succ_of_pos hk
    refine ⟨m, by rw [laws_szIntSS.l0, if_neg (by omega)], .inr ⟨h0, ?_⟩⟩
    rw [List.drop_of_length_le (by omega)]
    simp [sizes]
  | succ d ih =>
    intro k i m hi hk h0 h1
    obtain ⟨k, rfl⟩ := succ_of_pos hk
    have hil : i < R.length := by omega
    have hb := hr R[i] (List.getElem_mem _)
    unfold maxLen at hb
    rw [laws_szIntSS.l0, if_pos (by omega), if_pos (by omega), rdl_nat R i hil, laws_szIntS.f, w64 (x := m - ((R[i]).length : Int)) (by omega) (by omega), w64 (x := (i : Int) + 1) (by omega) (by omega)]
    by_cases hc : m - ((R[i]).length : Int) < 0
    · exact ⟨-1, by rw [if_pos hc]; simp, .inl (by omega)⟩
    · rw [if_neg hc]
      simp only [Option.bind_some]
      rw [if_neg hc]
      obtain ⟨s, hs, h⟩ := ih k (i + 1) (m - ((R[i]).length : Int)) (by omega) (by omega) (by omega) (by omega)
      refine ⟨s, hs, h.imp id fun h => ⟨h.1, ?_⟩⟩
      rw [h.2, List.drop_eq_getElem_cons hil, sizes_cons]
      omega

theorem szTableau_two {I : List Int} {R : List (List Int)} {m : Int} {k : Nat} (h0 : I.length ≤ maxLen) (h1 : R.length ≤ maxLen) (hr : ∀ x ∈ R, x.length ≤ maxLen) (hm : 0 ≤ m) (hm1 : m ≤ 1048576) (hk : 1048580 < k) :
    ∃ s, laws_szTableau.f k I R m = some s ∧ (s < 0 ∨ (I.length ≤ 1048576 ∧ R.length ≤ 1048576 ∧ sizes R ≤ 1048576 ∧ 0 ≤ s ∧ s ≤ 1048576)) := by
  have hr' := hr
  unfold maxLen at h0 h1
  simp only [laws_szTableau.f, laws_szIntS.f, laws_szIntSS.f]
  rw [w64 (x := m - (I.length : Int)) (by omega) (by omega)]
  by_cases ha : m - (I.length : Int) < 0
  · exact ⟨-1, by rw [if_pos ha]; simp, .inl (by omega)⟩
  · rw [if_neg ha]
    simp only [Option.bind_some]
    rw [if_neg ha, w64 (x := m - (I.length : Int) - (R.length : Int)) (by omega) (by omega)]
    by_cases hb : m - (I.length : Int) - (R.length : Int) < 0
    · exact ⟨-1, by rw [if_pos hb]; simp, .inl (by omega)⟩
    · rw [if_neg hb]
      obtain ⟨s, hs, h⟩ := szIntSS_l0 R (by omega) hr' R.length k 0 (m - (I.length : Int) - (R.length : Int)) (by omega) (by omega) (by omega) (by omega)
      have hs' : laws_szIntSS.l0 k R (m - (I.length : Int) - (R.length : Int)) 0 = some s := hs
      rw [hs', Option.bind_some]
      rcases h with h | ⟨h2, h3⟩
      · exact ⟨-1, by rw [if_pos h], .inl (by omega)⟩
      · rw [List.drop_zero] at h3
        exact ⟨s, by rw [if_neg (by omega)], .inr ⟨by omega, by omega, by omega, h2, by omega⟩⟩

theorem toIntSS_l0 (R : List (List Int)) (hR : R.length ≤ 1099511627776) {B : Nat} (hB : B ≤ 1099511627776) (hr : ∀ x ∈ R, x.length ≤ B) : ∀ (d k i : Nat) (ys : List (List Int)), i + d = R.length → ys.length = R.length → (∀ j, j < i → ys[j]? = R[j]?) → d + B + 1 < k → laws_toIntSS.l0 k R ys (i : Int) = some R := by
  intro d
  induction d with
  | zero =>
    intro k i ys hi hl ht hk
    obtain ⟨k, rfl⟩ := succ_of_pos hk
    rw [laws_toIntSS.l0, if_neg (by omega)]
    congr 1
    refine List.ext_getElem? fun j => ?_
    by_cases hj : j < i
    · exact ht j hj
    · rw [List.getElem?_eq_none (by omega), List.getElem?_eq_none (by omega)]
  | succ d ih =>
    intro k i ys hi hl ht hk
    obtain ⟨k, rfl⟩ := succ_of_pos hk
    have hil : i < R.length := by omega
    have hb := hr R[i] (List.getElem_mem _)
    rw [laws_toIntSS.l0, if_pos (by omega), if_pos (by omega), rdl_nat R i hil, toIntS_eq (by omega) (by omega), Option.bind_some, if_pos (by omega), w64 (by omega) (by omega), Int.toNat_natCast]
    refine ih k (i + 1) (ys.set i R[i]) (by omega) (by simp [hl]) (fun j hj => ?_) (by omega)
    rw [List.getElem?_set]
    by_cases hij : i = j
    · subst hij
      rw [if_pos rfl, if_pos (by omega), List.getElem?_eq_getElem]
    · rw [if_neg hij]
      exact ht j (by omega)

theorem toTableau_eq {k : Nat} {I : List Int} {R : List (List Int)} (hn : I.length ≤ 1048576) (hR : R.length ≤ 1048576) (hs : sizes R ≤ 1048576) (hk : 4194304 < k) : laws_toTableau.f k I R = some (I, R) := by
  have hr : ∀ x ∈ R, x.length ≤ 1048576 := by
    intro x hx
    obtain ⟨i, hi, rfl⟩ := List.getElem_of_mem hx
    exact Nat.le_trans (sizes_at hi) hs
  rw [laws_toTableau.f, toIntS_eq (by omega) (by omega), Option.bind_some, laws_toIntSS.f, if_pos (by omega), if_pos (by omega)]
  have := toIntSS_l0 R (by omega) (B := 1048576) (by omega) hr R.length k 0 (List.replicate ((R.length : Int) : Int).toNat []) (by omega) (by simp) (fun j hj => by omega) (by omega)
  have h2 : laws_toIntSS.l0 k R (List.replicate ((R.length : Int) : Int).toNat []) 0 = some R := this
  rw [h2, Option.bind_some]

theorem eqIntSS_l0 (R : List (List Int)) (hR : R.length ≤ 1099511627776) {B : Nat} (hB : B ≤ 1099511627776) (hr : ∀ x ∈ R, x.length ≤ B) : ∀ (d k i : Nat), i + d = R.length → d + B + 1 < k → laws_eqIntSS.l0 k R R (i : Int) = some true := by
  intro d
  induction d with
  | zero =>
    intro k i hi hk
    obtain ⟨k, rfl⟩ := succ_of_pos hk
    rw [laws_eqIntSS.l0, if_neg (by omega)]
  | succ d ih =>
    intro k i hi hk
    obtain ⟨k, rfl⟩ := succ_of_pos hk
    have hil : i < R.length := by omega
    have hb := hr R[i] (List.getElem_mem _)
    rw [laws_eqIntSS.l0, if_pos (by omega), if_pos (by omega), if_pos (by omega), rdl_nat R i hil, eqIntS_self (by omega) (by omega), Option.bind_some, if_pos rfl, w64 (by omega) (by omega)]
    exact ih k (i + 1) (by omega) (by omega)

theorem eqTableau_self {k : Nat} {I : List Int} {R : List (List Int)} (hn : I.length ≤ 1048576) (hR : R.length ≤ 1048576) (hs : sizes R ≤ 1048576) (hk : 4194304 < k) : laws_eqTableau.f k I R I R = some true := by
  have hr : ∀ x ∈ R, x.length ≤ 1048576 := by
    intro x hx
    obtain ⟨i, hi, rfl⟩ := List.getElem_of_mem hx
    exact Nat.le_trans (sizes_at hi) hs
  have h2 : laws_eqIntSS.l0 k R R 0 = some true := eqIntSS_l0 R (by omega) (B := 1048576) (by omega) hr R.length k 0 (by omega) (by omega)
  rw [laws_eqTableau.f, eqIntS_self (by omega) (by omega), Option.bind_some, if_pos rfl, laws_eqIntSS.f, if_pos rfl, h2, Option.bind_some, if_pos rfl]

theorem sEqual_l0 (xs ys : List Int) (hn : xs.length ≤ 1099511627776) (hl : xs.length = ys.length) : ∀ (d k i : Nat), i + d = xs.length → d < k → slices_Equal_int_int.l0 k xs ys (xs.length : Int) (i : Int) = some (decide (xs.drop i = ys.drop i)) := by
  intro d
  induction d with
  | zero =>
    intro k i hi hk
    obtain ⟨k, rfl⟩ := succ_of_pos hk
    rw [slices_Equal_int_int.l0, if_neg (by omega), List.drop_of_length_le (by omega), List.drop_of_length_le (by omega)]
    rfl
  | succ d ih =>
    intro k i hi hk
    obtain ⟨k, rfl⟩ := succ_of_pos hk
    rw [slices_Equal_int_int.l0, if_pos (by omega), if_pos (by omega), if_pos (by omega), if_pos (by omega), w64 (by omega) (by omega), rd_nat xs i (by omega), rd_nat ys i (by omega), List.drop_eq_getElem_cons (l := xs) (i := i) (by omega), List.drop_eq_getElem_cons (l := ys) (i := i) (by omega)]
    by_cases h : xs[i] = ys[i]
    · rw [if_pos h, h]
      simp only [List.cons.injEq, true_and]
      exact ih k (i + 1) (by omega) (by omega)
    · rw [if_neg h]
      simp only [List.cons.injEq, h, false_and, decide_false]

theorem sEqual_eq {k : Nat} {xs ys : List Int} (hn : xs.length ≤ 1099511627776) (hk : xs.length < k) : slices_Equal_int_int.f k xs ys = some (decide (xs = ys)) := by
  rw [slices_Equal_int_int.f]
  by_cases h : xs.length = ys.length
  · rw [if_pos (by omega)]
    exact sEqual_l0 xs ys hn h xs.length k 0 (by omega) hk
  · rw [if_neg (by omega)]
    have : xs ≠ ys := fun e => h (by rw [e])
    simp [this]

theorem l2Same_l0 (xs ys : List Int) (hn : xs.length ≤ 1099511627776) (hl : xs.length = ys.length) : ∀ (d k i : Nat), i + d = xs.length → d < k → spec_l2Same.l0 k xs ys (i : Int) = some (decide (xs.drop i = ys.drop i)) := by
  intro d
  induction d with
  | zero =>
    intro k i hi hk
    obtain ⟨k, rfl⟩ := succ_of_pos hk
    rw [spec_l2Same.l0, if_neg (by omega), List.drop_of_length_le (by omega), List.drop_of_length_le (by omega)]
    rfl
  | succ d ih =>
    intro k i hi hk
    obtain ⟨k, rfl⟩ := succ_of_pos hk
    rw [spec_l2Same.l0, if_pos (by omega), if_pos (by omega), if_pos (by omega), w64 (by omega) (by omega), rd_nat xs i (by omega), rd_nat ys i (by omega), List.drop_eq_getElem_cons (l := xs) (i := i) (by omega), List.drop_eq_getElem_cons (l := ys) (i := i) (by omega)]
    by_cases h : xs[i] = ys[i]
    · rw [if_pos h, h]
      simp only [List.cons.injEq, true_and]
      exact ih k (i + 1) (by omega) (by omega)
    · rw [if_neg h]
      simp only [List.cons.injEq, h, false_and, decide_false]

theorem l2Same_eq {k : Nat} {xs ys : List Int} (hn : xs.length ≤ 1099511627776) (hk : xs.length < k) : spec_l2Same.f k xs ys = some (decide (xs = ys)) := by
  rw [spec_l2Same.f]
  by_cases h : xs.length = ys.length
  · rw [if_pos (by omega)]
    exact l2Same_l0 xs ys hn h xs.length k 0 (by omega) hk
  · rw [if_neg (by omega)]
    have : xs ≠ ys := fun e => h (by rw [e])
    simp [this]

theorem eqFunc_l0 (xs ys : List (List Int)) (hn : xs.length ≤ 1099511627776) (hl : xs.length = ys.length) (hx : ∀ x ∈ xs, x.length ≤ 1048576) : ∀ (d k i : Nat), i + d = xs.length → d + 1048576 < k → slices_EqualFunc_int_int_int_int.l0 k ys xs (xs.length : Int) (i : Int) = some (decide (xs.drop i = ys.drop i)) := by
  intro d
  induction d with
  | zero =>
    intro k i hi hk
    obtain ⟨k, rfl⟩ := succ_of_pos hk
    rw [slices_EqualFunc_int_int_int_int.l0, if_neg (by omega), List.drop_of_length_le (by omega), List.drop_of_length_le (by omega)]
    rfl
  | succ d ih =>
    intro k i hi hk
    obtain ⟨k, rfl⟩ := succ_of_pos hk
    have hr := hx (xs[i]'(by omega)) (List.getElem_mem _)
    rw [slices_EqualFunc_int_int_int_int.l0, if_pos (by omega), if_pos (by omega), if_pos (by omega), if_pos (by omega), w64 (by omega) (by omega), rdl_nat xs i (by omega), rdl_nat ys i (by omega), sEqual_eq (by omega) (by omega), List.drop_eq_getElem_cons (l := xs) (i := i) (by omega), List.drop_eq_getElem_cons (l := ys) (i := i) (by omega), Option.bind_some]
    by_cases h : xs[i] = ys[i]
    · rw [if_pos (decide_eq_true h), h]
      simp only [List.cons.injEq, true_and]
      exact ih k (i + 1) (by omega) (by omega)
    · rw [decide_eq_false h]
      simp only [List.cons.injEq, h, false_and, decide_false]
      rfl

theorem specET_l0 (I J : List Int) (xs ys : List (List Int)) (hn : xs.length ≤ 1099511627776) (hl : xs.length = ys.length) (hx : ∀ x ∈ xs, x.length ≤ 1048576) : ∀ (d k i : Nat), i + d = xs.length → d + 1048576 < k → spec_EqualTableau.l0 k (i : Int) I xs J ys = some (decide (xs.drop i = ys.drop i)) := by
  intro d
  induction d with
  | zero =>
    intro k i hi hk
    obtain ⟨k, rfl⟩ := succ_of_pos hk
    rw [spec_EqualTableau.l0, if_neg (by omega), List.drop_of_length_le (by omega), List.drop_of_length_le (by omega)]
    rfl
  | succ d ih =>
    intro k i hi hk
    obtain ⟨k, rfl⟩ := succ_of_pos hk
    have hr := hx (xs[i]'(by omega)) (List.getElem_mem _)
    rw [spec_EqualTableau.l0, if_pos (by omega), if_pos (by omega), if_pos (by omega), w64 (by omega) (by omega), rdl_nat xs i (by omega), rdl_nat ys i (by omega), l2Same_eq (by omega) (by omega), List.drop_eq_getElem_cons (l := xs) (i := i) (by omega), List.drop_eq_getElem_cons (l := ys) (i := i) (by omega), Option.bind_some]
    by_cases h : xs[i] = ys[i]
    · rw [if_pos (decide_eq_true h), h]
      simp only [List.cons.injEq, true_and]
      exact ih k (i + 1) (by omega) (by omega)
    · rw [decide_eq_false h]
      simp only [List.cons.injEq, h, false_and, decide_false]
      rfl

theorem rows_le {R : List (List Int)} (h : sizes R ≤ 1048576) : ∀ x ∈ R, x.length ≤ 1048576 := by
  intro x hx
  obtain ⟨i, hi, rfl⟩ := List.getElem_of_mem hx
  have := sizes_at hi
  omega

theorem implET_eq {k : Nat} {I J : List Int} {R S : List (List Int)} (h1 : I.length ≤ 1048576) (h2 : R.length ≤ 1048576) (h3 : sizes R ≤ 1048576) (hk : 4194304 < k) : impl_EqualTableau.f k I R J S = some (decide (I = J) && decide (R = S)) := by
  rw [impl_EqualTableau.f, sEqual_eq (by omega) (by omega), Option.bind_some, slices_EqualFunc_int_int_int_int.f]
  by_cases h : I = J
  · rw [if_pos (decide_eq_true h), decide_eq_true h, Bool.true_and]
    by_cases hl : R.length = S.length
    · rw [if_pos (by omega)]
      have := eqFunc_l0 R S (by omega) hl (rows_le h3) R.length k 0 (by omega) (by omega)
      simp only [Int.natCast_zero, List.drop_zero] at this
      rw [show (0 : Int) = ((0 : Nat) : Int) from rfl] at *
      rw [this]
      rfl
    · rw [if_neg (by omega)]
      have : R ≠ S := fun e => hl (by rw [e])
      simp [this]
  · rw [decide_eq_false h]; rfl

theorem specET_eq {k : Nat} {I J : List Int} {R S : List (List Int)} (h1 : I.length ≤ 1048576) (h2 : R.length ≤ 1048576) (h3 : sizes R ≤ 1048576) (hk : 4194304 < k) : spec_EqualTableau.f k I R J S = some (decide (I = J) && decide (R = S)) := by
  obtain ⟨k, rfl⟩ := succ_of_pos hk
  rw [spec_EqualTableau.f, l2Same_eq (by omega) (by omega), Option.bind_some]
  by_cases h : I = J
  · rw [if_pos (decide_eq_true h), decide_eq_true h, Bool.true_and, spec_EqualTableau.j0]
    by_cases hl : R.length = S.length
    · rw [if_neg (by simp [hl])]
      have := specET_l0 I J R S (by omega) hl (rows_le h3) R.length k 0 (by omega) (by omega)
      simp only [Int.natCast_zero, List.drop_zero] at this
      rw [show (0 : Int) = ((0 : Nat) : Int) from rfl] at *
      rw [this]
    · have e : ((R.length : Int) != (S.length : Int)) = true := by simp; omega
      rw [if_pos e]
      have : R ≠ S := fun e => hl (by rw [e])
      simp [this]
  · rw [decide_eq_false h]; rfl

theorem FnExactEqualTableau (I : List Int) (R : List (List Int)) (J : List Int) (S : List (List Int)) (hm0 : I.length ≤ maxLen) (_ : ∀ x ∈ I, (Lit.int .i64 x).wf = true) (hm1 : R.length ≤ maxLen) (hr : ∀ x ∈ R, x.length ≤ maxLen ∧ ∀ n ∈ x, (Lit.int .i64 n).wf = true) (hm2 : J.length ≤ maxLen) (_ : ∀ x ∈ J, (Lit.int .i64 x).wf = true) (hm3 : S.length ≤ maxLen) (hs : ∀ x ∈ S, x.length ≤ maxLen ∧ ∀ n ∈ x, (Lit.int .i64 n).wf = true) : ∃ k, laws_FnExactEqualTableau.f k I R J S = some true := by
  refine ⟨8388700, ?_⟩
  obtain ⟨s, hs1, h⟩ := szTableau_two (m := 1048576) (k := 8388700) hm0 hm1 (fun x hx => (hr x hx).1) (by omega) (by omega) (by omega)
  rw [laws_FnExactEqualTableau.f, hs1, Option.bind_some]
  rcases h with h | ⟨h1, h2, h3, h4, h5⟩
  · rw [if_pos h]
  · rw [if_neg (by omega)]
    obtain ⟨t, ht1, g⟩ := szTableau_two (m := s) (k := 8388700) hm2 hm3 (fun x hx => (hs x hx).1) (by omega) (by omega) (by omega)
    rw [ht1, Option.bind_some]
    rcases g with g | ⟨g1, g2, g3, g4, _⟩
    · rw [if_pos g]
    · rw [if_neg (by omega), toTableau_eq h1 h2 h3 (by omega), toTableau_eq g1 g2 g3 (by omega)]
      simp only [Option.bind_some, specET_eq h1 h2 h3 (show 4194304 < 8388700 by omega), implET_eq h1 h2 h3 (show 4194304 < 8388700 by omega), eqTableau_self h1 h2 h3 (show 4194304 < 8388700 by omega), eqTableau_self g1 g2 g3 (show 4194304 < 8388700 by omega)]
      simp

end Go.Proofs.Ytiehngfcfdlbnaa.Pure
