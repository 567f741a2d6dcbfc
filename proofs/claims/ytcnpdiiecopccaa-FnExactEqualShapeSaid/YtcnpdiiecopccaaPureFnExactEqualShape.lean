/- For every two shapes the program's EqualShape and the reference's return the same, and the arguments read as before (the law's plain function; pure part here). No condition. -/
import Derived.Test.YtcnpdiiecopccaaQFnExactEqualShapex2
namespace Go.Proofs.Ytcnpdiiecopccaa.Pure
open Go.RowKit Go.Proofs.Ytcnpdiiecopccaa.QFnExactEqualShape Go.Proofs.YtcnpdiiecopccaaW.PrintWords Go.Proofs.YtcnpdiiecopccaaW.PrintLast
set_option linter.unusedVariables false
set_option linter.unusedSimpArgs false

theorem w64 {x : Int} (h1 : -9223372036854775808 ≤ x) (h2 : x ≤ 9223372036854775807) : wrap64 x = x := by
  unfold wrap64; omega

theorem rd_nat (xs : List Int) (i : Nat) (h : i < xs.length) : rd xs (i : Int) = xs[i] := by
  unfold rd; rw [Int.toNat_natCast]; simp [List.getD, h]

theorem succ_of_pos {d k : Nat} (h : d < k) : ∃ m, k = m + 1 := ⟨k - 1, by omega⟩

theorem wf_ints {l : List Int} (h : ∀ x ∈ l, (Lit.int .i64 x).wf = true) : ∀ x ∈ l, -9223372036854775808 ≤ x ∧ x ≤ 9223372036854775807 := by
  intro x hx
  have := h x hx
  simp [Lit.wf, IntKind.min, IntKind.max, IntKind.bits, IntKind.signed] at this
  omega

theorem wf_int {x : Int} (h : (Lit.int .i64 x).wf = true) : -9223372036854775808 ≤ x ∧ x ≤ 9223372036854775807 := by
  simp [Lit.wf, IntKind.min, IntKind.max, IntKind.bits, IntKind.signed] at h
  omega

theorem toIntS_l0 (xs : List Int) (hn : xs.length ≤ 1099511627776) : ∀ (d k i : Nat) (ys : List Int), i + d = xs.length → ys.length = xs.length → (∀ j, j < i → ys[j]? = xs[j]?) → d < k → laws_toIntS.l0 k xs ys (i : Int) = some xs := by
  intro d
  induction d with
  | zero =>
    intro k i ys hi hl ht hk
    obtain ⟨k, rfl⟩ := succ_of_pos hk
    rw [laws_toIntS.l0, if_neg (by omega)]
    congr 1
    refine List.ext_getElem? fun j => ?_
    by_cases hj : j < i
    · exact ht j hj
    · rw [List.getElem?_eq_none (by omega), List.getElem?_eq_none (by omega)]
  | succ d ih =>
    intro k i ys hi hl ht hk
    obtain ⟨k, rfl⟩ := succ_of_pos hk
    rw [laws_toIntS.l0, if_pos (by omega), if_pos (by omega), if_pos (by omega), w64 (by omega) (by omega), rd_nat _ _ (by omega), Int.toNat_natCast]
    refine ih k (i + 1) (ys.set i xs[i]) (by omega) (by simp [hl]) (fun j hj => ?_) (by omega)
    rw [List.getElem?_set]
    by_cases hij : i = j
    · subst hij
      rw [if_pos rfl, if_pos (by omega), List.getElem?_eq_getElem]
    · rw [if_neg hij]
      exact ht j (by omega)

theorem toIntS_eq {k : Nat} {xs : List Int} (hn : xs.length ≤ 1099511627776) (hk : xs.length < k) : laws_toIntS.f k xs = some xs := by
  rw [laws_toIntS.f, if_pos (by omega), if_pos (by omega)]
  exact toIntS_l0 xs hn xs.length k 0 _ (by omega) (by simp) (fun j hj => by omega) hk

theorem eqIntS_l0 (xs ys : List Int) (hn : xs.length ≤ 1099511627776) (hl : xs.length = ys.length) : ∀ (d k i : Nat), i + d = xs.length → d < k → laws_eqIntS.l0 k xs ys (i : Int) = some (decide (xs.drop i = ys.drop i)) := by
  intro d
  induction d with
  | zero =>
    intro k i hi hk
    obtain ⟨k, rfl⟩ := succ_of_pos hk
    rw [laws_eqIntS.l0, if_neg (by omega), List.drop_of_length_le (by omega), List.drop_of_length_le (by omega)]
    rfl
  | succ d ih =>
    intro k i hi hk
    obtain ⟨k, rfl⟩ := succ_of_pos hk
    rw [laws_eqIntS.l0, if_pos (by omega), if_pos (by omega), if_pos (by omega), w64 (by omega) (by omega), rd_nat xs i (by omega), rd_nat ys i (by omega), List.drop_eq_getElem_cons (l := xs) (i := i) (by omega), List.drop_eq_getElem_cons (l := ys) (i := i) (by omega)]
    by_cases h : xs[i] = ys[i]
    · rw [if_pos h, h]
      simp only [List.cons.injEq, true_and]
      exact ih k (i + 1) (by omega) (by omega)
    · rw [if_neg h]
      simp only [List.cons.injEq, h, false_and, decide_false]

theorem eqIntS_eq {k : Nat} {xs ys : List Int} (hn : xs.length ≤ 1099511627776) (hk : xs.length < k) : laws_eqIntS.f k xs ys = some (decide (xs = ys)) := by
  rw [laws_eqIntS.f]
  by_cases h : xs.length = ys.length
  · rw [if_pos (by omega)]
    exact eqIntS_l0 xs ys hn h xs.length k 0 (by omega) hk
  · rw [if_neg (by omega)]
    have : xs ≠ ys := fun e => h (by rw [e])
    simp [this]

theorem eqIntS_self {k : Nat} {xs : List Int} (hn : xs.length ≤ 1099511627776) (hk : xs.length < k) : laws_eqIntS.f k xs xs = some true := by
  rw [eqIntS_eq hn hk]; simp

theorem toShape_eq {k : Nat} {l0 l1 : List Int} (hn : l0.length ≤ 1099511627776) (hn1 : l1.length ≤ 1099511627776) (hk : l0.length + l1.length < k) : laws_toShape.f k l0 l1 = some (l0, l1) := by
  rw [laws_toShape.f, toIntS_eq hn (by omega), Option.bind_some, toIntS_eq hn1 (by omega), Option.bind_some]

theorem eqShape_self {k : Nat} {l0 l1 : List Int} (hn : l0.length ≤ 1099511627776) (hn1 : l1.length ≤ 1099511627776) (hk : l0.length + l1.length < k) : laws_eqShape.f k l0 l1 l0 l1 = some true := by
  rw [laws_eqShape.f, eqIntS_self hn (by omega), Option.bind_some, if_pos rfl, eqIntS_self hn1 (by omega), Option.bind_some, if_pos rfl]

theorem szShape_two {l0 l1 : List Int} {m : Int} (h0 : l0.length ≤ maxLen) (h1 : l1.length ≤ maxLen) (hm : 0 ≤ m) (hm1 : m ≤ 1048576) :
    ∃ s, laws_szShape.f l0 l1 m = some s ∧ (s < 0 ∨ (l0.length ≤ 1048576 ∧ l1.length ≤ 1048576 ∧ 0 ≤ s ∧ s ≤ 1048576)) := by
  unfold maxLen at h0 h1
  simp only [laws_szShape.f, laws_szIntS.f]
  rw [w64 (x := m - (l0.length : Int)) (by omega) (by omega)]
  by_cases ha : m - (l0.length : Int) < 0
  · exact ⟨-1, by rw [if_pos ha]; simp, .inl (by omega)⟩
  · rw [if_neg ha]
    simp only [Option.bind_some]
    rw [if_neg ha, w64 (x := m - (l0.length : Int) - (l1.length : Int)) (by omega) (by omega)]
    by_cases hb : m - (l0.length : Int) - (l1.length : Int) < 0
    · exact ⟨-1, by rw [if_pos hb]; simp, .inl (by omega)⟩
    · exact ⟨m - (l0.length : Int) - (l1.length : Int), by rw [if_neg hb]; simp [hb], .inr ⟨by omega, by omega, by omega, by omega⟩⟩

theorem l2Same_l0 (xs ys : List Int) (hn : xs.length ≤ 1099511627776) (hl : xs.length = ys.length) : ∀ (d k i : Nat), i + d = xs.length → d < k → spec_l2Same.l0 k xs ys (i : Int) = some (decide (xs.drop i = ys.drop i)) := by
  intro d
  induction d with
  | zero =>
    intro k i hi hk
    obtain ⟨k, rfl⟩ := succ_of_pos hk
    rw [spec_l2Same.l0, if_neg (by omega), List.drop_of_length_le (by omega), List.drop_of_length_le (by omega)]
    rfl
  | succ d ih =>
    intro k i hi hk
    obtain ⟨k, rfl⟩ := succ_of_pos hk
    rw [spec_l2Same.l0, if_pos (by omega), if_pos (by omega), if_pos (by omega), w64 (by omega) (by omega), rd_nat xs i (by omega), rd_nat ys i (by omega), List.drop_eq_getElem_cons (l := xs) (i := i) (by omega), List.drop_eq_getElem_cons (l := ys) (i := i) (by omega)]
    by_cases h : xs[i] = ys[i]
    · rw [if_pos h, h]
      simp only [List.cons.injEq, true_and]
      exact ih k (i + 1) (by omega) (by omega)
    · rw [if_neg h]
      simp only [List.cons.injEq, h, false_and, decide_false]

theorem l2Same_eq {k : Nat} {xs ys : List Int} (hn : xs.length ≤ 1099511627776) (hk : xs.length < k) : spec_l2Same.f k xs ys = some (decide (xs = ys)) := by
  rw [spec_l2Same.f]
  by_cases h : xs.length = ys.length
  · rw [if_pos (by omega)]
    exact l2Same_l0 xs ys hn h xs.length k 0 (by omega) hk
  · rw [if_neg (by omega)]
    have : xs ≠ ys := fun e => h (by rw [e])
    simp [this]

theorem sEqual_l0 (xs ys : List Int) (hn : xs.length ≤ 1099511627776) (hl : xs.length = ys.length) : ∀ (d k i : Nat), i + d = xs.length → d < k → slices_Equal_int_int.l0 k xs ys (xs.length : Int) (i : Int) = some (decide (xs.drop i = ys.drop i)) := by
  intro d
  induction d with
  | zero =>
    intro k i hi hk
    obtain ⟨k, rfl⟩ := succ_of_pos hk
    rw [slices_Equal_int_int.l0, if_neg (by omega), List.drop_of_length_le (by omega), List.drop_of_length_le (by omega)]
    rfl
  | succ d ih =>
    intro k i hi hk
    obtain ⟨k, rfl⟩ := succ_of_pos hk
    rw [slices_Equal_int_int.l0, if_pos (by omega), if_pos (by omega), if_pos (by omega), if_pos (by omega), w64 (by omega) (by omega), rd_nat xs i (by omega), rd_nat ys i (by omega), List.drop_eq_getElem_cons (l := xs) (i := i) (by omega), List.drop_eq_getElem_cons (l := ys) (i := i) (by omega)]
    by_cases h : xs[i] = ys[i]
    · rw [if_pos h, h]
      simp only [List.cons.injEq, true_and]
      exact ih k (i + 1) (by omega) (by omega)
    · rw [if_neg h]
      simp only [List.cons.injEq, h, false_and, decide_false]

theorem sEqual_eq {k : Nat} {xs ys : List Int} (hn : xs.length ≤ 1099511627776) (hk : xs.length < k) : slices_Equal_int_int.f k xs ys = some (decide (xs = ys)) := by
  rw [slices_Equal_int_int.f]
  by_cases h : xs.length = ys.length
  · rw [if_pos (by omega)]
    exact sEqual_l0 xs ys hn h xs.length k 0 (by omega) hk
  · rw [if_neg (by omega)]
    have : xs ≠ ys := fun e => h (by rw [e])
    simp [this]

theorem FnExactEqualShape (l0 l1 m0 m1 : List Int) (hm0 : l0.length ≤ maxLen) (_ : ∀ x ∈ l0, (Lit.int .i64 x).wf = true) (hm1 : l1.length ≤ maxLen) (_ : ∀ x ∈ l1, (Lit.int .i64 x).wf = true) (hm2 : m0.length ≤ maxLen) (_ : ∀ x ∈ m0, (Lit.int .i64 x).wf = true) (hm3 : m1.length ≤ maxLen) (_ : ∀ x ∈ m1, (Lit.int .i64 x).wf = true) : ∃ k, laws_FnExactEqualShape.f k l0 l1 m0 m1 = some true := by
  obtain ⟨s, hs, hs2⟩ := szShape_two (m := 1048576) hm0 hm1 (by omega) (by omega)
  rcases hs2 with hneg | ⟨hl0, hl1, hs0, hs1⟩
  · exact ⟨0, by rw [laws_FnExactEqualShape.f, hs, Option.bind_some, if_pos hneg]⟩
  obtain ⟨t, ht, ht2⟩ := szShape_two (m := s) hm2 hm3 hs0 hs1
  rcases ht2 with hneg | ⟨hl2, hl3, ht0, _⟩
  · exact ⟨0, by rw [laws_FnExactEqualShape.f, hs, Option.bind_some, if_neg (by omega), ht, Option.bind_some, if_pos hneg]⟩
  have n0 : l0.length ≤ 1099511627776 := by omega
  have n1 : l1.length ≤ 1099511627776 := by omega
  have n2 : m0.length ≤ 1099511627776 := by omega
  have n3 : m1.length ≤ 1099511627776 := by omega
  refine ⟨4194400, ?_⟩
  have e1 : ∀ k, 4194304 < k → laws_toShape.f k l0 l1 = some (l0, l1) := fun k hk => toShape_eq n0 n1 (by omega)
  have e2 : ∀ k, 4194304 < k → laws_toShape.f k m0 m1 = some (m0, m1) := fun k hk => toShape_eq n2 n3 (by omega)
  have e3 : ∀ k, 4194304 < k → laws_eqShape.f k l0 l1 l0 l1 = some true := fun k hk => eqShape_self n0 n1 (by omega)
  have e4 : ∀ k, 4194304 < k → laws_eqShape.f k m0 m1 m0 m1 = some true := fun k hk => eqShape_self n2 n3 (by omega)
  have e5 : ∀ k, 4194304 < k → spec_EqualShape.f k l0 l1 m0 m1 = some (decide (l0 = m0) && decide (l1 = m1)) := fun k hk => by
    rw [spec_EqualShape.f, l2Same_eq n0 (by omega), l2Same_eq n1 (by omega)]
    by_cases h : l0 = m0 <;> simp [h]
  have e6 : ∀ k, 4194304 < k → impl_EqualShape.f k l0 l1 m0 m1 = some (decide (l0 = m0) && decide (l1 = m1)) := fun k hk => by
    rw [impl_EqualShape.f, sEqual_eq n0 (by omega), sEqual_eq n1 (by omega)]
    by_cases h : l0 = m0 <;> simp [h]
  rw [laws_FnExactEqualShape.f, hs, Option.bind_some, if_neg (by omega), ht, Option.bind_some, if_neg (by omega)]
  simp (disch := omega) only [e1, e2, e3, e4, e5, e6, Option.bind_some, if_true]
  simp

end Go.Proofs.Ytcnpdiiecopccaa.Pure
