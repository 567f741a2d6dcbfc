/- For every whole number the program's FormatInt and the reference's return the same text (the law's plain function; pure part here). No condition. -/
import Derived.Test.YtcegeleoicjciaaDoorQFnExactFormatIntx1
import Derived.Lib.ItoaLen
namespace Go.Proofs.YtcegeleoicjciaaDoor.Pure
open Go.RowKit Go.Proofs.YtcegeleoicjciaaDoor.QFnExactFormatInt Go.Proofs.YtcegeleoicjciaaDoorW.PrintWords Go.Proofs.YtcegeleoicjciaaDoorW.PrintLast
set_option linter.unusedVariables false
set_option linter.unusedSimpArgs false

theorem w64 {x : Int} (h1 : -9223372036854775808 ≤ x) (h2 : x ≤ 9223372036854775807) : wrap64 x = x := by
  unfold wrap64; omega

theorem rd_nat (xs : List Int) (i : Nat) (h : i < xs.length) : rd xs (i : Int) = xs[i] := by
  unfold rd; rw [Int.toNat_natCast]; simp [List.getD, h]

theorem succ_of_pos {d k : Nat} (h : d < k) : ∃ m, k = m + 1 := ⟨k - 1, by omega⟩

theorem wf_ints {l : List Int} (h : ∀ x ∈ l, (Lit.int .i64 x).wf = true) : ∀ x ∈ l, -9223372036854775808 ≤ x ∧ x ≤ 9223372036854775807 := by
  intro x hx
  have := h x hx
  simp [Lit.wf, IntKind.min, IntKind.max, IntKind.bits, IntKind.signed] at this
  omega

theorem wf_int {x : Int} (h : (Lit.int .i64 x).wf = true) : -9223372036854775808 ≤ x ∧ x ≤ 9223372036854775807 := by
  simp [Lit.wf, IntKind.min, IntKind.max, IntKind.bits, IntKind.signed] at h
  omega

def bs (l : List UInt8) : ByteArray := ⟨l.toArray⟩

theorem bs_app (a b : List UInt8) : bs a ++ bs b = bs (a ++ b) := by
  apply ByteArray.ext
  simp [bs]

theorem bs_size (a : List UInt8) : (bs a).size = a.length := by simp [bs, ByteArray.size]

theorem bs_of (s : ByteArray) : bs s.data.toList = s := by
  apply ByteArray.ext
  simp [bs]

theorem bs_inj {a b : List UInt8} (h : bs a = bs b) : a = b := by
  have := congrArg ByteArray.data h
  simpa [bs] using this

theorem bs_toList (a : List UInt8) : (bs a).toList = a := by
  rw [Go.Lib.toList_data]
  simp [bs]

theorem nums1 (n : Nat) (h : n < 256) : strOfNums [(n : Int)] = bs [UInt8.ofNat n] := by
  apply ByteArray.ext
  simp [bs, strOfNums]

open Go.Lib (decDigits itoa nDigits)
theorem fmt_step {n : Int} {m k : Nat} {b : Bool} {acc : List UInt8} (hn : n.natAbs = m) (h0 : n ≠ 0) (hm : m ≤ 9223372036854775808) (ha : acc.length ≤ 1000) :
    ∃ n' : Int, n'.natAbs = m / 10 ∧ spec_FormatInt.l0 (k + 1) n b (bs acc) = spec_FormatInt.l0 k n' b (bs (UInt8.ofNat (48 + m % 10) :: acc)) := by
  have key : ∀ z : Int, z = ((48 + m % 10 : Nat) : Int) → (if (strOfNums [z]).size + (bs acc).size ≤ 9223372036854775807 then spec_FormatInt.l0 k (wrap64 (Int.tdiv n 10)) b (strOfNums [z] ++ bs acc) else none) = spec_FormatInt.l0 k (wrap64 (Int.tdiv n 10)) b (bs (UInt8.ofNat (48 + m % 10) :: acc)) := by
    intro z hz
    subst hz
    rw [nums1 _ (by omega), bs_size, bs_size, if_pos (by simp; omega), bs_app]
    rfl
  rcases Int.natAbs_eq n with e | e
  · rw [hn] at e
    subst e
    have e1 : Int.tmod (m : Int) 10 = ((m % 10 : Nat) : Int) := by rw [Int.tmod_eq_emod_of_nonneg (by omega)]; omega
    have e2 : Int.tdiv (m : Int) 10 = ((m / 10 : Nat) : Int) := by rw [Int.tdiv_eq_ediv_of_nonneg (by omega)]; omega
    refine ⟨((m / 10 : Nat) : Int), by omega, ?_⟩
    rw [spec_FormatInt.l0, if_neg h0, e1, if_neg (by omega), w64 (x := 48 + ((m % 10 : Nat) : Int)) (by omega) (by omega), Option.bind_some, key _ (by omega), e2, w64 (by omega) (by omega)]
  · rw [hn] at e
    subst e
    have e1 : Int.tmod (-(m : Int)) 10 = -((m % 10 : Nat) : Int) := by rw [Int.neg_tmod, Int.tmod_eq_emod_of_nonneg (by omega)]; omega
    have e2 : Int.tdiv (-(m : Int)) 10 = -((m / 10 : Nat) : Int) := by rw [Int.neg_tdiv, Int.tdiv_eq_ediv_of_nonneg (by omega)]; omega
    refine ⟨-((m / 10 : Nat) : Int), by omega, ?_⟩
    rw [spec_FormatInt.l0, if_neg h0, e1]
    by_cases hd : -((m % 10 : Nat) : Int) < 0
    · rw [if_pos hd, w64 (x := - -((m % 10 : Nat) : Int)) (by omega) (by omega), w64 (x := 48 + - -((m % 10 : Nat) : Int)) (by omega) (by omega), Option.bind_some, key _ (by omega), e2, w64 (by omega) (by omega)]
    · rw [if_neg hd, w64 (x := 48 + -((m % 10 : Nat) : Int)) (by omega) (by omega), Option.bind_some, key _ (by omega), e2, w64 (by omega) (by omega)]

theorem fmt_l0 : ∀ (m k : Nat) (n : Int) (b : Bool) (acc : List UInt8), n.natAbs = m → n ≠ 0 → m ≤ 9223372036854775808 → acc.length + nDigits m ≤ 1000 → nDigits m < k →
    spec_FormatInt.l0 k n b (bs acc) = some (bs ((if b then [45] else []) ++ decDigits m ++ acc)) := by
  intro m
  induction m using Nat.strongRecOn with
  | _ m ih =>
    intro k n b acc hn h0 hm ha hk
    have hp := Go.Lib.nDigits_pos m
    obtain ⟨k, rfl⟩ : ∃ j, k = j + 2 := ⟨k - 2, by omega⟩
    obtain ⟨n', hn', e⟩ := fmt_step (k := k + 1) (b := b) (acc := acc) hn h0 hm (by omega)
    rw [e]
    by_cases h10 : m < 10
    · have hz : n' = 0 := by omega
      subst hz
      rw [spec_FormatInt.l0, if_pos rfl, decDigits, dif_pos h10, Nat.mod_eq_of_lt h10]
      cases b with
      | false => rw [if_neg (by decide)]; rfl
      | true =>
        rw [if_pos rfl, bs_size, if_pos (by simp; omega)]
        exact congrArg some (bs_app [45] _)
    · have hd := Go.Lib.nDigits_big h10
      rw [ih (m / 10) (by omega) (k + 1) n' b _ hn' (by omega) (by omega) (by rw [List.length_cons]; omega) (by omega)]
      conv => rhs; rw [decDigits, dif_neg h10]
      simp

theorem specFmt_eq {n : Int} {k : Nat} (h0 : -9223372036854775808 ≤ n) (h1 : n ≤ 9223372036854775807) (hk : 30 < k) : spec_FormatInt.f k n = some (bs (itoa n)) := by
  rw [spec_FormatInt.f]
  by_cases hz : n = 0
  · subst hz
    rw [if_pos rfl]
    decide +kernel
  · have hd := Go.Lib.nDigits_le20 n.natAbs (by omega)
    rw [if_neg hz]
    have := fmt_l0 n.natAbs k n (decide (n < 0)) [] rfl hz (by omega) (by simp; omega) (by omega)
    have e : (bs [] : ByteArray) = ⟨#[]⟩ := rfl
    rw [← e, this]
    unfold itoa
    by_cases hn : n < 0
    · rw [if_pos hn, decide_eq_true hn, if_pos rfl]; simp
    · rw [if_neg hn, decide_eq_false hn, if_neg (by decide), show n.natAbs = n.toNat by omega]; simp

theorem implFmt_eq {n : Int} (h0 : -9223372036854775808 ≤ n) (h1 : n ≤ 9223372036854775807) : impl_FormatInt.f n = some (bs (itoa n)) := by
  rw [impl_FormatInt.f, strconv_Itoa.f, if_pos h0, if_pos h1]
  rfl

theorem FnExactFormatInt (a0 : Int) (hw : (Lit.int .i64 a0).wf = true) : ∃ k, laws_FnExactFormatInt.f k a0 = some true := by
  obtain ⟨h0, h1⟩ := wf_int hw
  refine ⟨100, ?_⟩
  rw [laws_FnExactFormatInt.f, specFmt_eq h0 h1 (by omega), Option.bind_some, implFmt_eq h0 h1, Option.bind_some, if_pos rfl]

end Go.Proofs.YtcegeleoicjciaaDoor.Pure
