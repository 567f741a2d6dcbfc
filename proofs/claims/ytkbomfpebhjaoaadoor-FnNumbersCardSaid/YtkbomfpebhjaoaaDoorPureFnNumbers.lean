/- For every code FnNumbers returns true, and the code reads as before (the law's plain function; pure part here). No condition. -/
import Derived.Test.YtkbomfpebhjaoaaDoorQFnNumbersx3
import Derived.Lib.AtoiAllCases
import Derived.Lib.ItoaLen
namespace Go.Proofs.YtkbomfpebhjaoaaDoor.Pure
open Go.RowKit Go.Proofs.YtkbomfpebhjaoaaDoor.QFnNumbers Go.Proofs.YtkbomfpebhjaoaaDoorW.PrintWords Go.Proofs.YtkbomfpebhjaoaaDoorW.PrintLast
set_option linter.unusedVariables false
set_option linter.unusedSimpArgs false

theorem w64 {x : Int} (h1 : -9223372036854775808 ≤ x) (h2 : x ≤ 9223372036854775807) : wrap64 x = x := by
  unfold wrap64; omega

theorem rd_nat (xs : List Int) (i : Nat) (h : i < xs.length) : rd xs (i : Int) = xs[i] := by
  unfold rd; rw [Int.toNat_natCast]; simp [List.getD, h]

theorem succ_of_pos {d k : Nat} (h : d < k) : ∃ m, k = m + 1 := ⟨k - 1, by omega⟩

theorem wf_ints {l : List Int} (h : ∀ x ∈ l, (Lit.int .i64 x).wf = true) : ∀ x ∈ l, -9223372036854775808 ≤ x ∧ x ≤ 9223372036854775807 := by
  intro x hx
  have := h x hx
  simp [Lit.wf, IntKind.min, IntKind.max, IntKind.bits, IntKind.signed] at this
  omega

theorem wf_int {x : Int} (h : (Lit.int .i64 x).wf = true) : -9223372036854775808 ≤ x ∧ x ≤ 9223372036854775807 := by
  simp [Lit.wf, IntKind.min, IntKind.max, IntKind.bits, IntKind.signed] at h
  omega

theorem big_no {l : List Int} (h : ¬ ((l.length : Int) > 1048576)) : laws_big.f l = some false := by rw [laws_big.f]; simp; omega
theorem big_yes {l : List Int} (h : (l.length : Int) > 1048576) : laws_big.f l = some true := by rw [laws_big.f]; simp; omega

theorem and255 (x : Int) : 0 ≤ Go.bits .and .i64 x 255 ∧ Go.bits .and .i64 x 255 ≤ 255 := by
  have h : ∃ n : Nat, n ≤ 255 ∧ Go.bits .and .i64 x 255 = wrap64 (n : Int) := by
    refine ⟨(BitVec.ofInt 64 x &&& BitVec.ofInt 64 255).toNat, ?_, ?_⟩
    · rw [BitVec.toNat_and]
      exact Nat.le_trans Nat.and_le_right (by decide)
    · exact i64_w _
  obtain ⟨n, hn, e⟩ := h
  rw [e, w64 (by omega) (by omega)]
  omega

theorem l1Byte_ok {s : List Int} {pos h : Int} (hn : s.length ≤ 1099511627776) (h0 : 0 ≤ pos) : ∃ v p' h', spec_l1Byte.f s pos h = some (v, p', h') ∧ 0 ≤ v ∧ v ≤ 255 ∧ 0 ≤ p' := by
  rw [spec_l1Byte.f]
  by_cases hc : pos < (s.length : Int)
  · rw [if_pos hc, if_pos h0, w64 (x := pos + 1) (by omega) (by omega)]
    exact ⟨_, _, _, rfl, (and255 _).1, (and255 _).2, by omega⟩
  · rw [if_neg hc]
    exact ⟨_, _, _, rfl, (and255 _).1, (and255 _).2, h0⟩

theorem l1Below_ok {s : List Int} {pos h n : Int} (hn : s.length ≤ 1099511627776) (h0 : 0 ≤ pos) (h1 : 1 ≤ n) (h2 : n ≤ 256) : ∃ v p' h', spec_l1Below.f s pos h n = some (v, p', h') ∧ 0 ≤ v ∧ v < n ∧ 0 ≤ p' := by
  obtain ⟨v, p', h', e, hv0, hv1, hp⟩ := l1Byte_ok (h := h) hn h0
  refine ⟨Int.tmod v n, p', h', ?_, ?_, ?_, hp⟩
  · rw [spec_l1Below.f, if_neg (by omega), if_pos h2, e, Option.bind_some, if_neg (by omega)]
  · rw [Int.tmod_eq_emod_of_nonneg hv0]; exact Int.emod_nonneg _ (by omega)
  · rw [Int.tmod_eq_emod_of_nonneg hv0]; exact Int.emod_lt_of_pos _ (by omega)

theorem l1New_l0 (s : List Int) (hn : s.length ≤ 1099511627776) : ∀ (d k i : Nat) (h : Int), i + d = s.length → d < k → ∃ h', spec_l1New.l0 k s h (i : Int) = some (s, 0, h') := by
  intro d
  induction d with
  | zero =>
    intro k i h hi hk
    obtain ⟨k, rfl⟩ := succ_of_pos hk
    exact ⟨h, by rw [spec_l1New.l0, if_neg (by omega)]⟩
  | succ d ih =>
    intro k i h hi hk
    obtain ⟨k, rfl⟩ := succ_of_pos hk
    rw [spec_l1New.l0, if_pos (by omega)]
    by_cases hc : (i : Int) < 4000
    · rw [if_pos hc, if_pos (by omega), w64 (x := (i : Int) + 1) (by omega) (by omega)]
      exact ih k (i + 1) _ (by omega) (by omega)
    · exact ⟨h, by rw [if_neg hc]⟩

theorem l1New_ok {s : List Int} {k : Nat} (hn : s.length ≤ 1099511627776) (hk : s.length < k) : ∃ h', spec_l1New.f k s = some (s, 0, h') := l1New_l0 s hn s.length k 0 _ (by omega) hk

theorem l1PickInt_ok {s l : List Int} {pos h : Int} (hn : s.length ≤ 1099511627776) (h0 : 0 ≤ pos) (h1 : 1 ≤ l.length) (h2 : l.length ≤ 256) : ∃ v p' h', spec_l1PickInt.f s pos h l = some (v, p', h') ∧ v ∈ l ∧ 0 ≤ p' := by
  obtain ⟨v, p', h', e, hv0, hv1, hp⟩ := l1Below_ok (h := h) (n := (l.length : Int)) hn h0 (by omega) (by omega)
  refine ⟨rd l v, p', h', by rw [spec_l1PickInt.f, e, Option.bind_some, if_pos hv0, if_pos hv1], ?_, hp⟩
  obtain ⟨m, rfl⟩ := Int.eq_ofNat_of_zero_le hv0
  rw [rd_nat l m (by omega)]
  exact List.getElem_mem _

theorem l1Pick_ok {s : List Int} {l : List ByteArray} {pos h : Int} (hn : s.length ≤ 1099511627776) (h0 : 0 ≤ pos) (h1 : 1 ≤ l.length) (h2 : l.length ≤ 256) : ∃ v p' h', spec_l1Pick.f s pos h l = some (v, p', h') ∧ v ∈ l ∧ 0 ≤ p' := by
  obtain ⟨v, p', h', e, hv0, hv1, hp⟩ := l1Below_ok (h := h) (n := (l.length : Int)) hn h0 (by omega) (by omega)
  refine ⟨rdOf ByteArray.empty l v, p', h', by rw [spec_l1Pick.f, e, Option.bind_some, if_pos hv0, if_pos hv1], ?_, hp⟩
  obtain ⟨m, rfl⟩ := Int.eq_ofNat_of_zero_le hv0
  have hm : m < l.length := by omega
  have : rdOf ByteArray.empty l (m : Int) = l[m] := by
    unfold rdOf
    rw [Int.toNat_natCast]
    simp [List.getD, hm]
  rw [this]
  exact List.getElem_mem _

theorem once_ok {s : List Int} {pos h n : Int} (hn : s.length ≤ 1099511627776) (h0 : 0 ≤ pos) (h1 : 1 ≤ n) (h2 : n ≤ 256) : ∃ b p' h', spec_l1Once.f s pos h n = some (b, p', h') ∧ 0 ≤ p' := by
  obtain ⟨v, p', h', e, _, _, hp⟩ := l1Below_ok (h := h) hn h0 h1 h2
  exact ⟨_, p', h', by rw [spec_l1Once.f, e, Option.bind_some], hp⟩
theorem l1Below_big {s : List Int} {pos h n : Int} (hn : s.length ≤ 1099511627776) (h0 : 0 ≤ pos) (h1 : 256 < n) : ∃ v p' h', spec_l1Below.f s pos h n = some (v, p', h') ∧ 0 ≤ v ∧ v < n ∧ 0 ≤ p' := by
  obtain ⟨a, p1, g1, e1, a0, a1, q1⟩ := l1Byte_ok (h := h) hn h0
  obtain ⟨b, p2, g2, e2, b0, b1, q2⟩ := l1Byte_ok (h := g1) hn q1
  obtain ⟨c, p3, g3, e3, c0, c1, q3⟩ := l1Byte_ok (h := g2) hn q2
  obtain ⟨d, p4, g4, e4, d0, d1, q4⟩ := l1Byte_ok (h := g3) hn q3
  refine ⟨Int.tmod (a * 16777216 + b * 65536 + c * 256 + d) n, p4, g4, ?_, ?_, ?_, q4⟩
  · rw [spec_l1Below.f, if_neg (by omega), if_neg (by omega), e1, Option.bind_some]
    dsimp only
    rw [e2, Option.bind_some]
    dsimp only
    rw [e3, Option.bind_some]
    dsimp only
    rw [e4, Option.bind_some, if_neg (by omega), w64 (x := a * 16777216) (by omega) (by omega), w64 (x := b * 65536) (by omega) (by omega), w64 (x := c * 256) (by omega) (by omega), w64 (x := a * 16777216 + b * 65536) (by omega) (by omega), w64 (x := a * 16777216 + b * 65536 + c * 256) (by omega) (by omega), w64 (x := a * 16777216 + b * 65536 + c * 256 + d) (by omega) (by omega)]
  · rw [Int.tmod_eq_emod_of_nonneg (by omega)]; exact Int.emod_nonneg _ (by omega)
  · rw [Int.tmod_eq_emod_of_nonneg (by omega)]; exact Int.emod_lt_of_pos _ (by omega)
theorem l1Whole_ok {s : List Int} {pos h : Int} (hn : s.length ≤ 1099511627776) (h0 : 0 ≤ pos) : ∃ v p' h', spec_l1Whole.f s pos h = some (v, p', h') ∧ -9223372036854775808 ≤ v ∧ v ≤ 9223372036854775807 ∧ 0 ≤ p' := by
  obtain ⟨v, p1, g1, e1, hv0, hv1, hp1⟩ := l1Below_ok (h := h) (n := 3) hn h0 (by omega) (by omega)
  rw [spec_l1Whole.f, e1, Option.bind_some]
  by_cases c0 : v = 0
  · obtain ⟨u, p2, g2, e2, hu, hp2⟩ := l1PickInt_ok (h := g1) (l := [0, 1, (-1), 9, 10, 999999, 1000000, 999999999999, 1000000000000, (-999999999999), 9223372036854775807, (-9223372036854775808)]) hn hp1 (by simp) (by simp)
    rw [if_pos c0, e2, Option.bind_some]
    refine ⟨_, _, _, rfl, ?_, ?_, hp2⟩ <;> simp at hu <;> omega
  · rw [if_neg c0]
    by_cases c1 : v = 1
    · obtain ⟨u, p2, g2, e2, hu0, hu1, hp2⟩ := l1Below_big (h := g1) (n := 1000000) hn hp1 (by omega)
      rw [if_pos c1, e2, Option.bind_some]
      have e : wrap64 (u - 500000) = u - 500000 := w64 (by omega) (by omega)
      exact ⟨_, _, _, rfl, by dsimp only; omega, by dsimp only; omega, hp2⟩
    · obtain ⟨u, p2, g2, e2, hu0, hu1, hp2⟩ := l1Below_ok (h := g1) (n := 20) hn hp1 (by omega) (by omega)
      rw [if_neg c1, e2, Option.bind_some]
      exact ⟨_, _, _, rfl, by dsimp only; omega, by dsimp only; omega, hp2⟩

def bs (l : List UInt8) : ByteArray := ⟨l.toArray⟩

theorem bs_app (a b : List UInt8) : bs a ++ bs b = bs (a ++ b) := by
  apply ByteArray.ext
  simp [bs]

theorem bs_size (a : List UInt8) : (bs a).size = a.length := by simp [bs, ByteArray.size]

theorem bs_of (s : ByteArray) : bs s.data.toList = s := by
  apply ByteArray.ext
  simp [bs]

theorem bs_inj {a b : List UInt8} (h : bs a = bs b) : a = b := by
  have := congrArg ByteArray.data h
  simpa [bs] using this

theorem bs_toList (a : List UInt8) : (bs a).toList = a := by
  rw [Go.Lib.toList_data]
  simp [bs]

theorem nums1 (n : Nat) (h : n < 256) : strOfNums [(n : Int)] = bs [UInt8.ofNat n] := by
  apply ByteArray.ext
  simp [bs, strOfNums]

open Go.Lib (decDigits itoa nDigits)
theorem fmt_step {n : Int} {m k : Nat} {b : Bool} {acc : List UInt8} (hn : n.natAbs = m) (h0 : n ≠ 0) (hm : m ≤ 9223372036854775808) (ha : acc.length ≤ 1000) :
    ∃ n' : Int, n'.natAbs = m / 10 ∧ spec_FormatInt.l0 (k + 1) n b (bs acc) = spec_FormatInt.l0 k n' b (bs (UInt8.ofNat (48 + m % 10) :: acc)) := by
  have key : ∀ z : Int, z = ((48 + m % 10 : Nat) : Int) → (if (strOfNums [z]).size + (bs acc).size ≤ 9223372036854775807 then spec_FormatInt.l0 k (wrap64 (Int.tdiv n 10)) b (strOfNums [z] ++ bs acc) else none) = spec_FormatInt.l0 k (wrap64 (Int.tdiv n 10)) b (bs (UInt8.ofNat (48 + m % 10) :: acc)) := by
    intro z hz
    subst hz
    rw [nums1 _ (by omega), bs_size, bs_size, if_pos (by simp; omega), bs_app]
    rfl
  rcases Int.natAbs_eq n with e | e
  · rw [hn] at e
    subst e
    have e1 : Int.tmod (m : Int) 10 = ((m % 10 : Nat) : Int) := by rw [Int.tmod_eq_emod_of_nonneg (by omega)]; omega
    have e2 : Int.tdiv (m : Int) 10 = ((m / 10 : Nat) : Int) := by rw [Int.tdiv_eq_ediv_of_nonneg (by omega)]; omega
    refine ⟨((m / 10 : Nat) : Int), by omega, ?_⟩
    rw [spec_FormatInt.l0, if_neg h0, e1, if_neg (by omega), w64 (x := 48 + ((m % 10 : Nat) : Int)) (by omega) (by omega), Option.bind_some, key _ (by omega), e2, w64 (by omega) (by omega)]
  · rw [hn] at e
    subst e
    have e1 : Int.tmod (-(m : Int)) 10 = -((m % 10 : Nat) : Int) := by rw [Int.neg_tmod, Int.tmod_eq_emod_of_nonneg (by omega)]; omega
    have e2 : Int.tdiv (-(m : Int)) 10 = -((m / 10 : Nat) : Int) := by rw [Int.neg_tdiv, Int.tdiv_eq_ediv_of_nonneg (by omega)]; omega
    refine ⟨-((m / 10 : Nat) : Int), by omega, ?_⟩
    rw [spec_FormatInt.l0, if_neg h0, e1]
    by_cases hd : -((m % 10 : Nat) : Int) < 0
    · rw [if_pos hd, w64 (x := - -((m % 10 : Nat) : Int)) (by omega) (by omega), w64 (x := 48 + - -((m % 10 : Nat) : Int)) (by omega) (by omega), Option.bind_some, key _ (by omega), e2, w64 (by omega) (by omega)]
    · rw [if_neg hd, w64 (x := 48 + -((m % 10 : Nat) : Int)) (by omega) (by omega), Option.bind_some, key _ (by omega), e2, w64 (by omega) (by omega)]

theorem fmt_l0 : ∀ (m k : Nat) (n : Int) (b : Bool) (acc : List UInt8), n.natAbs = m → n ≠ 0 → m ≤ 9223372036854775808 → acc.length + nDigits m ≤ 1000 → nDigits m < k →
    spec_FormatInt.l0 k n b (bs acc) = some (bs ((if b then [45] else []) ++ decDigits m ++ acc)) := by
  intro m
  induction m using Nat.strongRecOn with
  | _ m ih =>
    intro k n b acc hn h0 hm ha hk
    have hp := Go.Lib.nDigits_pos m
    obtain ⟨k, rfl⟩ : ∃ j, k = j + 2 := ⟨k - 2, by omega⟩
    obtain ⟨n', hn', e⟩ := fmt_step (k := k + 1) (b := b) (acc := acc) hn h0 hm (by omega)
    rw [e]
    by_cases h10 : m < 10
    · have hz : n' = 0 := by omega
      subst hz
      rw [spec_FormatInt.l0, if_pos rfl, decDigits, dif_pos h10, Nat.mod_eq_of_lt h10]
      cases b with
      | false => rw [if_neg (by decide)]; rfl
      | true =>
        rw [if_pos rfl, bs_size, if_pos (by simp; omega)]
        exact congrArg some (bs_app [45] _)
    · have hd := Go.Lib.nDigits_big h10
      rw [ih (m / 10) (by omega) (k + 1) n' b _ hn' (by omega) (by omega) (by rw [List.length_cons]; omega) (by omega)]
      conv => rhs; rw [decDigits, dif_neg h10]
      simp

theorem specFmt_eq {n : Int} {k : Nat} (h0 : -9223372036854775808 ≤ n) (h1 : n ≤ 9223372036854775807) (hk : 30 < k) : spec_FormatInt.f k n = some (bs (itoa n)) := by
  rw [spec_FormatInt.f]
  by_cases hz : n = 0
  · subst hz
    rw [if_pos rfl]
    decide +kernel
  · have hd := Go.Lib.nDigits_le20 n.natAbs (by omega)
    rw [if_neg hz]
    have := fmt_l0 n.natAbs k n (decide (n < 0)) [] rfl hz (by omega) (by simp; omega) (by omega)
    have e : (bs [] : ByteArray) = ⟨#[]⟩ := rfl
    rw [← e, this]
    unfold itoa
    by_cases hn : n < 0
    · rw [if_pos hn, decide_eq_true hn, if_pos rfl]; simp
    · rw [if_neg hn, decide_eq_false hn, if_neg (by decide), show n.natAbs = n.toNat by omega]; simp

theorem implFmt_eq {n : Int} (h0 : -9223372036854775808 ≤ n) (h1 : n ≤ 9223372036854775807) : impl_FormatInt.f n = some (bs (itoa n)) := by
  rw [impl_FormatInt.f, strconv_Itoa.f, if_pos h0, if_pos h1]
  rfl

theorem bt_bs (l : List UInt8) (i : Nat) (h : i < l.length) : bt (bs l) (i : Int) = (l[i].toNat : Int) := by
  have h1 : ((i : Int)).toNat < (bs l).size := by rw [bs_size]; omega
  rw [← bt_at (bs l) i h1]
  simp [bs, ByteArray.getElem_eq_getElem_data]
theorem bs_data (l : List UInt8) : (bs l).data.toList = l := by simp [bs]
theorem rdOf_at (pre : List ByteArray) (x : ByteArray) (r : List ByteArray) : rdOf ByteArray.empty (pre ++ x :: r) (pre.length : Int) = x := by
  simp [rdOf]

open Go.Lib (atoiAll parseUint10 parseMag signed signless)
def isDig (c : UInt8) : Prop := 48 ≤ c.toNat ∧ c.toNat ≤ 57
def dv (acc : Nat) : List UInt8 → Nat
  | [] => acc
  | c :: r => dv (acc * 10 + (c.toNat - 48)) r
theorem dv_app : ∀ (a : List UInt8) (c : UInt8) (acc : Nat), dv acc (a ++ [c]) = dv acc a * 10 + (c.toNat - 48)
  | [], c, acc => rfl
  | x :: a, c, acc => dv_app a c _
theorem dig_nat {d : Nat} (h : d < 10) : (UInt8.ofNat (48 + d)).toNat = 48 + d := by
  rw [UInt8.toNat_ofNat']
  omega
theorem dec_all (u : Nat) : (∀ c ∈ decDigits u, isDig c) ∧ dv 0 (decDigits u) = u ∧ decDigits u ≠ [] := by
  induction u using Nat.strongRecOn with
  | _ u ih =>
    rw [decDigits]
    by_cases h : u < 10
    · rw [dif_pos h]
      have e := dig_nat h
      refine ⟨fun c hc => ?_, ?_, by simp⟩
      · obtain rfl := List.mem_singleton.mp hc
        unfold isDig
        omega
      · show 0 * 10 + ((UInt8.ofNat (48 + u)).toNat - 48) = u
        omega
    · rw [dif_neg h]
      obtain ⟨h1, h2, h3⟩ := ih (u / 10) (by omega)
      have e := dig_nat (d := u % 10) (by omega)
      refine ⟨fun c hc => ?_, ?_, by simp⟩
      · rcases List.mem_append.mp hc with hc | hc
        · exact h1 c hc
        · obtain rfl := List.mem_singleton.mp hc
          unfold isDig
          omega
      · rw [dv_app, h2, e]
        omega
theorem dec_len : ∀ (m u : Nat), u < 10 ^ (m + 1) → nDigits u ≤ m + 1
  | 0, u, h => by rw [Go.Lib.nDigits_small (by omega)]; omega
  | m + 1, u, h => by
    by_cases h10 : u < 10
    · rw [Go.Lib.nDigits_small h10]
      omega
    · have := dec_len m (u / 10) (by rw [Nat.pow_succ] at h; omega)
      rw [Go.Lib.nDigits_big h10]
      omega
theorem dv_lt : ∀ (l : List UInt8) (acc : Nat), (∀ c ∈ l, isDig c) → dv acc l + 1 ≤ (acc + 1) * 10 ^ l.length
  | [], acc, _ => by
    rw [List.length_nil, Nat.pow_zero, Nat.mul_one]
    exact Nat.le_refl _
  | c :: r, acc, h => by
    have hc := h c (List.mem_cons_self ..)
    unfold isDig at hc
    have ih := dv_lt r (acc * 10 + (c.toNat - 48)) (fun x hx => h x (List.mem_cons_of_mem _ hx))
    rw [List.length_cons, Nat.pow_succ, Nat.mul_comm (10 ^ r.length) 10, ← Nat.mul_assoc]
    have e : dv acc (c :: r) = dv (acc * 10 + (c.toNat - 48)) r := rfl
    rw [e]
    exact Nat.le_trans ih (Nat.mul_le_mul_right _ (by omega))
theorem pu_ok : ∀ (l : List UInt8) (acc : Nat), (∀ c ∈ l, isDig c) → (acc + 1) * 10 ^ l.length ≤ 1000000000000000000 → parseUint10 acc l = .ok (dv acc l)
  | [], acc, _, _ => rfl
  | c :: r, acc, h, hb => by
    have hc := h c (List.mem_cons_self ..)
    have hc' := hc
    unfold isDig at hc'
    rw [List.length_cons, Nat.pow_succ, Nat.mul_comm (10 ^ r.length) 10, ← Nat.mul_assoc] at hb
    have h2 : (acc * 10 + (c.toNat - 48) + 1) * 10 ^ r.length ≤ 1000000000000000000 := Nat.le_trans (Nat.mul_le_mul_right _ (by omega)) hb
    have h3 : acc * 10 + (c.toNat - 48) + 1 ≤ 1000000000000000000 := Nat.le_trans (Nat.le_mul_of_pos_right _ (Nat.pow_pos (by decide))) h2
    rw [parseUint10, if_pos hc', if_neg (by omega), if_neg (by omega)]
    exact pu_ok r _ (fun x hx => h x (List.mem_cons_of_mem _ hx)) h2
theorem itoa_parts {n : Int} {l t : List UInt8} {b : Bool} (hi : itoa n = l) (hl : l = if b = true then 45 :: t else t) (h45 : b = false → ∀ r, l ≠ 45 :: r) : t = decDigits n.natAbs ∧ (b = true ↔ n < 0) := by
  unfold itoa at hi
  by_cases hn : n < 0
  · rw [if_pos hn] at hi
    cases b with
    | false => exact absurd hi.symm (h45 rfl _)
    | true =>
      rw [if_pos rfl] at hl
      rw [hl] at hi
      injection hi with _ hi
      exact ⟨hi.symm, by simp [hn]⟩
  · rw [if_neg hn] at hi
    cases b with
    | true =>
      rw [if_pos rfl] at hl
      have := (dec_all n.toNat).1 45 (by rw [hi, hl]; exact List.mem_cons_self ..)
      exact absurd this.1 (by decide)
    | false =>
      rw [if_neg (by decide)] at hl
      rw [hl] at hi
      exact ⟨by rw [show n.natAbs = n.toNat by omega]; exact hi.symm, by simp [hn]⟩
theorem split45 (l : List UInt8) : (∃ t, l = 45 :: t) ∨ ∀ r, l ≠ 45 :: r := by
  rcases l with _ | ⟨c, t⟩
  · exact Or.inr fun r h => by cases h
  · by_cases h : c = 45
    · exact Or.inl ⟨t, by rw [h]⟩
    · exact Or.inr fun r e => h (by injection e)
theorem atoi_itoa {n : Int} {l : List UInt8} (hi : itoa n = l) (hn : n.natAbs < 1000000000000) : atoiAll l = .ok n := by
  obtain ⟨d1, d2, d3⟩ := dec_all n.natAbs
  have hlen : (decDigits n.natAbs).length ≤ 12 := by
    rw [Go.Lib.decDigits_length]
    exact dec_len 11 _ (by omega)
  have hp : parseMag (decDigits n.natAbs) = .ok n.natAbs := by
    rw [parseMag, if_neg d3, pu_ok _ 0 d1 ?_, d2]
    have : 10 ^ (decDigits n.natAbs).length ≤ 10 ^ 12 := Nat.pow_le_pow_right (by decide) hlen
    omega
  rcases split45 l with ⟨t, rfl⟩ | h
  · obtain ⟨rfl, hb⟩ := itoa_parts (b := true) (t := t) hi (by rw [if_pos rfl]) (fun h => by cases h)
    have := hb.mp rfl
    rw [Go.Lib.atoiAll_minus, hp]
    simp only [signed]
    rw [if_neg (by omega)]
    exact congrArg _ (by omega)
  · obtain ⟨e, hb⟩ := itoa_parts (b := false) (t := l) hi (by rw [if_neg (by decide)]) (fun _ => h)
    have hb' : ¬ n < 0 := fun x => by have := hb.mpr x; cases this
    rcases l with _ | ⟨c, r⟩
    · exact absurd e.symm d3
    · have hc := d1 c (by rw [← e]; exact List.mem_cons_self ..)
      unfold isDig at hc
      rw [Go.Lib.atoiAll_plain c r (by omega) (by omega), e, hp]
      simp only [signless]
      rw [if_neg (by omega)]
      exact congrArg _ (by omega)
def sgn (b : Bool) (v : Nat) : Int := if b = true then -(v : Int) else v
def readEnd (l : List UInt8) (v : Int) : Int × Bool := if itoa v = l then (v, true) else (0, false)
theorem read_ok (x0 : List UInt8) (b : Bool) : ∀ (r pre : List UInt8) (acc k : Nat), (∀ c ∈ r, isDig c) → (acc + 1) * 10 ^ r.length ≤ 1000000000000000000 → pre.length + r.length ≤ 1048576 → r.length + 40 < k →
    spec_l1Read.l0 k (bs x0) b (bs (pre ++ r)) (acc : Int) (pre.length : Int) = some (readEnd x0 (sgn b (dv acc r)))
  | [], pre, acc, k, _, hb, hl, hk => by
    obtain ⟨k, rfl⟩ : ∃ j, k = j + 1 := ⟨k - 1, by omega⟩
    have ha : acc + 1 ≤ 1000000000000000000 := by simpa using hb
    rw [spec_l1Read.l0, if_neg (by rw [bs_size]; simp)]
    have key : ∀ v : Int, (if (bs (itoa v)).toList = (bs x0).toList then (some (v, true) : Option (Int × Bool)) else some (0, false)) = some (readEnd x0 v) := by
      intro v
      rw [bs_toList, bs_toList, readEnd]
      split <;> rfl
    cases b with
    | true =>
      rw [if_pos rfl, w64 (by omega) (by omega), specFmt_eq (by omega) (by omega) (by omega), Option.bind_some, key]
      rfl
    | false =>
      rw [if_neg (by decide), specFmt_eq (by omega) (by omega) (by omega), Option.bind_some, key]
      rfl
  | c :: r, pre, acc, k, h, hb, hl, hk => by
    obtain ⟨k, rfl⟩ : ∃ j, k = j + 1 := ⟨k - 1, by omega⟩
    have hc := h c (List.mem_cons_self ..)
    unfold isDig at hc
    rw [List.length_cons] at hl hk
    have e : pre ++ c :: r = (pre ++ [c]) ++ r := by simp
    have hat : bt (bs (pre ++ c :: r)) (pre.length : Int) = (c.toNat : Int) := by
      rw [bt_bs _ _ (by simp)]
      simp
    rw [List.length_cons, Nat.pow_succ, Nat.mul_comm (10 ^ r.length) 10, ← Nat.mul_assoc] at hb
    have h2 : (acc * 10 + (c.toNat - 48) + 1) * 10 ^ r.length ≤ 1000000000000000000 := Nat.le_trans (Nat.mul_le_mul_right _ (by omega)) hb
    have h3 : acc * 10 + (c.toNat - 48) + 1 ≤ 1000000000000000000 := Nat.le_trans (Nat.le_mul_of_pos_right _ (Nat.pow_pos (by decide))) h2
    have hn : wrap64 (wrap64 (10 * (acc : Int)) + ((c.toNat : Int) - 48) % 256) = ((acc * 10 + (c.toNat - 48) : Nat) : Int) := by
      rw [w64 (x := 10 * (acc : Int)) (by omega) (by omega), w64 (by omega) (by omega)]
      omega
    rw [spec_l1Read.l0, if_pos (by rw [bs_size]; simp; omega), if_pos (by omega), hat, if_neg (by omega), if_neg (by omega), hn, w64 (x := (pre.length : Int) + 1) (by omega) (by omega)]
    have := read_ok x0 b r (pre ++ [c]) (acc * 10 + (c.toNat - 48)) k (fun x hx => h x (List.mem_cons_of_mem _ hx)) h2 (by simp; omega) (by omega)
    rw [← e] at this
    rw [show ((pre.length : Int) + 1) = (((pre ++ [c]).length : Nat) : Int) by simp]
    exact this
theorem read_bad (x0 : List UInt8) (b : Bool) : ∀ (r pre : List UInt8) (x8 : Int) (k : Nat), (¬ ∀ c ∈ r, isDig c) → pre.length + r.length ≤ 1048576 → r.length < k →
    spec_l1Read.l0 k (bs x0) b (bs (pre ++ r)) x8 (pre.length : Int) = some (0, false)
  | [], pre, x8, k, h, hl, hk => absurd (fun c hc => absurd hc (List.not_mem_nil)) h
  | c :: r, pre, x8, k, h, hl, hk => by
    obtain ⟨k, rfl⟩ : ∃ j, k = j + 1 := ⟨k - 1, by omega⟩
    rw [List.length_cons] at hl hk
    have e : pre ++ c :: r = (pre ++ [c]) ++ r := by simp
    have hat : bt (bs (pre ++ c :: r)) (pre.length : Int) = (c.toNat : Int) := by
      rw [bt_bs _ _ (by simp)]
      simp
    rw [spec_l1Read.l0, if_pos (by rw [bs_size]; simp; omega), if_pos (by omega), hat]
    by_cases h1 : (c.toNat : Int) < 48
    · rw [if_pos h1]
    · rw [if_neg h1]
      by_cases h2 : (c.toNat : Int) > 57
      · rw [if_pos h2]
      · rw [if_neg h2, w64 (x := (pre.length : Int) + 1) (by omega) (by omega)]
        have := read_bad x0 b r (pre ++ [c]) (wrap64 (wrap64 (10 * x8) + ((c.toNat : Int) - 48) % 256)) k (fun hr => h (fun x hx => by
          rcases List.mem_cons.mp hx with rfl | hx
          · unfold isDig
            omega
          · exact hr x hx)) (by simp; omega) (by omega)
        rw [← e] at this
        rw [show ((pre.length : Int) + 1) = (((pre ++ [c]).length : Nat) : Int) by simp]
        exact this
/-- How a reading ends: with the one number that the text spells, within bounds, or with none. -/
def Reads (l : List UInt8) (p : Int → Prop) (e : Option (Int × Bool)) : Prop := (∃ n : Int, itoa n = l ∧ p n ∧ e = some (n, true)) ∨ ((∀ n : Int, itoa n = l → ¬ p n) ∧ e = some (0, false))
theorem read_core {l t : List UInt8} {b : Bool} {most k : Nat} (hl : l = if b = true then 45 :: t else t) (h45 : b = false → ∀ r, l ≠ 45 :: r) (hm1 : 1 ≤ most) (hm : most ≤ 12) (hlen : t.length ≤ 1048576) (hk : t.length + 50 < k) :
    Reads l (fun n => n.natAbs < 10 ^ most) (spec_l1Read.j1 k (bs l) (most : Int) b (bs t)) := by
  obtain ⟨k, rfl⟩ : ∃ j, k = j + 2 := ⟨k - 2, by omega⟩
  have no : ∀ n : Int, itoa n = l → n.natAbs < 10 ^ most → (∀ c ∈ t, isDig c) ∧ dv 0 t = n.natAbs ∧ 1 ≤ t.length ∧ t.length ≤ most ∧ sgn b (dv 0 t) = n := by
    intro n hi hn
    obtain ⟨rfl, hb⟩ := itoa_parts hi hl h45
    obtain ⟨d1, d2, d3⟩ := dec_all n.natAbs
    refine ⟨d1, d2, List.length_pos_iff.mpr d3, ?_, ?_⟩
    · rw [Go.Lib.decDigits_length]
      have := dec_len (most - 1) n.natAbs (by rw [Nat.sub_add_cancel hm1]; exact hn)
      omega
    · rw [d2, sgn]
      cases b with
      | true => rw [if_pos rfl]; have := hb.mp rfl; omega
      | false => rw [if_neg (by decide)]; have : ¬ n < 0 := fun x => (by have := hb.mpr x; cases this); omega
  rw [spec_l1Read.j1, bs_size]
  by_cases h1 : (t.length : Int) < 1
  · rw [if_pos h1, spec_l1Read.j2, if_pos rfl]
    exact Or.inr ⟨fun n hi hn => by have := (no n hi hn).2.2.1; omega, rfl⟩
  · rw [if_neg h1, spec_l1Read.j2]
    by_cases h2 : (t.length : Int) > (most : Int)
    · rw [decide_eq_true h2, if_pos rfl]
      exact Or.inr ⟨fun n hi hn => by have := (no n hi hn).2.2.2.1; omega, rfl⟩
    · rw [decide_eq_false h2, if_neg (by decide)]
      have hp : 10 ^ t.length ≤ 10 ^ most := Nat.pow_le_pow_right (by decide) (by omega)
      have hp2 : 10 ^ most ≤ 10 ^ 12 := Nat.pow_le_pow_right (by decide) hm
      by_cases hd : ∀ c ∈ t, isDig c
      · have e := read_ok l b t [] 0 k hd (by omega) (by simpa using hlen) (by omega)
        have hlt := dv_lt t 0 hd
        rw [show (([] : List UInt8) ++ t) = t from rfl] at e
        rw [show spec_l1Read.l0 k (bs l) b (bs t) 0 0 = _ from e, readEnd]
        by_cases hi : itoa (sgn b (dv 0 t)) = l
        · rw [if_pos hi]
          exact Or.inl ⟨_, hi, by unfold sgn; split <;> omega, rfl⟩
        · rw [if_neg hi]
          exact Or.inr ⟨fun n hn hb => hi (by rw [(no n hn hb).2.2.2.2]; exact hn), rfl⟩
      · have e := read_bad l b t [] 0 k hd (by simpa using hlen) (by omega)
        rw [show (([] : List UInt8) ++ t) = t from rfl] at e
        rw [show spec_l1Read.l0 k (bs l) b (bs t) 0 0 = _ from e]
        exact Or.inr ⟨fun n hi hn => hd (no n hi hn).1, rfl⟩
theorem specRead {l : List UInt8} {most K : Nat} (hm1 : 1 ≤ most) (hm : most ≤ 12) (hlen : l.length ≤ 1048576) (hK : l.length + 60 < K) :
    Reads l (fun n => n.natAbs < 10 ^ most) (spec_l1Read.f K (bs l) (most : Int)) := by
  obtain ⟨K, rfl⟩ : ∃ j, K = j + 1 := ⟨K - 1, by omega⟩
  rw [spec_l1Read.f, bs_size]
  rcases split45 l with ⟨t, rfl⟩ | h
  · rw [List.length_cons] at hlen hK
    rw [if_pos (by rw [List.length_cons]; omega), if_pos (by rw [List.length_cons]; omega)]
    have hb : (bt (bs (45 :: t)) 0 == 45) = true := by
      have := bt_bs (45 :: t) 0 (by simp)
      rw [show ((0 : Nat) : Int) = 0 from rfl] at this
      rw [this]
      rfl
    rw [hb, spec_l1Read.j0, if_pos rfl, if_pos (by rw [bs_size, List.length_cons]; omega)]
    have he : (bs (45 :: t)).extract 1 (bs (45 :: t)).size = bs t := by
      apply Go.WideShapes.bytes_inj
      rw [Go.Lib.extract_to_end, bs_data, bs_data]
      rfl
    rw [he]
    exact read_core (by rw [if_pos rfl]) (fun h => by cases h) hm1 hm (by omega) (by omega)
  · have hcore : Reads l (fun n => n.natAbs < 10 ^ most) (spec_l1Read.j1 K (bs l) (most : Int) false (bs l)) := read_core (by rw [if_neg (by decide)]) (fun _ => h) hm1 hm hlen (by omega)
    rcases l with _ | ⟨c, r⟩
    · rw [if_neg (by decide), spec_l1Read.j0, if_neg (by decide)]
      exact hcore
    · rw [if_pos (by rw [List.length_cons]; omega), if_pos (by rw [List.length_cons]; omega)]
      have hb : (bt (bs (c :: r)) 0 == 45) = false := by
        have := bt_bs (c :: r) 0 (by simp)
        rw [show ((0 : Nat) : Int) = 0 from rfl] at this
        rw [this]
        refine beq_eq_false_iff_ne.mpr fun e => h r ?_
        have : c = 45 := UInt8.toNat.inj (by have e' : ((c.toNat : Nat) : Int) = 45 := e; show c.toNat = 45; omega)
        rw [this]
      rw [hb, spec_l1Read.j0, if_neg (by decide)]
      exact hcore
theorem implRead {l : List UInt8} {lo hi : Int} (hlo : -1000000000000 < lo) (hhi : hi < 1000000000000) (hlen : l.length ≤ 1048576) :
    Reads l (fun n => lo ≤ n ∧ n ≤ hi) (impl_readInt.f (bs l) lo hi) := by
  rw [impl_readInt.f, bs_size, if_pos (by omega), bs_data]
  have no : ∀ n : Int, itoa n = l → lo ≤ n ∧ n ≤ hi → atoiAll l = .ok n := fun n h hn => atoi_itoa h (by omega)
  rcases e : atoiAll l with v | _ | _
  · obtain ⟨b0, b1⟩ := Go.Lib.atoiAll_bounds e
    dsimp only
    rw [implFmt_eq b0 b1, Option.bind_some, bs_toList, bs_toList]
    by_cases h : itoa v = l
    · rw [if_pos h, impl_within.f]
      by_cases h1 : lo ≤ v
      · rw [if_pos h1, Option.bind_some]
        by_cases h2 : v ≤ hi
        · rw [decide_eq_true h2, if_pos rfl]
          exact Or.inl ⟨v, h, ⟨h1, h2⟩, rfl⟩
        · rw [decide_eq_false h2, if_neg (by decide)]
          refine Or.inr ⟨fun n hn hb => ?_, rfl⟩
          have := no n hn hb
          rw [e] at this
          injection this with this
          omega
      · rw [if_neg h1, Option.bind_some, if_neg (by decide)]
        refine Or.inr ⟨fun n hn hb => ?_, rfl⟩
        have := no n hn hb
        rw [e] at this
        injection this with this
        omega
    · rw [if_neg h]
      refine Or.inr ⟨fun n hn hb => ?_, rfl⟩
      have := no n hn hb
      rw [e] at this
      injection this with this
      exact h (by rw [this]; exact hn)
  · refine Or.inr ⟨fun n hn hb => ?_, rfl⟩
    have := no n hn hb
    rw [e] at this
    cases this
  · refine Or.inr ⟨fun n hn hb => ?_, rfl⟩
    have := no n hn hb
    rw [e] at this
    cases this
theorem itoa_inj {a b : Int} (h : itoa a = itoa b) (ha : a.natAbs < 1000000000000) (hb : b.natAbs < 1000000000000) : a = b := by
  have h1 := atoi_itoa h ha
  have h2 := atoi_itoa rfl hb
  rw [h1] at h2
  injection h2
/-- Two readings with the same bounds end alike. -/
theorem Reads.eq {l : List UInt8} {p q : Int → Prop} {e f : Option (Int × Bool)} (h : Reads l p e) (k : Reads l q f) (hp : ∀ n, p n → n.natAbs < 1000000000000) (hq : ∀ n, q n ↔ p n) : e = f := by
  rcases h with ⟨n, h1, h2, rfl⟩ | ⟨h1, rfl⟩ <;> rcases k with ⟨m, k1, k2, rfl⟩ | ⟨k1, rfl⟩
  · rw [itoa_inj (h1.trans k1.symm) (hp n h2) (hp m ((hq m).mp k2))]
  · exact absurd ((hq n).mpr h2) (k1 n h1)
  · exact absurd ((hq m).mp k2) (h1 m k1)
  · rfl

theorem dec_big : ∀ (m u : Nat), 10 ^ m ≤ u → m + 1 ≤ nDigits u
  | 0, u, h => Go.Lib.nDigits_pos u
  | m + 1, u, h => by
    rw [Nat.pow_succ] at h
    have hp : 1 ≤ 10 ^ m := Nat.pow_pos (by decide)
    have := dec_big m (u / 10) (by omega)
    rw [Go.Lib.nDigits_big (by omega)]
    omega
theorem itoa_len (n : Int) : (itoa n).length = (if n < 0 then 1 else 0) + nDigits n.natAbs := by
  unfold itoa
  by_cases h : n < 0
  · rw [if_pos h, if_pos h, List.length_cons, Go.Lib.decDigits_length]
    omega
  · rw [if_neg h, if_neg h, Go.Lib.decDigits_length, show n.toNat = n.natAbs by omega]
    omega
/-- The length of a number's text tells whether the number lies within the bounds of ParseInt. -/
theorem len_tells (n : Int) : ((itoa n).length ≤ 12 ∨ (n < 0 ∧ (itoa n).length ≤ 13)) ↔ n.natAbs < 1000000000000 := by
  rw [itoa_len]
  constructor
  · intro h
    refine Decidable.byContradiction fun hc => ?_
    have := dec_big 12 n.natAbs (by omega)
    by_cases hn : n < 0
    · rw [if_pos hn] at h
      omega
    · rw [if_neg hn] at h
      omega
  · intro h
    have := dec_len 11 n.natAbs (by omega)
    by_cases hn : n < 0
    · rw [if_pos hn]
      exact Or.inr ⟨hn, by omega⟩
    · rw [if_neg hn]
      exact Or.inl (by omega)

theorem specNum {l : List UInt8} {K : Nat} (hlen : l.length ≤ 1048576) (hK : l.length + 60 < K) : Reads l (fun n => 0 ≤ n ∧ n ≤ 999999) (spec_ParseNumber.f K (bs l)) := by
  have h1 := specRead (l := l) (most := 6) (K := K) (by decide) (by decide) hlen hK
  rw [spec_ParseNumber.f]
  rcases h1 with ⟨n, hi, hn, h⟩ | ⟨hn, h⟩ <;> rw [show ((6 : Nat) : Int) = 6 from rfl] at h <;> rw [h, Option.bind_some]
  · have hn' : n.natAbs < 1000000 := hn
    rw [if_pos rfl]
    by_cases h0 : n < 0
    · rw [if_pos h0]
      refine Or.inr ⟨fun m hm hb => ?_, rfl⟩
      have := itoa_inj (hm.trans hi.symm) (by omega) (by omega)
      omega
    · rw [if_neg h0]
      exact Or.inl ⟨n, hi, ⟨by omega, by omega⟩, rfl⟩
  · rw [if_neg (by decide)]
    exact Or.inr ⟨fun m hm hb => hn m hm (by show m.natAbs < 1000000; omega), rfl⟩

theorem implNum {l : List UInt8} (hlen : l.length ≤ 1048576) : Reads l (fun n => 0 ≤ n ∧ n ≤ 999999) (impl_ParseNumber.f (bs l)) := by
  have h2 := implRead (l := l) (lo := 0) (hi := 999999) (by decide) (by decide) hlen
  rw [impl_ParseNumber.f]
  rcases h2 with ⟨n, hi, hn, h⟩ | ⟨hn, h⟩ <;> rw [h, Option.bind_some]
  · exact Or.inl ⟨n, hi, hn, rfl⟩
  · exact Or.inr ⟨hn, rfl⟩



theorem itoa_one {a b : Int} (h : itoa a = itoa b) : a = b := by
  obtain ⟨a1, a2, a3⟩ := dec_all a.natAbs
  obtain ⟨b1, b2, b3⟩ := dec_all b.natAbs
  have ea : itoa a = if a < 0 then 45 :: decDigits a.natAbs else decDigits a.natAbs := by
    unfold itoa
    by_cases hn : a < 0
    · rw [if_pos hn, if_pos hn]
    · rw [if_neg hn, if_neg hn, show a.toNat = a.natAbs by omega]
  have eb : itoa b = if b < 0 then 45 :: decDigits b.natAbs else decDigits b.natAbs := by
    unfold itoa
    by_cases hn : b < 0
    · rw [if_pos hn, if_pos hn]
    · rw [if_neg hn, if_neg hn, show b.toNat = b.natAbs by omega]
  rw [ea, eb] at h
  have no : ∀ {u : Nat} {r : List UInt8}, (∀ c ∈ decDigits u, isDig c) → 45 :: r ≠ decDigits u := fun hd e => by
    have := hd 45 (by rw [← e]; exact List.mem_cons_self ..)
    exact absurd this.1 (by decide)
  by_cases h1 : a < 0
  · rw [if_pos h1] at h
    by_cases h2 : b < 0
    · rw [if_pos h2] at h
      injection h with _ h
      rw [h, b2] at a2
      omega
    · rw [if_neg h2] at h
      exact absurd h (no b1)
  · rw [if_neg h1] at h
    by_cases h2 : b < 0
    · rw [if_pos h2] at h
      exact absurd h.symm (no a1)
    · rw [if_neg h2] at h
      rw [h, b2] at a2
      omega
theorem size12 : ∀ v ∈ [(⟨#[]⟩ : ByteArray), (⟨#[48, 48]⟩ : ByteArray), (⟨#[48, 49]⟩ : ByteArray), (⟨#[45, 49]⟩ : ByteArray), (⟨#[43, 49]⟩ : ByteArray), (⟨#[120]⟩ : ByteArray), (⟨#[57, 57, 57, 57, 57, 57]⟩ : ByteArray), (⟨#[49, 48, 48, 48, 48, 48, 48]⟩ : ByteArray), (⟨#[45, 48]⟩ : ByteArray), (⟨#[45]⟩ : ByteArray), (⟨#[32, 49]⟩ : ByteArray), (⟨#[49, 32]⟩ : ByteArray)], v.size ≤ 7 := by
  intro v hv
  simp only [List.mem_cons, List.not_mem_nil, or_false] at hv
  rcases hv with rfl | rfl | rfl | rfl | rfl | rfl | rfl | rfl | rfl | rfl | rfl | rfl <;> decide
theorem itoa_short {n : Int} (h0 : -9223372036854775808 ≤ n) (h1 : n ≤ 9223372036854775807) : (itoa n).length ≤ 21 := by
  have := Go.Lib.nDigits_le20 n.natAbs (by omega)
  rw [itoa_len]
  split <;> omega
theorem drawNum_ok {s : List Int} {k : Nat} (hn : s.length ≤ 1099511627776) (hk : s.length + 40 < k) : ∃ (l : List UInt8), spec_DrawParseNumber.f k s = some (bs l) ∧ l.length ≤ 21 := by
  obtain ⟨h0, e0⟩ := l1New_ok (k := k) hn (by omega)
  obtain ⟨b, p1, h1, e1, hp1⟩ := once_ok (h := h0) (n := 2) hn (Int.le_refl 0) (by omega) (by omega)
  rw [spec_DrawParseNumber.f, e0, Option.bind_some]
  dsimp only
  rw [e1, Option.bind_some]
  dsimp only
  cases b with
  | true =>
    obtain ⟨n, p2, h2, e2, hv0, hv1, hp2⟩ := l1Whole_ok (h := h1) hn hp1
    rw [if_pos rfl, e2, Option.bind_some, specFmt_eq hv0 hv1 (by omega), Option.bind_some]
    exact ⟨_, rfl, itoa_short hv0 hv1⟩
  | false =>
    obtain ⟨v, p2, h2, e2, hv, hp2⟩ := l1Pick_ok (h := h1) (l := [(⟨#[]⟩ : ByteArray), (⟨#[48, 48]⟩ : ByteArray), (⟨#[48, 49]⟩ : ByteArray), (⟨#[45, 49]⟩ : ByteArray), (⟨#[43, 49]⟩ : ByteArray), (⟨#[120]⟩ : ByteArray), (⟨#[57, 57, 57, 57, 57, 57]⟩ : ByteArray), (⟨#[49, 48, 48, 48, 48, 48, 48]⟩ : ByteArray), (⟨#[45, 48]⟩ : ByteArray), (⟨#[45]⟩ : ByteArray), (⟨#[32, 49]⟩ : ByteArray), (⟨#[49, 32]⟩ : ByteArray)]) hn hp1 (by simp) (by simp)
    have hs := size12 v hv
    rw [if_neg (by decide), e2, Option.bind_some]
    refine ⟨v.data.toList, by rw [bs_of], ?_⟩
    have : v.data.toList.length = v.size := rfl
    omega
theorem drawFmt_ok {s : List Int} {k : Nat} (hn : s.length ≤ 1099511627776) (hk : s.length < k) : ∃ n : Int, spec_DrawFormatInt.f k s = some n ∧ -9223372036854775808 ≤ n ∧ n ≤ 9223372036854775807 := by
  obtain ⟨h0, e0⟩ := l1New_ok (k := k) hn hk
  obtain ⟨n, p2, h2, e2, hv0, hv1, hp2⟩ := l1Whole_ok (h := h0) hn (Int.le_refl 0)
  exact ⟨n, by rw [spec_DrawFormatInt.f, e0, Option.bind_some]; dsimp only; rw [e2, Option.bind_some], hv0, hv1⟩
theorem second (l0 : List Int) {k : Nat} (hn : l0.length ≤ 1099511627776) (hk : l0.length + 100 < k) : laws_FnNumbers.j0 k l0 false = some true := by
  obtain ⟨k, rfl⟩ : ∃ j, k = j + 1 := ⟨k - 1, by omega⟩
  obtain ⟨l, e, hl⟩ := drawNum_ok (k := k) hn (by omega)
  have h1 := specNum (l := l) (K := k) (by omega) (by omega)
  have h2 := implNum (l := l) (by omega)
  have e3 := h1.eq h2 (fun n h => by omega) (fun n => Iff.rfl)
  rw [laws_FnNumbers.j0, if_neg (by decide), e, Option.bind_some, ← e3]
  rcases h1 with ⟨n, hi, hb, h⟩ | ⟨_, h⟩
  · rw [h, Option.bind_some, Option.bind_some]
    dsimp only
    rw [if_pos (by rfl), if_pos rfl, implFmt_eq (by omega) (by omega), Option.bind_some, hi, if_pos rfl]
    simp; omega
  · rw [h, Option.bind_some, Option.bind_some]
    rfl
theorem FnNumbers (l0 : List Int) (hm : l0.length ≤ maxLen) (hwf : ∀ x ∈ l0, (Lit.int .u8 x).wf = true) : ∃ k, laws_FnNumbers.f k l0 = some true := by
  by_cases hbig : (l0.length : Int) > 1048576
  · exact ⟨0, by rw [laws_FnNumbers.f, big_yes hbig]; rfl⟩
  have hn : l0.length ≤ 1099511627776 := by omega
  refine ⟨l0.length + 200, ?_⟩
  obtain ⟨n, e, hn0, hn1⟩ := drawFmt_ok (k := l0.length + 200) hn (by omega)
  have hlen := itoa_short hn0 hn1
  have hr := implRead (l := itoa n) (lo := -999999999999) (hi := 999999999999) (by decide) (by decide) (by omega)
  have ht := len_tells n
  have hj := second l0 (k := l0.length + 200) hn (by omega)
  rw [laws_FnNumbers.f, big_no hbig, Option.bind_some, if_neg (by decide), e, Option.bind_some, implFmt_eq hn0 hn1, Option.bind_some, specFmt_eq hn0 hn1 (by omega), impl_ParseInt.f]
  generalize l0.length + 200 = k at *
  rcases hr with ⟨m, hi, hb, h⟩ | ⟨hno, h⟩ <;> rw [h, Option.bind_some, Option.bind_some, Option.bind_some, if_pos rfl, bs_size] <;> dsimp only
  · obtain rfl := itoa_one hi
    have hne : (m != m) = false := by simp
    have hc := ht.mpr (by omega)
    rw [hne]
    by_cases c1 : ((itoa m).length : Int) ≤ 12
    · rw [if_pos c1, if_neg (by decide), if_pos rfl, hj]
    · have hneg : m < 0 := by omega
      rw [if_neg c1, if_pos hneg, decide_eq_true (by omega), if_neg (by decide), if_pos rfl, hj]
  · have hc : ¬ ((itoa n).length ≤ 12 ∨ (n < 0 ∧ (itoa n).length ≤ 13)) := fun hc => hno n rfl (by have := ht.mp hc; omega)
    rw [if_neg (by omega)]
    by_cases hneg : n < 0
    · rw [if_pos hneg, decide_eq_false (by omega), if_neg (by decide), if_neg (by decide), hj]
    · rw [if_neg hneg, if_neg (by decide), if_neg (by decide), hj]

end Go.Proofs.YtkbomfpebhjaoaaDoor.Pure
