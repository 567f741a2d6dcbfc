/- For every code the facts that FnPartitions' walk asks hold (the pure part here). No condition. -/
import Derived.Test.YtcnpdiiecopccaaGreatDoorVFnPartitions
import Derived.Lib.Join
import Derived.Lib.AtoiAllCases
import Derived.Lib.ItoaLen
import Derived.Lib.SplitLaws
import Derived.Lib.IndexBytes
namespace Go.Proofs.YtcnpdiiecopccaaGreatDoor.Pure
open Go.RowKit Go.Proofs.YtcnpdiiecopccaaGreatDoor.QFnPartitions Go.Proofs.YtcnpdiiecopccaaGreatDoorW.PrintWords Go.Proofs.YtcnpdiiecopccaaGreatDoorW.PrintLast
set_option linter.unusedVariables false
set_option linter.unusedSimpArgs false

theorem w64 {x : Int} (h1 : -9223372036854775808 ≤ x) (h2 : x ≤ 9223372036854775807) : wrap64 x = x := by
  unfold wrap64; omega

theorem rd_nat (xs : List Int) (i : Nat) (h : i < xs.length) : rd xs (i : Int) = xs[i] := by
  unfold rd; rw [Int.toNat_natCast]; simp [List.getD, h]

theorem succ_of_pos {d k : Nat} (h : d < k) : ∃ m, k = m + 1 := ⟨k - 1, by omega⟩

theorem wf_ints {l : List Int} (h : ∀ x ∈ l, (Lit.int .i64 x).wf = true) : ∀ x ∈ l, -9223372036854775808 ≤ x ∧ x ≤ 9223372036854775807 := by
  intro x hx
  have := h x hx
  simp [Lit.wf, IntKind.min, IntKind.max, IntKind.bits, IntKind.signed] at this
  omega

theorem wf_int {x : Int} (h : (Lit.int .i64 x).wf = true) : -9223372036854775808 ≤ x ∧ x ≤ 9223372036854775807 := by
  simp [Lit.wf, IntKind.min, IntKind.max, IntKind.bits, IntKind.signed] at h
  omega

theorem big_no {l : List Int} (h : ¬ ((l.length : Int) > 1048576)) : laws_big.f l = some false := by rw [laws_big.f]; simp; omega
theorem big_yes {l : List Int} (h : (l.length : Int) > 1048576) : laws_big.f l = some true := by rw [laws_big.f]; simp; omega

theorem and255 (x : Int) : 0 ≤ Go.bits .and .i64 x 255 ∧ Go.bits .and .i64 x 255 ≤ 255 := by
  have h : ∃ n : Nat, n ≤ 255 ∧ Go.bits .and .i64 x 255 = wrap64 (n : Int) := by
    refine ⟨(BitVec.ofInt 64 x &&& BitVec.ofInt 64 255).toNat, ?_, ?_⟩
    · rw [BitVec.toNat_and]
      exact Nat.le_trans Nat.and_le_right (by decide)
    · exact i64_w _
  obtain ⟨n, hn, e⟩ := h
  rw [e, w64 (by omega) (by omega)]
  omega

theorem l1Byte_ok {s : List Int} {pos h : Int} (hn : s.length ≤ 1099511627776) (h0 : 0 ≤ pos) : ∃ v p' h', spec_l1Byte.f s pos h = some (v, p', h') ∧ 0 ≤ v ∧ v ≤ 255 ∧ 0 ≤ p' := by
  rw [spec_l1Byte.f]
  by_cases hc : pos < (s.length : Int)
  · rw [if_pos hc, if_pos h0, w64 (x := pos + 1) (by omega) (by omega)]
    exact ⟨_, _, _, rfl, (and255 _).1, (and255 _).2, by omega⟩
  · rw [if_neg hc]
    exact ⟨_, _, _, rfl, (and255 _).1, (and255 _).2, h0⟩

theorem l1Below_ok {s : List Int} {pos h n : Int} (hn : s.length ≤ 1099511627776) (h0 : 0 ≤ pos) (h1 : 1 ≤ n) (h2 : n ≤ 256) : ∃ v p' h', spec_l1Below.f s pos h n = some (v, p', h') ∧ 0 ≤ v ∧ v < n ∧ 0 ≤ p' := by
  obtain ⟨v, p', h', e, hv0, hv1, hp⟩ := l1Byte_ok (h := h) hn h0
  refine ⟨Int.tmod v n, p', h', ?_, ?_, ?_, hp⟩
  · rw [spec_l1Below.f, if_neg (by omega), if_pos h2, e, Option.bind_some, if_neg (by omega)]
  · rw [Int.tmod_eq_emod_of_nonneg hv0]; exact Int.emod_nonneg _ (by omega)
  · rw [Int.tmod_eq_emod_of_nonneg hv0]; exact Int.emod_lt_of_pos _ (by omega)

theorem l1New_l0 (s : List Int) (hn : s.length ≤ 1099511627776) : ∀ (d k i : Nat) (h : Int), i + d = s.length → d < k → ∃ h', spec_l1New.l0 k s h (i : Int) = some (s, 0, h') := by
  intro d
  induction d with
  | zero =>
    intro k i h hi hk
    obtain ⟨k, rfl⟩ := succ_of_pos hk
    exact ⟨h, by rw [spec_l1New.l0, if_neg (by omega)]⟩
  | succ d ih =>
    intro k i h hi hk
    obtain ⟨k, rfl⟩ := succ_of_pos hk
    rw [spec_l1New.l0, if_pos (by omega)]
    by_cases hc : (i : Int) < 4000
    · rw [if_pos hc, if_pos (by omega), w64 (x := (i : Int) + 1) (by omega) (by omega)]
      exact ih k (i + 1) _ (by omega) (by omega)
    · exact ⟨h, by rw [if_neg hc]⟩

theorem l1New_ok {s : List Int} {k : Nat} (hn : s.length ≤ 1099511627776) (hk : s.length < k) : ∃ h', spec_l1New.f k s = some (s, 0, h') := l1New_l0 s hn s.length k 0 _ (by omega) hk

theorem l1PickInt_ok {s l : List Int} {pos h : Int} (hn : s.length ≤ 1099511627776) (h0 : 0 ≤ pos) (h1 : 1 ≤ l.length) (h2 : l.length ≤ 256) : ∃ v p' h', spec_l1PickInt.f s pos h l = some (v, p', h') ∧ v ∈ l ∧ 0 ≤ p' := by
  obtain ⟨v, p', h', e, hv0, hv1, hp⟩ := l1Below_ok (h := h) (n := (l.length : Int)) hn h0 (by omega) (by omega)
  refine ⟨rd l v, p', h', by rw [spec_l1PickInt.f, e, Option.bind_some, if_pos hv0, if_pos hv1], ?_, hp⟩
  obtain ⟨m, rfl⟩ := Int.eq_ofNat_of_zero_le hv0
  rw [rd_nat l m (by omega)]
  exact List.getElem_mem _

theorem once_ok {s : List Int} {pos h n : Int} (hn : s.length ≤ 1099511627776) (h0 : 0 ≤ pos) (h1 : 1 ≤ n) (h2 : n ≤ 256) : ∃ b p' h', spec_l1Once.f s pos h n = some (b, p', h') ∧ 0 ≤ p' := by
  obtain ⟨v, p', h', e, _, _, hp⟩ := l1Below_ok (h := h) hn h0 h1 h2
  exact ⟨_, p', h', by rw [spec_l1Once.f, e, Option.bind_some], hp⟩

def allsE (most n : Nat) : Bool := match spec_l2All.f 100 (n : Int) (most : Int) with
  | some l => decide (1 ≤ l.length) && decide (l.length ≤ 200) && l.all fun p => decide (p.length ≤ 9) && p.all fun x => decide (1 ≤ x) && decide (x ≤ 9)
  | none => false
set_option maxHeartbeats 8000000 in
theorem allsE_all : [7, 8, 9].all (fun m => (List.range (m + 1)).all (allsE m)) = true := by decide +kernel
theorem most_le {m : Nat} (h : m ∈ [7, 8, 9]) : 7 ≤ m ∧ m ≤ 9 := by
  simp only [List.mem_cons, List.not_mem_nil, or_false] at h
  omega
theorem l2AllE_ok {most n k : Nat} (hm : most ∈ [7, 8, 9]) (hn : n ≤ most) (hk : 100 ≤ k) : ∃ l : List (List Int), spec_l2All.f k (n : Int) (most : Int) = some l ∧ 1 ≤ l.length ∧ l.length ≤ 200 ∧ ∀ p ∈ l, p.length ≤ 9 ∧ ∀ x ∈ p, 1 ≤ x ∧ x ≤ 9 := by
  have h1 := List.all_eq_true.1 (List.all_eq_true.1 allsE_all most hm) n (List.mem_range.2 (by omega))
  unfold allsE at h1
  cases e : spec_l2All.f 100 (n : Int) (most : Int) with
  | none => rw [e] at h1; cases h1
  | some l =>
    rw [e] at h1
    simp only [Bool.and_eq_true, decide_eq_true_eq, List.all_eq_true] at h1
    exact ⟨l, at_rounds (spec_l2All.mono (n : Int) (most : Int)) hk e, h1.1.1, h1.1.2, h1.2⟩
theorem l2DrawE_ok {s : List Int} {pos h : Int} {most k : Nat} (hm : most ∈ [7, 8, 9]) (hn : s.length ≤ 1099511627776) (h0 : 0 ≤ pos) (hk : 100 ≤ k) :
    ∃ (p : List Int) (p' h' : Int), spec_l2Draw.f k s pos h (most : Int) = some (p, p', h') ∧ p.length ≤ 9 ∧ (∀ x ∈ p, 1 ≤ x ∧ x ≤ 9) ∧ 0 ≤ p' := by
  have hm2 := most_le hm
  obtain ⟨v, p1, h1, e1, hv0, hv1, hp1⟩ := l1Below_ok (h := h) (n := wrap64 ((most : Int) + 1)) hn h0 (by rw [w64 (by omega) (by omega)]; omega) (by rw [w64 (by omega) (by omega)]; omega)
  rw [w64 (by omega) (by omega)] at hv1
  obtain ⟨n, rfl⟩ := Int.eq_ofNat_of_zero_le hv0
  obtain ⟨l, e2, hl1, hl2, hl3⟩ := l2AllE_ok (n := n) hm (by omega) hk
  obtain ⟨u, p2, h2, e3, hu0, hu1, hp2⟩ := l1Below_ok (h := h1) (n := (l.length : Int)) hn hp1 (by omega) (by omega)
  have hmem : rd_L2 l u ∈ l := by
    obtain ⟨m, rfl⟩ := Int.eq_ofNat_of_zero_le hu0
    have hm : m < l.length := by omega
    have : rd_L2 l (m : Int) = l[m] := by
      unfold rd_L2
      rw [Int.toNat_natCast]
      simp [List.getD, hm]
    rw [this]
    exact List.getElem_mem _
  refine ⟨rd_L2 l u, p2, h2, ?_, (hl3 _ hmem).1, (hl3 _ hmem).2, hp2⟩
  rw [spec_l2Draw.f, e1, Option.bind_some, e2, Option.bind_some, e3, Option.bind_some, if_pos hu0, if_pos hu1]
theorem l2BentE_ok {s : List Int} {pos h : Int} {most k : Nat} (hm : most ∈ [7, 8, 9]) (hn : s.length ≤ 1099511627776) (h0 : 0 ≤ pos) (hk : 100 ≤ k) :
    ∃ (p : List Int) (p' h' : Int), spec_l2Bent.f k s pos h (most : Int) = some (p, p', h') ∧ p.length ≤ 15 ∧ 0 ≤ p' := by
  obtain ⟨p, p1, h1, e1, hp, _, hp1⟩ := l2DrawE_ok (h := h) hm hn h0 hk
  obtain ⟨v, p2, h2, e2, hv0, hv1, hp2⟩ := l1Below_ok (h := h1) (n := 14) hn hp1 (by omega) (by omega)
  rw [spec_l2Bent.f, e1, Option.bind_some, e2, Option.bind_some]
  by_cases c0 : v = 0
  · obtain ⟨u, p3, h3, e3, _, hp3⟩ := l1PickInt_ok (h := h2) (l := [0, 5, -1, 1, 9223372036854775807]) hn hp2 (by simp) (by simp)
    rw [if_pos c0, e3, Option.bind_some]
    dsimp only
    rw [if_pos (by omega)]
    exact ⟨_, _, _, rfl, by simp; omega, hp3⟩
  · rw [if_neg c0]
    by_cases c1 : v = 1
    · rw [if_pos c1, Option.bind_some, if_pos (by simp; omega)]
      exact ⟨_, _, _, rfl, by simp; omega, hp2⟩
    · rw [if_neg c1]
      exact ⟨p, p2, h2, rfl, by omega, hp2⟩

theorem l1Pick_ok {s : List Int} {l : List ByteArray} {pos h : Int} (hn : s.length ≤ 1099511627776) (h0 : 0 ≤ pos) (h1 : 1 ≤ l.length) (h2 : l.length ≤ 256) : ∃ v p' h', spec_l1Pick.f s pos h l = some (v, p', h') ∧ v ∈ l ∧ 0 ≤ p' := by
  obtain ⟨v, p', h', e, hv0, hv1, hp⟩ := l1Below_ok (h := h) (n := (l.length : Int)) hn h0 (by omega) (by omega)
  refine ⟨rdOf ByteArray.empty l v, p', h', by rw [spec_l1Pick.f, e, Option.bind_some, if_pos hv0, if_pos hv1], ?_, hp⟩
  obtain ⟨m, rfl⟩ := Int.eq_ofNat_of_zero_le hv0
  have hm : m < l.length := by omega
  have : rdOf ByteArray.empty l (m : Int) = l[m] := by
    unfold rdOf
    rw [Int.toNat_natCast]
    simp [List.getD, hm]
  rw [this]
  exact List.getElem_mem _

theorem l1Turned_ok {s : List Int} {pos h : Int} {a : ByteArray} {l : List ByteArray} (hn : s.length ≤ 1099511627776) (h0 : 0 ≤ pos) (ha : a.size ≤ 100) (h1 : 1 ≤ l.length) (h2 : l.length ≤ 256) (hl : ∀ v ∈ l, v.size ≤ 10) :
    ∃ (t : ByteArray) (p' h' : Int), spec_l1Turned.f s pos h a l = some (t, p', h') ∧ t.size ≤ 200 := by
  obtain ⟨at_, p1, g1, e1, hv0, hv1, hp1⟩ := l1Below_ok (h := h) (n := wrap64 ((a.size : Int) + 1)) hn h0 (by rw [w64 (by omega) (by omega)]; omega) (by rw [w64 (by omega) (by omega)]; omega)
  rw [w64 (by omega) (by omega)] at hv1
  obtain ⟨c, p2, g2, e2, _, _, hp2⟩ := l1Below_ok (h := g1) (n := 6) hn hp1 (by omega) (by omega)
  obtain ⟨v, p3, g3, e3, hv, hp3⟩ := l1Pick_ok (h := g2) (l := l) hn hp2 h1 h2
  have hvs := hl v hv
  have s1 : (a.extract 0 at_.toNat).size ≤ 100 := by rw [ByteArray.size_extract]; omega
  have s2 : (a.extract at_.toNat a.size).size ≤ 100 := by rw [ByteArray.size_extract]; omega
  rw [spec_l1Turned.f, e1, Option.bind_some]
  dsimp only
  rw [e2, Option.bind_some]
  dsimp only
  by_cases c0 : c = 0
  · rw [if_pos c0, if_pos hv0, if_pos (by omega), e3, Option.bind_some]
    dsimp only
    rw [if_pos (by omega), if_pos (by rw [ByteArray.size_append]; omega)]
    exact ⟨_, _, _, rfl, by rw [ByteArray.size_append, ByteArray.size_append]; rw [ByteArray.size_extract] at s1 s2 ⊢; rw [ByteArray.size_extract]; omega⟩
  · rw [if_neg c0]
    by_cases c1 : c = 1
    · rw [if_pos c1, if_pos hv0, if_pos (by omega)]
      exact ⟨_, _, _, rfl, by omega⟩
    · rw [if_neg c1]
      exact ⟨_, _, _, rfl, by first | omega | (dsimp only; omega)⟩

def bs (l : List UInt8) : ByteArray := ⟨l.toArray⟩

theorem bs_app (a b : List UInt8) : bs a ++ bs b = bs (a ++ b) := by
  apply ByteArray.ext
  simp [bs]

theorem bs_size (a : List UInt8) : (bs a).size = a.length := by simp [bs, ByteArray.size]

theorem bs_of (s : ByteArray) : bs s.data.toList = s := by
  apply ByteArray.ext
  simp [bs]

theorem bs_inj {a b : List UInt8} (h : bs a = bs b) : a = b := by
  have := congrArg ByteArray.data h
  simpa [bs] using this

theorem bs_toList (a : List UInt8) : (bs a).toList = a := by
  rw [Go.Lib.toList_data]
  simp [bs]

theorem nums1 (n : Nat) (h : n < 256) : strOfNums [(n : Int)] = bs [UInt8.ofNat n] := by
  apply ByteArray.ext
  simp [bs, strOfNums]

open Go.Lib (decDigits itoa nDigits)
theorem fmt_step {n : Int} {m k : Nat} {b : Bool} {acc : List UInt8} (hn : n.natAbs = m) (h0 : n ≠ 0) (hm : m ≤ 9223372036854775808) (ha : acc.length ≤ 1000) :
    ∃ n' : Int, n'.natAbs = m / 10 ∧ spec_FormatInt.l0 (k + 1) n b (bs acc) = spec_FormatInt.l0 k n' b (bs (UInt8.ofNat (48 + m % 10) :: acc)) := by
  have key : ∀ z : Int, z = ((48 + m % 10 : Nat) : Int) → (if (strOfNums [z]).size + (bs acc).size ≤ 9223372036854775807 then spec_FormatInt.l0 k (wrap64 (Int.tdiv n 10)) b (strOfNums [z] ++ bs acc) else none) = spec_FormatInt.l0 k (wrap64 (Int.tdiv n 10)) b (bs (UInt8.ofNat (48 + m % 10) :: acc)) := by
    intro z hz
    subst hz
    rw [nums1 _ (by omega), bs_size, bs_size, if_pos (by simp; omega), bs_app]
    rfl
  rcases Int.natAbs_eq n with e | e
  · rw [hn] at e
    subst e
    have e1 : Int.tmod (m : Int) 10 = ((m % 10 : Nat) : Int) := by rw [Int.tmod_eq_emod_of_nonneg (by omega)]; omega
    have e2 : Int.tdiv (m : Int) 10 = ((m / 10 : Nat) : Int) := by rw [Int.tdiv_eq_ediv_of_nonneg (by omega)]; omega
    refine ⟨((m / 10 : Nat) : Int), by omega, ?_⟩
    rw [spec_FormatInt.l0, if_neg h0, e1, if_neg (by omega), w64 (x := 48 + ((m % 10 : Nat) : Int)) (by omega) (by omega), Option.bind_some, key _ (by omega), e2, w64 (by omega) (by omega)]
  · rw [hn] at e
    subst e
    have e1 : Int.tmod (-(m : Int)) 10 = -((m % 10 : Nat) : Int) := by rw [Int.neg_tmod, Int.tmod_eq_emod_of_nonneg (by omega)]; omega
    have e2 : Int.tdiv (-(m : Int)) 10 = -((m / 10 : Nat) : Int) := by rw [Int.neg_tdiv, Int.tdiv_eq_ediv_of_nonneg (by omega)]; omega
    refine ⟨-((m / 10 : Nat) : Int), by omega, ?_⟩
    rw [spec_FormatInt.l0, if_neg h0, e1]
    by_cases hd : -((m % 10 : Nat) : Int) < 0
    · rw [if_pos hd, w64 (x := - -((m % 10 : Nat) : Int)) (by omega) (by omega), w64 (x := 48 + - -((m % 10 : Nat) : Int)) (by omega) (by omega), Option.bind_some, key _ (by omega), e2, w64 (by omega) (by omega)]
    · rw [if_neg hd, w64 (x := 48 + -((m % 10 : Nat) : Int)) (by omega) (by omega), Option.bind_some, key _ (by omega), e2, w64 (by omega) (by omega)]

theorem fmt_l0 : ∀ (m k : Nat) (n : Int) (b : Bool) (acc : List UInt8), n.natAbs = m → n ≠ 0 → m ≤ 9223372036854775808 → acc.length + nDigits m ≤ 1000 → nDigits m < k →
    spec_FormatInt.l0 k n b (bs acc) = some (bs ((if b then [45] else []) ++ decDigits m ++ acc)) := by
  intro m
  induction m using Nat.strongRecOn with
  | _ m ih =>
    intro k n b acc hn h0 hm ha hk
    have hp := Go.Lib.nDigits_pos m
    obtain ⟨k, rfl⟩ : ∃ j, k = j + 2 := ⟨k - 2, by omega⟩
    obtain ⟨n', hn', e⟩ := fmt_step (k := k + 1) (b := b) (acc := acc) hn h0 hm (by omega)
    rw [e]
    by_cases h10 : m < 10
    · have hz : n' = 0 := by omega
      subst hz
      rw [spec_FormatInt.l0, if_pos rfl, decDigits, dif_pos h10, Nat.mod_eq_of_lt h10]
      cases b with
      | false => rw [if_neg (by decide)]; rfl
      | true =>
        rw [if_pos rfl, bs_size, if_pos (by simp; omega)]
        exact congrArg some (bs_app [45] _)
    · have hd := Go.Lib.nDigits_big h10
      rw [ih (m / 10) (by omega) (k + 1) n' b _ hn' (by omega) (by omega) (by rw [List.length_cons]; omega) (by omega)]
      conv => rhs; rw [decDigits, dif_neg h10]
      simp

theorem specFmt_eq {n : Int} {k : Nat} (h0 : -9223372036854775808 ≤ n) (h1 : n ≤ 9223372036854775807) (hk : 30 < k) : spec_FormatInt.f k n = some (bs (itoa n)) := by
  rw [spec_FormatInt.f]
  by_cases hz : n = 0
  · subst hz
    rw [if_pos rfl]
    decide +kernel
  · have hd := Go.Lib.nDigits_le20 n.natAbs (by omega)
    rw [if_neg hz]
    have := fmt_l0 n.natAbs k n (decide (n < 0)) [] rfl hz (by omega) (by simp; omega) (by omega)
    have e : (bs [] : ByteArray) = ⟨#[]⟩ := rfl
    rw [← e, this]
    unfold itoa
    by_cases hn : n < 0
    · rw [if_pos hn, decide_eq_true hn, if_pos rfl]; simp
    · rw [if_neg hn, decide_eq_false hn, if_neg (by decide), show n.natAbs = n.toNat by omega]; simp

theorem implFmt_eq {n : Int} (h0 : -9223372036854775808 ≤ n) (h1 : n ≤ 9223372036854775807) : impl_FormatInt.f n = some (bs (itoa n)) := by
  rw [impl_FormatInt.f, strconv_Itoa.f, if_pos h0, if_pos h1]
  rfl

theorem bt_bs (l : List UInt8) (i : Nat) (h : i < l.length) : bt (bs l) (i : Int) = (l[i].toNat : Int) := by
  have h1 : ((i : Int)).toNat < (bs l).size := by rw [bs_size]; omega
  rw [← bt_at (bs l) i h1]
  simp [bs, ByteArray.getElem_eq_getElem_data]
theorem bs_data (l : List UInt8) : (bs l).data.toList = l := by simp [bs]
theorem rdOf_at (pre : List ByteArray) (x : ByteArray) (r : List ByteArray) : rdOf ByteArray.empty (pre ++ x :: r) (pre.length : Int) = x := by
  simp [rdOf]

open Go.Lib (atoiAll parseUint10 parseMag signed signless)
def isDig (c : UInt8) : Prop := 48 ≤ c.toNat ∧ c.toNat ≤ 57
def dv (acc : Nat) : List UInt8 → Nat
  | [] => acc
  | c :: r => dv (acc * 10 + (c.toNat - 48)) r
theorem dv_app : ∀ (a : List UInt8) (c : UInt8) (acc : Nat), dv acc (a ++ [c]) = dv acc a * 10 + (c.toNat - 48)
  | [], c, acc => rfl
  | x :: a, c, acc => dv_app a c _
theorem dig_nat {d : Nat} (h : d < 10) : (UInt8.ofNat (48 + d)).toNat = 48 + d := by
  rw [UInt8.toNat_ofNat']
  omega
theorem dec_all (u : Nat) : (∀ c ∈ decDigits u, isDig c) ∧ dv 0 (decDigits u) = u ∧ decDigits u ≠ [] := by
  induction u using Nat.strongRecOn with
  | _ u ih =>
    rw [decDigits]
    by_cases h : u < 10
    · rw [dif_pos h]
      have e := dig_nat h
      refine ⟨fun c hc => ?_, ?_, by simp⟩
      · obtain rfl := List.mem_singleton.mp hc
        unfold isDig
        omega
      · show 0 * 10 + ((UInt8.ofNat (48 + u)).toNat - 48) = u
        omega
    · rw [dif_neg h]
      obtain ⟨h1, h2, h3⟩ := ih (u / 10) (by omega)
      have e := dig_nat (d := u % 10) (by omega)
      refine ⟨fun c hc => ?_, ?_, by simp⟩
      · rcases List.mem_append.mp hc with hc | hc
        · exact h1 c hc
        · obtain rfl := List.mem_singleton.mp hc
          unfold isDig
          omega
      · rw [dv_app, h2, e]
        omega
theorem dec_len : ∀ (m u : Nat), u < 10 ^ (m + 1) → nDigits u ≤ m + 1
  | 0, u, h => by rw [Go.Lib.nDigits_small (by omega)]; omega
  | m + 1, u, h => by
    by_cases h10 : u < 10
    · rw [Go.Lib.nDigits_small h10]
      omega
    · have := dec_len m (u / 10) (by rw [Nat.pow_succ] at h; omega)
      rw [Go.Lib.nDigits_big h10]
      omega
theorem dv_lt : ∀ (l : List UInt8) (acc : Nat), (∀ c ∈ l, isDig c) → dv acc l + 1 ≤ (acc + 1) * 10 ^ l.length
  | [], acc, _ => by
    rw [List.length_nil, Nat.pow_zero, Nat.mul_one]
    exact Nat.le_refl _
  | c :: r, acc, h => by
    have hc := h c (List.mem_cons_self ..)
    unfold isDig at hc
    have ih := dv_lt r (acc * 10 + (c.toNat - 48)) (fun x hx => h x (List.mem_cons_of_mem _ hx))
    rw [List.length_cons, Nat.pow_succ, Nat.mul_comm (10 ^ r.length) 10, ← Nat.mul_assoc]
    have e : dv acc (c :: r) = dv (acc * 10 + (c.toNat - 48)) r := rfl
    rw [e]
    exact Nat.le_trans ih (Nat.mul_le_mul_right _ (by omega))
theorem pu_ok : ∀ (l : List UInt8) (acc : Nat), (∀ c ∈ l, isDig c) → (acc + 1) * 10 ^ l.length ≤ 1000000000000000000 → parseUint10 acc l = .ok (dv acc l)
  | [], acc, _, _ => rfl
  | c :: r, acc, h, hb => by
    have hc := h c (List.mem_cons_self ..)
    have hc' := hc
    unfold isDig at hc'
    rw [List.length_cons, Nat.pow_succ, Nat.mul_comm (10 ^ r.length) 10, ← Nat.mul_assoc] at hb
    have h2 : (acc * 10 + (c.toNat - 48) + 1) * 10 ^ r.length ≤ 1000000000000000000 := Nat.le_trans (Nat.mul_le_mul_right _ (by omega)) hb
    have h3 : acc * 10 + (c.toNat - 48) + 1 ≤ 1000000000000000000 := Nat.le_trans (Nat.le_mul_of_pos_right _ (Nat.pow_pos (by decide))) h2
    rw [parseUint10, if_pos hc', if_neg (by omega), if_neg (by omega)]
    exact pu_ok r _ (fun x hx => h x (List.mem_cons_of_mem _ hx)) h2
theorem itoa_parts {n : Int} {l t : List UInt8} {b : Bool} (hi : itoa n = l) (hl : l = if b = true then 45 :: t else t) (h45 : b = false → ∀ r, l ≠ 45 :: r) : t = decDigits n.natAbs ∧ (b = true ↔ n < 0) := by
  unfold itoa at hi
  by_cases hn : n < 0
  · rw [if_pos hn] at hi
    cases b with
    | false => exact absurd hi.symm (h45 rfl _)
    | true =>
      rw [if_pos rfl] at hl
      rw [hl] at hi
      injection hi with _ hi
      exact ⟨hi.symm, by simp [hn]⟩
  · rw [if_neg hn] at hi
    cases b with
    | true =>
      rw [if_pos rfl] at hl
      have := (dec_all n.toNat).1 45 (by rw [hi, hl]; exact List.mem_cons_self ..)
      exact absurd this.1 (by decide)
    | false =>
      rw [if_neg (by decide)] at hl
      rw [hl] at hi
      exact ⟨by rw [show n.natAbs = n.toNat by omega]; exact hi.symm, by simp [hn]⟩
theorem split45 (l : List UInt8) : (∃ t, l = 45 :: t) ∨ ∀ r, l ≠ 45 :: r := by
  rcases l with _ | ⟨c, t⟩
  · exact Or.inr fun r h => by cases h
  · by_cases h : c = 45
    · exact Or.inl ⟨t, by rw [h]⟩
    · exact Or.inr fun r e => h (by injection e)
theorem atoi_itoa {n : Int} {l : List UInt8} (hi : itoa n = l) (hn : n.natAbs < 1000000000000) : atoiAll l = .ok n := by
  obtain ⟨d1, d2, d3⟩ := dec_all n.natAbs
  have hlen : (decDigits n.natAbs).length ≤ 12 := by
    rw [Go.Lib.decDigits_length]
    exact dec_len 11 _ (by omega)
  have hp : parseMag (decDigits n.natAbs) = .ok n.natAbs := by
    rw [parseMag, if_neg d3, pu_ok _ 0 d1 ?_, d2]
    have : 10 ^ (decDigits n.natAbs).length ≤ 10 ^ 12 := Nat.pow_le_pow_right (by decide) hlen
    omega
  rcases split45 l with ⟨t, rfl⟩ | h
  · obtain ⟨rfl, hb⟩ := itoa_parts (b := true) (t := t) hi (by rw [if_pos rfl]) (fun h => by cases h)
    have := hb.mp rfl
    rw [Go.Lib.atoiAll_minus, hp]
    simp only [signed]
    rw [if_neg (by omega)]
    exact congrArg _ (by omega)
  · obtain ⟨e, hb⟩ := itoa_parts (b := false) (t := l) hi (by rw [if_neg (by decide)]) (fun _ => h)
    have hb' : ¬ n < 0 := fun x => by have := hb.mpr x; cases this
    rcases l with _ | ⟨c, r⟩
    · exact absurd e.symm d3
    · have hc := d1 c (by rw [← e]; exact List.mem_cons_self ..)
      unfold isDig at hc
      rw [Go.Lib.atoiAll_plain c r (by omega) (by omega), e, hp]
      simp only [signless]
      rw [if_neg (by omega)]
      exact congrArg _ (by omega)
def sgn (b : Bool) (v : Nat) : Int := if b = true then -(v : Int) else v
def readEnd (l : List UInt8) (v : Int) : Int × Bool := if itoa v = l then (v, true) else (0, false)
theorem read_ok (x0 : List UInt8) (b : Bool) : ∀ (r pre : List UInt8) (acc k : Nat), (∀ c ∈ r, isDig c) → (acc + 1) * 10 ^ r.length ≤ 1000000000000000000 → pre.length + r.length ≤ 1048576 → r.length + 40 < k →
    spec_l1Read.l0 k (bs x0) b (bs (pre ++ r)) (acc : Int) (pre.length : Int) = some (readEnd x0 (sgn b (dv acc r)))
  | [], pre, acc, k, _, hb, hl, hk => by
    obtain ⟨k, rfl⟩ : ∃ j, k = j + 1 := ⟨k - 1, by omega⟩
    have ha : acc + 1 ≤ 1000000000000000000 := by simpa using hb
    rw [spec_l1Read.l0, if_neg (by rw [bs_size]; simp)]
    have key : ∀ v : Int, (if (bs (itoa v)).toList = (bs x0).toList then (some (v, true) : Option (Int × Bool)) else some (0, false)) = some (readEnd x0 v) := by
      intro v
      rw [bs_toList, bs_toList, readEnd]
      split <;> rfl
    cases b with
    | true =>
      rw [if_pos rfl, w64 (by omega) (by omega), specFmt_eq (by omega) (by omega) (by omega), Option.bind_some, key]
      rfl
    | false =>
      rw [if_neg (by decide), specFmt_eq (by omega) (by omega) (by omega), Option.bind_some, key]
      rfl
  | c :: r, pre, acc, k, h, hb, hl, hk => by
    obtain ⟨k, rfl⟩ : ∃ j, k = j + 1 := ⟨k - 1, by omega⟩
    have hc := h c (List.mem_cons_self ..)
    unfold isDig at hc
    rw [List.length_cons] at hl hk
    have e : pre ++ c :: r = (pre ++ [c]) ++ r := by simp
    have hat : bt (bs (pre ++ c :: r)) (pre.length : Int) = (c.toNat : Int) := by
      rw [bt_bs _ _ (by simp)]
      simp
    rw [List.length_cons, Nat.pow_succ, Nat.mul_comm (10 ^ r.length) 10, ← Nat.mul_assoc] at hb
    have h2 : (acc * 10 + (c.toNat - 48) + 1) * 10 ^ r.length ≤ 1000000000000000000 := Nat.le_trans (Nat.mul_le_mul_right _ (by omega)) hb
    have h3 : acc * 10 + (c.toNat - 48) + 1 ≤ 1000000000000000000 := Nat.le_trans (Nat.le_mul_of_pos_right _ (Nat.pow_pos (by decide))) h2
    have hn : wrap64 (wrap64 (10 * (acc : Int)) + ((c.toNat : Int) - 48) % 256) = ((acc * 10 + (c.toNat - 48) : Nat) : Int) := by
      rw [w64 (x := 10 * (acc : Int)) (by omega) (by omega), w64 (by omega) (by omega)]
      omega
    rw [spec_l1Read.l0, if_pos (by rw [bs_size]; simp; omega), if_pos (by omega), hat, if_neg (by omega), if_neg (by omega), hn, w64 (x := (pre.length : Int) + 1) (by omega) (by omega)]
    have := read_ok x0 b r (pre ++ [c]) (acc * 10 + (c.toNat - 48)) k (fun x hx => h x (List.mem_cons_of_mem _ hx)) h2 (by simp; omega) (by omega)
    rw [← e] at this
    rw [show ((pre.length : Int) + 1) = (((pre ++ [c]).length : Nat) : Int) by simp]
    exact this
theorem read_bad (x0 : List UInt8) (b : Bool) : ∀ (r pre : List UInt8) (x8 : Int) (k : Nat), (¬ ∀ c ∈ r, isDig c) → pre.length + r.length ≤ 1048576 → r.length < k →
    spec_l1Read.l0 k (bs x0) b (bs (pre ++ r)) x8 (pre.length : Int) = some (0, false)
  | [], pre, x8, k, h, hl, hk => absurd (fun c hc => absurd hc (List.not_mem_nil)) h
  | c :: r, pre, x8, k, h, hl, hk => by
    obtain ⟨k, rfl⟩ : ∃ j, k = j + 1 := ⟨k - 1, by omega⟩
    rw [List.length_cons] at hl hk
    have e : pre ++ c :: r = (pre ++ [c]) ++ r := by simp
    have hat : bt (bs (pre ++ c :: r)) (pre.length : Int) = (c.toNat : Int) := by
      rw [bt_bs _ _ (by simp)]
      simp
    rw [spec_l1Read.l0, if_pos (by rw [bs_size]; simp; omega), if_pos (by omega), hat]
    by_cases h1 : (c.toNat : Int) < 48
    · rw [if_pos h1]
    · rw [if_neg h1]
      by_cases h2 : (c.toNat : Int) > 57
      · rw [if_pos h2]
      · rw [if_neg h2, w64 (x := (pre.length : Int) + 1) (by omega) (by omega)]
        have := read_bad x0 b r (pre ++ [c]) (wrap64 (wrap64 (10 * x8) + ((c.toNat : Int) - 48) % 256)) k (fun hr => h (fun x hx => by
          rcases List.mem_cons.mp hx with rfl | hx
          · unfold isDig
            omega
          · exact hr x hx)) (by simp; omega) (by omega)
        rw [← e] at this
        rw [show ((pre.length : Int) + 1) = (((pre ++ [c]).length : Nat) : Int) by simp]
        exact this
/-- How a reading ends: with the one number that the text spells, within bounds, or with none. -/
def Reads (l : List UInt8) (p : Int → Prop) (e : Option (Int × Bool)) : Prop := (∃ n : Int, itoa n = l ∧ p n ∧ e = some (n, true)) ∨ ((∀ n : Int, itoa n = l → ¬ p n) ∧ e = some (0, false))
theorem read_core {l t : List UInt8} {b : Bool} {most k : Nat} (hl : l = if b = true then 45 :: t else t) (h45 : b = false → ∀ r, l ≠ 45 :: r) (hm1 : 1 ≤ most) (hm : most ≤ 12) (hlen : t.length ≤ 1048576) (hk : t.length + 50 < k) :
    Reads l (fun n => n.natAbs < 10 ^ most) (spec_l1Read.j1 k (bs l) (most : Int) b (bs t)) := by
  obtain ⟨k, rfl⟩ : ∃ j, k = j + 2 := ⟨k - 2, by omega⟩
  have no : ∀ n : Int, itoa n = l → n.natAbs < 10 ^ most → (∀ c ∈ t, isDig c) ∧ dv 0 t = n.natAbs ∧ 1 ≤ t.length ∧ t.length ≤ most ∧ sgn b (dv 0 t) = n := by
    intro n hi hn
    obtain ⟨rfl, hb⟩ := itoa_parts hi hl h45
    obtain ⟨d1, d2, d3⟩ := dec_all n.natAbs
    refine ⟨d1, d2, List.length_pos_iff.mpr d3, ?_, ?_⟩
    · rw [Go.Lib.decDigits_length]
      have := dec_len (most - 1) n.natAbs (by rw [Nat.sub_add_cancel hm1]; exact hn)
      omega
    · rw [d2, sgn]
      cases b with
      | true => rw [if_pos rfl]; have := hb.mp rfl; omega
      | false => rw [if_neg (by decide)]; have : ¬ n < 0 := fun x => (by have := hb.mpr x; cases this); omega
  rw [spec_l1Read.j1, bs_size]
  by_cases h1 : (t.length : Int) < 1
  · rw [if_pos h1, spec_l1Read.j2, if_pos rfl]
    exact Or.inr ⟨fun n hi hn => by have := (no n hi hn).2.2.1; omega, rfl⟩
  · rw [if_neg h1, spec_l1Read.j2]
    by_cases h2 : (t.length : Int) > (most : Int)
    · rw [decide_eq_true h2, if_pos rfl]
      exact Or.inr ⟨fun n hi hn => by have := (no n hi hn).2.2.2.1; omega, rfl⟩
    · rw [decide_eq_false h2, if_neg (by decide)]
      have hp : 10 ^ t.length ≤ 10 ^ most := Nat.pow_le_pow_right (by decide) (by omega)
      have hp2 : 10 ^ most ≤ 10 ^ 12 := Nat.pow_le_pow_right (by decide) hm
      by_cases hd : ∀ c ∈ t, isDig c
      · have e := read_ok l b t [] 0 k hd (by omega) (by simpa using hlen) (by omega)
        have hlt := dv_lt t 0 hd
        rw [show (([] : List UInt8) ++ t) = t from rfl] at e
        rw [show spec_l1Read.l0 k (bs l) b (bs t) 0 0 = _ from e, readEnd]
        by_cases hi : itoa (sgn b (dv 0 t)) = l
        · rw [if_pos hi]
          exact Or.inl ⟨_, hi, by unfold sgn; split <;> omega, rfl⟩
        · rw [if_neg hi]
          exact Or.inr ⟨fun n hn hb => hi (by rw [(no n hn hb).2.2.2.2]; exact hn), rfl⟩
      · have e := read_bad l b t [] 0 k hd (by simpa using hlen) (by omega)
        rw [show (([] : List UInt8) ++ t) = t from rfl] at e
        rw [show spec_l1Read.l0 k (bs l) b (bs t) 0 0 = _ from e]
        exact Or.inr ⟨fun n hi hn => hd (no n hi hn).1, rfl⟩
theorem specRead {l : List UInt8} {most K : Nat} (hm1 : 1 ≤ most) (hm : most ≤ 12) (hlen : l.length ≤ 1048576) (hK : l.length + 60 < K) :
    Reads l (fun n => n.natAbs < 10 ^ most) (spec_l1Read.f K (bs l) (most : Int)) := by
  obtain ⟨K, rfl⟩ : ∃ j, K = j + 1 := ⟨K - 1, by omega⟩
  rw [spec_l1Read.f, bs_size]
  rcases split45 l with ⟨t, rfl⟩ | h
  · rw [List.length_cons] at hlen hK
    rw [if_pos (by rw [List.length_cons]; omega), if_pos (by rw [List.length_cons]; omega)]
    have hb : (bt (bs (45 :: t)) 0 == 45) = true := by
      have := bt_bs (45 :: t) 0 (by simp)
      rw [show ((0 : Nat) : Int) = 0 from rfl] at this
      rw [this]
      rfl
    rw [hb, spec_l1Read.j0, if_pos rfl, if_pos (by rw [bs_size, List.length_cons]; omega)]
    have he : (bs (45 :: t)).extract 1 (bs (45 :: t)).size = bs t := by
      apply Go.WideShapes.bytes_inj
      rw [Go.Lib.extract_to_end, bs_data, bs_data]
      rfl
    rw [he]
    exact read_core (by rw [if_pos rfl]) (fun h => by cases h) hm1 hm (by omega) (by omega)
  · have hcore : Reads l (fun n => n.natAbs < 10 ^ most) (spec_l1Read.j1 K (bs l) (most : Int) false (bs l)) := read_core (by rw [if_neg (by decide)]) (fun _ => h) hm1 hm hlen (by omega)
    rcases l with _ | ⟨c, r⟩
    · rw [if_neg (by decide), spec_l1Read.j0, if_neg (by decide)]
      exact hcore
    · rw [if_pos (by rw [List.length_cons]; omega), if_pos (by rw [List.length_cons]; omega)]
      have hb : (bt (bs (c :: r)) 0 == 45) = false := by
        have := bt_bs (c :: r) 0 (by simp)
        rw [show ((0 : Nat) : Int) = 0 from rfl] at this
        rw [this]
        refine beq_eq_false_iff_ne.mpr fun e => h r ?_
        have : c = 45 := UInt8.toNat.inj (by have e' : ((c.toNat : Nat) : Int) = 45 := e; show c.toNat = 45; omega)
        rw [this]
      rw [hb, spec_l1Read.j0, if_neg (by decide)]
      exact hcore
theorem implRead {l : List UInt8} {lo hi : Int} (hlo : -1000000000000 < lo) (hhi : hi < 1000000000000) (hlen : l.length ≤ 1048576) :
    Reads l (fun n => lo ≤ n ∧ n ≤ hi) (impl_readInt.f (bs l) lo hi) := by
  rw [impl_readInt.f, bs_size, if_pos (by omega), bs_data]
  have no : ∀ n : Int, itoa n = l → lo ≤ n ∧ n ≤ hi → atoiAll l = .ok n := fun n h hn => atoi_itoa h (by omega)
  rcases e : atoiAll l with v | _ | _
  · obtain ⟨b0, b1⟩ := Go.Lib.atoiAll_bounds e
    dsimp only
    rw [implFmt_eq b0 b1, Option.bind_some, bs_toList, bs_toList]
    by_cases h : itoa v = l
    · rw [if_pos h, impl_within.f]
      by_cases h1 : lo ≤ v
      · rw [if_pos h1, Option.bind_some]
        by_cases h2 : v ≤ hi
        · rw [decide_eq_true h2, if_pos rfl]
          exact Or.inl ⟨v, h, ⟨h1, h2⟩, rfl⟩
        · rw [decide_eq_false h2, if_neg (by decide)]
          refine Or.inr ⟨fun n hn hb => ?_, rfl⟩
          have := no n hn hb
          rw [e] at this
          injection this with this
          omega
      · rw [if_neg h1, Option.bind_some, if_neg (by decide)]
        refine Or.inr ⟨fun n hn hb => ?_, rfl⟩
        have := no n hn hb
        rw [e] at this
        injection this with this
        omega
    · rw [if_neg h]
      refine Or.inr ⟨fun n hn hb => ?_, rfl⟩
      have := no n hn hb
      rw [e] at this
      injection this with this
      exact h (by rw [this]; exact hn)
  · refine Or.inr ⟨fun n hn hb => ?_, rfl⟩
    have := no n hn hb
    rw [e] at this
    cases this
  · refine Or.inr ⟨fun n hn hb => ?_, rfl⟩
    have := no n hn hb
    rw [e] at this
    cases this
theorem itoa_inj {a b : Int} (h : itoa a = itoa b) (ha : a.natAbs < 1000000000000) (hb : b.natAbs < 1000000000000) : a = b := by
  have h1 := atoi_itoa h ha
  have h2 := atoi_itoa rfl hb
  rw [h1] at h2
  injection h2
/-- Two readings with the same bounds end alike. -/
theorem Reads.eq {l : List UInt8} {p q : Int → Prop} {e f : Option (Int × Bool)} (h : Reads l p e) (k : Reads l q f) (hp : ∀ n, p n → n.natAbs < 1000000000000) (hq : ∀ n, q n ↔ p n) : e = f := by
  rcases h with ⟨n, h1, h2, rfl⟩ | ⟨h1, rfl⟩ <;> rcases k with ⟨m, k1, k2, rfl⟩ | ⟨k1, rfl⟩
  · rw [itoa_inj (h1.trans k1.symm) (hp n h2) (hp m ((hq m).mp k2))]
  · exact absurd ((hq n).mpr h2) (k1 n h1)
  · exact absurd ((hq m).mp k2) (h1 m k1)
  · rfl

theorem implNum {l : List UInt8} (hlen : l.length ≤ 1048576) : Reads l (fun n => 0 ≤ n ∧ n ≤ 999999) (impl_ParseNumber.f (bs l)) := by
  have h2 := implRead (l := l) (lo := 0) (hi := 999999) (by decide) (by decide) hlen
  rw [impl_ParseNumber.f]
  rcases h2 with ⟨n, hi, hn, h⟩ | ⟨hn, h⟩ <;> rw [h, Option.bind_some]
  · exact Or.inl ⟨n, hi, hn, rfl⟩
  · exact Or.inr ⟨hn, rfl⟩

def spAcc (c : UInt8) : List UInt8 → List UInt8 → List (List UInt8)
  | cur, [] => [cur]
  | cur, x :: r => if x = c then cur :: spAcc c [] r else spAcc c (cur ++ [x]) r
theorem sp_none (c : UInt8) : ∀ (r cur : List UInt8), c ∉ r → spAcc c cur r = [cur ++ r]
  | [], cur, _ => by rw [List.append_nil]; rfl
  | x :: r, cur, h => by
    have h1 : x ≠ c := fun e => h (by rw [e]; exact List.mem_cons_self ..)
    rw [spAcc, if_neg h1, sp_none c r _ (fun m => h (List.mem_cons_of_mem _ m))]
    simp
theorem sp_some (c : UInt8) (b : List UInt8) : ∀ (a cur : List UInt8), c ∉ a → spAcc c cur (a ++ c :: b) = (cur ++ a) :: spAcc c [] b
  | [], cur, _ => by rw [List.append_nil]; show spAcc c cur (c :: b) = _; rw [spAcc, if_pos rfl]
  | x :: a, cur, h => by
    have h1 : x ≠ c := fun e => h (by rw [e]; exact List.mem_cons_self ..)
    show spAcc c cur (x :: (a ++ c :: b)) = _
    rw [spAcc, if_neg h1, sp_some c b a _ (fun m => h (List.mem_cons_of_mem _ m))]
    simp
theorem ib_none (c : UInt8) : ∀ l : List UInt8, c ∉ l → Go.Lib.indexByte l c = -1
  | [], _ => rfl
  | x :: l, h => by
    have h1 : (x == c) = false := beq_eq_false_iff_ne.mpr fun e => h (by rw [e]; exact List.mem_cons_self ..)
    rw [Go.Lib.indexByte, h1, ib_none c l (fun m => h (List.mem_cons_of_mem _ m))]
    rfl
theorem ib_some (c : UInt8) (b : List UInt8) : ∀ a : List UInt8, c ∉ a → Go.Lib.indexByte (a ++ c :: b) c = (a.length : Int)
  | [], _ => by show Go.Lib.indexByte (c :: b) c = _; rw [Go.Lib.indexByte, beq_self_eq_true]; rfl
  | x :: a, h => by
    have h1 : (x == c) = false := beq_eq_false_iff_ne.mpr fun e => h (by rw [e]; exact List.mem_cons_self ..)
    have ih := ib_some c b a (fun m => h (List.mem_cons_of_mem _ m))
    have h2 : ((a.length : Int) == -1) = false := beq_eq_false_iff_ne.mpr (by omega)
    show Go.Lib.indexByte (x :: (a ++ c :: b)) c = _
    rw [Go.Lib.indexByte, h1, ih, h2]
    simp
theorem split_one (c : UInt8) : ∀ (n : Nat) (s : List UInt8), s.length ≤ n → Go.Lib.splitK [c] 0 (Go.Lib.count s [c]) s = spAcc c [] s := by
  intro n
  induction n with
  | zero =>
    intro s hs
    obtain rfl := List.eq_nil_of_length_eq_zero (Nat.le_zero.mp hs)
    have hi : Go.Lib.index [] [c] = -1 := by rw [Go.Lib.index_one]; rfl
    rw [Go.Lib.count_miss hi]
    rfl
  | succ n ih =>
    intro s hs
    by_cases h : c ∈ s
    · obtain ⟨a, b, rfl, ha⟩ := List.eq_append_cons_of_mem h
      have hi : Go.Lib.index (a ++ c :: b) [c] = (a.length : Int) := by rw [Go.Lib.index_one, ib_some c b a ha]
      have hdrop : (a ++ c :: b).drop (a.length + 1) = b := by simp
      have e1 : Go.Lib.count (a ++ c :: b) [c] = 1 + Go.Lib.count b [c] := by
        have := Go.Lib.count_hit (s := a ++ c :: b) (sub := [c]) (i := a.length) (by simp) hi
        rw [this, show [c].length = 1 from rfl, hdrop]
      have hm : ¬ ((Go.Lib.index (a ++ c :: b) [c] == -1) = true) := fun e => by have := beq_iff_eq.mp e; omega
      rw [e1, Nat.add_comm, Go.Lib.splitK, if_neg hm, hi, show [c].length = 1 from rfl, show ((a.length : Int)).toNat = a.length from rfl, hdrop, ih b (by simp at hs; omega), sp_some c b a [] ha]
      simp
    · have hi : Go.Lib.index s [c] = -1 := by rw [Go.Lib.index_one, ib_none c s h]
      rw [Go.Lib.count_miss hi, sp_none c s [] h]
      rfl
theorem bs_eta (x : List ByteArray) : (x.map (·.data.toList)).map bs = x := by
  rw [List.map_map]
  conv => rhs; rw [← List.map_id x]
  exact List.map_congr_left fun a _ => bs_of a
theorem splitB_one (c : UInt8) (l : List UInt8) : Go.Lib.splitB (bs [c]) 0 (Go.Lib.countB (bs l) (bs [c])) (bs l) = (spAcc c [] l).map bs := by
  rw [← bs_eta (Go.Lib.splitB _ _ _ _), Go.Lib.splitB_data]
  have e : Go.Lib.countB (bs l) (bs [c]) = Go.Lib.count l [c] := by
    show Go.Lib.count (bs l).data.toList (bs [c]).data.toList = _
    simp [bs]
  rw [e]
  have e2 : (bs [c]).data.toList = [c] := by simp [bs]
  have e3 : (bs l).data.toList = l := by simp [bs]
  rw [e2, e3, split_one c l.length l (Nat.le_refl _)]
theorem sp_len (c : UInt8) : ∀ (r cur : List UInt8), (spAcc c cur r).length ≤ r.length + 1
  | [], cur => by simp [spAcc]
  | x :: r, cur => by
    rw [spAcc]
    split
    · have := sp_len c r []
      simp only [List.length_cons]
      omega
    · have := sp_len c r (cur ++ [x])
      simp only [List.length_cons]
      omega
theorem implSplit {l : List UInt8} {c : UInt8} (hl : l.length ≤ 1048576) : strings_Split.f (bs l) (bs [c]) = some ((spAcc c [] l).map bs) := by
  rw [strings_Split.f, bs_size, bs_size, if_pos (by omega), if_pos (by simp), splitB_one]
theorem bs_extract (pre cur r : List UInt8) : (bs (pre ++ cur ++ r)).extract pre.length (pre.length + cur.length) = bs cur := by
  apply ByteArray.ext
  rw [ByteArray.data_extract]
  simp [bs]
theorem specSplit_l0 (c : UInt8) : ∀ (r pre cur : List UInt8) (out : List ByteArray) (k : Nat), (pre ++ cur ++ r).length ≤ 1048576 → out.length + r.length ≤ 2000000 → r.length + 2 ≤ k →
    spec_SplitByte.l0 k (bs (pre ++ cur ++ r)) (c.toNat : Int) out (pre.length : Int) ((pre.length + cur.length : Nat) : Int) = some (out ++ (spAcc c cur r).map bs)
  | [], pre, cur, out, k, hl, ho, hk => by
    obtain ⟨k, rfl⟩ : ∃ j, k = j + 2 := ⟨k - 2, by omega⟩
    have hlen : (pre ++ cur ++ ([] : List UInt8)).length = pre.length + cur.length := by simp
    rw [hlen] at hl
    rw [spec_SplitByte.l0, bs_size, hlen, if_pos (by omega), if_pos rfl, if_pos (by omega), if_pos (by omega), if_pos (by simp only [List.length_nil] at ho; omega), w64 (x := ((pre.length + cur.length : Nat) : Int) + 1) (by omega) (by omega),
      spec_SplitByte.l0, bs_size, hlen, if_neg (by omega)]
    rw [show ((pre.length : Int)).toNat = pre.length from rfl, show (((pre.length + cur.length : Nat) : Int)).toNat = pre.length + cur.length from rfl, bs_extract]
    rfl
  | x :: r, pre, cur, out, k, hl, ho, hk => by
    obtain ⟨k, rfl⟩ : ∃ j, k = j + 1 := ⟨k - 1, by omega⟩
    rw [List.length_cons] at ho hk
    have hlen : (pre ++ cur ++ x :: r).length = pre.length + cur.length + (r.length + 1) := by simp; omega
    have hl' := hl
    rw [hlen] at hl'
    have hat : bt (bs (pre ++ cur ++ x :: r)) ((pre.length + cur.length : Nat) : Int) = (x.toNat : Int) := by
      rw [bt_bs _ _ (by rw [hlen]; omega)]
      congr 2
      rw [List.getElem_append_right (by simp)]
      simp
    rw [spec_SplitByte.l0, bs_size, hlen, if_pos (by omega), if_neg (by omega), if_pos (by omega), if_pos (by omega), hat]
    by_cases h : x = c
    · rw [if_pos (by rw [h]), if_pos (by omega), if_pos (by omega), if_pos (by omega), w64 (x := ((pre.length + cur.length : Nat) : Int) + 1) (by omega) (by omega)]
      rw [show ((pre.length : Int)).toNat = pre.length from rfl, show (((pre.length + cur.length : Nat) : Int)).toNat = pre.length + cur.length from rfl, bs_extract]
      have e : pre ++ cur ++ x :: r = (pre ++ cur ++ [x]) ++ [] ++ r := by simp
      have ih := specSplit_l0 c r (pre ++ cur ++ [x]) [] (out ++ [bs cur]) k (by rw [← e]; exact hl) (by simp; omega) (by omega)
      rw [← e] at ih
      have e2 : ((pre ++ cur ++ [x]).length : Int) = ((pre.length + cur.length : Nat) : Int) + 1 := by simp; omega
      have e3 : (((pre ++ cur ++ [x]).length + ([] : List UInt8).length : Nat) : Int) = ((pre.length + cur.length : Nat) : Int) + 1 := by simp; omega
      rw [e2, e3] at ih
      rw [ih, spAcc, if_pos h]
      simp
    · rw [if_neg (by intro e; exact h (UInt8.toNat.inj (by omega))), w64 (x := ((pre.length + cur.length : Nat) : Int) + 1) (by omega) (by omega)]
      have e : pre ++ cur ++ x :: r = pre ++ (cur ++ [x]) ++ r := by simp
      have ih := specSplit_l0 c r pre (cur ++ [x]) out k (by rw [← e]; exact hl) (by omega) (by omega)
      rw [← e] at ih
      have e3 : ((pre.length + (cur ++ [x]).length : Nat) : Int) = ((pre.length + cur.length : Nat) : Int) + 1 := by simp; omega
      rw [e3] at ih
      rw [ih, spAcc, if_neg h]
theorem specSplit {l : List UInt8} {c : UInt8} {k : Nat} (hl : l.length ≤ 1048576) (hk : l.length + 2 ≤ k) : spec_SplitByte.f k (bs l) (c.toNat : Int) = some ((spAcc c [] l).map bs) := by
  have := specSplit_l0 c l [] [] [] k (by simpa using hl) (by simp; omega) hk
  rw [spec_SplitByte.f]
  exact this

theorem sp_mem (c : UInt8) : ∀ (r cur : List UInt8), ∀ x ∈ spAcc c cur r, x.length ≤ cur.length + r.length
  | [], cur, x, hx => by
    obtain rfl := List.mem_singleton.mp hx
    omega
  | y :: r, cur, x, hx => by
    rw [spAcc] at hx
    rw [List.length_cons]
    split at hx
    · rcases List.mem_cons.mp hx with rfl | hx
      · omega
      · have := sp_mem c r [] x hx
        simp only [List.length_nil] at this
        omega
    · have := sp_mem c r (cur ++ [y]) x hx
      simp only [List.length_append, List.length_cons, List.length_nil] at this
      omega
theorem sp_ne (c : UInt8) : ∀ (r cur : List UInt8), spAcc c cur r ≠ []
  | [], cur => by simp [spAcc]
  | y :: r, cur => by
    rw [spAcc]
    split
    · simp
    · exact sp_ne c r _
theorem sp_join (c : UInt8) : ∀ (r cur : List UInt8), Go.Lib.join (spAcc c cur r) [c] = cur ++ r
  | [], cur => by rw [spAcc, Go.Lib.join_one, List.append_nil]
  | y :: r, cur => by
    rw [spAcc]
    split
    · rename_i h
      subst h
      have ih := sp_join y r []
      obtain ⟨z, zs, e⟩ := List.exists_cons_of_ne_nil (sp_ne y r [])
      rw [e, Go.Lib.join_cons] at ih
      rw [e, Go.Lib.join_cons, Go.Lib.joinTail, List.map_cons, List.flatten_cons, List.append_assoc]
      rw [Go.Lib.joinTail] at ih
      rw [ih]
      rfl
    · rw [sp_join c r (cur ++ [y])]
      simp

def isPfrom : Int → Int → List Int → Bool
  | _, _, [] => true
  | prev, sum, x :: xs => decide (1 ≤ x) && decide (x ≤ 9) && decide (x ≤ prev) && decide (sum + x ≤ 9) && isPfrom x (sum + x) xs

def isP (p : List Int) : Bool := isPfrom 9 0 p

def prevAt (xs : List Int) (i : Nat) : Int := if i = 0 then 9 else rd xs ((i : Int) - 1)

theorem prevAt_succ (xs : List Int) (i : Nat) (h : i < xs.length) : prevAt xs (i + 1) = xs[i] := by
  unfold prevAt
  rw [if_neg (by omega), show ((i + 1 : Nat) : Int) - 1 = (i : Int) by omega, rd_nat _ _ h]

theorem isPfrom_step (xs : List Int) (i : Nat) (sum : Int) (h : i < xs.length) :
    isPfrom (prevAt xs i) sum (xs.drop i) = (decide (1 ≤ xs[i]) && decide (xs[i] ≤ 9) && decide (xs[i] ≤ prevAt xs i) && decide (sum + xs[i] ≤ 9) && isPfrom (prevAt xs (i + 1)) (sum + xs[i]) (xs.drop (i + 1))) := by
  rw [List.drop_eq_getElem_cons h, isPfrom, prevAt_succ xs i h]

def genP : Nat → Nat → Nat → List (List Int)
  | 0, _, _ => [[]]
  | f + 1, m, b => [] :: (List.range (min m b)).flatMap fun a => (genP f (a + 1) (b - (a + 1))).map (((a + 1 : Nat) : Int) :: ·)

theorem mem_genP : ∀ (xs : List Int) (f m b : Nat) (prev sum : Int), isPfrom prev sum xs = true → prev ≤ m → 9 - sum ≤ b → b ≤ f → sum ≤ 9 → xs ∈ genP f m b
  | [], 0, _, _, _, _, _, _, _, _, _ => by simp [genP]
  | [], f + 1, _, _, _, _, _, _, _, _, _ => by simp [genP]
  | x :: xs, 0, m, b, prev, sum, h, hm, hb, hf, hs => by
    simp [isPfrom] at h
    omega
  | x :: xs, f + 1, m, b, prev, sum, h, hm, hb, hf, hs => by
    simp only [isPfrom, Bool.and_eq_true, decide_eq_true_eq] at h
    obtain ⟨⟨⟨⟨h1, h2⟩, h3⟩, h4⟩, h5⟩ := h
    simp only [genP, List.mem_cons, List.mem_flatMap, List.mem_map, List.mem_range]
    refine .inr ⟨(x - 1).toNat, by omega, xs, ?_, ?_⟩
    · exact mem_genP xs f _ _ x (sum + x) h5 (by omega) (by omega) (by omega) (by omega)
    · congr 1
      omega

theorem isP_mem {p : List Int} (h : isP p = true) : p ∈ genP 9 9 9 := mem_genP p 9 9 9 9 0 h (by omega) (by omega) (by omega) (by omega)

theorem all_at {α : Type} {l : List α} {f : α → Bool} (h : l.all f = true) {x : α} (hx : x ∈ l) : f x = true := List.all_eq_true.1 h x hx

theorem genP_len : (genP 9 9 9).all (fun p => decide (p.length ≤ 9)) = true := by decide +kernel

theorem isP_len {p : List Int} (h : isP p = true) : p.length ≤ 9 := of_decide_eq_true (all_at genP_len (isP_mem h))

theorem genP_rng : (genP 9 9 9).all (fun p => p.all fun x => decide (1 ≤ x) && decide (x ≤ 9)) = true := by decide +kernel

theorem rd_mem {l : List Int} {i : Int} (h0 : 0 ≤ i) (h1 : i < l.length) : rd l i ∈ l := by
  obtain ⟨n, rfl⟩ := Int.eq_ofNat_of_zero_le h0
  rw [rd_nat l n (by omega)]
  exact List.getElem_mem _

theorem isP_rd {l : List Int} {i : Int} (h : isP l = true) (h0 : 0 ≤ i) (h1 : i < l.length) : 1 ≤ rd l i ∧ rd l i ≤ 9 := by
  have := all_at (all_at genP_rng (isP_mem h)) (rd_mem h0 h1)
  simpa using this

theorem specIsP_l0 (xs : List Int) (hn : xs.length ≤ 1099511627776) : ∀ (d k i : Nat) (sum : Int), i + d = xs.length → 0 ≤ sum → sum ≤ 9 → 2 * d < k → spec_IsPartition.l0 k xs sum (i : Int) = some (isPfrom (prevAt xs i) sum (xs.drop i)) := by
  intro d
  induction d with
  | zero =>
    intro k i sum hi _ _ hk
    obtain ⟨k, rfl⟩ := succ_of_pos hk
    rw [spec_IsPartition.l0, if_neg (by omega), List.drop_of_length_le (by omega)]
    rfl
  | succ d ih =>
    intro k i sum hi hs0 hs9 hk
    obtain ⟨k, rfl⟩ : ∃ m, k = m + 2 := ⟨k - 2, by omega⟩
    have hil : i < xs.length := by omega
    rw [spec_IsPartition.l0, if_pos (by omega), if_pos (by omega), rd_nat _ _ hil, isPfrom_step xs i sum hil, spec_l1In.f]
    by_cases h1 : xs[i] ≥ 1
    · rw [if_pos h1]
      by_cases h2 : xs[i] ≤ 9
      · have e1 : decide (1 ≤ xs[i]) = true := by simp; omega
        simp only [h2, e1, decide_true, Option.bind_some, Bool.true_and]
        rw [if_pos trivial]
        have hj : ∀ b : Bool, b = decide (xs[i] ≤ prevAt xs i) → spec_IsPartition.j1 (k + 1) xs sum (i : Int) (!b) = some (b && decide (sum + xs[i] ≤ 9) && isPfrom (prevAt xs (i + 1)) (sum + xs[i]) (xs.drop (i + 1))) := by
          intro b hb
          rw [spec_IsPartition.j1]
          cases b with
          | false => simp
          | true =>
            rw [if_neg (by simp), if_pos (by omega), if_pos (by omega), rd_nat _ _ hil, w64 (by omega) (by omega), w64 (by omega) (by omega)]
            by_cases h4 : sum + xs[i] > 9
            · rw [if_pos h4]
              have : ¬ (sum + xs[i] ≤ 9) := by omega
              simp [this]
            · rw [if_neg h4]
              have h5 : sum + xs[i] ≤ 9 := by omega
              have := ih k (i + 1) (sum + xs[i]) (by omega) (by omega) h5 (by omega)
              simp only [h5, decide_true, Bool.true_and]
              exact this
        by_cases h0 : (i : Int) > 0
        · rw [if_pos h0, w64 (by omega) (by omega), if_pos (by omega), if_pos (by omega)]
          have e : decide (xs[i] > rd xs ((i : Int) - 1)) = !(decide (xs[i] ≤ prevAt xs i)) := by
            unfold prevAt
            rw [if_neg (by omega)]
            by_cases hc : xs[i] ≤ rd xs ((i : Int) - 1)
            · have : ¬ (xs[i] > rd xs ((i : Int) - 1)) := by omega
              simp [hc]
            · have : xs[i] > rd xs ((i : Int) - 1) := by omega
              simp [hc, this]
          rw [e]
          exact hj _ rfl
        · rw [if_neg h0]
          have e : decide (xs[i] ≤ prevAt xs i) = true := by
            unfold prevAt
            rw [if_pos (by omega)]
            simpa using h2
          have := hj true e.symm
          rw [e]
          exact this
      · simp [h2]
        rfl
    · rw [if_neg h1]
      have : ¬ (1 ≤ xs[i]) := by omega
      simp [this]
      rfl

theorem specIsP_eq {k : Nat} {xs : List Int} (hn : xs.length ≤ 1099511627776) (hk : 2 * xs.length < k) : spec_IsPartition.f k xs = some (isP xs) :=
  specIsP_l0 xs hn xs.length k 0 0 (by omega) (by omega) (by omega) hk

theorem implIsP_l0 (xs : List Int) (hn : xs.length ≤ 1099511627776) : ∀ (d k i : Nat) (sum : Int), i + d = xs.length → 0 ≤ sum → sum ≤ 9 → 2 * d < k → impl_IsPartition.l0 k xs sum xs (xs.length : Int) (i : Int) = some (isPfrom (prevAt xs i) sum (xs.drop i)) := by
  intro d
  induction d with
  | zero =>
    intro k i sum hi _ _ hk
    obtain ⟨k, rfl⟩ := succ_of_pos hk
    rw [impl_IsPartition.l0, if_neg (by omega), List.drop_of_length_le (by omega)]
    rfl
  | succ d ih =>
    intro k i sum hi hs0 hs9 hk
    obtain ⟨k, rfl⟩ : ∃ m, k = m + 2 := ⟨k - 2, by omega⟩
    have hil : i < xs.length := by omega
    rw [impl_IsPartition.l0, if_pos (by omega), if_pos (by omega), if_pos (by omega), rd_nat _ _ hil, isPfrom_step xs i sum hil, impl_within.f]
    by_cases h1 : 1 ≤ xs[i]
    · rw [if_pos h1]
      by_cases h2 : xs[i] ≤ 9
      · simp only [h2, h1, decide_true, Option.bind_some, Bool.true_and]
        rw [if_pos trivial]
        have hj : ∀ b : Bool, b = decide (xs[i] ≤ prevAt xs i) → impl_IsPartition.j1 (k + 1) xs sum xs[i] xs (xs.length : Int) (i : Int) (!b) = some (b && decide (sum + xs[i] ≤ 9) && isPfrom (prevAt xs (i + 1)) (sum + xs[i]) (xs.drop (i + 1))) := by
          intro b hb
          rw [impl_IsPartition.j1]
          cases b with
          | false => simp
          | true =>
            rw [if_neg (by simp), w64 (by omega) (by omega), w64 (by omega) (by omega)]
            by_cases h4 : sum + xs[i] > 9
            · rw [if_pos h4]
              have : ¬ (sum + xs[i] ≤ 9) := by omega
              simp [this]
            · rw [if_neg h4]
              have h5 : sum + xs[i] ≤ 9 := by omega
              have := ih k (i + 1) (sum + xs[i]) (by omega) (by omega) h5 (by omega)
              simp only [h5, decide_true, Bool.true_and]
              exact this
        by_cases h0 : (i : Int) > 0
        · rw [if_pos h0, w64 (by omega) (by omega), if_pos (by omega), if_pos (by omega)]
          have e : decide (xs[i] > rd xs ((i : Int) - 1)) = !(decide (xs[i] ≤ prevAt xs i)) := by
            unfold prevAt
            rw [if_neg (by omega)]
            by_cases hc : xs[i] ≤ rd xs ((i : Int) - 1)
            · have : ¬ (xs[i] > rd xs ((i : Int) - 1)) := by omega
              simp [hc]
            · have : xs[i] > rd xs ((i : Int) - 1) := by omega
              simp [hc, this]
          rw [e]
          exact hj _ rfl
        · rw [if_neg h0]
          have e : decide (xs[i] ≤ prevAt xs i) = true := by
            unfold prevAt
            rw [if_pos (by omega)]
            simpa using h2
          have := hj true e.symm
          rw [e]
          exact this
      · simp [h2]
        rfl
    · rw [if_neg h1]
      simp [h1]
      rfl

theorem implIsP_eq {k : Nat} {xs : List Int} (hn : xs.length ≤ 1099511627776) (hk : 2 * xs.length < k) : impl_IsPartition.f k xs = some (isP xs) :=
  implIsP_l0 xs hn xs.length k 0 0 (by omega) (by omega) (by omega) hk

theorem leo_up {α β : Type} {f : Nat → Option α} (h : ∀ k, LeO (f k) (f (k + 1))) {k : Nat} {r : α} (e : f k = some r) : ∀ d, f (k + d) = some r
  | 0 => e
  | d + 1 => h (k + d) r (leo_up (β := β) h e d)

def ptext (p : List Int) : ByteArray := if isP p = true then (if p.length = 0 then ⟨#[45]⟩ else (spec_l2Commas.f 60 p).getD ByteArray.empty) else ⟨#[]⟩

theorem commas_spec : (genP 9 9 9).all (fun p => decide (spec_l2Commas.f 60 p = some ((spec_l2Commas.f 60 p).getD ByteArray.empty))) = true := by decide +kernel
theorem specPT {p : List Int} {k : Nat} (hn : p.length ≤ 1099511627776) (hk : 2 * p.length < k) (h60 : 60 ≤ k) : spec_PartitionText.f k p = some (ptext p) := by
  rw [spec_PartitionText.f, specIsP_eq hn hk, Option.bind_some, ptext]
  cases h : isP p with
  | false => rw [if_neg (by decide), if_neg (by decide)]
  | true =>
    rw [if_pos rfl, if_pos rfl]
    by_cases h0 : p.length = 0
    · rw [if_pos (by omega), if_pos h0]
    · rw [if_neg (by omega), if_neg h0]
      obtain ⟨d, rfl⟩ : ∃ d, k = 60 + d := ⟨k - 60, by omega⟩
      rw [leo_up (β := Unit) (f := fun k => spec_l2Commas.f k p) (fun k => spec_l2Commas.mono p k) (of_decide_eq_true (all_at commas_spec (isP_mem h))) d, Option.bind_some]

/-- The number that a text spells, if it is the one text of that number. -/
def rv (l : List UInt8) : Option Int := match atoiAll l with
  | .ok v => if itoa v = l then some v else none
  | _ => none
theorem rv_some {l : List UInt8} {n : Int} (h : rv l = some n) : itoa n = l := by
  unfold rv at h
  rcases e : atoiAll l with v | _ | _ <;> rw [e] at h
  · dsimp only at h
    split at h
    · obtain rfl := Option.some.inj h
      assumption
    · cases h
  · cases h
  · cases h
theorem rv_itoa {l : List UInt8} {n : Int} (h : itoa n = l) (hn : n.natAbs < 1000000000000) : rv l = some n := by
  unfold rv
  rw [atoi_itoa h hn]
  dsimp only
  rw [if_pos h]
theorem Reads.rv {l : List UInt8} {p : Int → Prop} [DecidablePred p] {e : Option (Int × Bool)} (h : Reads l p e) (hp : ∀ n, p n → n.natAbs < 1000000000000) :
    (∃ n, rv l = some n ∧ p n ∧ e = some (n, true)) ∨ ((∀ n, rv l = some n → ¬ p n) ∧ e = some (0, false)) := by
  rcases h with ⟨n, h1, h2, h3⟩ | ⟨h1, h2⟩
  · exact Or.inl ⟨n, rv_itoa h1 (hp n h2), h2, h3⟩
  · exact Or.inr ⟨fun n hn => h1 n (rv_some hn), h2⟩
def seqV (p : Int → Bool) : List (List UInt8) → Option (List Int)
  | [] => some []
  | x :: r => match rv x with
    | some n => if p n = true then (seqV p r).map (n :: ·) else none
    | none => none
theorem seqV_itoa {p : Int → Bool} : ∀ {r : List (List UInt8)} {vs : List Int}, seqV p r = some vs → r = vs.map itoa ∧ ∀ v ∈ vs, p v = true
  | [], vs, h => by
    obtain rfl := Option.some.inj h
    exact ⟨rfl, fun v hv => absurd hv List.not_mem_nil⟩
  | x :: r, vs, h => by
    rw [seqV] at h
    cases e : Pure.rv x with
    | none => rw [e] at h; cases h
    | some n =>
      rw [e] at h
      dsimp only at h
      by_cases hp : p n = true
      · rw [if_pos hp] at h
        obtain ⟨ws, hw, rfl⟩ := Option.map_eq_some_iff.mp h
        obtain ⟨h1, h2⟩ := seqV_itoa hw
        refine ⟨by rw [h1, List.map_cons, rv_some e], fun v hv => ?_⟩
        rcases List.mem_cons.mp hv with rfl | hv
        · exact hp
        · exact h2 v hv
      · rw [if_neg hp] at h
        cases h
theorem seqV_mono {p q : Int → Bool} : ∀ {r : List (List UInt8)} {vs : List Int}, seqV p r = some vs → (∀ v ∈ vs, q v = true) → seqV q r = some vs
  | [], vs, h, _ => h
  | x :: r, vs, h, hq => by
    rw [seqV] at h ⊢
    cases e : Pure.rv x with
    | none => rw [e] at h; cases h
    | some n =>
      rw [e] at h
      dsimp only at h ⊢
      by_cases hp : p n = true
      · rw [if_pos hp] at h
        obtain ⟨ws, hw, rfl⟩ := Option.map_eq_some_iff.mp h
        rw [if_pos (hq n (List.mem_cons_self ..)), seqV_mono hw (fun v hv => hq v (List.mem_cons_of_mem _ hv))]
        rfl
      · rw [if_neg hp] at h
        cases h
def p12 (n : Int) : Bool := decide (n.natAbs < 1000000000000)
def p6 (n : Int) : Bool := decide (0 ≤ n ∧ n ≤ 999999)
theorem specInt {l : List UInt8} {K : Nat} (hlen : l.length ≤ 1048576) (hK : l.length + 60 < K) :
    (∃ n, Pure.rv l = some n ∧ p12 n = true ∧ spec_ParseInt.f K (bs l) = some (n, true)) ∨ ((∀ n, Pure.rv l = some n → ¬ p12 n = true) ∧ spec_ParseInt.f K (bs l) = some (0, false)) := by
  have h1 := (specRead (l := l) (most := 12) (K := K) (by decide) (by decide) hlen hK).rv (fun n h => h)
  rw [spec_ParseInt.f]
  rcases h1 with ⟨n, h1, h2, h⟩ | ⟨h1, h⟩ <;> rw [show ((12 : Nat) : Int) = 12 from rfl] at h <;> rw [h, Option.bind_some]
  · exact Or.inl ⟨n, h1, decide_eq_true h2, rfl⟩
  · exact Or.inr ⟨fun n hn hp => h1 n hn (of_decide_eq_true hp), rfl⟩
theorem implNum' {l : List UInt8} (hlen : l.length ≤ 1048576) :
    (∃ n, Pure.rv l = some n ∧ p6 n = true ∧ impl_ParseNumber.f (bs l) = some (n, true)) ∨ ((∀ n, Pure.rv l = some n → ¬ p6 n = true) ∧ impl_ParseNumber.f (bs l) = some (0, false)) := by
  rcases (implNum (l := l) hlen).rv (fun n h => by omega) with ⟨n, h1, h2, h⟩ | ⟨h1, h⟩
  · exact Or.inl ⟨n, h1, decide_eq_true h2, h⟩
  · exact Or.inr ⟨fun n hn hp => h1 n hn (of_decide_eq_true hp), h⟩
theorem rdOf_bs (pre : List (List UInt8)) (x : List UInt8) (r : List (List UInt8)) : rdOf ByteArray.empty ((pre ++ x :: r).map bs) (pre.length : Int) = bs x := by
  have := rdOf_at (pre.map bs) (bs x) (r.map bs)
  simpa using this
def okSpec (t : List UInt8) (p : List Int) : List Int × Bool := if ptext p = bs t then (p, true) else ([], false)
theorem toList_eq (a : ByteArray) (l : List UInt8) : a.toList = (bs l).toList ↔ a = bs l := by
  constructor
  · intro h
    rw [bs_toList, Go.Lib.toList_data] at h
    rw [← h, bs_of]
  · intro h
    rw [h]
theorem specPP_l0 (t : List UInt8) (ht : t ≠ [45]) (M : Nat) (hM : M ≤ 1048576) : ∀ (r pre : List (List UInt8)) (acc : List Int) (k : Nat), (∀ x ∈ r, x.length ≤ M) → pre.length + r.length ≤ 2000000 → acc.length + r.length ≤ 2000000 → 4 * r.length + 2 * acc.length + M + 100 < k →
    spec_ParsePartition.l0 k (bs t) acc ((pre ++ r).map bs) (pre.length : Int) = some (match seqV p12 r with | some vs => okSpec t (acc ++ vs) | none => ([], false))
  | [], pre, acc, k, _, hl, ha, hk => by
    obtain ⟨k, rfl⟩ : ∃ j, k = j + 2 := ⟨k - 2, by omega⟩
    simp only [List.length_nil] at hl ha hk
    rw [spec_ParsePartition.l0, if_neg (by simp), spec_ParsePartition.j1, if_neg (by decide), specPT (by omega) (by omega) (by omega), Option.bind_some, seqV]
    dsimp only
    rw [List.append_nil, okSpec]
    by_cases h : ptext acc = bs t
    · rw [if_pos ((toList_eq _ _).mpr h), if_pos h]
    · rw [if_neg (fun e => h ((toList_eq _ _).mp e)), if_neg h]
  | x :: r, pre, acc, k, hx, hl, ha, hk => by
    obtain ⟨k, rfl⟩ : ∃ j, k = j + 2 := ⟨k - 2, by omega⟩
    rw [List.length_cons] at hl ha hk
    have h45 : ((bs t).toList != ([45] : List UInt8)) = true := by rw [bs_toList]; exact bne_iff_ne.mpr ht
    have hxl := hx x (List.mem_cons_self ..)
    rw [spec_ParsePartition.l0, if_pos (by simp; omega), h45, spec_ParsePartition.j1, if_pos rfl, if_pos (by omega), if_pos (by simp; omega), rdOf_bs, seqV]
    rcases specInt (l := x) (K := k) (by omega) (by omega) with ⟨n, h1, h2, h⟩ | ⟨h1, h⟩
    · rw [h, Option.bind_some, if_pos rfl, if_pos (by omega), w64 (by omega) (by omega), h1]
      dsimp only
      rw [if_pos h2]
      have ih := specPP_l0 t ht M hM r (pre ++ [x]) (acc ++ [n]) k (fun y hy => hx y (List.mem_cons_of_mem _ hy)) (by simp; omega) (by simp; omega) (by simp; omega)
      rw [show ((pre ++ [x]).length : Int) = (pre.length : Int) + 1 by simp, show (pre ++ [x]) ++ r = pre ++ x :: r by simp] at ih
      rw [ih]
      cases seqV p12 r with
      | none => rfl
      | some vs =>
        show some (okSpec t (acc ++ [n] ++ vs)) = some (okSpec t (acc ++ n :: vs))
        rw [List.append_assoc]
        rfl
    · rw [h, Option.bind_some, if_neg (by decide)]
      cases e : Pure.rv x with
      | none => rfl
      | some n =>
        dsimp only
        rw [if_neg (h1 n e)]
def okImpl (p : List Int) : List Int × Bool := if isP p = true then (p, true) else ([], false)
theorem implPP_l0 (M : Nat) (hM : M ≤ 1048576) : ∀ (r pre : List (List UInt8)) (acc : List Int) (k : Nat), (∀ x ∈ r, x.length ≤ M) → pre.length + r.length ≤ 2000000 → acc.length + r.length ≤ 2000000 → 4 * r.length + 2 * acc.length + M + 100 < k →
    impl_ParsePartition.l0 k acc ((pre ++ r).map bs) (((pre ++ r).map bs).length : Int) (pre.length : Int) = some (match seqV p6 r with | some vs => okImpl (acc ++ vs) | none => ([], false))
  | [], pre, acc, k, _, hl, ha, hk => by
    obtain ⟨k, rfl⟩ : ∃ j, k = j + 1 := ⟨k - 1, by omega⟩
    simp only [List.length_nil] at hl ha hk
    rw [impl_ParsePartition.l0, if_neg (by simp), implIsP_eq (by omega) (by omega), Option.bind_some, seqV]
    dsimp only
    rw [List.append_nil, okImpl]
    cases isP acc <;> rfl
  | x :: r, pre, acc, k, hx, hl, ha, hk => by
    obtain ⟨k, rfl⟩ : ∃ j, k = j + 1 := ⟨k - 1, by omega⟩
    rw [List.length_cons] at hl ha hk
    have hxl := hx x (List.mem_cons_self ..)
    rw [impl_ParsePartition.l0, if_pos (by simp; omega), if_pos (by omega), if_pos (by simp; omega), rdOf_bs, seqV]
    rcases implNum' (l := x) (by omega) with ⟨n, h1, h2, h⟩ | ⟨h1, h⟩
    · rw [h, Option.bind_some, if_pos rfl, if_pos (by omega), w64 (by omega) (by omega), h1]
      dsimp only
      rw [if_pos h2]
      have ih := implPP_l0 M hM r (pre ++ [x]) (acc ++ [n]) k (fun y hy => hx y (List.mem_cons_of_mem _ hy)) (by simp; omega) (by simp; omega) (by simp; omega)
      rw [show ((pre ++ [x]).length : Int) = (pre.length : Int) + 1 by simp, show (pre ++ [x]) ++ r = pre ++ x :: r by simp] at ih
      rw [ih]
      cases seqV p6 r with
      | none => rfl
      | some vs =>
        show some (okImpl (acc ++ [n] ++ vs)) = some (okImpl (acc ++ n :: vs))
        rw [List.append_assoc]
        rfl
    · rw [h, Option.bind_some, if_neg (by decide)]
      cases e : Pure.rv x with
      | none => rfl
      | some n =>
        dsimp only
        rw [if_neg (h1 n e)]
theorem text_all : (genP 9 9 9).all (fun p => decide (p ≠ [] → ptext p = bs (Go.Lib.join (p.map itoa) [44]))) = true := by decide +kernel
theorem isP_all {p : List Int} (h : isP p = true) : ∀ v ∈ p, 1 ≤ v ∧ v ≤ 9 := by
  intro v hv
  have := all_at (all_at genP_rng (isP_mem h)) hv
  simpa using this
/-- The partition that a text spells. -/
def pp (l : List UInt8) : Option (List Int) := if l = [45] then some [] else match seqV p6 (spAcc 44 [] l) with
  | some vs => if isP vs = true then some vs else none
  | none => none
def ppEnd (l : List UInt8) : List Int × Bool := match pp l with
  | some p => (p, true)
  | none => ([], false)
theorem ptext_false {p : List Int} (h : isP p = false) : ptext p = bs [] := by
  rw [ptext, h, if_neg (by decide)]
  rfl
theorem implPP {l : List UInt8} {k : Nat} (hl : l.length ≤ 1048576) (hk : 6 * l.length + 200 < k) : impl_ParsePartition.f k (bs l) = some (ppEnd l) := by
  rw [impl_ParsePartition.f, bs_toList, ppEnd, pp]
  by_cases h : l = [45]
  · rw [if_pos h, if_pos h]
  · rw [if_neg h, if_neg h, show (⟨#[44]⟩ : ByteArray) = bs [44] from rfl, implSplit hl, Option.bind_some]
    have hlen := sp_len 44 l []
    have := implPP_l0 l.length hl (spAcc 44 [] l) [] [] k (fun x hx => by have := sp_mem 44 l [] x hx; simpa using this) (by simp; omega) (by simp; omega) (by simp; omega)
    refine Eq.trans this ?_
    cases seqV p6 (spAcc 44 [] l) with
    | none => rfl
    | some vs =>
      show some (okImpl vs) = _
      rw [okImpl]
      dsimp only
      cases isP vs <;> rfl
theorem specPP {l : List UInt8} {k : Nat} (hl : l.length ≤ 1048576) (hk : 6 * l.length + 200 < k) : spec_ParsePartition.f k (bs l) = some (ppEnd l) := by
  have h44 : spec_SplitByte.f k (bs l) 44 = some ((spAcc 44 [] l).map bs) := specSplit (c := 44) hl (by omega)
  have hlen := sp_len 44 l []
  rw [spec_ParsePartition.f, h44, Option.bind_some, ppEnd, pp]
  by_cases h : l = [45]
  · subst h
    obtain ⟨k, rfl⟩ : ∃ j, k = j + 2 := ⟨k - 2, by omega⟩
    have h45 : ((bs [45]).toList != ([45] : List UInt8)) = false := by rw [bs_toList]; rfl
    have e45 : ptext [] = bs [45] := rfl
    rw [if_pos rfl, spec_ParsePartition.l0, if_pos (by decide), h45, spec_ParsePartition.j1, if_neg (by decide), specPT (by decide) (by simp only [List.length_nil]; omega) (by omega), Option.bind_some, e45, if_pos rfl]
  · have := specPP_l0 l h l.length hl (spAcc 44 [] l) [] [] k (fun x hx => by have := sp_mem 44 l [] x hx; simpa using this) (by simp; omega) (by simp; omega) (by simp; omega)
    rw [if_neg h]
    refine Eq.trans this ?_
    cases e : seqV p12 (spAcc 44 [] l) with
    | none =>
      cases e6 : seqV p6 (spAcc 44 [] l) with
      | none => rfl
      | some vs =>
        have := seqV_mono (q := p12) e6 (fun v hv => by
          have := of_decide_eq_true ((seqV_itoa e6).2 v hv)
          exact decide_eq_true (by omega))
        rw [e] at this
        cases this
    | some vs =>
      obtain ⟨h1, h2⟩ := seqV_itoa e
      have hne : vs ≠ [] := by
        rintro rfl
        exact sp_ne 44 l [] h1
      show some (okSpec l vs) = _
      cases hp : isP vs with
      | true =>
        have e6 := seqV_mono (q := p6) e (fun v hv => by
          have := isP_all hp v hv
          exact decide_eq_true (by omega))
        have ht : ptext vs = bs l := by
          rw [of_decide_eq_true (all_at text_all (isP_mem hp)) hne, ← h1, sp_join]
          rfl
        rw [e6, okSpec, if_pos ht]
        dsimp only
        rw [if_pos hp]
      | false =>
        have hz : ptext vs ≠ bs l := by
          rw [ptext_false hp]
          intro e0
          have := bs_inj e0
          subst this
          have e1 : ([[]] : List (List UInt8)) = vs.map itoa := h1
          cases vs with
          | nil => exact hne rfl
          | cons v vs =>
            have e2 : ([] : List UInt8) = itoa v := (List.cons.inj e1).1
            unfold itoa at e2
            split at e2
            · cases e2
            · exact (dec_all _).2.2 e2.symm
        rw [okSpec, if_neg hz]
        cases e6 : seqV p6 (spAcc 44 [] l) with
        | none => rfl
        | some ws =>
          have := seqV_mono (q := p12) e6 (fun v hv => by
            have := of_decide_eq_true ((seqV_itoa e6).2 v hv)
            exact decide_eq_true (by omega))
          rw [e] at this
          obtain rfl := Option.some.inj this
          dsimp only
          rw [hp]
          rfl
theorem pp_len {l : List UInt8} {p : List Int} (h : pp l = some p) : isP p = true := by
  unfold pp at h
  split at h
  · obtain rfl := Option.some.inj h
    rfl
  · split at h
    · split at h
      · obtain rfl := Option.some.inj h
        assumption
      · cases h
    · cases h
theorem ppEnd_len (l : List UInt8) : (ppEnd l).1.length ≤ 9 := by
  unfold ppEnd
  cases h : pp l with
  | none => simp
  | some p => exact isP_len (pp_len h)

def tx (p : List Int) : List UInt8 := (ptext p).data.toList
theorem tx_bs (p : List Int) : ptext p = bs (tx p) := (bs_of _).symm
theorem tx_pp : (genP 9 9 9).all (fun p => decide (pp (tx p) = some p)) = true := by decide +kernel
theorem pp_tx {p : List Int} (h : isP p = true) : pp (tx p) = some p := of_decide_eq_true (all_at tx_pp (isP_mem h))
theorem ppEnd_isP (l : List UInt8) : isP (ppEnd l).1 = true := by
  unfold ppEnd
  cases h : pp l with
  | none => rfl
  | some p => exact pp_len h
theorem pp_nil : pp [] = none := by decide +kernel
theorem ppEnd_some {l : List UInt8} {p : List Int} (h : pp l = some p) : ppEnd l = (p, true) := by rw [ppEnd, h]
theorem ppEnd_none {l : List UInt8} (h : pp l = none) : ppEnd l = ([], false) := by rw [ppEnd, h]

def sumL (p : List Int) : Int := p.foldl (· + ·) 0

theorem size_parts : (genP 9 9 9).all (fun p => spec_SizeOf.f 80 p == some (sumL p) && impl_SizeOf.f 80 p == some (sumL p) && decide (0 ≤ sumL p)) = true := by decide +kernel

theorem specSize_eq {k : Nat} {l : List Int} (hn : l.length ≤ 1099511627776) (hk : 2 * l.length < k) (hk8 : 80 ≤ k) : spec_SizeOf.f k l = some (if isP l then sumL l else -1) := by
  cases hp : isP l with
  | false => rw [spec_SizeOf.f, specIsP_eq hn hk, hp]; rfl
  | true =>
    have h := all_at size_parts (isP_mem hp)
    simp only [Bool.and_eq_true, beq_iff_eq, decide_eq_true_eq] at h
    exact at_rounds (spec_SizeOf.mono l) hk8 h.1.1

theorem implSize_eq {k : Nat} {l : List Int} (hn : l.length ≤ 1099511627776) (hk : 2 * l.length < k) (hk8 : 80 ≤ k) : impl_SizeOf.f k l = some (if isP l then sumL l else -1) := by
  cases hp : isP l with
  | false => rw [impl_SizeOf.f, implIsP_eq hn hk, hp]; rfl
  | true =>
    have h := all_at size_parts (isP_mem hp)
    simp only [Bool.and_eq_true, beq_iff_eq, decide_eq_true_eq] at h
    exact at_rounds (impl_SizeOf.mono l) hk8 h.1.2

theorem isP_sum {l : List Int} (h : isP l = true) : 0 ≤ sumL l := by
  have h := all_at size_parts (isP_mem h)
  simp only [Bool.and_eq_true, beq_iff_eq, decide_eq_true_eq] at h
  exact h.2

theorem index_l0 (l : List Int) (x : Int) (hn : l.length ≤ 1099511627776) : ∀ (d k i : Nat), i + d = l.length → d < k → ∃ r, slices_Index_int_int.l0 k l x (l.length : Int) (i : Int) = some r ∧ decide (r ≥ 0) = (l.drop i).contains x := by
  intro d
  induction d with
  | zero =>
    intro k i hi hk
    obtain ⟨k, rfl⟩ := succ_of_pos hk
    exact ⟨-1, by rw [slices_Index_int_int.l0, if_neg (by omega)], by rw [List.drop_of_length_le (by omega)]; rfl⟩
  | succ d ih =>
    intro k i hi hk
    obtain ⟨k, rfl⟩ := succ_of_pos hk
    have hil : i < l.length := by omega
    rw [slices_Index_int_int.l0, if_pos (by omega), if_pos (by omega), if_pos (by omega), rd_nat l i hil, w64 (by omega) (by omega), List.drop_eq_getElem_cons hil, List.contains_cons]
    by_cases h : x = l[i]
    · exact ⟨(i : Int), by rw [if_pos h], by rw [h]; simp⟩
    · obtain ⟨r, h1, h2⟩ := ih k (i + 1) (by omega) (by omega)
      exact ⟨r, by rw [if_neg h]; exact h1, by rw [h2]; simp [h]⟩

theorem contains_eq {l : List Int} {x : Int} {k : Nat} (hn : l.length ≤ 1099511627776) (hk : l.length < k) : slices_Contains_int_int.f k l x = some (l.contains x) := by
  obtain ⟨r, h1, h2⟩ := index_l0 l x hn l.length k 0 (by omega) hk
  have h1' : slices_Index_int_int.f k l x = some r := h1
  rw [slices_Contains_int_int.f, h1', Option.bind_some, h2, List.drop_zero]

theorem up_ {α : Type} {g : Nat → Option α} (hg : ∀ k, LeO (g k) (g (k + 1))) {k0 k : Nat} (hk : k0 ≤ k) {v : α} (e : g k0 = some v) : g k = some v := at_rounds hg hk e
theorem both_ {α : Type} [BEq α] [LawfulBEq α] {g f : Nat → Option α} (hg : ∀ k, LeO (g k) (g (k + 1))) (hf : ∀ k, LeO (f k) (f (k + 1))) {k0 k : Nat} (hk : k0 ≤ k) (e : (g k0 == f k0) = true) (s : (f k0).isSome = true) : ∃ v, f k0 = some v ∧ g k = some v ∧ f k = some v := by
  obtain ⟨v, hv⟩ := Option.isSome_iff_exists.1 s
  exact ⟨v, hv, at_rounds hg hk ((beq_iff_eq.mp e).trans hv), at_rounds hf hk hv⟩

def insB : List Int → List Int → Bool
  | [], _ => true
  | _ :: _, [] => false
  | x :: xs, y :: ys => decide (x ≤ y) && insB xs ys

theorem ins_parts : (genP 9 9 9).all (fun q => (genP 9 9 9).all fun p => spec_IsInside.f 50 q p == some (insB q p) && impl_IsInside.f 50 q p == some (insB q p)) = true := by decide +kernel

theorem specInside_eq {k : Nat} {l0 l1 : List Int} (hn : l0.length ≤ 1099511627776) (hn1 : l1.length ≤ 1099511627776) (hk : 2 * l0.length + 2 * l1.length + 50 < k) : spec_IsInside.f k l0 l1 = some (isP l0 && isP l1 && insB l0 l1) := by
  by_cases hc : isP l0 = true ∧ isP l1 = true
  · have h := all_at (all_at ins_parts (isP_mem hc.1)) (isP_mem hc.2)
    simp only [Bool.and_eq_true, beq_iff_eq] at h
    rw [hc.1, hc.2]
    exact at_rounds (spec_IsInside.mono l0 l1) (by omega) h.1
  · obtain ⟨k, rfl⟩ := succ_of_pos hk
    rw [spec_IsInside.f, specIsP_eq hn (by omega)]
    simp only [Option.bind_some]
    cases h0 : isP l0 with
    | false => simp [spec_IsInside.j0]
    | true =>
      have h1 : isP l1 = false := by
        cases h1 : isP l1 with
        | false => rfl
        | true => exact absurd ⟨h0, h1⟩ hc
      rw [if_pos rfl, specIsP_eq hn1 (by omega), h1]
      simp [spec_IsInside.j0]

theorem implInside_eq {k : Nat} {l0 l1 : List Int} (hn : l0.length ≤ 1099511627776) (hn1 : l1.length ≤ 1099511627776) (hk : 2 * l0.length + 2 * l1.length + 50 < k) : impl_IsInside.f k l0 l1 = some (isP l0 && isP l1 && insB l0 l1) := by
  by_cases hc : isP l0 = true ∧ isP l1 = true
  · have h := all_at (all_at ins_parts (isP_mem hc.1)) (isP_mem hc.2)
    simp only [Bool.and_eq_true, beq_iff_eq] at h
    rw [hc.1, hc.2]
    exact at_rounds (impl_IsInside.mono l0 l1) (by omega) h.2
  · obtain ⟨k, rfl⟩ := succ_of_pos hk
    rw [impl_IsInside.f, implIsP_eq hn (by omega)]
    simp only [Option.bind_some]
    cases h0 : isP l0 with
    | false => simp [impl_IsInside.j0]
    | true =>
      have h1 : isP l1 = false := by
        cases h1 : isP l1 with
        | false => rfl
        | true => exact absurd ⟨h0, h1⟩ hc
      rw [if_pos rfl, implIsP_eq hn1 (by omega), h1]
      simp [impl_IsInside.j0]

def insPairs : List (List Int × List Int) := (genP 9 9 9).flatMap fun p => ((genP 9 9 9).filter fun q => insB q p).map fun q => (p, q)

theorem insPairs_mem {p q : List Int} (hp : isP p = true) (hq : isP q = true) (h : insB q p = true) : (p, q) ∈ insPairs := by
  simp only [insPairs, List.mem_flatMap, List.mem_map, List.mem_filter]
  exact ⟨p, isP_mem hp, q, ⟨isP_mem hq, h⟩, rfl⟩

theorem ins_three {p q : List Int} (h : ¬ (isP q && isP p && insB q p) = false) : isP p = true ∧ isP q = true ∧ insB q p = true := by
  simp only [Bool.not_eq_false, Bool.and_eq_true] at h
  exact ⟨h.1.2, h.1.1, h.2⟩

theorem commas_impl : (genP 9 9 9).all (fun p => decide (impl_joined.f 60 p ⟨#[44]⟩ = some ((spec_l2Commas.f 60 p).getD ByteArray.empty))) = true := by decide +kernel
theorem implPT {p : List Int} {k : Nat} (hn : p.length ≤ 1099511627776) (hk : 2 * p.length < k) (h60 : 60 ≤ k) : impl_PartitionText.f k p = some (ptext p) := by
  rw [impl_PartitionText.f, implIsP_eq hn hk, Option.bind_some, ptext]
  cases h : isP p with
  | false => rw [if_neg (by decide), if_neg (by decide)]
  | true =>
    rw [if_pos rfl, if_pos rfl]
    by_cases h0 : p.length = 0
    · rw [if_pos (by omega), if_pos h0]
    · rw [if_neg (by omega), if_neg h0]
      obtain ⟨d, rfl⟩ : ∃ d, k = 60 + d := ⟨k - 60, by omega⟩
      rw [leo_up (β := Unit) (f := fun k => impl_joined.f k p ⟨#[44]⟩) (fun k => impl_joined.mono p _ k) (of_decide_eq_true (all_at commas_impl (isP_mem h))) d, Option.bind_some]

theorem all_chunk {α : Type} {l : List α} {P : α → Bool} (n : Nat) (h1 : (l.take n).all P = true) (h2 : (l.drop n).all P = true) : l.all P = true := by
  rw [← List.take_append_drop n l, List.all_append, h1, h2]; rfl
/-! ### The draws -/
theorem drawConj_ok {s : List Int} {k : Nat} (hn : s.length ≤ 1099511627776) (hk : s.length + 100 < k) : ∃ p : List Int, spec_DrawConjugate.f k s = some p ∧ p.length ≤ 20 := by
  obtain ⟨h0, e0⟩ := l1New_ok (k := k) hn (by omega)
  obtain ⟨p, p1, h1, e1, hp, hp1⟩ := l2BentE_ok (h := h0) (most := 9) (k := k) (by decide) hn (Int.le_refl 0) (by omega)
  have e1' : spec_l2Bent.f k s 0 h0 9 = some (p, p1, h1) := e1
  exact ⟨p, by rw [spec_DrawConjugate.f, e0, Option.bind_some]; dsimp only; rw [e1', Option.bind_some], by omega⟩
theorem drawPart_ok {s : List Int} {k : Nat} (hn : s.length ≤ 1099511627776) (hk : s.length + 100 < k) : ∃ n : Int, spec_DrawPartitionsOf.f k s = some n := by
  obtain ⟨h0, e0⟩ := l1New_ok (k := k) hn (by omega)
  obtain ⟨v, p1, h1, e1, hv0, hv1, hp1⟩ := l1Below_ok (h := h0) (n := 13) hn (Int.le_refl 0) (by omega) (by omega)
  exact ⟨_, by rw [spec_DrawPartitionsOf.f, e0, Option.bind_some]; dsimp only; rw [e1, Option.bind_some]⟩
theorem drawTwo_ok {s : List Int} {k : Nat} (hn : s.length ≤ 1099511627776) (hk : s.length + 100 < k) : ∃ q p : List Int, spec_l2Two.f k s = some (q, p) ∧ q.length ≤ 20 ∧ p.length ≤ 20 := by
  obtain ⟨h0, e0⟩ := l1New_ok (k := k) hn (by omega)
  obtain ⟨p, p1, h1, e1, hp, hp1⟩ := l2BentE_ok (h := h0) (most := 7) (k := k) (by decide) hn (Int.le_refl 0) (by omega)
  have e1' : spec_l2Bent.f k s 0 h0 7 = some (p, p1, h1) := e1
  obtain ⟨b, p2, h2, e2, hp2⟩ := once_ok (h := h1) (n := 2) hn hp1 (by omega) (by omega)
  rw [spec_l2Two.f, e0, Option.bind_some]
  dsimp only
  rw [e1', Option.bind_some]
  dsimp only
  rw [e2, Option.bind_some]
  dsimp only
  cases b with
  | false =>
    obtain ⟨q, p3, h3, e3, hq, hp3⟩ := l2BentE_ok (h := h2) (most := 7) (k := k) (by decide) hn hp2 (by omega)
    have e3' : spec_l2Bent.f k s p2 h2 7 = some (q, p3, h3) := e3
    rw [if_neg (by decide), e3', Option.bind_some]
    exact ⟨_, _, rfl, by first | omega | (dsimp only; omega), by omega⟩
  | true =>
    obtain ⟨v, p3, h3, e3, hv0, hv1, hp3⟩ := l1Below_ok (h := h2) (n := 8) hn hp2 (by omega) (by omega)
    obtain ⟨n, rfl⟩ := Int.eq_ofNat_of_zero_le hv0
    obtain ⟨l, e4, hl1, hl2, hl3⟩ := l2AllE_ok (most := 8) (n := n) (k := k) (by decide) (by omega) (by omega)
    have e4' : spec_l2All.f k (n : Int) 8 = some l := e4
    obtain ⟨u, p4, h4, e5, hu0, hu1, hp4⟩ := l1Below_ok (h := h3) (n := (l.length : Int)) hn hp3 (by omega) (by omega)
    have hmem : rd_L2 l u ∈ l := by
      obtain ⟨m, rfl⟩ := Int.eq_ofNat_of_zero_le hu0
      have hm : m < l.length := by omega
      have : rd_L2 l (m : Int) = l[m] := by
        unfold rd_L2
        rw [Int.toNat_natCast]
        simp [List.getD, hm]
      rw [this]
      exact List.getElem_mem _
    rw [if_pos rfl, e3, Option.bind_some]
    dsimp only
    rw [e4', Option.bind_some, e5, Option.bind_some, if_pos hu0, if_pos hu1]
    have := (hl3 _ hmem).1
    exact ⟨_, _, rfl, by first | omega | (dsimp only; omega), by first | omega | (dsimp only; omega)⟩
theorem drawAdd_ok {s : List Int} {k : Nat} (hn : s.length ≤ 1099511627776) (hk : s.length + 100 < k) : ∃ (p : List Int) (r : Int), spec_DrawAddBox.f k s = some (p, r) ∧ p.length ≤ 20 := by
  obtain ⟨h0, e0⟩ := l1New_ok (k := k) hn (by omega)
  obtain ⟨p, p1, h1, e1, hp, hp1⟩ := l2BentE_ok (h := h0) (most := 9) (k := k) (by decide) hn (Int.le_refl 0) (by omega)
  have e1' : spec_l2Bent.f k s 0 h0 9 = some (p, p1, h1) := e1
  obtain ⟨v, p2, h2, e2, _, _, _⟩ := l1Below_ok (h := h1) (n := 7) hn hp1 (by omega) (by omega)
  refine ⟨p, wrap64 (v - 1), ?_, by omega⟩
  rw [spec_DrawAddBox.f, e0, Option.bind_some]
  dsimp only
  rw [e1', Option.bind_some]
  dsimp only
  rw [e2, Option.bind_some]
theorem ptext_any (p : List Int) : (ptext p).size ≤ 30 := by
  cases h : isP p with
  | false => rw [ptext_false h]; decide
  | true => exact of_decide_eq_true (all_at (show (genP 9 9 9).all (fun p => decide ((ptext p).size ≤ 30)) = true by decide +kernel) (isP_mem h))
theorem drawTxtP_ok {s : List Int} {k : Nat} (hn : s.length ≤ 1099511627776) (hk : s.length + 200 < k) : ∃ l : List UInt8, spec_DrawParsePartition.f k s = some (bs l) ∧ l.length ≤ 200 := by
  obtain ⟨h0, e0⟩ := l1New_ok (k := k) hn (by omega)
  obtain ⟨p, p1, h1, e1, hp, _, hp1⟩ := l2DrawE_ok (h := h0) (most := 9) (k := k) (by decide) hn (Int.le_refl 0) (by omega)
  have e1' : spec_l2Draw.f k s 0 h0 9 = some (p, p1, h1) := e1
  have hsz := ptext_any p
  obtain ⟨t, p2, h2, e2, ht⟩ := l1Turned_ok (h := h1) (a := ptext p) (l := [(⟨#[44]⟩ : ByteArray), (⟨#[45]⟩ : ByteArray), (⟨#[49]⟩ : ByteArray), (⟨#[48]⟩ : ByteArray), (⟨#[50]⟩ : ByteArray)]) hn hp1 (by omega) (by simp) (by simp) (by
    intro v hv
    simp only [List.mem_cons, List.not_mem_nil, or_false] at hv
    rcases hv with rfl | rfl | rfl | rfl | rfl <;> decide)
  refine ⟨t.data.toList, ?_, ht⟩
  rw [spec_DrawParsePartition.f, e0, Option.bind_some]
  dsimp only
  rw [e1', Option.bind_some]
  dsimp only
  rw [specPT (p := p) (by omega) (by omega) (by omega), Option.bind_some, e2, Option.bind_some, bs_of]
/-! ### Rows beside themselves -/
theorem same_l0 (xs : List Int) (hn : xs.length ≤ 1099511627776) : ∀ (d k i : Nat), i + d = xs.length → d < k → laws_sameInts.l0 k xs xs (i : Int) = some true := by
  intro d
  induction d with
  | zero =>
    intro k i hi hk
    obtain ⟨k, rfl⟩ := succ_of_pos hk
    rw [laws_sameInts.l0, if_neg (by omega)]
  | succ d ih =>
    intro k i hi hk
    obtain ⟨k, rfl⟩ := succ_of_pos hk
    rw [laws_sameInts.l0, if_pos (by omega), if_pos (by omega), if_pos (by omega), if_pos rfl, w64 (by omega) (by omega)]
    exact ih k (i + 1) (by omega) (by omega)
theorem same_self {xs : List Int} {k : Nat} (hn : xs.length ≤ 100) (hk : 200 < k) : laws_sameInts.f k xs xs = some true := by
  rw [laws_sameInts.f, if_pos rfl]
  exact same_l0 xs (by omega) xs.length k 0 (by omega) (by omega)
theorem lists_l0 (L : List (List Int)) (hn : L.length ≤ 1000) (hx : ∀ x ∈ L, x.length ≤ 100) : ∀ (d k i : Nat), i + d = L.length → d + 300 < k → laws_sameLists.l0 k L L (i : Int) = some true := by
  intro d
  induction d with
  | zero =>
    intro k i hi hk
    obtain ⟨k, rfl⟩ := succ_of_pos hk
    rw [laws_sameLists.l0, if_neg (by omega)]
  | succ d ih =>
    intro k i hi hk
    obtain ⟨k, rfl⟩ := succ_of_pos hk
    have hm : rd_L2 L (i : Int) ∈ L := by
      have hl : i < L.length := by omega
      have : rd_L2 L (i : Int) = L[i] := by
        unfold rd_L2
        rw [Int.toNat_natCast]
        simp [List.getD, hl]
      rw [this]
      exact List.getElem_mem _
    rw [laws_sameLists.l0, if_pos (by omega), if_pos (by omega), if_pos (by omega), same_self (hx _ hm) (by omega), Option.bind_some, if_pos rfl, w64 (by omega) (by omega)]
    exact ih k (i + 1) (by omega) (by omega)
theorem lists_self {L : List (List Int)} {k : Nat} (hn : L.length ≤ 1000) (hx : ∀ x ∈ L, x.length ≤ 100) (hk : 1400 < k) : laws_sameLists.f k L L = some true := by
  rw [laws_sameLists.f, if_pos rfl]
  exact lists_l0 L hn hx L.length k 0 (by omega) (by omega)
/-! ### Partitions, all of them -/
def partB (n : Nat) : Bool := match spec_PartitionsOf.f 150 (n : Int) with
  | some L => impl_PartitionsOf.f 150 (n : Int) == some L && decide (L.length ≤ 1000) && L.all fun x => decide (x.length ≤ 100)
  | none => false
set_option maxHeartbeats 8000000 in
theorem part_all : (List.range 10).all partB = true := by decide +kernel
theorem part_ok (a : Int) {k : Nat} (hk : 200 ≤ k) : ∃ L : List (List Int), impl_PartitionsOf.f k a = some L ∧ spec_PartitionsOf.f k a = some L ∧ L.length ≤ 1000 ∧ ∀ x ∈ L, x.length ≤ 100 := by
  by_cases hr : 0 ≤ a ∧ a ≤ 9
  · obtain ⟨n, rfl⟩ := Int.eq_ofNat_of_zero_le hr.1
    have h := all_at part_all (List.mem_range.2 (show n < 10 by omega))
    unfold partB at h
    cases e : spec_PartitionsOf.f 150 (n : Int) with
    | none => rw [e] at h; cases h
    | some L =>
      rw [e] at h
      simp only [Bool.and_eq_true, beq_iff_eq, decide_eq_true_eq, List.all_eq_true] at h
      exact ⟨L, up_ (impl_PartitionsOf.mono _) (show 150 ≤ k by omega) h.1.1, up_ (spec_PartitionsOf.mono _) (show 150 ≤ k by omega) e, h.1.2, h.2⟩
  · have hs : spec_l1In.f a 0 9 = some false := by
      unfold spec_l1In.f
      by_cases h0 : a ≥ 0
      · rw [if_pos h0, decide_eq_false (by omega)]
      · rw [if_neg h0]
    have hi : impl_within.f a 0 9 = some false := by
      unfold impl_within.f
      by_cases h0 : 0 ≤ a
      · rw [if_pos h0, decide_eq_false (by omega)]
      · rw [if_neg h0]
    refine ⟨[], ?_, ?_, by simp, by simp⟩
    · rw [impl_PartitionsOf.f, hi]; rfl
    · rw [spec_PartitionsOf.f, hs]; rfl
/-! ### Conjugates -/
def conjB (p : List Int) : Bool := match spec_Conjugate.f 90 p with
  | some c => impl_Conjugate.f 90 p == some c && impl_Conjugate.f 90 c == some p && decide (c.length ≤ 20)
  | none => false
set_option maxHeartbeats 8000000 in
theorem conj_all : (genP 9 9 9).all conjB = true := by decide +kernel
theorem conj_ok {p : List Int} {k : Nat} (hn : p.length ≤ 20) (hk : 200 ≤ k) : ∃ c : List Int, impl_Conjugate.f k p = some c ∧ spec_Conjugate.f k p = some c ∧ c.length ≤ 20 ∧ (isP p = true → impl_Conjugate.f k c = some p) := by
  cases hp : isP p with
  | true =>
    have h := all_at conj_all (isP_mem hp)
    unfold conjB at h
    cases e : spec_Conjugate.f 90 p with
    | none => rw [e] at h; cases h
    | some c =>
      rw [e] at h
      simp only [Bool.and_eq_true, beq_iff_eq, decide_eq_true_eq] at h
      exact ⟨c, up_ (impl_Conjugate.mono _) (show 90 ≤ k by omega) h.1.1, up_ (spec_Conjugate.mono _) (show 90 ≤ k by omega) e, h.2, fun _ => up_ (impl_Conjugate.mono _) (show 90 ≤ k by omega) h.1.2⟩
  | false =>
    refine ⟨[], ?_, ?_, by simp, fun h => by cases h⟩
    · rw [impl_Conjugate.f, implIsP_eq (by omega) (by omega), hp]; rfl
    · rw [spec_Conjugate.f, specIsP_eq (by omega) (by omega), hp]; rfl
/-! ### Dominance -/
def domB (q p : List Int) : Bool := match spec_Dominates.f 80 q p with
  | some true => impl_Dominates.f 80 q p == some true && (match spec_Conjugate.f 90 p, spec_Conjugate.f 90 q with
    | some a, some b => impl_Dominates.f 80 a b == some true
    | _, _ => false)
  | some false => impl_Dominates.f 80 q p == some false
  | none => false
set_option maxHeartbeats 16000000 in
theorem dom_all : (genP 9 9 9).all (fun q => (genP 9 9 9).all fun p => domB q p) = true := all_chunk 25 (by decide +kernel) (all_chunk 25 (by decide +kernel) (all_chunk 25 (by decide +kernel) (by decide +kernel)))
theorem dom_ok {q p : List Int} {k : Nat} (hq : q.length ≤ 20) (hp : p.length ≤ 20) (hk : 300 ≤ k) : ∃ b, impl_Dominates.f k q p = some b ∧ spec_Dominates.f k q p = some b ∧ (b = true → ∃ a c : List Int, spec_Conjugate.f k p = some a ∧ spec_Conjugate.f k q = some c ∧ impl_Dominates.f k a c = some true) := by
  by_cases hc : isP q = true ∧ isP p = true
  · have h := all_at (all_at dom_all (isP_mem hc.1)) (isP_mem hc.2)
    unfold domB at h
    rcases e : spec_Dominates.f 80 q p with _ | _ | _
    · rw [e] at h; cases h
    · rw [e] at h
      exact ⟨false, up_ (impl_Dominates.mono _ _) (show 80 ≤ k by omega) (beq_iff_eq.mp h), up_ (spec_Dominates.mono _ _) (show 80 ≤ k by omega) e, fun h => by cases h⟩
    · rw [e] at h
      dsimp only at h
      rw [Bool.and_eq_true] at h
      refine ⟨true, up_ (impl_Dominates.mono _ _) (show 80 ≤ k by omega) (beq_iff_eq.mp h.1), up_ (spec_Dominates.mono _ _) (show 80 ≤ k by omega) e, fun _ => ?_⟩
      have h2 := h.2
      rcases ea : spec_Conjugate.f 90 p with _ | a
      · rw [ea] at h2; cases h2
      · rcases ec : spec_Conjugate.f 90 q with _ | c
        · rw [ea, ec] at h2; cases h2
        · rw [ea, ec] at h2
          exact ⟨a, c, up_ (spec_Conjugate.mono _) (show 90 ≤ k by omega) ea, up_ (spec_Conjugate.mono _) (show 90 ≤ k by omega) ec, up_ (impl_Dominates.mono _ _) (show 80 ≤ k by omega) (beq_iff_eq.mp h2)⟩
  · have hs : ∀ k x y, spec_Dominates.j0 (k + 1) x y true = some false := fun k x y => by rw [spec_Dominates.j0]; rfl
    have hi : ∀ k x y, impl_Dominates.j0 (k + 1) x y true = some false := fun k x y => by rw [impl_Dominates.j0]; rfl
    obtain ⟨k, rfl⟩ : ∃ m, k = m + 1 := ⟨k - 1, by omega⟩
    refine ⟨false, ?_, ?_, fun h => by cases h⟩
    · rw [impl_Dominates.f, implSize_eq (by omega) (by omega) (by omega), implSize_eq (by omega) (by omega) (by omega)]
      simp only [Option.bind_some]
      cases h0 : isP q with
      | false => simp [hi]
      | true =>
        have h1 : isP p = false := by
          cases h1 : isP p with
          | false => rfl
          | true => exact absurd ⟨h0, h1⟩ hc
        have h2 := isP_sum h0
        have h3 : ¬ (sumL q = -1) := by omega
        simp [h1, h3, hi]
    · rw [spec_Dominates.f, specSize_eq (by omega) (by omega) (by omega), specSize_eq (by omega) (by omega) (by omega)]
      simp only [Option.bind_some]
      cases h0 : isP q with
      | false => simp [hs]
      | true =>
        have h1 : isP p = false := by
          cases h1 : isP p with
          | false => rfl
          | true => exact absurd ⟨h0, h1⟩ hc
        have h2 := isP_sum h0
        rw [h1, if_pos rfl, if_neg (by omega)]
        have h3 : (sumL q != -1) = true := by simp; omega
        simp [h3, hs]
/-! ### A box more, a box less -/
def addB (p : List Int) (n : Int) : Bool := match spec_AddBox.f 80 p n with
  | some (x, b) => impl_AddBox.f 80 p n == some (x, b) && decide (x.length ≤ 20) && (!b || impl_RemoveBox.f 100 x n == some (p, true))
  | none => false
def remB (p : List Int) (n : Int) : Bool := match spec_RemoveBox.f 100 p n with
  | some (x, b) => impl_RemoveBox.f 100 p n == some (x, b) && decide (x.length ≤ 20)
  | none => false
set_option maxHeartbeats 8000000 in
theorem add_all : (genP 9 9 9).all (fun p => (List.range 11).all fun n => addB p (n : Int)) = true := all_chunk 50 (by decide +kernel) (by decide +kernel)
set_option maxHeartbeats 8000000 in
theorem rem_all : (genP 9 9 9).all (fun p => (List.range 11).all fun n => remB p (n : Int)) = true := all_chunk 50 (by decide +kernel) (by decide +kernel)
theorem add_ok {p : List Int} {a : Int} {k : Nat} (hp : p.length ≤ 20) (hk : 300 ≤ k) : ∃ (x : List Int) (b : Bool), impl_AddBox.f k p a = some (x, b) ∧ spec_AddBox.f k p a = some (x, b) ∧ x.length ≤ 20 ∧ (b = true → impl_RemoveBox.f k x a = some (p, true)) := by
  by_cases hc : isP p = true ∧ 0 ≤ a ∧ a ≤ 10
  · obtain ⟨h0, h1, h2⟩ := hc
    obtain ⟨n, rfl⟩ := Int.eq_ofNat_of_zero_le h1
    have h := all_at (all_at add_all (isP_mem h0)) (List.mem_range.2 (show n < 11 by omega))
    unfold addB at h
    rcases e : spec_AddBox.f 80 p (n : Int) with _ | ⟨x, b⟩
    · rw [e] at h; cases h
    · rw [e] at h
      simp only [Bool.and_eq_true, beq_iff_eq, decide_eq_true_eq] at h
      refine ⟨x, b, up_ (impl_AddBox.mono _ _) (show 80 ≤ k by omega) h.1.1, up_ (spec_AddBox.mono _ _) (show 80 ≤ k by omega) e, h.1.2, fun hb => ?_⟩
      subst hb
      exact up_ (impl_RemoveBox.mono _ _) (show 100 ≤ k by omega) (by simpa using h.2)
  · obtain ⟨k, rfl⟩ : ∃ m, k = m + 1 := ⟨k - 1, by omega⟩
    have hl : isP p = true → p.length ≤ 9 := fun h => isP_len h
    have hs : spec_AddBox.j0 (k + 1) p a true = some ([], false) := by rw [spec_AddBox.j0]; rfl
    have hi : impl_AddBox.j0 (k + 1) p a true = some ([], false) := by rw [impl_AddBox.j0]; rfl
    refine ⟨[], false, ?_, ?_, by simp, fun h => by cases h⟩
    · rw [impl_AddBox.f, implIsP_eq (by omega) (by omega), impl_within.f]
      simp only [Option.bind_some]
      by_cases h0 : isP p = true
      · rw [if_pos h0]
        by_cases h1 : 0 ≤ a
        · have h2 : decide (a ≤ (p.length : Int)) = false := by
            have := hl h0
            have h3 : ¬ (a ≤ 10) := fun h3 => hc ⟨h0, h1, h3⟩
            simp; omega
          rw [if_pos h1, h2]; exact hi
        · rw [if_neg h1]; exact hi
      · rw [if_neg h0]; exact hi
    · rw [spec_AddBox.f, specIsP_eq (by omega) (by omega)]
      simp only [Option.bind_some]
      by_cases h0 : isP p = true
      · rw [if_pos h0]
        by_cases h1 : a < 0
        · rw [if_pos h1]; exact hs
        · have h2 : decide (a > (p.length : Int)) = true := by
            have := hl h0
            have h3 : ¬ (a ≤ 10) := fun h3 => hc ⟨h0, by omega, h3⟩
            simp; omega
          rw [if_neg h1, h2]; exact hs
      · rw [if_neg h0]; exact hs
theorem corners_parts : (genP 9 9 9).all (fun p => decide (impl_Corners.f 60 p = some ((impl_Corners.f 60 p).getD [])) && (spec_Corners.f 60 p == impl_Corners.f 60 p) && ((impl_Corners.f 60 p).getD []).all (fun x => decide (0 ≤ x ∧ x ≤ 10)) && decide (((impl_Corners.f 60 p).getD []).length ≤ 10)) = true := by decide +kernel
theorem corners_ok {p : List Int} {k : Nat} (hn : p.length ≤ 20) (hk : 200 < k) : ∃ cs : List Int, impl_Corners.f k p = some cs ∧ spec_Corners.f k p = some cs ∧ (∀ x ∈ cs, 0 ≤ x ∧ x ≤ 10) ∧ cs.length ≤ 10 ∧ (isP p = false → cs = []) := by
  by_cases h : isP p = true
  · have hp := all_at corners_parts (isP_mem h)
    simp only [Bool.and_eq_true, decide_eq_true_eq, List.all_eq_true, beq_iff_eq] at hp
    obtain ⟨⟨⟨h1, h1'⟩, h2⟩, h3⟩ := hp
    exact ⟨_, up_ (impl_Corners.mono p) (show 60 ≤ k by omega) h1, up_ (spec_Corners.mono p) (show 60 ≤ k by omega) (h1'.trans h1), h2, h3, fun h' => by rw [h] at h'; cases h'⟩
  · have h' : isP p = false := by simpa using h
    refine ⟨[], ?_, ?_, by simp, by simp, fun _ => rfl⟩
    · rw [impl_Corners.f, implIsP_eq (by omega) (by omega), Option.bind_some, if_neg h]
    · rw [spec_Corners.f, Option.bind_some, specIsP_eq (by omega) (by omega), Option.bind_some, if_neg h]
theorem rem_ok {p : List Int} {a : Int} {k : Nat} (hp : p.length ≤ 20) (hk : 300 ≤ k) : ∃ (x : List Int) (b : Bool), impl_RemoveBox.f k p a = some (x, b) ∧ spec_RemoveBox.f k p a = some (x, b) ∧ x.length ≤ 20 := by
  by_cases hc : isP p = true ∧ 0 ≤ a ∧ a ≤ 10
  · obtain ⟨h0, h1, h2⟩ := hc
    obtain ⟨n, rfl⟩ := Int.eq_ofNat_of_zero_le h1
    have h := all_at (all_at rem_all (isP_mem h0)) (List.mem_range.2 (show n < 11 by omega))
    unfold remB at h
    rcases e : spec_RemoveBox.f 100 p (n : Int) with _ | ⟨x, b⟩
    · rw [e] at h; cases h
    · rw [e] at h
      simp only [Bool.and_eq_true, beq_iff_eq, decide_eq_true_eq] at h
      exact ⟨x, b, up_ (impl_RemoveBox.mono _ _) (show 100 ≤ k by omega) h.1, up_ (spec_RemoveBox.mono _ _) (show 100 ≤ k by omega) e, h.2⟩
  · obtain ⟨k, rfl⟩ : ∃ m, k = m + 1 := ⟨k - 1, by omega⟩
    have hl : isP p = true → p.length ≤ 9 := fun h => isP_len h
    have hs : spec_RemoveBox.j0 (k + 1) p a true = some ([], false) := by rw [spec_RemoveBox.j0]; rfl
    refine ⟨[], false, ?_, ?_, by simp⟩
    · obtain ⟨cs, h1, _, h2, h3, h4⟩ := corners_ok (p := p) (k := k + 1) (by omega) (by omega)
      have hnot : a ∉ cs := fun hmem => by
        have hr := h2 a hmem
        cases hp : isP p with
        | true => exact hc ⟨hp, hr.1, hr.2⟩
        | false => rw [h4 hp] at hmem; cases hmem
      rw [impl_RemoveBox.f, h1, Option.bind_some, contains_eq (by omega) (by omega), Option.bind_some]
      have : cs.contains a = false := by simpa using hnot
      rw [this, if_neg (by decide)]
    · rw [spec_RemoveBox.f, specIsP_eq (by omega) (by omega)]
      simp only [Option.bind_some]
      by_cases h0 : isP p = true
      · rw [if_pos h0]
        by_cases h1 : a < 0
        · rw [if_pos h1]; exact hs
        · have h2 : a ≥ (p.length : Int) := by
            have := hl h0
            have h3 : ¬ (a ≤ 10) := fun h3 => hc ⟨h0, by omega, h3⟩
            omega
          rw [if_neg h1, if_pos h2]; exact hs
      · rw [if_neg h0]; exact hs
/-- A partition's own text is read as the partition. -/
theorem text_back {p : List Int} {k : Nat} (hk : 1000 < k) : ∃ z : List Int, impl_ParsePartition.f k (ptext p) = some (z, isP p) ∧ (isP p = true → z = p) := by
  have hsz := ptext_any p
  cases hp : isP p with
  | true =>
    refine ⟨p, ?_, fun _ => rfl⟩
    have hl : (tx p).length ≤ 30 := by rw [← bs_size, ← tx_bs]; exact hsz
    rw [tx_bs, implPP (by omega) (by omega), ppEnd_some (pp_tx hp)]
  | false =>
    refine ⟨[], ?_, fun h => by cases h⟩
    rw [ptext_false hp, implPP (by simp) (by simp only [List.length_nil]; omega), ppEnd_none pp_nil]
theorem FnPartitions (l0 : List Int) (hm : l0.length ≤ maxLen) (hwf : ∀ x ∈ l0, (Lit.int .u8 x).wf = true) : ∃ k, laws_FnPartitions.ok k l0 := by
  by_cases hbig : (l0.length : Int) > 1048576
  · exact ⟨0, Or.inl (big_yes hbig)⟩
  have hn : l0.length ≤ 1099511627776 := by omega
  refine ⟨l0.length + 3000, Or.inr ?_⟩
  generalize hk : l0.length + 3000 = k
  obtain ⟨p, d1, np⟩ := drawConj_ok (k := k) hn (by omega)
  obtain ⟨c, d2, e1, nc, hcc⟩ := conj_ok (k := k) np (by omega)
  obtain ⟨n, d3⟩ := drawPart_ok (k := k) hn (by omega)
  obtain ⟨all, d4, e3, nall, xall⟩ := part_ok n (k := k) (by omega)
  obtain ⟨q, r, dt, nq, nr⟩ := drawTwo_ok (k := k) hn (by omega)
  obtain ⟨b, e7, e8, y2⟩ := dom_ok (q := q) (p := r) (k := k) nq nr (by omega)
  obtain ⟨a, row, d7, na⟩ := drawAdd_ok (k := k) hn (by omega)
  obtain ⟨x, one, d8, d9, nx, y3⟩ := add_ok (p := a) (a := row) (k := k) na (by omega)
  have d10 : spec_DrawRemoveBox.f k l0 = some (a, row) := by rw [spec_DrawRemoveBox.f, d7, Option.bind_some]
  obtain ⟨u, three, d11, d12, nu⟩ := rem_ok (p := a) (a := row) (k := k) na (by omega)
  obtain ⟨l, d13, nl⟩ := drawTxtP_ok (k := k) hn (by omega)
  have d14 : impl_ParsePartition.f k (bs l) = some (ppEnd l) := implPP (by omega) (by omega)
  have d15 : spec_ParsePartition.f k (bs l) = some (ppEnd l) := specPP (by omega) (by omega)
  have nw := ppEnd_len l
  rcases hpp : ppEnd l with ⟨w, ok⟩
  rw [hpp] at d14 d15 nw
  dsimp only at nw
  obtain ⟨cs, e12, e13, _, ncs, _⟩ := corners_ok (p := a) (k := k) na (by omega)
  obtain ⟨z, tz, hz⟩ := text_back (p := p) (k := k) (by omega)
  refine ⟨p, c, q, r, q, r, a, x, a, u, w, cs, z, all, bs l, ptext p, n, row, row, _, one, three, ok, _, b, isP p, big_no hbig, d1, d2, d3, d4, dt, dt, d7, d8, d9, d10, d11, d12, d13, d14, d15, e1, same_self (by omega) (by omega), e3, lists_self nall xall (by omega),
    implInside_eq (by omega) (by omega) (by omega), specInside_eq (by omega) (by omega) (by omega), e7, e8, same_self (by omega) (by omega), same_self (by omega) (by omega), same_self (by omega) (by omega), e12, e13, same_self (by omega) (by omega),
    implSize_eq (by omega) (by omega) (by omega), specSize_eq (by omega) (by omega) (by omega), implIsP_eq (by omega) (by omega), specIsP_eq (by omega) (by omega), implPT (by omega) (by omega) (by omega), tz, specPT (by omega) (by omega) (by omega), ?_, y2, ?_⟩
  · intro hp
    have := hz hp
    subst this
    exact ⟨same_self (by omega) (by omega), z, hcc hp, same_self (by omega) (by omega)⟩
  · intro h1
    exact ⟨a, y3 h1, same_self (by omega) (by omega)⟩

end Go.Proofs.YtcnpdiiecopccaaGreatDoor.Pure
