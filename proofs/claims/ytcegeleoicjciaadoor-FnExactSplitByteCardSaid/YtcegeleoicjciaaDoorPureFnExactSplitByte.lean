/- At every text and byte the program's SplitByte and the reference's give the same pieces, in a row of the call's own (the law's plain function; pure part here). No condition. -/
import Derived.Test.YtcegeleoicjciaaDoorQFnExactSplitBytex2
import Derived.Lib.SplitLaws
import Derived.Lib.IndexBytes
import Derived.Lib.ItoaLen
namespace Go.Proofs.YtcegeleoicjciaaDoor.Pure
open Go.RowKit Go.Proofs.YtcegeleoicjciaaDoor.QFnExactSplitByte Go.Proofs.YtcegeleoicjciaaDoorW.PrintWords Go.Proofs.YtcegeleoicjciaaDoorW.PrintLast
set_option linter.unusedVariables false
set_option linter.unusedSimpArgs false

theorem w64 {x : Int} (h1 : -9223372036854775808 ≤ x) (h2 : x ≤ 9223372036854775807) : wrap64 x = x := by
  unfold wrap64; omega

theorem rd_nat (xs : List Int) (i : Nat) (h : i < xs.length) : rd xs (i : Int) = xs[i] := by
  unfold rd; rw [Int.toNat_natCast]; simp [List.getD, h]

theorem succ_of_pos {d k : Nat} (h : d < k) : ∃ m, k = m + 1 := ⟨k - 1, by omega⟩

theorem wf_ints {l : List Int} (h : ∀ x ∈ l, (Lit.int .i64 x).wf = true) : ∀ x ∈ l, -9223372036854775808 ≤ x ∧ x ≤ 9223372036854775807 := by
  intro x hx
  have := h x hx
  simp [Lit.wf, IntKind.min, IntKind.max, IntKind.bits, IntKind.signed] at this
  omega

theorem wf_int {x : Int} (h : (Lit.int .i64 x).wf = true) : -9223372036854775808 ≤ x ∧ x ≤ 9223372036854775807 := by
  simp [Lit.wf, IntKind.min, IntKind.max, IntKind.bits, IntKind.signed] at h
  omega

def bs (l : List UInt8) : ByteArray := ⟨l.toArray⟩

theorem bs_app (a b : List UInt8) : bs a ++ bs b = bs (a ++ b) := by
  apply ByteArray.ext
  simp [bs]

theorem bs_size (a : List UInt8) : (bs a).size = a.length := by simp [bs, ByteArray.size]

theorem bs_of (s : ByteArray) : bs s.data.toList = s := by
  apply ByteArray.ext
  simp [bs]

theorem bs_inj {a b : List UInt8} (h : bs a = bs b) : a = b := by
  have := congrArg ByteArray.data h
  simpa [bs] using this

theorem bs_toList (a : List UInt8) : (bs a).toList = a := by
  rw [Go.Lib.toList_data]
  simp [bs]

theorem nums1 (n : Nat) (h : n < 256) : strOfNums [(n : Int)] = bs [UInt8.ofNat n] := by
  apply ByteArray.ext
  simp [bs, strOfNums]

theorem bt_bs (l : List UInt8) (i : Nat) (h : i < l.length) : bt (bs l) (i : Int) = (l[i].toNat : Int) := by
  have h1 : ((i : Int)).toNat < (bs l).size := by rw [bs_size]; omega
  rw [← bt_at (bs l) i h1]
  simp [bs, ByteArray.getElem_eq_getElem_data]
theorem bs_data (l : List UInt8) : (bs l).data.toList = l := by simp [bs]

def spAcc (c : UInt8) : List UInt8 → List UInt8 → List (List UInt8)
  | cur, [] => [cur]
  | cur, x :: r => if x = c then cur :: spAcc c [] r else spAcc c (cur ++ [x]) r
theorem sp_none (c : UInt8) : ∀ (r cur : List UInt8), c ∉ r → spAcc c cur r = [cur ++ r]
  | [], cur, _ => by rw [List.append_nil]; rfl
  | x :: r, cur, h => by
    have h1 : x ≠ c := fun e => h (by rw [e]; exact List.mem_cons_self ..)
    rw [spAcc, if_neg h1, sp_none c r _ (fun m => h (List.mem_cons_of_mem _ m))]
    simp
theorem sp_some (c : UInt8) (b : List UInt8) : ∀ (a cur : List UInt8), c ∉ a → spAcc c cur (a ++ c :: b) = (cur ++ a) :: spAcc c [] b
  | [], cur, _ => by rw [List.append_nil]; show spAcc c cur (c :: b) = _; rw [spAcc, if_pos rfl]
  | x :: a, cur, h => by
    have h1 : x ≠ c := fun e => h (by rw [e]; exact List.mem_cons_self ..)
    show spAcc c cur (x :: (a ++ c :: b)) = _
    rw [spAcc, if_neg h1, sp_some c b a _ (fun m => h (List.mem_cons_of_mem _ m))]
    simp
theorem ib_none (c : UInt8) : ∀ l : List UInt8, c ∉ l → Go.Lib.indexByte l c = -1
  | [], _ => rfl
  | x :: l, h => by
    have h1 : (x == c) = false := beq_eq_false_iff_ne.mpr fun e => h (by rw [e]; exact List.mem_cons_self ..)
    rw [Go.Lib.indexByte, h1, ib_none c l (fun m => h (List.mem_cons_of_mem _ m))]
    rfl
theorem ib_some (c : UInt8) (b : List UInt8) : ∀ a : List UInt8, c ∉ a → Go.Lib.indexByte (a ++ c :: b) c = (a.length : Int)
  | [], _ => by show Go.Lib.indexByte (c :: b) c = _; rw [Go.Lib.indexByte, beq_self_eq_true]; rfl
  | x :: a, h => by
    have h1 : (x == c) = false := beq_eq_false_iff_ne.mpr fun e => h (by rw [e]; exact List.mem_cons_self ..)
    have ih := ib_some c b a (fun m => h (List.mem_cons_of_mem _ m))
    have h2 : ((a.length : Int) == -1) = false := beq_eq_false_iff_ne.mpr (by omega)
    show Go.Lib.indexByte (x :: (a ++ c :: b)) c = _
    rw [Go.Lib.indexByte, h1, ih, h2]
    simp
theorem split_one (c : UInt8) : ∀ (n : Nat) (s : List UInt8), s.length ≤ n → Go.Lib.splitK [c] 0 (Go.Lib.count s [c]) s = spAcc c [] s := by
  intro n
  induction n with
  | zero =>
    intro s hs
    obtain rfl := List.eq_nil_of_length_eq_zero (Nat.le_zero.mp hs)
    have hi : Go.Lib.index [] [c] = -1 := by rw [Go.Lib.index_one]; rfl
    rw [Go.Lib.count_miss hi]
    rfl
  | succ n ih =>
    intro s hs
    by_cases h : c ∈ s
    · obtain ⟨a, b, rfl, ha⟩ := List.eq_append_cons_of_mem h
      have hi : Go.Lib.index (a ++ c :: b) [c] = (a.length : Int) := by rw [Go.Lib.index_one, ib_some c b a ha]
      have hdrop : (a ++ c :: b).drop (a.length + 1) = b := by simp
      have e1 : Go.Lib.count (a ++ c :: b) [c] = 1 + Go.Lib.count b [c] := by
        have := Go.Lib.count_hit (s := a ++ c :: b) (sub := [c]) (i := a.length) (by simp) hi
        rw [this, show [c].length = 1 from rfl, hdrop]
      have hm : ¬ ((Go.Lib.index (a ++ c :: b) [c] == -1) = true) := fun e => by have := beq_iff_eq.mp e; omega
      rw [e1, Nat.add_comm, Go.Lib.splitK, if_neg hm, hi, show [c].length = 1 from rfl, show ((a.length : Int)).toNat = a.length from rfl, hdrop, ih b (by simp at hs; omega), sp_some c b a [] ha]
      simp
    · have hi : Go.Lib.index s [c] = -1 := by rw [Go.Lib.index_one, ib_none c s h]
      rw [Go.Lib.count_miss hi, sp_none c s [] h]
      rfl
theorem bs_eta (x : List ByteArray) : (x.map (·.data.toList)).map bs = x := by
  rw [List.map_map]
  conv => rhs; rw [← List.map_id x]
  exact List.map_congr_left fun a _ => bs_of a
theorem splitB_one (c : UInt8) (l : List UInt8) : Go.Lib.splitB (bs [c]) 0 (Go.Lib.countB (bs l) (bs [c])) (bs l) = (spAcc c [] l).map bs := by
  rw [← bs_eta (Go.Lib.splitB _ _ _ _), Go.Lib.splitB_data]
  have e : Go.Lib.countB (bs l) (bs [c]) = Go.Lib.count l [c] := by
    show Go.Lib.count (bs l).data.toList (bs [c]).data.toList = _
    simp [bs]
  rw [e]
  have e2 : (bs [c]).data.toList = [c] := by simp [bs]
  have e3 : (bs l).data.toList = l := by simp [bs]
  rw [e2, e3, split_one c l.length l (Nat.le_refl _)]
theorem sp_len (c : UInt8) : ∀ (r cur : List UInt8), (spAcc c cur r).length ≤ r.length + 1
  | [], cur => by simp [spAcc]
  | x :: r, cur => by
    rw [spAcc]
    split
    · have := sp_len c r []
      simp only [List.length_cons]
      omega
    · have := sp_len c r (cur ++ [x])
      simp only [List.length_cons]
      omega
theorem implSplit {l : List UInt8} {c : UInt8} (hl : l.length ≤ 1048576) : strings_Split.f (bs l) (bs [c]) = some ((spAcc c [] l).map bs) := by
  rw [strings_Split.f, bs_size, bs_size, if_pos (by omega), if_pos (by simp), splitB_one]
theorem bs_extract (pre cur r : List UInt8) : (bs (pre ++ cur ++ r)).extract pre.length (pre.length + cur.length) = bs cur := by
  apply ByteArray.ext
  rw [ByteArray.data_extract]
  simp [bs]
theorem specSplit_l0 (c : UInt8) : ∀ (r pre cur : List UInt8) (out : List ByteArray) (k : Nat), (pre ++ cur ++ r).length ≤ 1048576 → out.length + r.length ≤ 2000000 → r.length + 2 ≤ k →
    spec_SplitByte.l0 k (bs (pre ++ cur ++ r)) (c.toNat : Int) out (pre.length : Int) ((pre.length + cur.length : Nat) : Int) = some (out ++ (spAcc c cur r).map bs)
  | [], pre, cur, out, k, hl, ho, hk => by
    obtain ⟨k, rfl⟩ : ∃ j, k = j + 2 := ⟨k - 2, by omega⟩
    have hlen : (pre ++ cur ++ ([] : List UInt8)).length = pre.length + cur.length := by simp
    rw [hlen] at hl
    rw [spec_SplitByte.l0, bs_size, hlen, if_pos (by omega), if_pos rfl, if_pos (by omega), if_pos (by omega), if_pos (by simp only [List.length_nil] at ho; omega), w64 (x := ((pre.length + cur.length : Nat) : Int) + 1) (by omega) (by omega),
      spec_SplitByte.l0, bs_size, hlen, if_neg (by omega)]
    rw [show ((pre.length : Int)).toNat = pre.length from rfl, show (((pre.length + cur.length : Nat) : Int)).toNat = pre.length + cur.length from rfl, bs_extract]
    rfl
  | x :: r, pre, cur, out, k, hl, ho, hk => by
    obtain ⟨k, rfl⟩ : ∃ j, k = j + 1 := ⟨k - 1, by omega⟩
    rw [List.length_cons] at ho hk
    have hlen : (pre ++ cur ++ x :: r).length = pre.length + cur.length + (r.length + 1) := by simp; omega
    have hl' := hl
    rw [hlen] at hl'
    have hat : bt (bs (pre ++ cur ++ x :: r)) ((pre.length + cur.length : Nat) : Int) = (x.toNat : Int) := by
      rw [bt_bs _ _ (by rw [hlen]; omega)]
      congr 2
      rw [List.getElem_append_right (by simp)]
      simp
    rw [spec_SplitByte.l0, bs_size, hlen, if_pos (by omega), if_neg (by omega), if_pos (by omega), if_pos (by omega), hat]
    by_cases h : x = c
    · rw [if_pos (by rw [h]), if_pos (by omega), if_pos (by omega), if_pos (by omega), w64 (x := ((pre.length + cur.length : Nat) : Int) + 1) (by omega) (by omega)]
      rw [show ((pre.length : Int)).toNat = pre.length from rfl, show (((pre.length + cur.length : Nat) : Int)).toNat = pre.length + cur.length from rfl, bs_extract]
      have e : pre ++ cur ++ x :: r = (pre ++ cur ++ [x]) ++ [] ++ r := by simp
      have ih := specSplit_l0 c r (pre ++ cur ++ [x]) [] (out ++ [bs cur]) k (by rw [← e]; exact hl) (by simp; omega) (by omega)
      rw [← e] at ih
      have e2 : ((pre ++ cur ++ [x]).length : Int) = ((pre.length + cur.length : Nat) : Int) + 1 := by simp; omega
      have e3 : (((pre ++ cur ++ [x]).length + ([] : List UInt8).length : Nat) : Int) = ((pre.length + cur.length : Nat) : Int) + 1 := by simp; omega
      rw [e2, e3] at ih
      rw [ih, spAcc, if_pos h]
      simp
    · rw [if_neg (by intro e; exact h (UInt8.toNat.inj (by omega))), w64 (x := ((pre.length + cur.length : Nat) : Int) + 1) (by omega) (by omega)]
      have e : pre ++ cur ++ x :: r = pre ++ (cur ++ [x]) ++ r := by simp
      have ih := specSplit_l0 c r pre (cur ++ [x]) out k (by rw [← e]; exact hl) (by omega) (by omega)
      rw [← e] at ih
      have e3 : ((pre.length + (cur ++ [x]).length : Nat) : Int) = ((pre.length + cur.length : Nat) : Int) + 1 := by simp; omega
      rw [e3] at ih
      rw [ih, spAcc, if_neg h]
theorem specSplit {l : List UInt8} {c : UInt8} {k : Nat} (hl : l.length ≤ 1048576) (hk : l.length + 2 ≤ k) : spec_SplitByte.f k (bs l) (c.toNat : Int) = some ((spAcc c [] l).map bs) := by
  have := specSplit_l0 c l [] [] [] k (by simpa using hl) (by simp; omega) hk
  rw [spec_SplitByte.f]
  exact this

open Go.Lib (decDigits nDigits)
def mt (m : Nat) : ByteArray := bs (109 :: decDigits m)
theorem mt_l0 : ∀ (m k : Nat) (acc : List UInt8), 0 < m → m ≤ 1099511627776 → acc.length + nDigits m ≤ 1000 → nDigits m < k →
    laws_markText.l0 k (m : Int) (bs acc) = some (bs (109 :: (decDigits m ++ acc))) := by
  intro m
  induction m using Nat.strongRecOn with
  | _ m ih =>
    intro k acc h0 hm ha hk
    have hp := Go.Lib.nDigits_pos m
    obtain ⟨k, rfl⟩ : ∃ j, k = j + 2 := ⟨k - 2, by omega⟩
    have e1 : Int.tmod (m : Int) 10 = ((m % 10 : Nat) : Int) := by rw [Int.tmod_eq_emod_of_nonneg (by omega)]; omega
    have e2 : Int.tdiv (m : Int) 10 = ((m / 10 : Nat) : Int) := by rw [Int.tdiv_eq_ediv_of_nonneg (by omega)]; omega
    have e3 : (48 + ((m % 10 : Nat) : Int)) % 256 = ((48 + m % 10 : Nat) : Int) := by omega
    rw [laws_markText.l0, if_pos (by omega), e1, e2, w64 (x := 48 + ((m % 10 : Nat) : Int)) (by omega) (by omega), Option.bind_some, e3, nums1 _ (by omega), bs_size, bs_size, if_pos (by simp; omega), bs_app, w64 (by omega) (by omega)]
    by_cases h10 : m < 10
    · rw [show ((m / 10 : Nat) : Int) = 0 by omega, laws_markText.l0, if_neg (by omega), bs_size, if_pos (by simp; omega), decDigits, dif_pos h10, Nat.mod_eq_of_lt h10]
      exact congrArg some (bs_app [109] _)
    · have hd := Go.Lib.nDigits_big h10
      rw [ih (m / 10) (by omega) (k + 1) _ (by omega) (by omega) (by simp; omega) (by omega)]
      conv => rhs; rw [decDigits, dif_neg h10]
      simp
theorem mt_eq {m k : Nat} (h0 : 0 < m) (hm : m ≤ 1099511627776) (hk : 30 < k) : laws_markText.f k (m : Int) = some (mt m) := by
  have hd := Go.Lib.nDigits_le20 m (by omega)
  rw [laws_markText.f, if_neg (by omega)]
  have := mt_l0 m k [] h0 hm (by simp; omega) (by omega)
  rw [show (⟨#[]⟩ : ByteArray) = bs [] from rfl, this, mt]
  simp
def mks : Nat → Nat → List ByteArray
  | _, 0 => []
  | m, n + 1 => mt m :: mks (m + 1) n
theorem mks_len : ∀ n m, (mks m n).length = n
  | 0, m => rfl
  | n + 1, m => by rw [mks, List.length_cons, mks_len n]
theorem markS_l0 : ∀ (r pre : List ByteArray) (m k : Nat), 0 < m → m + r.length ≤ 1000000000 → pre.length + r.length ≤ 1000000000 → r.length + 40 < k →
    laws_markStringS.l0 k (pre ++ r) (m : Int) (pre.length : Int) = some (((m + r.length : Nat) : Int), pre ++ mks m r.length)
  | [], pre, m, k, h0, hm, hl, hk => by
    obtain ⟨k, rfl⟩ : ∃ j, k = j + 1 := ⟨k - 1, by omega⟩
    rw [laws_markStringS.l0, if_neg (by simp)]
    rfl
  | x :: r, pre, m, k, h0, hm, hl, hk => by
    obtain ⟨k, rfl⟩ : ∃ j, k = j + 1 := ⟨k - 1, by omega⟩
    rw [List.length_cons] at hm hl hk
    have hs : (pre ++ x :: r).set ((pre.length : Int)).toNat (mt m) = (pre ++ [mt m]) ++ r := by
      rw [show ((pre.length : Int)).toNat = pre.length from rfl]
      simp
    have ih := markS_l0 r (pre ++ [mt m]) (m + 1) k (by omega) (by omega) (by simp; omega) (by omega)
    rw [laws_markStringS.l0, if_pos (by simp; omega), mt_eq h0 (by omega) (by omega), Option.bind_some, if_pos (by omega), hs, w64 (x := (m : Int) + 1) (by omega) (by omega), w64 (x := (pre.length : Int) + 1) (by omega) (by omega)]
    rw [show ((pre ++ [mt m]).length : Int) = (pre.length : Int) + 1 by simp, show ((m + 1 : Nat) : Int) = (m : Int) + 1 by omega] at ih
    rw [ih, List.length_cons, mks]
    simp
    omega
theorem markS_eq {xs : List ByteArray} {k : Nat} (hl : xs.length ≤ 100000000) (hk : xs.length + 40 < k) : laws_markStringS.f k xs 1 = some (((1 + xs.length : Nat) : Int), mks 1 xs.length) := by
  rw [laws_markStringS.f]
  exact markS_l0 xs [] 1 k (by omega) (by omega) (by simp; omega) hk
theorem rdOf_at (pre : List ByteArray) (x : ByteArray) (r : List ByteArray) : rdOf ByteArray.empty (pre ++ x :: r) (pre.length : Int) = x := by
  simp [rdOf]
theorem heldS_l0 : ∀ (n : Nat) (pre : List ByteArray) (m k : Nat), 0 < m → m + n ≤ 1000000000 → pre.length + n ≤ 1000000000 → n + 40 < k →
    laws_heldStringS.l0 k (pre ++ mks m n) (m : Int) (pre.length : Int) = some ((m + n : Nat) : Int)
  | 0, pre, m, k, h0, hm, hl, hk => by
    obtain ⟨k, rfl⟩ : ∃ j, k = j + 1 := ⟨k - 1, by omega⟩
    rw [laws_heldStringS.l0, if_neg (by simp [mks])]
    rfl
  | n + 1, pre, m, k, h0, hm, hl, hk => by
    obtain ⟨k, rfl⟩ : ∃ j, k = j + 1 := ⟨k - 1, by omega⟩
    have ih := heldS_l0 n (pre ++ [mt m]) (m + 1) k (by omega) (by omega) (by simp; omega) (by omega)
    rw [laws_heldStringS.l0, if_pos (by simp [mks]; omega), if_pos (by omega), mt_eq h0 (by omega) (by omega), Option.bind_some, mks, rdOf_at, if_pos rfl, w64 (x := (m : Int) + 1) (by omega) (by omega), w64 (x := (pre.length : Int) + 1) (by omega) (by omega)]
    rw [show ((pre ++ [mt m]).length : Int) = (pre.length : Int) + 1 by simp, show ((m + 1 : Nat) : Int) = (m : Int) + 1 by omega, List.append_assoc] at ih
    rw [show pre ++ mt m :: mks (m + 1) n = pre ++ ([mt m] ++ mks (m + 1) n) from rfl, ih]
    simp
    omega
theorem heldS_eq {n k : Nat} (hl : n ≤ 100000000) (hk : n + 40 < k) : laws_heldStringS.f k (mks 1 n) 1 = some ((1 + n : Nat) : Int) := by
  rw [laws_heldStringS.f]
  exact heldS_l0 n [] 1 k (by omega) (by omega) (by simp; omega) hk
theorem eqS_l0 : ∀ (r pre : List ByteArray) (k : Nat), pre.length + r.length ≤ 1000000000 → r.length < k → laws_eqStringS.l0 k (pre ++ r) (pre ++ r) (pre.length : Int) = some true
  | [], pre, k, hl, hk => by
    obtain ⟨k, rfl⟩ : ∃ j, k = j + 1 := ⟨k - 1, by omega⟩
    rw [laws_eqStringS.l0, if_neg (by simp)]
  | x :: r, pre, k, hl, hk => by
    obtain ⟨k, rfl⟩ : ∃ j, k = j + 1 := ⟨k - 1, by omega⟩
    rw [List.length_cons] at hl hk
    have ih := eqS_l0 r (pre ++ [x]) k (by simp; omega) (by omega)
    rw [laws_eqStringS.l0, if_pos (by simp; omega), if_pos (by omega), if_pos (by simp; omega), if_pos rfl, w64 (x := (pre.length : Int) + 1) (by omega) (by omega)]
    rw [show ((pre ++ [x]).length : Int) = (pre.length : Int) + 1 by simp, List.append_assoc] at ih
    exact ih
theorem eqS_refl {xs : List ByteArray} {k : Nat} (hl : xs.length ≤ 1000000000) (hk : xs.length < k) : laws_eqStringS.f k xs xs = some true := by
  rw [laws_eqStringS.f, if_pos rfl]
  exact eqS_l0 xs [] k (by simpa using hl) hk

theorem FnExactSplitByte (a0 : ByteArray) (a1 : Int) (hw0 : a0.size ≤ 140737488351232) (hw1 : (Lit.int .u8 a1).wf = true) : ∃ k, laws_FnExactSplitByte.f k a0 a1 = some true := by
  have hw1 : 0 ≤ a1 ∧ a1 ≤ 255 := by
    simp [Lit.wf, IntKind.min, IntKind.max, IntKind.bits, IntKind.signed] at hw1
    omega
  refine ⟨a0.size + 100, ?_⟩
  rw [laws_FnExactSplitByte.f]
  by_cases hs : (a0.size : Int) > 1048576
  · rw [if_pos hs]
  · rw [if_neg hs]
    obtain ⟨l, rfl⟩ : ∃ l, a0 = bs l := ⟨_, (bs_of a0).symm⟩
    rw [bs_size] at hs ⊢
    obtain ⟨c, rfl⟩ : ∃ c : UInt8, a1 = (c.toNat : Int) := ⟨UInt8.ofNat a1.toNat, by rw [UInt8.toNat_ofNat']; omega⟩
    have hn : strOfNums (([((c.toNat : Nat) : Int)] : List Int)) = bs [c] := by
      rw [nums1 _ c.toNat_lt, UInt8.ofNat_toNat]
    have h2 : impl_SplitByte.f (bs l) (c.toNat : Int) = some ((spAcc c [] l).map bs) := by
      rw [impl_SplitByte.f, hn, implSplit (by omega), Option.bind_some]
    have h1 : spec_SplitByte.f (l.length + 100) (bs l) (c.toNat : Int) = some ((spAcc c [] l).map bs) := specSplit (by omega) (by omega)
    have hlen := sp_len c l []
    have hx : ((spAcc c [] l).map bs).length ≤ l.length + 1 := by rw [List.length_map]; exact hlen
    generalize (spAcc c [] l).map bs = xs at *
    rw [h1, Option.bind_some, h2, Option.bind_some, eqS_refl (by omega) (by omega), Option.bind_some, if_pos rfl, markS_eq (by omega) (by omega), Option.bind_some, heldS_eq (by omega) (by omega), Option.bind_some, if_neg (by omega), if_pos rfl,
      Option.bind_some, eqS_refl (by omega) (by omega), Option.bind_some, if_pos rfl, Option.bind_some, if_neg (by omega), if_pos rfl]

end Go.Proofs.YtcegeleoicjciaaDoor.Pure
