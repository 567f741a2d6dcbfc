/- For every code FnSplit returns true, and the code reads as before (the law's plain function; pure part here). No condition. -/
import Derived.Test.YtkbomfpebhjaoaaDoorQFnSplitx2
import Derived.Lib.SplitLaws
import Derived.Lib.IndexBytes
import Derived.Lib.Join
namespace Go.Proofs.YtkbomfpebhjaoaaDoor.Pure
open Go.RowKit Go.Proofs.YtkbomfpebhjaoaaDoor.QFnSplit Go.Proofs.YtkbomfpebhjaoaaDoorW.PrintWords Go.Proofs.YtkbomfpebhjaoaaDoorW.PrintLast
set_option linter.unusedVariables false
set_option linter.unusedSimpArgs false

theorem w64 {x : Int} (h1 : -9223372036854775808 ≤ x) (h2 : x ≤ 9223372036854775807) : wrap64 x = x := by
  unfold wrap64; omega

theorem rd_nat (xs : List Int) (i : Nat) (h : i < xs.length) : rd xs (i : Int) = xs[i] := by
  unfold rd; rw [Int.toNat_natCast]; simp [List.getD, h]

theorem succ_of_pos {d k : Nat} (h : d < k) : ∃ m, k = m + 1 := ⟨k - 1, by omega⟩

theorem wf_ints {l : List Int} (h : ∀ x ∈ l, (Lit.int .i64 x).wf = true) : ∀ x ∈ l, -9223372036854775808 ≤ x ∧ x ≤ 9223372036854775807 := by
  intro x hx
  have := h x hx
  simp [Lit.wf, IntKind.min, IntKind.max, IntKind.bits, IntKind.signed] at this
  omega

theorem wf_int {x : Int} (h : (Lit.int .i64 x).wf = true) : -9223372036854775808 ≤ x ∧ x ≤ 9223372036854775807 := by
  simp [Lit.wf, IntKind.min, IntKind.max, IntKind.bits, IntKind.signed] at h
  omega

theorem big_no {l : List Int} (h : ¬ ((l.length : Int) > 1048576)) : laws_big.f l = some false := by rw [laws_big.f]; simp; omega
theorem big_yes {l : List Int} (h : (l.length : Int) > 1048576) : laws_big.f l = some true := by rw [laws_big.f]; simp; omega

theorem and255 (x : Int) : 0 ≤ Go.bits .and .i64 x 255 ∧ Go.bits .and .i64 x 255 ≤ 255 := by
  have h : ∃ n : Nat, n ≤ 255 ∧ Go.bits .and .i64 x 255 = wrap64 (n : Int) := by
    refine ⟨(BitVec.ofInt 64 x &&& BitVec.ofInt 64 255).toNat, ?_, ?_⟩
    · rw [BitVec.toNat_and]
      exact Nat.le_trans Nat.and_le_right (by decide)
    · exact i64_w _
  obtain ⟨n, hn, e⟩ := h
  rw [e, w64 (by omega) (by omega)]
  omega

theorem l1Byte_ok {s : List Int} {pos h : Int} (hn : s.length ≤ 1099511627776) (h0 : 0 ≤ pos) : ∃ v p' h', spec_l1Byte.f s pos h = some (v, p', h') ∧ 0 ≤ v ∧ v ≤ 255 ∧ 0 ≤ p' := by
  rw [spec_l1Byte.f]
  by_cases hc : pos < (s.length : Int)
  · rw [if_pos hc, if_pos h0, w64 (x := pos + 1) (by omega) (by omega)]
    exact ⟨_, _, _, rfl, (and255 _).1, (and255 _).2, by omega⟩
  · rw [if_neg hc]
    exact ⟨_, _, _, rfl, (and255 _).1, (and255 _).2, h0⟩

theorem l1Below_ok {s : List Int} {pos h n : Int} (hn : s.length ≤ 1099511627776) (h0 : 0 ≤ pos) (h1 : 1 ≤ n) (h2 : n ≤ 256) : ∃ v p' h', spec_l1Below.f s pos h n = some (v, p', h') ∧ 0 ≤ v ∧ v < n ∧ 0 ≤ p' := by
  obtain ⟨v, p', h', e, hv0, hv1, hp⟩ := l1Byte_ok (h := h) hn h0
  refine ⟨Int.tmod v n, p', h', ?_, ?_, ?_, hp⟩
  · rw [spec_l1Below.f, if_neg (by omega), if_pos h2, e, Option.bind_some, if_neg (by omega)]
  · rw [Int.tmod_eq_emod_of_nonneg hv0]; exact Int.emod_nonneg _ (by omega)
  · rw [Int.tmod_eq_emod_of_nonneg hv0]; exact Int.emod_lt_of_pos _ (by omega)

theorem l1New_l0 (s : List Int) (hn : s.length ≤ 1099511627776) : ∀ (d k i : Nat) (h : Int), i + d = s.length → d < k → ∃ h', spec_l1New.l0 k s h (i : Int) = some (s, 0, h') := by
  intro d
  induction d with
  | zero =>
    intro k i h hi hk
    obtain ⟨k, rfl⟩ := succ_of_pos hk
    exact ⟨h, by rw [spec_l1New.l0, if_neg (by omega)]⟩
  | succ d ih =>
    intro k i h hi hk
    obtain ⟨k, rfl⟩ := succ_of_pos hk
    rw [spec_l1New.l0, if_pos (by omega)]
    by_cases hc : (i : Int) < 4000
    · rw [if_pos hc, if_pos (by omega), w64 (x := (i : Int) + 1) (by omega) (by omega)]
      exact ih k (i + 1) _ (by omega) (by omega)
    · exact ⟨h, by rw [if_neg hc]⟩

theorem l1New_ok {s : List Int} {k : Nat} (hn : s.length ≤ 1099511627776) (hk : s.length < k) : ∃ h', spec_l1New.f k s = some (s, 0, h') := l1New_l0 s hn s.length k 0 _ (by omega) hk

theorem l1PickInt_ok {s l : List Int} {pos h : Int} (hn : s.length ≤ 1099511627776) (h0 : 0 ≤ pos) (h1 : 1 ≤ l.length) (h2 : l.length ≤ 256) : ∃ v p' h', spec_l1PickInt.f s pos h l = some (v, p', h') ∧ v ∈ l ∧ 0 ≤ p' := by
  obtain ⟨v, p', h', e, hv0, hv1, hp⟩ := l1Below_ok (h := h) (n := (l.length : Int)) hn h0 (by omega) (by omega)
  refine ⟨rd l v, p', h', by rw [spec_l1PickInt.f, e, Option.bind_some, if_pos hv0, if_pos hv1], ?_, hp⟩
  obtain ⟨m, rfl⟩ := Int.eq_ofNat_of_zero_le hv0
  rw [rd_nat l m (by omega)]
  exact List.getElem_mem _

theorem l1Pick_ok {s : List Int} {l : List ByteArray} {pos h : Int} (hn : s.length ≤ 1099511627776) (h0 : 0 ≤ pos) (h1 : 1 ≤ l.length) (h2 : l.length ≤ 256) : ∃ v p' h', spec_l1Pick.f s pos h l = some (v, p', h') ∧ v ∈ l ∧ 0 ≤ p' := by
  obtain ⟨v, p', h', e, hv0, hv1, hp⟩ := l1Below_ok (h := h) (n := (l.length : Int)) hn h0 (by omega) (by omega)
  refine ⟨rdOf ByteArray.empty l v, p', h', by rw [spec_l1Pick.f, e, Option.bind_some, if_pos hv0, if_pos hv1], ?_, hp⟩
  obtain ⟨m, rfl⟩ := Int.eq_ofNat_of_zero_le hv0
  have hm : m < l.length := by omega
  have : rdOf ByteArray.empty l (m : Int) = l[m] := by
    unfold rdOf
    rw [Int.toNat_natCast]
    simp [List.getD, hm]
  rw [this]
  exact List.getElem_mem _

def bs (l : List UInt8) : ByteArray := ⟨l.toArray⟩

theorem bs_app (a b : List UInt8) : bs a ++ bs b = bs (a ++ b) := by
  apply ByteArray.ext
  simp [bs]

theorem bs_size (a : List UInt8) : (bs a).size = a.length := by simp [bs, ByteArray.size]

theorem bs_of (s : ByteArray) : bs s.data.toList = s := by
  apply ByteArray.ext
  simp [bs]

theorem bs_inj {a b : List UInt8} (h : bs a = bs b) : a = b := by
  have := congrArg ByteArray.data h
  simpa [bs] using this

theorem bs_toList (a : List UInt8) : (bs a).toList = a := by
  rw [Go.Lib.toList_data]
  simp [bs]

theorem nums1 (n : Nat) (h : n < 256) : strOfNums [(n : Int)] = bs [UInt8.ofNat n] := by
  apply ByteArray.ext
  simp [bs, strOfNums]

theorem bt_bs (l : List UInt8) (i : Nat) (h : i < l.length) : bt (bs l) (i : Int) = (l[i].toNat : Int) := by
  have h1 : ((i : Int)).toNat < (bs l).size := by rw [bs_size]; omega
  rw [← bt_at (bs l) i h1]
  simp [bs, ByteArray.getElem_eq_getElem_data]
theorem bs_data (l : List UInt8) : (bs l).data.toList = l := by simp [bs]
theorem rdOf_at (pre : List ByteArray) (x : ByteArray) (r : List ByteArray) : rdOf ByteArray.empty (pre ++ x :: r) (pre.length : Int) = x := by
  simp [rdOf]

def spAcc (c : UInt8) : List UInt8 → List UInt8 → List (List UInt8)
  | cur, [] => [cur]
  | cur, x :: r => if x = c then cur :: spAcc c [] r else spAcc c (cur ++ [x]) r
theorem sp_none (c : UInt8) : ∀ (r cur : List UInt8), c ∉ r → spAcc c cur r = [cur ++ r]
  | [], cur, _ => by rw [List.append_nil]; rfl
  | x :: r, cur, h => by
    have h1 : x ≠ c := fun e => h (by rw [e]; exact List.mem_cons_self ..)
    rw [spAcc, if_neg h1, sp_none c r _ (fun m => h (List.mem_cons_of_mem _ m))]
    simp
theorem sp_some (c : UInt8) (b : List UInt8) : ∀ (a cur : List UInt8), c ∉ a → spAcc c cur (a ++ c :: b) = (cur ++ a) :: spAcc c [] b
  | [], cur, _ => by rw [List.append_nil]; show spAcc c cur (c :: b) = _; rw [spAcc, if_pos rfl]
  | x :: a, cur, h => by
    have h1 : x ≠ c := fun e => h (by rw [e]; exact List.mem_cons_self ..)
    show spAcc c cur (x :: (a ++ c :: b)) = _
    rw [spAcc, if_neg h1, sp_some c b a _ (fun m => h (List.mem_cons_of_mem _ m))]
    simp
theorem ib_none (c : UInt8) : ∀ l : List UInt8, c ∉ l → Go.Lib.indexByte l c = -1
  | [], _ => rfl
  | x :: l, h => by
    have h1 : (x == c) = false := beq_eq_false_iff_ne.mpr fun e => h (by rw [e]; exact List.mem_cons_self ..)
    rw [Go.Lib.indexByte, h1, ib_none c l (fun m => h (List.mem_cons_of_mem _ m))]
    rfl
theorem ib_some (c : UInt8) (b : List UInt8) : ∀ a : List UInt8, c ∉ a → Go.Lib.indexByte (a ++ c :: b) c = (a.length : Int)
  | [], _ => by show Go.Lib.indexByte (c :: b) c = _; rw [Go.Lib.indexByte, beq_self_eq_true]; rfl
  | x :: a, h => by
    have h1 : (x == c) = false := beq_eq_false_iff_ne.mpr fun e => h (by rw [e]; exact List.mem_cons_self ..)
    have ih := ib_some c b a (fun m => h (List.mem_cons_of_mem _ m))
    have h2 : ((a.length : Int) == -1) = false := beq_eq_false_iff_ne.mpr (by omega)
    show Go.Lib.indexByte (x :: (a ++ c :: b)) c = _
    rw [Go.Lib.indexByte, h1, ih, h2]
    simp
theorem split_one (c : UInt8) : ∀ (n : Nat) (s : List UInt8), s.length ≤ n → Go.Lib.splitK [c] 0 (Go.Lib.count s [c]) s = spAcc c [] s := by
  intro n
  induction n with
  | zero =>
    intro s hs
    obtain rfl := List.eq_nil_of_length_eq_zero (Nat.le_zero.mp hs)
    have hi : Go.Lib.index [] [c] = -1 := by rw [Go.Lib.index_one]; rfl
    rw [Go.Lib.count_miss hi]
    rfl
  | succ n ih =>
    intro s hs
    by_cases h : c ∈ s
    · obtain ⟨a, b, rfl, ha⟩ := List.eq_append_cons_of_mem h
      have hi : Go.Lib.index (a ++ c :: b) [c] = (a.length : Int) := by rw [Go.Lib.index_one, ib_some c b a ha]
      have hdrop : (a ++ c :: b).drop (a.length + 1) = b := by simp
      have e1 : Go.Lib.count (a ++ c :: b) [c] = 1 + Go.Lib.count b [c] := by
        have := Go.Lib.count_hit (s := a ++ c :: b) (sub := [c]) (i := a.length) (by simp) hi
        rw [this, show [c].length = 1 from rfl, hdrop]
      have hm : ¬ ((Go.Lib.index (a ++ c :: b) [c] == -1) = true) := fun e => by have := beq_iff_eq.mp e; omega
      rw [e1, Nat.add_comm, Go.Lib.splitK, if_neg hm, hi, show [c].length = 1 from rfl, show ((a.length : Int)).toNat = a.length from rfl, hdrop, ih b (by simp at hs; omega), sp_some c b a [] ha]
      simp
    · have hi : Go.Lib.index s [c] = -1 := by rw [Go.Lib.index_one, ib_none c s h]
      rw [Go.Lib.count_miss hi, sp_none c s [] h]
      rfl
theorem bs_eta (x : List ByteArray) : (x.map (·.data.toList)).map bs = x := by
  rw [List.map_map]
  conv => rhs; rw [← List.map_id x]
  exact List.map_congr_left fun a _ => bs_of a
theorem splitB_one (c : UInt8) (l : List UInt8) : Go.Lib.splitB (bs [c]) 0 (Go.Lib.countB (bs l) (bs [c])) (bs l) = (spAcc c [] l).map bs := by
  rw [← bs_eta (Go.Lib.splitB _ _ _ _), Go.Lib.splitB_data]
  have e : Go.Lib.countB (bs l) (bs [c]) = Go.Lib.count l [c] := by
    show Go.Lib.count (bs l).data.toList (bs [c]).data.toList = _
    simp [bs]
  rw [e]
  have e2 : (bs [c]).data.toList = [c] := by simp [bs]
  have e3 : (bs l).data.toList = l := by simp [bs]
  rw [e2, e3, split_one c l.length l (Nat.le_refl _)]
theorem sp_len (c : UInt8) : ∀ (r cur : List UInt8), (spAcc c cur r).length ≤ r.length + 1
  | [], cur => by simp [spAcc]
  | x :: r, cur => by
    rw [spAcc]
    split
    · have := sp_len c r []
      simp only [List.length_cons]
      omega
    · have := sp_len c r (cur ++ [x])
      simp only [List.length_cons]
      omega
theorem implSplit {l : List UInt8} {c : UInt8} (hl : l.length ≤ 1048576) : strings_Split.f (bs l) (bs [c]) = some ((spAcc c [] l).map bs) := by
  rw [strings_Split.f, bs_size, bs_size, if_pos (by omega), if_pos (by simp), splitB_one]
theorem bs_extract (pre cur r : List UInt8) : (bs (pre ++ cur ++ r)).extract pre.length (pre.length + cur.length) = bs cur := by
  apply ByteArray.ext
  rw [ByteArray.data_extract]
  simp [bs]
theorem specSplit_l0 (c : UInt8) : ∀ (r pre cur : List UInt8) (out : List ByteArray) (k : Nat), (pre ++ cur ++ r).length ≤ 1048576 → out.length + r.length ≤ 2000000 → r.length + 2 ≤ k →
    spec_SplitByte.l0 k (bs (pre ++ cur ++ r)) (c.toNat : Int) out (pre.length : Int) ((pre.length + cur.length : Nat) : Int) = some (out ++ (spAcc c cur r).map bs)
  | [], pre, cur, out, k, hl, ho, hk => by
    obtain ⟨k, rfl⟩ : ∃ j, k = j + 2 := ⟨k - 2, by omega⟩
    have hlen : (pre ++ cur ++ ([] : List UInt8)).length = pre.length + cur.length := by simp
    rw [hlen] at hl
    rw [spec_SplitByte.l0, bs_size, hlen, if_pos (by omega), if_pos rfl, if_pos (by omega), if_pos (by omega), if_pos (by simp only [List.length_nil] at ho; omega), w64 (x := ((pre.length + cur.length : Nat) : Int) + 1) (by omega) (by omega),
      spec_SplitByte.l0, bs_size, hlen, if_neg (by omega)]
    rw [show ((pre.length : Int)).toNat = pre.length from rfl, show (((pre.length + cur.length : Nat) : Int)).toNat = pre.length + cur.length from rfl, bs_extract]
    rfl
  | x :: r, pre, cur, out, k, hl, ho, hk => by
    obtain ⟨k, rfl⟩ : ∃ j, k = j + 1 := ⟨k - 1, by omega⟩
    rw [List.length_cons] at ho hk
    have hlen : (pre ++ cur ++ x :: r).length = pre.length + cur.length + (r.length + 1) := by simp; omega
    have hl' := hl
    rw [hlen] at hl'
    have hat : bt (bs (pre ++ cur ++ x :: r)) ((pre.length + cur.length : Nat) : Int) = (x.toNat : Int) := by
      rw [bt_bs _ _ (by rw [hlen]; omega)]
      congr 2
      rw [List.getElem_append_right (by simp)]
      simp
    rw [spec_SplitByte.l0, bs_size, hlen, if_pos (by omega), if_neg (by omega), if_pos (by omega), if_pos (by omega), hat]
    by_cases h : x = c
    · rw [if_pos (by rw [h]), if_pos (by omega), if_pos (by omega), if_pos (by omega), w64 (x := ((pre.length + cur.length : Nat) : Int) + 1) (by omega) (by omega)]
      rw [show ((pre.length : Int)).toNat = pre.length from rfl, show (((pre.length + cur.length : Nat) : Int)).toNat = pre.length + cur.length from rfl, bs_extract]
      have e : pre ++ cur ++ x :: r = (pre ++ cur ++ [x]) ++ [] ++ r := by simp
      have ih := specSplit_l0 c r (pre ++ cur ++ [x]) [] (out ++ [bs cur]) k (by rw [← e]; exact hl) (by simp; omega) (by omega)
      rw [← e] at ih
      have e2 : ((pre ++ cur ++ [x]).length : Int) = ((pre.length + cur.length : Nat) : Int) + 1 := by simp; omega
      have e3 : (((pre ++ cur ++ [x]).length + ([] : List UInt8).length : Nat) : Int) = ((pre.length + cur.length : Nat) : Int) + 1 := by simp; omega
      rw [e2, e3] at ih
      rw [ih, spAcc, if_pos h]
      simp
    · rw [if_neg (by intro e; exact h (UInt8.toNat.inj (by omega))), w64 (x := ((pre.length + cur.length : Nat) : Int) + 1) (by omega) (by omega)]
      have e : pre ++ cur ++ x :: r = pre ++ (cur ++ [x]) ++ r := by simp
      have ih := specSplit_l0 c r pre (cur ++ [x]) out k (by rw [← e]; exact hl) (by omega) (by omega)
      rw [← e] at ih
      have e3 : ((pre.length + (cur ++ [x]).length : Nat) : Int) = ((pre.length + cur.length : Nat) : Int) + 1 := by simp; omega
      rw [e3] at ih
      rw [ih, spAcc, if_neg h]
theorem specSplit {l : List UInt8} {c : UInt8} {k : Nat} (hl : l.length ≤ 1048576) (hk : l.length + 2 ≤ k) : spec_SplitByte.f k (bs l) (c.toNat : Int) = some ((spAcc c [] l).map bs) := by
  have := specSplit_l0 c l [] [] [] k (by simpa using hl) (by simp; omega) hk
  rw [spec_SplitByte.f]
  exact this

/-- No piece holds the separator. -/
theorem sp_no (c : UInt8) : ∀ (r cur : List UInt8), c ∉ cur → ∀ x ∈ spAcc c cur r, c ∉ x
  | [], cur, h, x, hx => by
    obtain rfl := List.mem_singleton.mp hx
    exact h
  | y :: r, cur, h, x, hx => by
    rw [spAcc] at hx
    split at hx
    · rcases List.mem_cons.mp hx with rfl | hx
      · exact h
      · exact sp_no c r [] (fun m => by cases m) x hx
    · rename_i hy
      refine sp_no c r (cur ++ [y]) (fun m => ?_) x hx
      rcases List.mem_append.mp m with m | m
      · exact h m
      · exact hy (List.mem_singleton.mp m).symm
/-- A piece is its own one piece. -/
theorem sp_piece {c : UInt8} {l x : List UInt8} (hx : x ∈ spAcc c [] l) : spAcc c [] x = [x] := by
  rw [sp_none c x [] (sp_no c l [] (fun m => by cases m) x hx)]
  rfl

theorem sp_mem (c : UInt8) : ∀ (r cur : List UInt8), ∀ x ∈ spAcc c cur r, x.length ≤ cur.length + r.length
  | [], cur, x, hx => by
    obtain rfl := List.mem_singleton.mp hx
    omega
  | y :: r, cur, x, hx => by
    rw [spAcc] at hx
    rw [List.length_cons]
    split at hx
    · rcases List.mem_cons.mp hx with rfl | hx
      · omega
      · have := sp_mem c r [] x hx
        simp only [List.length_nil] at this
        omega
    · have := sp_mem c r (cur ++ [y]) x hx
      simp only [List.length_append, List.length_cons, List.length_nil] at this
      omega
theorem sp_ne (c : UInt8) : ∀ (r cur : List UInt8), spAcc c cur r ≠ []
  | [], cur => by simp [spAcc]
  | y :: r, cur => by
    rw [spAcc]
    split
    · simp
    · exact sp_ne c r _
theorem sp_join (c : UInt8) : ∀ (r cur : List UInt8), Go.Lib.join (spAcc c cur r) [c] = cur ++ r
  | [], cur => by rw [spAcc, Go.Lib.join_one, List.append_nil]
  | y :: r, cur => by
    rw [spAcc]
    split
    · rename_i h
      subst h
      have ih := sp_join y r []
      obtain ⟨z, zs, e⟩ := List.exists_cons_of_ne_nil (sp_ne y r [])
      rw [e, Go.Lib.join_cons] at ih
      rw [e, Go.Lib.join_cons, Go.Lib.joinTail, List.map_cons, List.flatten_cons, List.append_assoc]
      rw [Go.Lib.joinTail] at ih
      rw [ih]
      rfl
    · rw [sp_join c r (cur ++ [y])]
      simp

theorem size6 : ∀ v ∈ [(⟨#[]⟩ : ByteArray), (⟨#[97]⟩ : ByteArray), (⟨#[97, 44, 98]⟩ : ByteArray), (⟨#[44]⟩ : ByteArray), (⟨#[97, 44, 44, 98, 44]⟩ : ByteArray), (⟨#[97, 10, 98, 10]⟩ : ByteArray)], v.size ≤ 5 := by
  intro v hv
  simp only [List.mem_cons, List.not_mem_nil, or_false] at hv
  rcases hv with rfl | rfl | rfl | rfl | rfl | rfl <;> decide
theorem drawSplit_ok {s : List Int} {k : Nat} (hn : s.length ≤ 1099511627776) (hk : s.length < k) : ∃ (l : List UInt8) (c : UInt8), spec_DrawSplitByte.f k s = some (bs l, (c.toNat : Int)) ∧ l.length ≤ 5 := by
  obtain ⟨h0, e0⟩ := l1New_ok (k := k) hn hk
  obtain ⟨v, p1, h1, e1, hv, hp1⟩ := l1Pick_ok (h := h0) (l := [(⟨#[]⟩ : ByteArray), (⟨#[97]⟩ : ByteArray), (⟨#[97, 44, 98]⟩ : ByteArray), (⟨#[44]⟩ : ByteArray), (⟨#[97, 44, 44, 98, 44]⟩ : ByteArray), (⟨#[97, 10, 98, 10]⟩ : ByteArray)]) hn (Int.le_refl 0) (by simp) (by simp)
  obtain ⟨u, p2, h2, e2, hu, hp2⟩ := l1PickInt_ok (h := h1) (l := [44, 10]) hn hp1 (by simp) (by simp)
  have hs := size6 v hv
  refine ⟨v.data.toList, UInt8.ofNat (u % 256).toNat, ?_, hs⟩
  rw [spec_DrawSplitByte.f, e0, Option.bind_some]
  dsimp only
  rw [e1, Option.bind_some]
  dsimp only
  rw [e2, Option.bind_some, bs_of]
  have : (((UInt8.ofNat (u % 256).toNat).toNat : Nat) : Int) = u % 256 := by
    rw [UInt8.toNat_ofNat']
    omega
  rw [this]
theorem own_l0 (c : UInt8) : ∀ (r pre : List (List UInt8)) (k : Nat), pre.length + r.length ≤ 1000000 → (∀ x ∈ r, impl_SplitByte.f (bs x) (c.toNat : Int) = some [bs x]) → r.length < k →
    laws_FnSplit.l0 k (c.toNat : Int) ((pre ++ r).map bs) (pre.length : Int) = some true
  | [], pre, k, hl, h, hk => by
    obtain ⟨k, rfl⟩ : ∃ j, k = j + 1 := ⟨k - 1, by omega⟩
    rw [laws_FnSplit.l0, if_neg (by simp)]
  | x :: r, pre, k, hl, h, hk => by
    obtain ⟨k, rfl⟩ : ∃ j, k = j + 1 := ⟨k - 1, by omega⟩
    rw [List.length_cons] at hl hk
    have hrd : rdOf ByteArray.empty ((pre ++ x :: r).map bs) (pre.length : Int) = bs x := by
      have := rdOf_at (pre.map bs) (bs x) (r.map bs)
      simpa using this
    have ih := own_l0 c r (pre ++ [x]) k (by simp; omega) (fun y hy => h y (List.mem_cons_of_mem _ hy)) (by omega)
    rw [show ((pre ++ [x]).length : Int) = (pre.length : Int) + 1 by simp, show (pre ++ [x]) ++ r = pre ++ x :: r by simp] at ih
    rw [laws_FnSplit.l0, if_pos (by simp; omega), if_pos (by omega), hrd, h x (List.mem_cons_self ..), Option.bind_some, if_pos (by simp), w64 (by omega) (by omega)]
    exact ih
theorem FnSplit (l0 : List Int) (hm : l0.length ≤ maxLen) (hwf : ∀ x ∈ l0, (Lit.int .u8 x).wf = true) : ∃ k, laws_FnSplit.f k l0 = some true := by
  by_cases hbig : (l0.length : Int) > 1048576
  · exact ⟨0, by rw [laws_FnSplit.f, big_yes hbig]; rfl⟩
  have hn : l0.length ≤ 1099511627776 := by omega
  refine ⟨l0.length + 100, ?_⟩
  obtain ⟨l, c, e, hl⟩ := drawSplit_ok (k := l0.length + 100) hn (by omega)
  have hc : strOfNums (([((c.toNat : Nat) : Int)] : List Int)) = bs [c] := by
    rw [nums1 _ c.toNat_lt, UInt8.ofNat_toNat]
  have himp : ∀ x : List UInt8, x.length ≤ 1048576 → impl_SplitByte.f (bs x) (c.toNat : Int) = some ((spAcc c [] x).map bs) := fun x hx => by
    rw [impl_SplitByte.f, hc, implSplit hx, Option.bind_some]
  have h2 := himp l (by omega)
  have h1 : spec_SplitByte.f (l0.length + 100) (bs l) (c.toNat : Int) = some ((spAcc c [] l).map bs) := specSplit (by omega) (by omega)
  have hlen := sp_len c l []
  have hmem := sp_mem c l []
  have e4 : ((spAcc c [] l).map bs).map (·.data.toList) = spAcc c [] l := by
    rw [List.map_map]
    conv => rhs; rw [← List.map_id (spAcc c [] l)]
    exact List.map_congr_left fun a _ => by simp [bs]
  have hj := sp_join c l []
  rw [List.nil_append] at hj
  have h3 : impl_Join.f ((spAcc c [] l).map bs) (bs [c]) = some (bs l) := by
    rw [impl_Join.f, strings_Join.f, if_pos (by simp; omega), e4, show (bs [c]).data.toList = [c] by simp [bs], hj, if_pos (by omega), Option.bind_some]
    rfl
  have h4 : laws_FnSplit.l0 (l0.length + 99) (c.toNat : Int) ((spAcc c [] l).map bs) 0 = some true := by
    have := own_l0 c (spAcc c [] l) [] (l0.length + 99) (by simp; omega) (fun x hx => by
      have hx2 := hmem x hx
      simp only [List.length_nil] at hx2
      rw [himp x (by omega), sp_piece hx]
      rfl) (by omega)
    simpa using this
  rw [laws_FnSplit.f, big_no hbig, Option.bind_some, if_neg (by decide), e, Option.bind_some]
  dsimp only
  rw [h2, Option.bind_some, hc, h3, Option.bind_some, if_pos rfl, h1, Option.bind_some, show l0.length + 100 = (l0.length + 99) + 1 from rfl, laws_FnSplit.j0, if_neg (by simp)]
  exact h4

end Go.Proofs.YtkbomfpebhjaoaaDoor.Pure
