/- For every list of texts and every text between them the program's Join and the reference's return the same text, and the argument reads as before (the law's plain function; pure part here). No condition. -/
import Derived.Test.YtcegeleoicjciaaQFnExactJoinx1
import Derived.Lib.Join
namespace Go.Proofs.Ytcegeleoicjciaa.Pure
open Go.RowKit Go.Proofs.Ytcegeleoicjciaa.QFnExactJoin Go.Proofs.YtcegeleoicjciaaW.PrintWords Go.Proofs.YtcegeleoicjciaaW.PrintLast
set_option linter.unusedVariables false
set_option linter.unusedSimpArgs false

theorem w64 {x : Int} (h1 : -9223372036854775808 ≤ x) (h2 : x ≤ 9223372036854775807) : wrap64 x = x := by
  unfold wrap64; omega

theorem rd_nat (xs : List Int) (i : Nat) (h : i < xs.length) : rd xs (i : Int) = xs[i] := by
  unfold rd; rw [Int.toNat_natCast]; simp [List.getD, h]

theorem succ_of_pos {d k : Nat} (h : d < k) : ∃ m, k = m + 1 := ⟨k - 1, by omega⟩

theorem wf_ints {l : List Int} (h : ∀ x ∈ l, (Lit.int .i64 x).wf = true) : ∀ x ∈ l, -9223372036854775808 ≤ x ∧ x ≤ 9223372036854775807 := by
  intro x hx
  have := h x hx
  simp [Lit.wf, IntKind.min, IntKind.max, IntKind.bits, IntKind.signed] at this
  omega

theorem wf_int {x : Int} (h : (Lit.int .i64 x).wf = true) : -9223372036854775808 ≤ x ∧ x ≤ 9223372036854775807 := by
  simp [Lit.wf, IntKind.min, IntKind.max, IntKind.bits, IntKind.signed] at h
  omega

def bs (l : List UInt8) : ByteArray := ⟨l.toArray⟩

theorem bs_app (a b : List UInt8) : bs a ++ bs b = bs (a ++ b) := by
  apply ByteArray.ext
  simp [bs]

theorem bs_size (a : List UInt8) : (bs a).size = a.length := by simp [bs, ByteArray.size]

theorem bs_of (s : ByteArray) : bs s.data.toList = s := by
  apply ByteArray.ext
  simp [bs]

theorem bs_inj {a b : List UInt8} (h : bs a = bs b) : a = b := by
  have := congrArg ByteArray.data h
  simpa [bs] using this

theorem bs_toList (a : List UInt8) : (bs a).toList = a := by
  rw [Go.Lib.toList_data]
  simp [bs]

theorem nums1 (n : Nat) (h : n < 256) : strOfNums [(n : Int)] = bs [UInt8.ofNat n] := by
  apply ByteArray.ext
  simp [bs, strOfNums]

theorem bt_bs (l : List UInt8) (i : Nat) (h : i < l.length) : bt (bs l) (i : Int) = (l[i].toNat : Int) := by
  have h1 : ((i : Int)).toNat < (bs l).size := by rw [bs_size]; omega
  rw [← bt_at (bs l) i h1]
  simp [bs, ByteArray.getElem_eq_getElem_data]
theorem bs_data (l : List UInt8) : (bs l).data.toList = l := by simp [bs]
theorem rdOf_at (pre : List ByteArray) (x : ByteArray) (r : List ByteArray) : rdOf ByteArray.empty (pre ++ x :: r) (pre.length : Int) = x := by
  simp [rdOf]

def nb (l : List UInt8) : List Int := l.map fun b => (b.toNat : Int)
theorem nb_app (a b : List UInt8) : nb a ++ nb b = nb (a ++ b) := by simp [nb]
theorem nb_len (a : List UInt8) : (nb a).length = a.length := by simp [nb]
theorem bytesOf_bs (a : List UInt8) : bytesOf (bs a) = nb a := by simp [bytesOf, bs, nb]
theorem strOf_nb (a : List UInt8) : strOfNums (nb a) = bs a := by
  apply ByteArray.ext
  simp [bs, strOfNums, nb, Function.comp_def]
def tot : List (List UInt8) → Nat
  | [] => 0
  | x :: r => x.length + tot r
theorem tail_len (sep : List UInt8) : ∀ r : List (List UInt8), (Go.Lib.joinTail sep r).length = r.length * sep.length + tot r
  | [] => by simp [Go.Lib.joinTail, tot]
  | x :: r => by
    have ih := tail_len sep r
    rw [Go.Lib.joinTail] at ih ⊢
    rw [List.map_cons, List.flatten_cons, List.length_append, List.length_append, ih, tot, List.length_cons, Nat.add_mul]
    omega
theorem rdOf_bs (pre : List (List UInt8)) (x : List UInt8) (r : List (List UInt8)) : rdOf ByteArray.empty ((pre ++ x :: r).map bs) (pre.length : Int) = bs x := by
  have := rdOf_at (pre.map bs) (bs x) (r.map bs)
  simpa using this
theorem join_l0 (sep : List UInt8) : ∀ (r pre : List (List UInt8)) (acc : List UInt8) (k : Nat), pre ≠ [] → pre.length + r.length ≤ 1099511627776 → acc.length + (Go.Lib.joinTail sep r).length < 140737488355328 → r.length < k →
    spec_Join.l0 k ((pre ++ r).map bs) (bs sep) (nb acc) (pre.length : Int) = some (bs (acc ++ Go.Lib.joinTail sep r))
  | [], pre, acc, k, hp, hl, hb, hk => by
    obtain ⟨k, rfl⟩ : ∃ j, k = j + 1 := ⟨k - 1, by omega⟩
    rw [spec_Join.l0, if_neg (by simp), strOf_nb]
    simp [Go.Lib.joinTail]
  | x :: r, pre, acc, k, hp, hl, hb, hk => by
    obtain ⟨k, rfl⟩ : ∃ j, k = j + 1 := ⟨k - 1, by omega⟩
    have hpos := List.length_pos_iff.mpr hp
    have et : Go.Lib.joinTail sep (x :: r) = sep ++ x ++ Go.Lib.joinTail sep r := by simp [Go.Lib.joinTail]
    rw [et] at hb ⊢
    rw [List.length_cons] at hl hk
    simp only [List.length_append] at hb
    have ih := join_l0 sep r (pre ++ [x]) (acc ++ sep ++ x) k (by simp) (by simp; omega) (by simp only [List.length_append]; omega) (by omega)
    rw [show ((pre ++ [x]).length : Int) = (pre.length : Int) + 1 by simp, show (pre ++ [x]) ++ r = pre ++ x :: r by simp] at ih
    rw [spec_Join.l0, if_pos (by simp; omega), if_pos (by omega), bs_size, nb_len, if_pos (by omega), Option.bind_some, if_pos (by omega), rdOf_bs, bytesOf_bs, bytesOf_bs, bs_size, nb_app, nb_len, if_pos (by rw [List.length_append]; omega), nb_app,
      w64 (by omega) (by omega), ih]
    simp
theorem specJoin {xs : List (List UInt8)} {sep : List UInt8} {k : Nat} (hl : xs.length ≤ 1099511627776) (hb : xs.length * sep.length + tot xs < 140737488355328) (hk : xs.length < k) :
    spec_Join.f k (xs.map bs) (bs sep) = some (bs (Go.Lib.join xs sep)) := by
  obtain ⟨k, rfl⟩ : ∃ j, k = j + 1 := ⟨k - 1, by omega⟩
  rw [spec_Join.f]
  cases xs with
  | nil =>
    rw [spec_Join.l0, if_neg (by simp)]
    rfl
  | cons x r =>
    have ht := tail_len sep r
    rw [List.length_cons, tot, Nat.add_mul] at hb
    rw [List.length_cons] at hl hk
    have ih := join_l0 sep r [x] x k (by simp) (by simp; omega) (by omega) (by omega)
    have h0 := rdOf_bs [] x r
    rw [show (([] : List (List UInt8)).length : Int) = 0 from rfl, List.nil_append] at h0
    rw [spec_Join.l0, if_pos (by simp only [List.length_map, List.length_cons]; omega), if_neg (by omega), if_pos (by omega), h0, bs_size, if_pos (by simp only [List.length_nil]; omega), bytesOf_bs, List.nil_append, w64 (by omega) (by omega), Go.Lib.join_cons]
    exact ih

theorem szS_l0 : ∀ (r pre : List (List UInt8)) (x1 : Int) (k : Nat), 0 ≤ x1 → x1 ≤ 1048576 → pre.length + r.length ≤ 1048576 → (∀ x ∈ r, x.length ≤ 9223372036854775807) → r.length < k →
    ∃ s : Int, laws_szStringS.l0 k ((pre ++ r).map bs) x1 (pre.length : Int) = some s ∧ (s < 0 ∨ (0 ≤ s ∧ (tot r : Int) ≤ x1))
  | [], pre, x1, k, h0, h1, hl, hx, hk => by
    obtain ⟨k, rfl⟩ : ∃ j, k = j + 1 := ⟨k - 1, by omega⟩
    refine ⟨x1, by rw [laws_szStringS.l0, if_neg (by simp)], Or.inr ⟨h0, by simp only [tot]; omega⟩⟩
  | x :: r, pre, x1, k, h0, h1, hl, hx, hk => by
    obtain ⟨k, rfl⟩ : ∃ j, k = j + 1 := ⟨k - 1, by omega⟩
    rw [List.length_cons] at hl hk
    have hxl := hx x (List.mem_cons_self ..)
    rw [laws_szStringS.l0, if_pos (by simp; omega), if_pos (by omega), rdOf_bs, bs_size, w64 (x := x1 - (x.length : Int)) (by omega) (by omega)]
    by_cases hn : x1 - (x.length : Int) < 0
    · exact ⟨-1, by rw [if_pos hn], Or.inl (by omega)⟩
    · rw [if_neg hn, w64 (by omega) (by omega)]
      obtain ⟨s, hs, hs2⟩ := szS_l0 r (pre ++ [x]) (x1 - (x.length : Int)) k (by omega) (by omega) (by simp; omega) (fun y hy => hx y (List.mem_cons_of_mem _ hy)) (by omega)
      rw [show ((pre ++ [x]).length : Int) = (pre.length : Int) + 1 by simp, show (pre ++ [x]) ++ r = pre ++ x :: r by simp] at hs
      refine ⟨s, hs, ?_⟩
      rcases hs2 with h | ⟨h, h'⟩
      · exact Or.inl h
      · exact Or.inr ⟨h, by simp only [tot]; omega⟩
theorem toS_l0 : ∀ (r pre zs : List ByteArray) (k : Nat), zs.length = r.length → pre.length + r.length ≤ 1099511627776 → r.length < k → laws_toStringS.l0 k (pre ++ r) (pre ++ zs) (pre.length : Int) = some (pre ++ r)
  | [], pre, zs, k, hz, hl, hk => by
    obtain ⟨k, rfl⟩ : ∃ j, k = j + 1 := ⟨k - 1, by omega⟩
    obtain rfl := List.eq_nil_of_length_eq_zero hz
    rw [laws_toStringS.l0, if_neg (by simp)]
  | x :: r, pre, zs, k, hz, hl, hk => by
    obtain ⟨k, rfl⟩ : ∃ j, k = j + 1 := ⟨k - 1, by omega⟩
    rw [List.length_cons] at hz hl hk
    obtain ⟨z, zs, rfl⟩ := List.exists_cons_of_length_pos (show 0 < zs.length by omega)
    rw [List.length_cons] at hz
    have ih := toS_l0 r (pre ++ [x]) zs k (by omega) (by simp; omega) (by omega)
    rw [show ((pre ++ [x]).length : Int) = (pre.length : Int) + 1 by simp, show (pre ++ [x]) ++ r = pre ++ x :: r by simp, show (pre ++ [x]) ++ zs = pre ++ x :: zs by simp] at ih
    have hs : (pre ++ z :: zs).set ((pre.length : Int)).toNat x = pre ++ x :: zs := by
      rw [show ((pre.length : Int)).toNat = pre.length from rfl]
      simp
    rw [laws_toStringS.l0, if_pos (by simp; omega), if_pos (by omega), if_pos (by simp; omega), rdOf_at, hs, w64 (by omega) (by omega), ih]
theorem toS_eq {l : List ByteArray} {k : Nat} (hl : l.length ≤ 1048576) (hk : l.length < k) : laws_toStringS.f k l = some l := by
  rw [laws_toStringS.f, if_pos (by omega), if_pos (by omega)]
  exact toS_l0 l [] (List.replicate _ _) k (by simp) (by simp; omega) hk
theorem eqS_l0 : ∀ (r pre : List ByteArray) (k : Nat), pre.length + r.length ≤ 1000000000 → r.length < k → laws_eqStringS.l0 k (pre ++ r) (pre ++ r) (pre.length : Int) = some true
  | [], pre, k, hl, hk => by
    obtain ⟨k, rfl⟩ : ∃ j, k = j + 1 := ⟨k - 1, by omega⟩
    rw [laws_eqStringS.l0, if_neg (by simp)]
  | x :: r, pre, k, hl, hk => by
    obtain ⟨k, rfl⟩ : ∃ j, k = j + 1 := ⟨k - 1, by omega⟩
    rw [List.length_cons] at hl hk
    have ih := eqS_l0 r (pre ++ [x]) k (by simp; omega) (by omega)
    rw [laws_eqStringS.l0, if_pos (by simp; omega), if_pos (by omega), if_pos (by simp; omega), if_pos rfl, w64 (x := (pre.length : Int) + 1) (by omega) (by omega)]
    rw [show ((pre ++ [x]).length : Int) = (pre.length : Int) + 1 by simp, List.append_assoc] at ih
    exact ih
theorem bs_etas (x : List ByteArray) : (x.map (·.data.toList)).map bs = x := by
  rw [List.map_map]
  conv => rhs; rw [← List.map_id x]
  exact List.map_congr_left fun a _ => bs_of a
theorem FnExactJoin (l0 : List ByteArray) (a1 : ByteArray) (hm : l0.length ≤ maxLen) (hw : ∀ s ∈ l0, s.size ≤ maxLen) (hw1 : a1.size ≤ 140737488351232) : ∃ k, laws_FnExactJoin.f k l0 a1 = some true := by
  refine ⟨l0.length + 10, ?_⟩
  rw [laws_FnExactJoin.f]
  by_cases hs : (a1.size : Int) > 1048576
  · rw [if_pos hs]
  rw [if_neg hs, laws_szStringS.f]
  by_cases hbig : 1048576 < l0.length
  · have hh : l0.length ≤ 9223372036854775807 := by unfold maxLen at hm; omega
    rw [w64 (x := 1048576 - (l0.length : Int)) (by omega) (by omega), if_pos (by omega), Option.bind_some, if_pos (by omega)]
  · obtain ⟨xs, rfl⟩ : ∃ xs : List (List UInt8), l0 = xs.map bs := ⟨_, (bs_etas l0).symm⟩
    obtain ⟨sep, rfl⟩ : ∃ l, a1 = bs l := ⟨_, (bs_of a1).symm⟩
    rw [bs_size] at hs
    rw [List.length_map] at hbig ⊢
    have hx : ∀ x ∈ xs, x.length ≤ 9223372036854775807 := fun x hx => by
      have := hw (bs x) (List.mem_map_of_mem hx)
      rw [bs_size] at this
      unfold maxLen at this
      omega
    rw [w64 (x := 1048576 - (xs.length : Int)) (by omega) (by omega), if_neg (by omega)]
    obtain ⟨s, hsz, h2⟩ := szS_l0 xs [] (1048576 - (xs.length : Int)) (xs.length + 10) (by omega) (by omega) (by simp; omega) hx (by omega)
    rw [List.nil_append, show (([] : List (List UInt8)).length : Int) = 0 from rfl] at hsz
    rw [hsz, Option.bind_some]
    rcases h2 with h2 | ⟨h2, h3⟩
    · rw [if_pos h2]
    · have hmul : xs.length * sep.length ≤ 1048576 * 1048576 := Nat.mul_le_mul (by omega) (by omega)
      have e1 : laws_toStringS.f (xs.length + 10) (xs.map bs) = some (xs.map bs) := toS_eq (by simp; omega) (by simp)
      have e2 : spec_Join.f (xs.length + 10) (xs.map bs) (bs sep) = some (bs (Go.Lib.join xs sep)) := specJoin (by omega) (by omega) (by omega)
      have e4 : (xs.map bs).map (·.data.toList) = xs := by
        rw [List.map_map]
        conv => rhs; rw [← List.map_id xs]
        exact List.map_congr_left fun a _ => by simp [bs]
      have hjl : (Go.Lib.join xs sep).length ≤ 140737488355328 := by
        cases xs with
        | nil => simp [Go.Lib.join_nil]
        | cons x r =>
          rw [Go.Lib.join_cons, List.length_append, tail_len]
          rw [List.length_cons, tot, Nat.add_mul] at *
          omega
      have e3 : impl_Join.f (xs.map bs) (bs sep) = some (bs (Go.Lib.join xs sep)) := by
        rw [impl_Join.f, strings_Join.f, if_pos (by simp; omega), e4, show (bs sep).data.toList = sep by simp [bs], if_pos hjl, Option.bind_some]
        rfl
      have e5 : laws_eqStringS.f (xs.length + 10) (xs.map bs) (xs.map bs) = some true := by
        rw [laws_eqStringS.f, if_pos rfl]
        exact eqS_l0 (xs.map bs) [] _ (by simp; omega) (by simp)
      rw [if_neg (by omega), e1, Option.bind_some, e2, Option.bind_some, Option.bind_some, e3, Option.bind_some, if_pos rfl, Option.bind_some, e5, Option.bind_some, if_pos rfl]

end Go.Proofs.Ytcegeleoicjciaa.Pure
