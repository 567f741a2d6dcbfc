/- For every list of whole numbers and every row the program's RemoveBox and the reference's return the same, the list in memory of its own, and the argument reads as before (the law's plain function; pure part here). No condition. -/
import Derived.Test.YthjbkkjiggdcpaaQFnExactRemoveBoxx3
namespace Go.Proofs.Ythjbkkjiggdcpaa.Pure
open Go.RowKit Go.Proofs.Ythjbkkjiggdcpaa.QFnExactRemoveBox Go.Proofs.YthjbkkjiggdcpaaW.PrintWords Go.Proofs.YthjbkkjiggdcpaaW.PrintLast
set_option linter.unusedVariables false
set_option linter.unusedSimpArgs false

theorem w64 {x : Int} (h1 : -9223372036854775808 ≤ x) (h2 : x ≤ 9223372036854775807) : wrap64 x = x := by
  unfold wrap64; omega

theorem rd_nat (xs : List Int) (i : Nat) (h : i < xs.length) : rd xs (i : Int) = xs[i] := by
  unfold rd; rw [Int.toNat_natCast]; simp [List.getD, h]

theorem succ_of_pos {d k : Nat} (h : d < k) : ∃ m, k = m + 1 := ⟨k - 1, by omega⟩

theorem wf_ints {l : List Int} (h : ∀ x ∈ l, (Lit.int .i64 x).wf = true) : ∀ x ∈ l, -9223372036854775808 ≤ x ∧ x ≤ 9223372036854775807 := by
  intro x hx
  have := h x hx
  simp [Lit.wf, IntKind.min, IntKind.max, IntKind.bits, IntKind.signed] at this
  omega

theorem wf_int {x : Int} (h : (Lit.int .i64 x).wf = true) : -9223372036854775808 ≤ x ∧ x ≤ 9223372036854775807 := by
  simp [Lit.wf, IntKind.min, IntKind.max, IntKind.bits, IntKind.signed] at h
  omega

theorem toIntS_l0 (xs : List Int) (hn : xs.length ≤ 1099511627776) : ∀ (d k i : Nat) (ys : List Int), i + d = xs.length → ys.length = xs.length → (∀ j, j < i → ys[j]? = xs[j]?) → d < k → laws_toIntS.l0 k xs ys (i : Int) = some xs := by
  intro d
  induction d with
  | zero =>
    intro k i ys hi hl ht hk
    obtain ⟨k, rfl⟩ := succ_of_pos hk
    rw [laws_toIntS.l0, if_neg (by omega)]
    congr 1
    refine List.ext_getElem? fun j => ?_
    by_cases hj : j < i
    · exact ht j hj
    · rw [List.getElem?_eq_none (by omega), List.getElem?_eq_none (by omega)]
  | succ d ih =>
    intro k i ys hi hl ht hk
    obtain ⟨k, rfl⟩ := succ_of_pos hk
    rw [laws_toIntS.l0, if_pos (by omega), if_pos (by omega), if_pos (by omega), w64 (by omega) (by omega), rd_nat _ _ (by omega), Int.toNat_natCast]
    refine ih k (i + 1) (ys.set i xs[i]) (by omega) (by simp [hl]) (fun j hj => ?_) (by omega)
    rw [List.getElem?_set]
    by_cases hij : i = j
    · subst hij
      rw [if_pos rfl, if_pos (by omega), List.getElem?_eq_getElem]
    · rw [if_neg hij]
      exact ht j (by omega)

theorem toIntS_eq {k : Nat} {xs : List Int} (hn : xs.length ≤ 1099511627776) (hk : xs.length < k) : laws_toIntS.f k xs = some xs := by
  rw [laws_toIntS.f, if_pos (by omega), if_pos (by omega)]
  exact toIntS_l0 xs hn xs.length k 0 _ (by omega) (by simp) (fun j hj => by omega) hk

theorem eqIntS_l0 (xs ys : List Int) (hn : xs.length ≤ 1099511627776) (hl : xs.length = ys.length) : ∀ (d k i : Nat), i + d = xs.length → d < k → laws_eqIntS.l0 k xs ys (i : Int) = some (decide (xs.drop i = ys.drop i)) := by
  intro d
  induction d with
  | zero =>
    intro k i hi hk
    obtain ⟨k, rfl⟩ := succ_of_pos hk
    rw [laws_eqIntS.l0, if_neg (by omega), List.drop_of_length_le (by omega), List.drop_of_length_le (by omega)]
    rfl
  | succ d ih =>
    intro k i hi hk
    obtain ⟨k, rfl⟩ := succ_of_pos hk
    rw [laws_eqIntS.l0, if_pos (by omega), if_pos (by omega), if_pos (by omega), w64 (by omega) (by omega), rd_nat xs i (by omega), rd_nat ys i (by omega), List.drop_eq_getElem_cons (l := xs) (i := i) (by omega), List.drop_eq_getElem_cons (l := ys) (i := i) (by omega)]
    by_cases h : xs[i] = ys[i]
    · rw [if_pos h, h]
      simp only [List.cons.injEq, true_and]
      exact ih k (i + 1) (by omega) (by omega)
    · rw [if_neg h]
      simp only [List.cons.injEq, h, false_and, decide_false]

theorem eqIntS_eq {k : Nat} {xs ys : List Int} (hn : xs.length ≤ 1099511627776) (hk : xs.length < k) : laws_eqIntS.f k xs ys = some (decide (xs = ys)) := by
  rw [laws_eqIntS.f]
  by_cases h : xs.length = ys.length
  · rw [if_pos (by omega)]
    exact eqIntS_l0 xs ys hn h xs.length k 0 (by omega) hk
  · rw [if_neg (by omega)]
    have : xs ≠ ys := fun e => h (by rw [e])
    simp [this]

theorem eqIntS_self {k : Nat} {xs : List Int} (hn : xs.length ≤ 1099511627776) (hk : xs.length < k) : laws_eqIntS.f k xs xs = some true := by
  rw [eqIntS_eq hn hk]; simp

def isPfrom : Int → Int → List Int → Bool
  | _, _, [] => true
  | prev, sum, x :: xs => decide (1 ≤ x) && decide (x ≤ 9) && decide (x ≤ prev) && decide (sum + x ≤ 9) && isPfrom x (sum + x) xs

def isP (p : List Int) : Bool := isPfrom 9 0 p

def prevAt (xs : List Int) (i : Nat) : Int := if i = 0 then 9 else rd xs ((i : Int) - 1)

theorem prevAt_succ (xs : List Int) (i : Nat) (h : i < xs.length) : prevAt xs (i + 1) = xs[i] := by
  unfold prevAt
  rw [if_neg (by omega), show ((i + 1 : Nat) : Int) - 1 = (i : Int) by omega, rd_nat _ _ h]

theorem isPfrom_step (xs : List Int) (i : Nat) (sum : Int) (h : i < xs.length) :
    isPfrom (prevAt xs i) sum (xs.drop i) = (decide (1 ≤ xs[i]) && decide (xs[i] ≤ 9) && decide (xs[i] ≤ prevAt xs i) && decide (sum + xs[i] ≤ 9) && isPfrom (prevAt xs (i + 1)) (sum + xs[i]) (xs.drop (i + 1))) := by
  rw [List.drop_eq_getElem_cons h, isPfrom, prevAt_succ xs i h]

def genP : Nat → Nat → Nat → List (List Int)
  | 0, _, _ => [[]]
  | f + 1, m, b => [] :: (List.range (min m b)).flatMap fun a => (genP f (a + 1) (b - (a + 1))).map (((a + 1 : Nat) : Int) :: ·)

theorem mem_genP : ∀ (xs : List Int) (f m b : Nat) (prev sum : Int), isPfrom prev sum xs = true → prev ≤ m → 9 - sum ≤ b → b ≤ f → sum ≤ 9 → xs ∈ genP f m b
  | [], 0, _, _, _, _, _, _, _, _, _ => by simp [genP]
  | [], f + 1, _, _, _, _, _, _, _, _, _ => by simp [genP]
  | x :: xs, 0, m, b, prev, sum, h, hm, hb, hf, hs => by
    simp [isPfrom] at h
    omega
  | x :: xs, f + 1, m, b, prev, sum, h, hm, hb, hf, hs => by
    simp only [isPfrom, Bool.and_eq_true, decide_eq_true_eq] at h
    obtain ⟨⟨⟨⟨h1, h2⟩, h3⟩, h4⟩, h5⟩ := h
    simp only [genP, List.mem_cons, List.mem_flatMap, List.mem_map, List.mem_range]
    refine .inr ⟨(x - 1).toNat, by omega, xs, ?_, ?_⟩
    · exact mem_genP xs f _ _ x (sum + x) h5 (by omega) (by omega) (by omega) (by omega)
    · congr 1
      omega

theorem isP_mem {p : List Int} (h : isP p = true) : p ∈ genP 9 9 9 := mem_genP p 9 9 9 9 0 h (by omega) (by omega) (by omega) (by omega)

theorem all_at {α : Type} {l : List α} {f : α → Bool} (h : l.all f = true) {x : α} (hx : x ∈ l) : f x = true := List.all_eq_true.1 h x hx

theorem genP_len : (genP 9 9 9).all (fun p => decide (p.length ≤ 9)) = true := by decide +kernel

theorem isP_len {p : List Int} (h : isP p = true) : p.length ≤ 9 := of_decide_eq_true (all_at genP_len (isP_mem h))

theorem genP_rng : (genP 9 9 9).all (fun p => p.all fun x => decide (1 ≤ x) && decide (x ≤ 9)) = true := by decide +kernel

theorem rd_mem {l : List Int} {i : Int} (h0 : 0 ≤ i) (h1 : i < l.length) : rd l i ∈ l := by
  obtain ⟨n, rfl⟩ := Int.eq_ofNat_of_zero_le h0
  rw [rd_nat l n (by omega)]
  exact List.getElem_mem _

theorem isP_rd {l : List Int} {i : Int} (h : isP l = true) (h0 : 0 ≤ i) (h1 : i < l.length) : 1 ≤ rd l i ∧ rd l i ≤ 9 := by
  have := all_at (all_at genP_rng (isP_mem h)) (rd_mem h0 h1)
  simpa using this

theorem specIsP_l0 (xs : List Int) (hn : xs.length ≤ 1099511627776) : ∀ (d k i : Nat) (sum : Int), i + d = xs.length → 0 ≤ sum → sum ≤ 9 → 2 * d < k → spec_IsPartition.l0 k xs sum (i : Int) = some (isPfrom (prevAt xs i) sum (xs.drop i)) := by
  intro d
  induction d with
  | zero =>
    intro k i sum hi _ _ hk
    obtain ⟨k, rfl⟩ := succ_of_pos hk
    rw [spec_IsPartition.l0, if_neg (by omega), List.drop_of_length_le (by omega)]
    rfl
  | succ d ih =>
    intro k i sum hi hs0 hs9 hk
    obtain ⟨k, rfl⟩ : ∃ m, k = m + 2 := ⟨k - 2, by omega⟩
    have hil : i < xs.length := by omega
    rw [spec_IsPartition.l0, if_pos (by omega), if_pos (by omega), rd_nat _ _ hil, isPfrom_step xs i sum hil, spec_l1In.f]
    by_cases h1 : xs[i] ≥ 1
    · rw [if_pos h1]
      by_cases h2 : xs[i] ≤ 9
      · have e1 : decide (1 ≤ xs[i]) = true := by simp; omega
        simp only [h2, e1, decide_true, Option.bind_some, Bool.true_and]
        rw [if_pos trivial]
        have hj : ∀ b : Bool, b = decide (xs[i] ≤ prevAt xs i) → spec_IsPartition.j1 (k + 1) xs sum (i : Int) (!b) = some (b && decide (sum + xs[i] ≤ 9) && isPfrom (prevAt xs (i + 1)) (sum + xs[i]) (xs.drop (i + 1))) := by
          intro b hb
          rw [spec_IsPartition.j1]
          cases b with
          | false => simp
          | true =>
            rw [if_neg (by simp), if_pos (by omega), if_pos (by omega), rd_nat _ _ hil, w64 (by omega) (by omega), w64 (by omega) (by omega)]
            by_cases h4 : sum + xs[i] > 9
            · rw [if_pos h4]
              have : ¬ (sum + xs[i] ≤ 9) := by omega
              simp [this]
            · rw [if_neg h4]
              have h5 : sum + xs[i] ≤ 9 := by omega
              have := ih k (i + 1) (sum + xs[i]) (by omega) (by omega) h5 (by omega)
              simp only [h5, decide_true, Bool.true_and]
              exact this
        by_cases h0 : (i : Int) > 0
        · rw [if_pos h0, w64 (by omega) (by omega), if_pos (by omega), if_pos (by omega)]
          have e : decide (xs[i] > rd xs ((i : Int) - 1)) = !(decide (xs[i] ≤ prevAt xs i)) := by
            unfold prevAt
            rw [if_neg (by omega)]
            by_cases hc : xs[i] ≤ rd xs ((i : Int) - 1)
            · have : ¬ (xs[i] > rd xs ((i : Int) - 1)) := by omega
              simp [hc]
            · have : xs[i] > rd xs ((i : Int) - 1) := by omega
              simp [hc, this]
          rw [e]
          exact hj _ rfl
        · rw [if_neg h0]
          have e : decide (xs[i] ≤ prevAt xs i) = true := by
            unfold prevAt
            rw [if_pos (by omega)]
            simpa using h2
          have := hj true e.symm
          rw [e]
          exact this
      · simp [h2]
        rfl
    · rw [if_neg h1]
      have : ¬ (1 ≤ xs[i]) := by omega
      simp [this]
      rfl

theorem specIsP_eq {k : Nat} {xs : List Int} (hn : xs.length ≤ 1099511627776) (hk : 2 * xs.length < k) : spec_IsPartition.f k xs = some (isP xs) :=
  specIsP_l0 xs hn xs.length k 0 0 (by omega) (by omega) (by omega) hk

theorem implIsP_l0 (xs : List Int) (hn : xs.length ≤ 1099511627776) : ∀ (d k i : Nat) (sum : Int), i + d = xs.length → 0 ≤ sum → sum ≤ 9 → 2 * d < k → impl_IsPartition.l0 k xs sum xs (xs.length : Int) (i : Int) = some (isPfrom (prevAt xs i) sum (xs.drop i)) := by
  intro d
  induction d with
  | zero =>
    intro k i sum hi _ _ hk
    obtain ⟨k, rfl⟩ := succ_of_pos hk
    rw [impl_IsPartition.l0, if_neg (by omega), List.drop_of_length_le (by omega)]
    rfl
  | succ d ih =>
    intro k i sum hi hs0 hs9 hk
    obtain ⟨k, rfl⟩ : ∃ m, k = m + 2 := ⟨k - 2, by omega⟩
    have hil : i < xs.length := by omega
    rw [impl_IsPartition.l0, if_pos (by omega), if_pos (by omega), if_pos (by omega), rd_nat _ _ hil, isPfrom_step xs i sum hil, impl_within.f]
    by_cases h1 : 1 ≤ xs[i]
    · rw [if_pos h1]
      by_cases h2 : xs[i] ≤ 9
      · simp only [h2, h1, decide_true, Option.bind_some, Bool.true_and]
        rw [if_pos trivial]
        have hj : ∀ b : Bool, b = decide (xs[i] ≤ prevAt xs i) → impl_IsPartition.j1 (k + 1) xs sum xs[i] xs (xs.length : Int) (i : Int) (!b) = some (b && decide (sum + xs[i] ≤ 9) && isPfrom (prevAt xs (i + 1)) (sum + xs[i]) (xs.drop (i + 1))) := by
          intro b hb
          rw [impl_IsPartition.j1]
          cases b with
          | false => simp
          | true =>
            rw [if_neg (by simp), w64 (by omega) (by omega), w64 (by omega) (by omega)]
            by_cases h4 : sum + xs[i] > 9
            · rw [if_pos h4]
              have : ¬ (sum + xs[i] ≤ 9) := by omega
              simp [this]
            · rw [if_neg h4]
              have h5 : sum + xs[i] ≤ 9 := by omega
              have := ih k (i + 1) (sum + xs[i]) (by omega) (by omega) h5 (by omega)
              simp only [h5, decide_true, Bool.true_and]
              exact this
        by_cases h0 : (i : Int) > 0
        · rw [if_pos h0, w64 (by omega) (by omega), if_pos (by omega), if_pos (by omega)]
          have e : decide (xs[i] > rd xs ((i : Int) - 1)) = !(decide (xs[i] ≤ prevAt xs i)) := by
            unfold prevAt
            rw [if_neg (by omega)]
            by_cases hc : xs[i] ≤ rd xs ((i : Int) - 1)
            · have : ¬ (xs[i] > rd xs ((i : Int) - 1)) := by omega
              simp [hc]
            · have : xs[i] > rd xs ((i : Int) - 1) := by omega
              simp [hc, this]
          rw [e]
          exact hj _ rfl
        · rw [if_neg h0]
          have e : decide (xs[i] ≤ prevAt xs i) = true := by
            unfold prevAt
            rw [if_pos (by omega)]
            simpa using h2
          have := hj true e.symm
          rw [e]
          exact this
      · simp [h2]
        rfl
    · rw [if_neg h1]
      simp [h1]
      rfl

theorem implIsP_eq {k : Nat} {xs : List Int} (hn : xs.length ≤ 1099511627776) (hk : 2 * xs.length < k) : impl_IsPartition.f k xs = some (isP xs) :=
  implIsP_l0 xs hn xs.length k 0 0 (by omega) (by omega) (by omega) hk

def markL : Int → List Int → List Int
  | _, [] => []
  | m, _ :: xs => m :: markL (m + 1) xs

theorem markL_len : ∀ (xs : List Int) (m : Int), (markL m xs).length = xs.length
  | [], _ => rfl
  | _ :: xs, m => by simp [markL, markL_len xs]

theorem markIntS_l0 : ∀ (d k i : Nat) (xs : List Int) (m : Int), i + d = xs.length → d < k → 0 ≤ m → m + d ≤ 4611686018427387904 → xs.length ≤ 1099511627776 →
    laws_markIntS.l0 k xs m (i : Int) = some (m + d, xs.take i ++ markL m (xs.drop i)) := by
  intro d
  induction d with
  | zero =>
    intro k i xs m hi hk hm hb hn
    obtain ⟨k, rfl⟩ := succ_of_pos hk
    rw [laws_markIntS.l0, if_neg (by omega), List.drop_of_length_le (by omega), List.take_of_length_le (by omega)]
    simp [markL]
  | succ d ih =>
    intro k i xs m hi hk hm hb hn
    obtain ⟨k, rfl⟩ := succ_of_pos hk
    rw [laws_markIntS.l0, if_pos (by omega), if_pos (by omega), w64 (by omega) (by omega), w64 (by omega) (by omega), Int.toNat_natCast]
    have := ih k (i + 1) (xs.set i m) (m + 1) (by simp; omega) (by omega) (by omega) (by omega) (by simpa using hn)
    refine Eq.trans this ?_
    have e1 : (xs.set i m).take (i + 1) = xs.take i ++ [m] := by
      rw [List.take_succ_eq_append_getElem (by simp; omega)]
      simp [List.take_set_of_le]
    have e2 : (xs.set i m).drop (i + 1) = xs.drop (i + 1) := by
      rw [List.drop_set_of_lt (by omega)]
    rw [e1, e2, List.drop_eq_getElem_cons (l := xs) (i := i) (by omega), markL]
    congr 2
    · omega
    · simp

theorem markIntS_eq {k : Nat} {xs : List Int} {m : Int} (hn : xs.length ≤ 1099511627776) (hk : xs.length < k) (h0 : 0 ≤ m) (h1 : m ≤ 2305843009213693952) : laws_markIntS.f k xs m = some (m + xs.length, markL m xs) := by
  have := markIntS_l0 xs.length k 0 xs m (by omega) hk h0 (by omega) hn
  rw [laws_markIntS.f]
  simpa using this

theorem heldIntS_l0 : ∀ (xs : List Int) (k : Nat) (ys : List Int) (m : Int), xs.length < k → 0 ≤ m → m + xs.length ≤ 4611686018427387904 → ys.length + xs.length ≤ 1099511627776 →
    laws_heldIntS.l0 k (ys ++ markL m xs) m (ys.length : Int) = some (m + xs.length) := by
  intro xs
  induction xs with
  | nil =>
    intro k ys m hk hm hb hn
    obtain ⟨k, rfl⟩ := succ_of_pos hk
    rw [laws_heldIntS.l0, if_neg (by simp [markL])]
    simp
  | cons x xs ih =>
    intro k ys m hk hm hb hn
    obtain ⟨k, rfl⟩ := succ_of_pos hk
    simp only [List.length_cons] at hk hb hn
    have hl : (ys ++ markL m (x :: xs)).length = ys.length + (xs.length + 1) := by simp [markL_len]
    rw [laws_heldIntS.l0, if_pos (by omega), if_pos (by omega), rd_nat _ _ (by omega), w64 (by omega) (by omega), w64 (by omega) (by omega)]
    have e : (ys ++ markL m (x :: xs))[ys.length]'(by omega) = m := by simp [markL]
    rw [if_pos e]
    have := ih k (ys ++ [m]) (m + 1) (by omega) (by omega) (by omega) (by simp; omega)
    simp only [List.append_assoc, List.singleton_append, List.length_append, List.length_cons, List.length_nil] at this
    refine Eq.trans ?_ (this.trans ?_)
    · rfl
    · congr 1
      simp only [List.length_cons]
      omega

theorem heldIntS_eq {k : Nat} {xs : List Int} {m : Int} (hn : xs.length ≤ 1099511627776) (hk : xs.length < k) (h0 : 0 ≤ m) (h1 : m ≤ 2305843009213693952) : laws_heldIntS.f k (markL m xs) m = some (m + xs.length) := by
  have := heldIntS_l0 xs k [] m hk h0 (by omega) (by simpa using hn)
  simpa [laws_heldIntS.f] using this

theorem index_l0 (l : List Int) (x : Int) (hn : l.length ≤ 1099511627776) : ∀ (d k i : Nat), i + d = l.length → d < k → ∃ r, slices_Index_int_int.l0 k l x (l.length : Int) (i : Int) = some r ∧ decide (r ≥ 0) = (l.drop i).contains x := by
  intro d
  induction d with
  | zero =>
    intro k i hi hk
    obtain ⟨k, rfl⟩ := succ_of_pos hk
    exact ⟨-1, by rw [slices_Index_int_int.l0, if_neg (by omega)], by rw [List.drop_of_length_le (by omega)]; rfl⟩
  | succ d ih =>
    intro k i hi hk
    obtain ⟨k, rfl⟩ := succ_of_pos hk
    have hil : i < l.length := by omega
    rw [slices_Index_int_int.l0, if_pos (by omega), if_pos (by omega), if_pos (by omega), rd_nat l i hil, w64 (by omega) (by omega), List.drop_eq_getElem_cons hil, List.contains_cons]
    by_cases h : x = l[i]
    · exact ⟨(i : Int), by rw [if_pos h], by rw [h]; simp⟩
    · obtain ⟨r, h1, h2⟩ := ih k (i + 1) (by omega) (by omega)
      exact ⟨r, by rw [if_neg h]; exact h1, by rw [h2]; simp [h]⟩

theorem contains_eq {l : List Int} {x : Int} {k : Nat} (hn : l.length ≤ 1099511627776) (hk : l.length < k) : slices_Contains_int_int.f k l x = some (l.contains x) := by
  obtain ⟨r, h1, h2⟩ := index_l0 l x hn l.length k 0 (by omega) hk
  have h1' : slices_Index_int_int.f k l x = some r := h1
  rw [slices_Contains_int_int.f, h1', Option.bind_some, h2, List.drop_zero]

theorem leo_up {α β : Type} {f : Nat → Option α} (h : ∀ k, LeO (f k) (f (k + 1))) {k : Nat} {r : α} (e : f k = some r) : ∀ d, f (k + d) = some r
  | 0 => e
  | d + 1 => h (k + d) r (leo_up (β := β) h e d)

theorem removebox_parts : (genP 9 9 9).all (fun p => (List.range 11).all fun n => laws_FnExactRemoveBox.f 80 p (n : Int) == some true) = true := by decide +kernel
theorem corners_parts : (genP 9 9 9).all (fun p => decide (impl_Corners.f 60 p = some ((impl_Corners.f 60 p).getD [])) && ((impl_Corners.f 60 p).getD []).all (fun x => decide (0 ≤ x ∧ x ≤ 10)) && decide (((impl_Corners.f 60 p).getD []).length ≤ 10)) = true := by decide +kernel
theorem corners_ok {p : List Int} {k : Nat} (hn : p.length ≤ 1099511627776) (hk : 2 * p.length + 60 < k) : ∃ cs, impl_Corners.f k p = some cs ∧ (∀ x ∈ cs, 0 ≤ x ∧ x ≤ 10) ∧ cs.length ≤ 10 ∧ (isP p = false → cs = []) := by
  by_cases h : isP p = true
  · have hp := all_at corners_parts (isP_mem h)
    simp only [Bool.and_eq_true, decide_eq_true_eq, List.all_eq_true] at hp
    obtain ⟨⟨h1, h2⟩, h3⟩ := hp
    obtain ⟨d, rfl⟩ : ∃ d, k = 60 + d := ⟨k - 60, by omega⟩
    exact ⟨_, leo_up (β := Unit) (f := fun k => impl_Corners.f k p) (fun k => impl_Corners.mono p k) h1 d, h2, h3, fun h' => by rw [h] at h'; cases h'⟩
  · refine ⟨[], ?_, by simp, by simp, fun _ => rfl⟩
    rw [impl_Corners.f, implIsP_eq hn (by omega), Option.bind_some, if_neg h]
theorem FnExactRemoveBox (l0 : List Int) (a1 : Int) (hm : l0.length ≤ maxLen) (hwf : ∀ x ∈ l0, (Lit.int .i64 x).wf = true) (hw1 : (Lit.int .i64 a1).wf = true) : ∃ k, laws_FnExactRemoveBox.f k l0 a1 = some true := by
  by_cases hbig : (l0.length : Int) > 1048576
  · exact ⟨0, by rw [laws_FnExactRemoveBox.f, if_pos hbig]⟩
  have hn : l0.length ≤ 1099511627776 := by omega
  by_cases hc : isP l0 = true ∧ 0 ≤ a1 ∧ a1 ≤ 10
  · obtain ⟨h0, h1, h2⟩ := hc
    obtain ⟨n, rfl⟩ := Int.eq_ofNat_of_zero_le h1
    exact ⟨80, by simpa using all_at (all_at removebox_parts (isP_mem h0)) (List.mem_range.2 (show n < 11 by omega))⟩
  · refine ⟨2 * l0.length + 130, ?_⟩
    have hl : isP l0 = true → l0.length ≤ 9 := fun h => isP_len h
    have hs : ∀ k, spec_RemoveBox.j0 (k + 1) l0 a1 true = some ([], false) := fun k => by rw [spec_RemoveBox.j0]; rfl
    have e1 : ∀ k, l0.length < k → laws_toIntS.f k l0 = some l0 := fun k hk => toIntS_eq hn hk
    have e2 : ∀ k, 2 * l0.length + 1 < k → spec_RemoveBox.f k l0 a1 = some ([], false) := fun k hk => by
      obtain ⟨k, rfl⟩ := succ_of_pos hk
      rw [spec_RemoveBox.f, specIsP_eq hn (by omega)]
      simp only [Option.bind_some]
      by_cases h0 : isP l0 = true
      · rw [if_pos h0]
        by_cases h1 : a1 < 0
        · rw [if_pos h1]; exact hs k
        · have h2 : a1 ≥ (l0.length : Int) := by
            have := hl h0
            have h3 : ¬ (a1 ≤ 10) := fun h3 => hc ⟨h0, by omega, h3⟩
            omega
          rw [if_neg h1, if_pos h2]; exact hs k
      · rw [if_neg h0]; exact hs k
    have e3 : ∀ k, 2 * l0.length + 80 < k → impl_RemoveBox.f k l0 a1 = some ([], false) := fun k hk => by
      obtain ⟨cs, h1, h2, h3, h4⟩ := corners_ok (k := k) hn (by omega)
      have hnot : a1 ∉ cs := fun hmem => by
        have hr := h2 a1 hmem
        cases hp : isP l0 with
        | true => exact hc ⟨hp, hr.1, hr.2⟩
        | false => rw [h4 hp] at hmem; cases hmem
      rw [impl_RemoveBox.f, h1, Option.bind_some, contains_eq (by omega) (by omega), Option.bind_some]
      have : cs.contains a1 = false := by simpa using hnot
      rw [this, if_neg (by decide)]
    have e4 : ∀ k, 0 < k → laws_eqIntS.f k ([] : List Int) [] = some true := fun k hk => eqIntS_self (by simp) (by simpa using hk)
    have e5 : ∀ k, l0.length < k → laws_eqIntS.f k l0 l0 = some true := fun k hk => eqIntS_self hn hk
    have e6 : ∀ k, 0 < k → laws_markIntS.f k ([] : List Int) 1 = some (1, []) := fun k hk => markIntS_eq (xs := []) (by simp) (by simpa using hk) (by omega) (by omega)
    have e7 : ∀ k, 0 < k → laws_heldIntS.f k ([] : List Int) 1 = some 1 := fun k hk => heldIntS_eq (xs := []) (by simp) (by simpa using hk) (by omega) (by omega)
    have e8 : ∀ k, l0.length < k → laws_markIntS.f k l0 1 = some (1 + (l0.length : Int), markL 1 l0) := fun k hk => markIntS_eq hn hk (by omega) (by omega)
    have e9 : ¬ (1 + (l0.length : Int) < 0) := by omega
    have hb : ∀ b : Bool, (b != b) = false := by decide
    have ht : ¬ (false = true) := by decide
    rw [laws_FnExactRemoveBox.f, if_neg hbig]
    simp (disch := omega) only [e1, e2, e3, e4, Option.bind_some, if_true]
    rw [show 2 * l0.length + 130 = (2 * l0.length + 129) + 1 from rfl, laws_FnExactRemoveBox.j0, hb, if_neg ht]
    simp (disch := omega) only [e1, e4, e5, e8, Option.bind_some, if_true]
    rw [if_neg e9, show 2 * l0.length + 129 = (2 * l0.length + 128) + 1 from rfl, laws_FnExactRemoveBox.j1, if_neg ht]
    simp (disch := omega) only [e1, e3, e4, e6, e7, hb, Option.bind_some, if_true, if_neg (show ¬ ((1 : Int) < 0) by decide)]
    rw [show 2 * l0.length + 128 = (2 * l0.length + 127) + 1 from rfl, laws_FnExactRemoveBox.j2, if_neg ht]
    simp (disch := omega) only [e7, Option.bind_some, if_true, if_neg (show ¬ ((1 : Int) < 0) by decide)]

end Go.Proofs.Ythjbkkjiggdcpaa.Pure
