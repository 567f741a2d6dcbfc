/- For every list of whole numbers the program's HookLengths and the reference's return the same lists, in memory of their own, and the argument reads as before (the facts that the law's walk asks for; pure part here). No condition. -/
import Derived.Test.YthjbkkjiggdcpaaVFnExactHookLengths
namespace Go.Proofs.Ythjbkkjiggdcpaa.Pure
open Go.RowKit Go.Proofs.Ythjbkkjiggdcpaa.QFnExactHookLengths Go.Proofs.YthjbkkjiggdcpaaW.PrintWords Go.Proofs.YthjbkkjiggdcpaaW.PrintLast
set_option linter.unusedVariables false
set_option linter.unusedSimpArgs false

theorem w64 {x : Int} (h1 : -9223372036854775808 ≤ x) (h2 : x ≤ 9223372036854775807) : wrap64 x = x := by
  unfold wrap64; omega

theorem rd_nat (xs : List Int) (i : Nat) (h : i < xs.length) : rd xs (i : Int) = xs[i] := by
  unfold rd; rw [Int.toNat_natCast]; simp [List.getD, h]

theorem succ_of_pos {d k : Nat} (h : d < k) : ∃ m, k = m + 1 := ⟨k - 1, by omega⟩

theorem wf_ints {l : List Int} (h : ∀ x ∈ l, (Lit.int .i64 x).wf = true) : ∀ x ∈ l, -9223372036854775808 ≤ x ∧ x ≤ 9223372036854775807 := by
  intro x hx
  have := h x hx
  simp [Lit.wf, IntKind.min, IntKind.max, IntKind.bits, IntKind.signed] at this
  omega

theorem wf_int {x : Int} (h : (Lit.int .i64 x).wf = true) : -9223372036854775808 ≤ x ∧ x ≤ 9223372036854775807 := by
  simp [Lit.wf, IntKind.min, IntKind.max, IntKind.bits, IntKind.signed] at h
  omega

theorem toIntS_l0 (xs : List Int) (hn : xs.length ≤ 1099511627776) : ∀ (d k i : Nat) (ys : List Int), i + d = xs.length → ys.length = xs.length → (∀ j, j < i → ys[j]? = xs[j]?) → d < k → laws_toIntS.l0 k xs ys (i : Int) = some xs := by
  intro d
  induction d with
  | zero =>
    intro k i ys hi hl ht hk
    obtain ⟨k, rfl⟩ := succ_of_pos hk
    rw [laws_toIntS.l0, if_neg (by omega)]
    congr 1
    refine List.ext_getElem? fun j => ?_
    by_cases hj : j < i
    · exact ht j hj
    · rw [List.getElem?_eq_none (by omega), List.getElem?_eq_none (by omega)]
  | succ d ih =>
    intro k i ys hi hl ht hk
    obtain ⟨k, rfl⟩ := succ_of_pos hk
    rw [laws_toIntS.l0, if_pos (by omega), if_pos (by omega), if_pos (by omega), w64 (by omega) (by omega), rd_nat _ _ (by omega), Int.toNat_natCast]
    refine ih k (i + 1) (ys.set i xs[i]) (by omega) (by simp [hl]) (fun j hj => ?_) (by omega)
    rw [List.getElem?_set]
    by_cases hij : i = j
    · subst hij
      rw [if_pos rfl, if_pos (by omega), List.getElem?_eq_getElem]
    · rw [if_neg hij]
      exact ht j (by omega)

theorem toIntS_eq {k : Nat} {xs : List Int} (hn : xs.length ≤ 1099511627776) (hk : xs.length < k) : laws_toIntS.f k xs = some xs := by
  rw [laws_toIntS.f, if_pos (by omega), if_pos (by omega)]
  exact toIntS_l0 xs hn xs.length k 0 _ (by omega) (by simp) (fun j hj => by omega) hk

theorem eqIntS_l0 (xs ys : List Int) (hn : xs.length ≤ 1099511627776) (hl : xs.length = ys.length) : ∀ (d k i : Nat), i + d = xs.length → d < k → laws_eqIntS.l0 k xs ys (i : Int) = some (decide (xs.drop i = ys.drop i)) := by
  intro d
  induction d with
  | zero =>
    intro k i hi hk
    obtain ⟨k, rfl⟩ := succ_of_pos hk
    rw [laws_eqIntS.l0, if_neg (by omega), List.drop_of_length_le (by omega), List.drop_of_length_le (by omega)]
    rfl
  | succ d ih =>
    intro k i hi hk
    obtain ⟨k, rfl⟩ := succ_of_pos hk
    rw [laws_eqIntS.l0, if_pos (by omega), if_pos (by omega), if_pos (by omega), w64 (by omega) (by omega), rd_nat xs i (by omega), rd_nat ys i (by omega), List.drop_eq_getElem_cons (l := xs) (i := i) (by omega), List.drop_eq_getElem_cons (l := ys) (i := i) (by omega)]
    by_cases h : xs[i] = ys[i]
    · rw [if_pos h, h]
      simp only [List.cons.injEq, true_and]
      exact ih k (i + 1) (by omega) (by omega)
    · rw [if_neg h]
      simp only [List.cons.injEq, h, false_and, decide_false]

theorem eqIntS_eq {k : Nat} {xs ys : List Int} (hn : xs.length ≤ 1099511627776) (hk : xs.length < k) : laws_eqIntS.f k xs ys = some (decide (xs = ys)) := by
  rw [laws_eqIntS.f]
  by_cases h : xs.length = ys.length
  · rw [if_pos (by omega)]
    exact eqIntS_l0 xs ys hn h xs.length k 0 (by omega) hk
  · rw [if_neg (by omega)]
    have : xs ≠ ys := fun e => h (by rw [e])
    simp [this]

theorem eqIntS_self {k : Nat} {xs : List Int} (hn : xs.length ≤ 1099511627776) (hk : xs.length < k) : laws_eqIntS.f k xs xs = some true := by
  rw [eqIntS_eq hn hk]; simp

def isPfrom : Int → Int → List Int → Bool
  | _, _, [] => true
  | prev, sum, x :: xs => decide (1 ≤ x) && decide (x ≤ 9) && decide (x ≤ prev) && decide (sum + x ≤ 9) && isPfrom x (sum + x) xs

def isP (p : List Int) : Bool := isPfrom 9 0 p

def prevAt (xs : List Int) (i : Nat) : Int := if i = 0 then 9 else rd xs ((i : Int) - 1)

theorem prevAt_succ (xs : List Int) (i : Nat) (h : i < xs.length) : prevAt xs (i + 1) = xs[i] := by
  unfold prevAt
  rw [if_neg (by omega), show ((i + 1 : Nat) : Int) - 1 = (i : Int) by omega, rd_nat _ _ h]

theorem isPfrom_step (xs : List Int) (i : Nat) (sum : Int) (h : i < xs.length) :
    isPfrom (prevAt xs i) sum (xs.drop i) = (decide (1 ≤ xs[i]) && decide (xs[i] ≤ 9) && decide (xs[i] ≤ prevAt xs i) && decide (sum + xs[i] ≤ 9) && isPfrom (prevAt xs (i + 1)) (sum + xs[i]) (xs.drop (i + 1))) := by
  rw [List.drop_eq_getElem_cons h, isPfrom, prevAt_succ xs i h]

def genP : Nat → Nat → Nat → List (List Int)
  | 0, _, _ => [[]]
  | f + 1, m, b => [] :: (List.range (min m b)).flatMap fun a => (genP f (a + 1) (b - (a + 1))).map (((a + 1 : Nat) : Int) :: ·)

theorem mem_genP : ∀ (xs : List Int) (f m b : Nat) (prev sum : Int), isPfrom prev sum xs = true → prev ≤ m → 9 - sum ≤ b → b ≤ f → sum ≤ 9 → xs ∈ genP f m b
  | [], 0, _, _, _, _, _, _, _, _, _ => by simp [genP]
  | [], f + 1, _, _, _, _, _, _, _, _, _ => by simp [genP]
  | x :: xs, 0, m, b, prev, sum, h, hm, hb, hf, hs => by
    simp [isPfrom] at h
    omega
  | x :: xs, f + 1, m, b, prev, sum, h, hm, hb, hf, hs => by
    simp only [isPfrom, Bool.and_eq_true, decide_eq_true_eq] at h
    obtain ⟨⟨⟨⟨h1, h2⟩, h3⟩, h4⟩, h5⟩ := h
    simp only [genP, List.mem_cons, List.mem_flatMap, List.mem_map, List.mem_range]
    refine .inr ⟨(x - 1).toNat, by omega, xs, ?_, ?_⟩
    · exact mem_genP xs f _ _ x (sum + x) h5 (by omega) (by omega) (by omega) (by omega)
    · congr 1
      omega

theorem isP_mem {p : List Int} (h : isP p = true) : p ∈ genP 9 9 9 := mem_genP p 9 9 9 9 0 h (by omega) (by omega) (by omega) (by omega)

theorem all_at {α : Type} {l : List α} {f : α → Bool} (h : l.all f = true) {x : α} (hx : x ∈ l) : f x = true := List.all_eq_true.1 h x hx

theorem genP_len : (genP 9 9 9).all (fun p => decide (p.length ≤ 9)) = true := by decide +kernel

theorem isP_len {p : List Int} (h : isP p = true) : p.length ≤ 9 := of_decide_eq_true (all_at genP_len (isP_mem h))

theorem genP_rng : (genP 9 9 9).all (fun p => p.all fun x => decide (1 ≤ x) && decide (x ≤ 9)) = true := by decide +kernel

theorem rd_mem {l : List Int} {i : Int} (h0 : 0 ≤ i) (h1 : i < l.length) : rd l i ∈ l := by
  obtain ⟨n, rfl⟩ := Int.eq_ofNat_of_zero_le h0
  rw [rd_nat l n (by omega)]
  exact List.getElem_mem _

theorem isP_rd {l : List Int} {i : Int} (h : isP l = true) (h0 : 0 ≤ i) (h1 : i < l.length) : 1 ≤ rd l i ∧ rd l i ≤ 9 := by
  have := all_at (all_at genP_rng (isP_mem h)) (rd_mem h0 h1)
  simpa using this

theorem specIsP_l0 (xs : List Int) (hn : xs.length ≤ 1099511627776) : ∀ (d k i : Nat) (sum : Int), i + d = xs.length → 0 ≤ sum → sum ≤ 9 → 2 * d < k → spec_IsPartition.l0 k xs sum (i : Int) = some (isPfrom (prevAt xs i) sum (xs.drop i)) := by
  intro d
  induction d with
  | zero =>
    intro k i sum hi _ _ hk
    obtain ⟨k, rfl⟩ := succ_of_pos hk
    rw [spec_IsPartition.l0, if_neg (by omega), List.drop_of_length_le (by omega)]
    rfl
  | succ d ih =>
    intro k i sum hi hs0 hs9 hk
    obtain ⟨k, rfl⟩ : ∃ m, k = m + 2 := ⟨k - 2, by omega⟩
    have hil : i < xs.length := by omega
    rw [spec_IsPartition.l0, if_pos (by omega), if_pos (by omega), rd_nat _ _ hil, isPfrom_step xs i sum hil, spec_l1In.f]
    by_cases h1 : xs[i] ≥ 1
    · rw [if_pos h1]
      by_cases h2 : xs[i] ≤ 9
      · have e1 : decide (1 ≤ xs[i]) = true := by simp; omega
        simp only [h2, e1, decide_true, Option.bind_some, Bool.true_and]
        rw [if_pos trivial]
        have hj : ∀ b : Bool, b = decide (xs[i] ≤ prevAt xs i) → spec_IsPartition.j1 (k + 1) xs sum (i : Int) (!b) = some (b && decide (sum + xs[i] ≤ 9) && isPfrom (prevAt xs (i + 1)) (sum + xs[i]) (xs.drop (i + 1))) := by
          intro b hb
          rw [spec_IsPartition.j1]
          cases b with
          | false => simp
          | true =>
            rw [if_neg (by simp), if_pos (by omega), if_pos (by omega), rd_nat _ _ hil, w64 (by omega) (by omega), w64 (by omega) (by omega)]
            by_cases h4 : sum + xs[i] > 9
            · rw [if_pos h4]
              have : ¬ (sum + xs[i] ≤ 9) := by omega
              simp [this]
            · rw [if_neg h4]
              have h5 : sum + xs[i] ≤ 9 := by omega
              have := ih k (i + 1) (sum + xs[i]) (by omega) (by omega) h5 (by omega)
              simp only [h5, decide_true, Bool.true_and]
              exact this
        by_cases h0 : (i : Int) > 0
        · rw [if_pos h0, w64 (by omega) (by omega), if_pos (by omega), if_pos (by omega)]
          have e : decide (xs[i] > rd xs ((i : Int) - 1)) = !(decide (xs[i] ≤ prevAt xs i)) := by
            unfold prevAt
            rw [if_neg (by omega)]
            by_cases hc : xs[i] ≤ rd xs ((i : Int) - 1)
            · have : ¬ (xs[i] > rd xs ((i : Int) - 1)) := by omega
              simp [hc]
            · have : xs[i] > rd xs ((i : Int) - 1) := by omega
              simp [hc, this]
          rw [e]
          exact hj _ rfl
        · rw [if_neg h0]
          have e : decide (xs[i] ≤ prevAt xs i) = true := by
            unfold prevAt
            rw [if_pos (by omega)]
            simpa using h2
          have := hj true e.symm
          rw [e]
          exact this
      · simp [h2]
        rfl
    · rw [if_neg h1]
      have : ¬ (1 ≤ xs[i]) := by omega
      simp [this]
      rfl

theorem specIsP_eq {k : Nat} {xs : List Int} (hn : xs.length ≤ 1099511627776) (hk : 2 * xs.length < k) : spec_IsPartition.f k xs = some (isP xs) :=
  specIsP_l0 xs hn xs.length k 0 0 (by omega) (by omega) (by omega) hk

theorem implIsP_l0 (xs : List Int) (hn : xs.length ≤ 1099511627776) : ∀ (d k i : Nat) (sum : Int), i + d = xs.length → 0 ≤ sum → sum ≤ 9 → 2 * d < k → impl_IsPartition.l0 k xs sum xs (xs.length : Int) (i : Int) = some (isPfrom (prevAt xs i) sum (xs.drop i)) := by
  intro d
  induction d with
  | zero =>
    intro k i sum hi _ _ hk
    obtain ⟨k, rfl⟩ := succ_of_pos hk
    rw [impl_IsPartition.l0, if_neg (by omega), List.drop_of_length_le (by omega)]
    rfl
  | succ d ih =>
    intro k i sum hi hs0 hs9 hk
    obtain ⟨k, rfl⟩ : ∃ m, k = m + 2 := ⟨k - 2, by omega⟩
    have hil : i < xs.length := by omega
    rw [impl_IsPartition.l0, if_pos (by omega), if_pos (by omega), if_pos (by omega), rd_nat _ _ hil, isPfrom_step xs i sum hil, impl_within.f]
    by_cases h1 : 1 ≤ xs[i]
    · rw [if_pos h1]
      by_cases h2 : xs[i] ≤ 9
      · simp only [h2, h1, decide_true, Option.bind_some, Bool.true_and]
        rw [if_pos trivial]
        have hj : ∀ b : Bool, b = decide (xs[i] ≤ prevAt xs i) → impl_IsPartition.j1 (k + 1) xs sum xs[i] xs (xs.length : Int) (i : Int) (!b) = some (b && decide (sum + xs[i] ≤ 9) && isPfrom (prevAt xs (i + 1)) (sum + xs[i]) (xs.drop (i + 1))) := by
          intro b hb
          rw [impl_IsPartition.j1]
          cases b with
          | false => simp
          | true =>
            rw [if_neg (by simp), w64 (by omega) (by omega), w64 (by omega) (by omega)]
            by_cases h4 : sum + xs[i] > 9
            · rw [if_pos h4]
              have : ¬ (sum + xs[i] ≤ 9) := by omega
              simp [this]
            · rw [if_neg h4]
              have h5 : sum + xs[i] ≤ 9 := by omega
              have := ih k (i + 1) (sum + xs[i]) (by omega) (by omega) h5 (by omega)
              simp only [h5, decide_true, Bool.true_and]
              exact this
        by_cases h0 : (i : Int) > 0
        · rw [if_pos h0, w64 (by omega) (by omega), if_pos (by omega), if_pos (by omega)]
          have e : decide (xs[i] > rd xs ((i : Int) - 1)) = !(decide (xs[i] ≤ prevAt xs i)) := by
            unfold prevAt
            rw [if_neg (by omega)]
            by_cases hc : xs[i] ≤ rd xs ((i : Int) - 1)
            · have : ¬ (xs[i] > rd xs ((i : Int) - 1)) := by omega
              simp [hc]
            · have : xs[i] > rd xs ((i : Int) - 1) := by omega
              simp [hc, this]
          rw [e]
          exact hj _ rfl
        · rw [if_neg h0]
          have e : decide (xs[i] ≤ prevAt xs i) = true := by
            unfold prevAt
            rw [if_pos (by omega)]
            simpa using h2
          have := hj true e.symm
          rw [e]
          exact this
      · simp [h2]
        rfl
    · rw [if_neg h1]
      simp [h1]
      rfl

theorem implIsP_eq {k : Nat} {xs : List Int} (hn : xs.length ≤ 1099511627776) (hk : 2 * xs.length < k) : impl_IsPartition.f k xs = some (isP xs) :=
  implIsP_l0 xs hn xs.length k 0 0 (by omega) (by omega) (by omega) hk

def markL : Int → List Int → List Int
  | _, [] => []
  | m, _ :: xs => m :: markL (m + 1) xs

theorem markL_len : ∀ (xs : List Int) (m : Int), (markL m xs).length = xs.length
  | [], _ => rfl
  | _ :: xs, m => by simp [markL, markL_len xs]

theorem markIntS_l0 : ∀ (d k i : Nat) (xs : List Int) (m : Int), i + d = xs.length → d < k → 0 ≤ m → m + d ≤ 4611686018427387904 → xs.length ≤ 1099511627776 →
    laws_markIntS.l0 k xs m (i : Int) = some (m + d, xs.take i ++ markL m (xs.drop i)) := by
  intro d
  induction d with
  | zero =>
    intro k i xs m hi hk hm hb hn
    obtain ⟨k, rfl⟩ := succ_of_pos hk
    rw [laws_markIntS.l0, if_neg (by omega), List.drop_of_length_le (by omega), List.take_of_length_le (by omega)]
    simp [markL]
  | succ d ih =>
    intro k i xs m hi hk hm hb hn
    obtain ⟨k, rfl⟩ := succ_of_pos hk
    rw [laws_markIntS.l0, if_pos (by omega), if_pos (by omega), w64 (by omega) (by omega), w64 (by omega) (by omega), Int.toNat_natCast]
    have := ih k (i + 1) (xs.set i m) (m + 1) (by simp; omega) (by omega) (by omega) (by omega) (by simpa using hn)
    refine Eq.trans this ?_
    have e1 : (xs.set i m).take (i + 1) = xs.take i ++ [m] := by
      rw [List.take_succ_eq_append_getElem (by simp; omega)]
      simp [List.take_set_of_le]
    have e2 : (xs.set i m).drop (i + 1) = xs.drop (i + 1) := by
      rw [List.drop_set_of_lt (by omega)]
    rw [e1, e2, List.drop_eq_getElem_cons (l := xs) (i := i) (by omega), markL]
    congr 2
    · omega
    · simp

theorem markIntS_eq {k : Nat} {xs : List Int} {m : Int} (hn : xs.length ≤ 1099511627776) (hk : xs.length < k) (h0 : 0 ≤ m) (h1 : m ≤ 2305843009213693952) : laws_markIntS.f k xs m = some (m + xs.length, markL m xs) := by
  have := markIntS_l0 xs.length k 0 xs m (by omega) hk h0 (by omega) hn
  rw [laws_markIntS.f]
  simpa using this

theorem heldIntS_l0 : ∀ (xs : List Int) (k : Nat) (ys : List Int) (m : Int), xs.length < k → 0 ≤ m → m + xs.length ≤ 4611686018427387904 → ys.length + xs.length ≤ 1099511627776 →
    laws_heldIntS.l0 k (ys ++ markL m xs) m (ys.length : Int) = some (m + xs.length) := by
  intro xs
  induction xs with
  | nil =>
    intro k ys m hk hm hb hn
    obtain ⟨k, rfl⟩ := succ_of_pos hk
    rw [laws_heldIntS.l0, if_neg (by simp [markL])]
    simp
  | cons x xs ih =>
    intro k ys m hk hm hb hn
    obtain ⟨k, rfl⟩ := succ_of_pos hk
    simp only [List.length_cons] at hk hb hn
    have hl : (ys ++ markL m (x :: xs)).length = ys.length + (xs.length + 1) := by simp [markL_len]
    rw [laws_heldIntS.l0, if_pos (by omega), if_pos (by omega), rd_nat _ _ (by omega), w64 (by omega) (by omega), w64 (by omega) (by omega)]
    have e : (ys ++ markL m (x :: xs))[ys.length]'(by omega) = m := by simp [markL]
    rw [if_pos e]
    have := ih k (ys ++ [m]) (m + 1) (by omega) (by omega) (by omega) (by simp; omega)
    simp only [List.append_assoc, List.singleton_append, List.length_append, List.length_cons, List.length_nil] at this
    refine Eq.trans ?_ (this.trans ?_)
    · rfl
    · congr 1
      simp only [List.length_cons]
      omega

theorem heldIntS_eq {k : Nat} {xs : List Int} {m : Int} (hn : xs.length ≤ 1099511627776) (hk : xs.length < k) (h0 : 0 ≤ m) (h1 : m ≤ 2305843009213693952) : laws_heldIntS.f k (markL m xs) m = some (m + xs.length) := by
  have := heldIntS_l0 xs k [] m hk h0 (by omega) (by simpa using hn)
  simpa [laws_heldIntS.f] using this

def hookB (q : List Int) : Bool := match impl_HookLengths.f 100 q with
  | some L => spec_HookLengths.f 100 q == some L && laws_eqIntSS.f 100 L L == some true && (match laws_markIntSS.f 100 L 1 with
    | some b => decide (0 ≤ b.1) && laws_heldIntSS.f 100 b.2 1 == some b.1
    | none => false)
  | none => false

set_option maxHeartbeats 8000000 in
theorem hook_parts : (genP 9 9 9).all hookB = true := by decide +kernel

theorem FnExactHookLengths (l0 : List Int) (hm : l0.length ≤ maxLen) (hwf : ∀ x ∈ l0, (Lit.int .i64 x).wf = true) : ∃ k, laws_FnExactHookLengths.ok k l0 := by
  by_cases hbig : (l0.length : Int) > 1048576
  · exact ⟨0, ⟨.inl hbig⟩⟩
  have hn : l0.length ≤ 1099511627776 := by omega
  cases hp : isP l0 with
  | true =>
    have hl := isP_len hp
    have h := all_at hook_parts (isP_mem hp)
    unfold hookB at h
    cases e : impl_HookLengths.f 100 l0 with
    | none => rw [e] at h; cases h
    | some L =>
      rw [e] at h
      simp only [Bool.and_eq_true, beq_iff_eq] at h
      obtain ⟨⟨h1, h2⟩, h3⟩ := h
      cases e2 : laws_markIntSS.f 100 L 1 with
      | none => rw [e2] at h3; cases h3
      | some b =>
        rw [e2] at h3
        simp only [Bool.and_eq_true, beq_iff_eq, decide_eq_true_eq] at h3
        exact ⟨100, ⟨.inr ⟨L, b.2, markL 1 l0, 1 + l0.length, b.1, toIntS_eq hn (by omega), h1, e, h2, eqIntS_self hn (by omega), markIntS_eq hn (by omega) (by omega) (by omega), by omega, e2, h3.1, h3.2⟩⟩⟩
  | false =>
    refine ⟨2 * l0.length + 100, ⟨.inr ⟨[], [], markL 1 l0, 1 + l0.length, 1, toIntS_eq hn (by omega), ?_, ?_, ?_, eqIntS_self hn (by omega), markIntS_eq hn (by omega) (by omega) (by omega), by omega, ?_, by omega, ?_⟩⟩⟩
    · rw [spec_HookLengths.f, specIsP_eq hn (by omega), hp]; rfl
    · rw [impl_HookLengths.f, implIsP_eq hn (by omega), hp]; rfl
    · rfl
    · rfl
    · rfl

end Go.Proofs.Ythjbkkjiggdcpaa.Pure
