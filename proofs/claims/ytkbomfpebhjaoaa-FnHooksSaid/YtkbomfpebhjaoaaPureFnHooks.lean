/- For every code FnHooks returns true, and the code reads as before (the law's plain function; pure part here). No condition. -/
import Derived.Test.YtkbomfpebhjaoaaQFnHooksx8
namespace Go.Proofs.Ytkbomfpebhjaoaa.Pure
open Go.RowKit Go.Proofs.Ytkbomfpebhjaoaa.QFnHooks Go.Proofs.YtkbomfpebhjaoaaW.PrintWords Go.Proofs.YtkbomfpebhjaoaaW.PrintLast
set_option linter.unusedVariables false
set_option linter.unusedSimpArgs false

theorem w64 {x : Int} (h1 : -9223372036854775808 ≤ x) (h2 : x ≤ 9223372036854775807) : wrap64 x = x := by
  unfold wrap64; omega

theorem rd_nat (xs : List Int) (i : Nat) (h : i < xs.length) : rd xs (i : Int) = xs[i] := by
  unfold rd; rw [Int.toNat_natCast]; simp [List.getD, h]

theorem succ_of_pos {d k : Nat} (h : d < k) : ∃ m, k = m + 1 := ⟨k - 1, by omega⟩

theorem wf_ints {l : List Int} (h : ∀ x ∈ l, (Lit.int .i64 x).wf = true) : ∀ x ∈ l, -9223372036854775808 ≤ x ∧ x ≤ 9223372036854775807 := by
  intro x hx
  have := h x hx
  simp [Lit.wf, IntKind.min, IntKind.max, IntKind.bits, IntKind.signed] at this
  omega

theorem wf_int {x : Int} (h : (Lit.int .i64 x).wf = true) : -9223372036854775808 ≤ x ∧ x ≤ 9223372036854775807 := by
  simp [Lit.wf, IntKind.min, IntKind.max, IntKind.bits, IntKind.signed] at h
  omega

theorem big_no {l : List Int} (h : ¬ ((l.length : Int) > 1048576)) : laws_big.f l = some false := by rw [laws_big.f]; simp; omega
theorem big_yes {l : List Int} (h : (l.length : Int) > 1048576) : laws_big.f l = some true := by rw [laws_big.f]; simp; omega

theorem and255 (x : Int) : 0 ≤ Go.bits .and .i64 x 255 ∧ Go.bits .and .i64 x 255 ≤ 255 := by
  have h : ∃ n : Nat, n ≤ 255 ∧ Go.bits .and .i64 x 255 = wrap64 (n : Int) := by
    refine ⟨(BitVec.ofInt 64 x &&& BitVec.ofInt 64 255).toNat, ?_, ?_⟩
    · rw [BitVec.toNat_and]
      exact Nat.le_trans Nat.and_le_right (by decide)
    · exact i64_w _
  obtain ⟨n, hn, e⟩ := h
  rw [e, w64 (by omega) (by omega)]
  omega

theorem l1Byte_ok {s : List Int} {pos h : Int} (hn : s.length ≤ 1099511627776) (h0 : 0 ≤ pos) : ∃ v p' h', spec_l1Byte.f s pos h = some (v, p', h') ∧ 0 ≤ v ∧ v ≤ 255 ∧ 0 ≤ p' := by
  rw [spec_l1Byte.f]
  by_cases hc : pos < (s.length : Int)
  · rw [if_pos hc, if_pos h0, w64 (x := pos + 1) (by omega) (by omega)]
    exact ⟨_, _, _, rfl, (and255 _).1, (and255 _).2, by omega⟩
  · rw [if_neg hc]
    exact ⟨_, _, _, rfl, (and255 _).1, (and255 _).2, h0⟩

theorem l1Below_ok {s : List Int} {pos h n : Int} (hn : s.length ≤ 1099511627776) (h0 : 0 ≤ pos) (h1 : 1 ≤ n) (h2 : n ≤ 256) : ∃ v p' h', spec_l1Below.f s pos h n = some (v, p', h') ∧ 0 ≤ v ∧ v < n ∧ 0 ≤ p' := by
  obtain ⟨v, p', h', e, hv0, hv1, hp⟩ := l1Byte_ok (h := h) hn h0
  refine ⟨Int.tmod v n, p', h', ?_, ?_, ?_, hp⟩
  · rw [spec_l1Below.f, if_neg (by omega), if_pos h2, e, Option.bind_some, if_neg (by omega)]
  · rw [Int.tmod_eq_emod_of_nonneg hv0]; exact Int.emod_nonneg _ (by omega)
  · rw [Int.tmod_eq_emod_of_nonneg hv0]; exact Int.emod_lt_of_pos _ (by omega)

theorem l1New_l0 (s : List Int) (hn : s.length ≤ 1099511627776) : ∀ (d k i : Nat) (h : Int), i + d = s.length → d < k → ∃ h', spec_l1New.l0 k s h (i : Int) = some (s, 0, h') := by
  intro d
  induction d with
  | zero =>
    intro k i h hi hk
    obtain ⟨k, rfl⟩ := succ_of_pos hk
    exact ⟨h, by rw [spec_l1New.l0, if_neg (by omega)]⟩
  | succ d ih =>
    intro k i h hi hk
    obtain ⟨k, rfl⟩ := succ_of_pos hk
    rw [spec_l1New.l0, if_pos (by omega)]
    by_cases hc : (i : Int) < 4000
    · rw [if_pos hc, if_pos (by omega), w64 (x := (i : Int) + 1) (by omega) (by omega)]
      exact ih k (i + 1) _ (by omega) (by omega)
    · exact ⟨h, by rw [if_neg hc]⟩

theorem l1New_ok {s : List Int} {k : Nat} (hn : s.length ≤ 1099511627776) (hk : s.length < k) : ∃ h', spec_l1New.f k s = some (s, 0, h') := l1New_l0 s hn s.length k 0 _ (by omega) hk

theorem l1PickInt_ok {s l : List Int} {pos h : Int} (hn : s.length ≤ 1099511627776) (h0 : 0 ≤ pos) (h1 : 1 ≤ l.length) (h2 : l.length ≤ 256) : ∃ v p' h', spec_l1PickInt.f s pos h l = some (v, p', h') ∧ v ∈ l ∧ 0 ≤ p' := by
  obtain ⟨v, p', h', e, hv0, hv1, hp⟩ := l1Below_ok (h := h) (n := (l.length : Int)) hn h0 (by omega) (by omega)
  refine ⟨rd l v, p', h', by rw [spec_l1PickInt.f, e, Option.bind_some, if_pos hv0, if_pos hv1], ?_, hp⟩
  obtain ⟨m, rfl⟩ := Int.eq_ofNat_of_zero_le hv0
  rw [rd_nat l m (by omega)]
  exact List.getElem_mem _

def allsB (most : Nat) (n : Nat) : Bool := match spec_l2All.f 100 (n : Int) (most : Int) with
  | some l => decide (1 ≤ l.length) && decide (l.length ≤ 200) && l.all fun p => decide (p.length ≤ 9)
  | none => false

set_option maxHeartbeats 4000000 in
theorem alls9 : (List.range 10).all (allsB 9) = true := by decide +kernel

theorem l2All_ok {most n k : Nat} (h : (List.range (most + 1)).all (allsB most) = true) (hn : n ≤ most) (hk : 100 ≤ k) : ∃ l : List (List Int), spec_l2All.f k (n : Int) (most : Int) = some l ∧ 1 ≤ l.length ∧ l.length ≤ 200 ∧ ∀ p ∈ l, p.length ≤ 9 := by
  have h1 := List.all_eq_true.1 h n (List.mem_range.2 (by omega))
  unfold allsB at h1
  cases e : spec_l2All.f 100 (n : Int) (most : Int) with
  | none => rw [e] at h1; cases h1
  | some l =>
    rw [e] at h1
    simp only [Bool.and_eq_true, decide_eq_true_eq, List.all_eq_true] at h1
    exact ⟨l, at_rounds (spec_l2All.mono (n : Int) (most : Int)) hk e, h1.1.1, h1.1.2, h1.2⟩

theorem l2Draw_ok {s : List Int} {pos h : Int} {most k : Nat} (hm : (List.range (most + 1)).all (allsB most) = true) (hm2 : most ≤ 20) (hn : s.length ≤ 1099511627776) (h0 : 0 ≤ pos) (hk : 100 ≤ k) :
    ∃ (p : List Int) (p' h' : Int), spec_l2Draw.f k s pos h (most : Int) = some (p, p', h') ∧ p.length ≤ 9 ∧ 0 ≤ p' := by
  obtain ⟨v, p1, h1, e1, hv0, hv1, hp1⟩ := l1Below_ok (h := h) (n := wrap64 ((most : Int) + 1)) hn h0 (by rw [w64 (by omega) (by omega)]; omega) (by rw [w64 (by omega) (by omega)]; omega)
  rw [w64 (by omega) (by omega)] at hv1
  obtain ⟨n, rfl⟩ := Int.eq_ofNat_of_zero_le hv0
  obtain ⟨l, e2, hl1, hl2, hl3⟩ := l2All_ok (n := n) hm (by omega) hk
  obtain ⟨u, p2, h2, e3, hu0, hu1, hp2⟩ := l1Below_ok (h := h1) (n := (l.length : Int)) hn hp1 (by omega) (by omega)
  refine ⟨rd_L2 l u, p2, h2, ?_, ?_, hp2⟩
  · rw [spec_l2Draw.f, e1, Option.bind_some, e2, Option.bind_some, e3, Option.bind_some, if_pos hu0, if_pos hu1]
  · obtain ⟨m, rfl⟩ := Int.eq_ofNat_of_zero_le hu0
    have hm : m < l.length := by omega
    have : rd_L2 l (m : Int) = l[m] := by
      unfold rd_L2
      rw [Int.toNat_natCast]
      simp [List.getD, hm]
    rw [this]
    exact hl3 _ (List.getElem_mem _)

theorem l2Bent_ok {s : List Int} {pos h : Int} {most k : Nat} (hm : (List.range (most + 1)).all (allsB most) = true) (hm2 : most ≤ 20) (hn : s.length ≤ 1099511627776) (h0 : 0 ≤ pos) (hk : 100 ≤ k) :
    ∃ (p : List Int) (p' h' : Int), spec_l2Bent.f k s pos h (most : Int) = some (p, p', h') ∧ p.length ≤ 15 ∧ 0 ≤ p' := by
  obtain ⟨p, p1, h1, e1, hp, hp1⟩ := l2Draw_ok (h := h) hm hm2 hn h0 hk
  obtain ⟨v, p2, h2, e2, hv0, hv1, hp2⟩ := l1Below_ok (h := h1) (n := 14) hn hp1 (by omega) (by omega)
  rw [spec_l2Bent.f, e1, Option.bind_some, e2, Option.bind_some]
  by_cases c0 : v = 0
  · obtain ⟨u, p3, h3, e3, _, hp3⟩ := l1PickInt_ok (h := h2) (l := [0, 5, -1, 1, 9223372036854775807]) hn hp2 (by simp) (by simp)
    rw [if_pos c0, e3, Option.bind_some]
    dsimp only
    rw [if_pos (by omega)]
    exact ⟨_, _, _, rfl, by simp; omega, hp3⟩
  · rw [if_neg c0]
    by_cases c1 : v = 1
    · rw [if_pos c1, Option.bind_some, if_pos (by simp; omega)]
      exact ⟨_, _, _, rfl, by simp; omega, hp2⟩
    · rw [if_neg c1]
      exact ⟨p, p2, h2, rfl, by omega, hp2⟩

def isPfrom : Int → Int → List Int → Bool
  | _, _, [] => true
  | prev, sum, x :: xs => decide (1 ≤ x) && decide (x ≤ 9) && decide (x ≤ prev) && decide (sum + x ≤ 9) && isPfrom x (sum + x) xs

def isP (p : List Int) : Bool := isPfrom 9 0 p

def prevAt (xs : List Int) (i : Nat) : Int := if i = 0 then 9 else rd xs ((i : Int) - 1)

theorem prevAt_succ (xs : List Int) (i : Nat) (h : i < xs.length) : prevAt xs (i + 1) = xs[i] := by
  unfold prevAt
  rw [if_neg (by omega), show ((i + 1 : Nat) : Int) - 1 = (i : Int) by omega, rd_nat _ _ h]

theorem isPfrom_step (xs : List Int) (i : Nat) (sum : Int) (h : i < xs.length) :
    isPfrom (prevAt xs i) sum (xs.drop i) = (decide (1 ≤ xs[i]) && decide (xs[i] ≤ 9) && decide (xs[i] ≤ prevAt xs i) && decide (sum + xs[i] ≤ 9) && isPfrom (prevAt xs (i + 1)) (sum + xs[i]) (xs.drop (i + 1))) := by
  rw [List.drop_eq_getElem_cons h, isPfrom, prevAt_succ xs i h]

def genP : Nat → Nat → Nat → List (List Int)
  | 0, _, _ => [[]]
  | f + 1, m, b => [] :: (List.range (min m b)).flatMap fun a => (genP f (a + 1) (b - (a + 1))).map (((a + 1 : Nat) : Int) :: ·)

theorem mem_genP : ∀ (xs : List Int) (f m b : Nat) (prev sum : Int), isPfrom prev sum xs = true → prev ≤ m → 9 - sum ≤ b → b ≤ f → sum ≤ 9 → xs ∈ genP f m b
  | [], 0, _, _, _, _, _, _, _, _, _ => by simp [genP]
  | [], f + 1, _, _, _, _, _, _, _, _, _ => by simp [genP]
  | x :: xs, 0, m, b, prev, sum, h, hm, hb, hf, hs => by
    simp [isPfrom] at h
    omega
  | x :: xs, f + 1, m, b, prev, sum, h, hm, hb, hf, hs => by
    simp only [isPfrom, Bool.and_eq_true, decide_eq_true_eq] at h
    obtain ⟨⟨⟨⟨h1, h2⟩, h3⟩, h4⟩, h5⟩ := h
    simp only [genP, List.mem_cons, List.mem_flatMap, List.mem_map, List.mem_range]
    refine .inr ⟨(x - 1).toNat, by omega, xs, ?_, ?_⟩
    · exact mem_genP xs f _ _ x (sum + x) h5 (by omega) (by omega) (by omega) (by omega)
    · congr 1
      omega

theorem isP_mem {p : List Int} (h : isP p = true) : p ∈ genP 9 9 9 := mem_genP p 9 9 9 9 0 h (by omega) (by omega) (by omega) (by omega)

theorem all_at {α : Type} {l : List α} {f : α → Bool} (h : l.all f = true) {x : α} (hx : x ∈ l) : f x = true := List.all_eq_true.1 h x hx

theorem genP_len : (genP 9 9 9).all (fun p => decide (p.length ≤ 9)) = true := by decide +kernel

theorem isP_len {p : List Int} (h : isP p = true) : p.length ≤ 9 := of_decide_eq_true (all_at genP_len (isP_mem h))

theorem genP_rng : (genP 9 9 9).all (fun p => p.all fun x => decide (1 ≤ x) && decide (x ≤ 9)) = true := by decide +kernel

theorem rd_mem {l : List Int} {i : Int} (h0 : 0 ≤ i) (h1 : i < l.length) : rd l i ∈ l := by
  obtain ⟨n, rfl⟩ := Int.eq_ofNat_of_zero_le h0
  rw [rd_nat l n (by omega)]
  exact List.getElem_mem _

theorem isP_rd {l : List Int} {i : Int} (h : isP l = true) (h0 : 0 ≤ i) (h1 : i < l.length) : 1 ≤ rd l i ∧ rd l i ≤ 9 := by
  have := all_at (all_at genP_rng (isP_mem h)) (rd_mem h0 h1)
  simpa using this

theorem specIsP_l0 (xs : List Int) (hn : xs.length ≤ 1099511627776) : ∀ (d k i : Nat) (sum : Int), i + d = xs.length → 0 ≤ sum → sum ≤ 9 → 2 * d < k → spec_IsPartition.l0 k xs sum (i : Int) = some (isPfrom (prevAt xs i) sum (xs.drop i)) := by
  intro d
  induction d with
  | zero =>
    intro k i sum hi _ _ hk
    obtain ⟨k, rfl⟩ := succ_of_pos hk
    rw [spec_IsPartition.l0, if_neg (by omega), List.drop_of_length_le (by omega)]
    rfl
  | succ d ih =>
    intro k i sum hi hs0 hs9 hk
    obtain ⟨k, rfl⟩ : ∃ m, k = m + 2 := ⟨k - 2, by omega⟩
    have hil : i < xs.length := by omega
    rw [spec_IsPartition.l0, if_pos (by omega), if_pos (by omega), rd_nat _ _ hil, isPfrom_step xs i sum hil, spec_l1In.f]
    by_cases h1 : xs[i] ≥ 1
    · rw [if_pos h1]
      by_cases h2 : xs[i] ≤ 9
      · have e1 : decide (1 ≤ xs[i]) = true := by simp; omega
        simp only [h2, e1, decide_true, Option.bind_some, Bool.true_and]
        rw [if_pos trivial]
        have hj : ∀ b : Bool, b = decide (xs[i] ≤ prevAt xs i) → spec_IsPartition.j1 (k + 1) xs sum (i : Int) (!b) = some (b && decide (sum + xs[i] ≤ 9) && isPfrom (prevAt xs (i + 1)) (sum + xs[i]) (xs.drop (i + 1))) := by
          intro b hb
          rw [spec_IsPartition.j1]
          cases b with
          | false => simp
          | true =>
            rw [if_neg (by simp), if_pos (by omega), if_pos (by omega), rd_nat _ _ hil, w64 (by omega) (by omega), w64 (by omega) (by omega)]
            by_cases h4 : sum + xs[i] > 9
            · rw [if_pos h4]
              have : ¬ (sum + xs[i] ≤ 9) := by omega
              simp [this]
            · rw [if_neg h4]
              have h5 : sum + xs[i] ≤ 9 := by omega
              have := ih k (i + 1) (sum + xs[i]) (by omega) (by omega) h5 (by omega)
              simp only [h5, decide_true, Bool.true_and]
              exact this
        by_cases h0 : (i : Int) > 0
        · rw [if_pos h0, w64 (by omega) (by omega), if_pos (by omega), if_pos (by omega)]
          have e : decide (xs[i] > rd xs ((i : Int) - 1)) = !(decide (xs[i] ≤ prevAt xs i)) := by
            unfold prevAt
            rw [if_neg (by omega)]
            by_cases hc : xs[i] ≤ rd xs ((i : Int) - 1)
            · have : ¬ (xs[i] > rd xs ((i : Int) - 1)) := by omega
              simp [hc]
            · have : xs[i] > rd xs ((i : Int) - 1) := by omega
              simp [hc, this]
          rw [e]
          exact hj _ rfl
        · rw [if_neg h0]
          have e : decide (xs[i] ≤ prevAt xs i) = true := by
            unfold prevAt
            rw [if_pos (by omega)]
            simpa using h2
          have := hj true e.symm
          rw [e]
          exact this
      · simp [h2]
        rfl
    · rw [if_neg h1]
      have : ¬ (1 ≤ xs[i]) := by omega
      simp [this]
      rfl

theorem specIsP_eq {k : Nat} {xs : List Int} (hn : xs.length ≤ 1099511627776) (hk : 2 * xs.length < k) : spec_IsPartition.f k xs = some (isP xs) :=
  specIsP_l0 xs hn xs.length k 0 0 (by omega) (by omega) (by omega) hk

theorem implIsP_l0 (xs : List Int) (hn : xs.length ≤ 1099511627776) : ∀ (d k i : Nat) (sum : Int), i + d = xs.length → 0 ≤ sum → sum ≤ 9 → 2 * d < k → impl_IsPartition.l0 k xs sum xs (xs.length : Int) (i : Int) = some (isPfrom (prevAt xs i) sum (xs.drop i)) := by
  intro d
  induction d with
  | zero =>
    intro k i sum hi _ _ hk
    obtain ⟨k, rfl⟩ := succ_of_pos hk
    rw [impl_IsPartition.l0, if_neg (by omega), List.drop_of_length_le (by omega)]
    rfl
  | succ d ih =>
    intro k i sum hi hs0 hs9 hk
    obtain ⟨k, rfl⟩ : ∃ m, k = m + 2 := ⟨k - 2, by omega⟩
    have hil : i < xs.length := by omega
    rw [impl_IsPartition.l0, if_pos (by omega), if_pos (by omega), if_pos (by omega), rd_nat _ _ hil, isPfrom_step xs i sum hil, impl_within.f]
    by_cases h1 : 1 ≤ xs[i]
    · rw [if_pos h1]
      by_cases h2 : xs[i] ≤ 9
      · simp only [h2, h1, decide_true, Option.bind_some, Bool.true_and]
        rw [if_pos trivial]
        have hj : ∀ b : Bool, b = decide (xs[i] ≤ prevAt xs i) → impl_IsPartition.j1 (k + 1) xs sum xs[i] xs (xs.length : Int) (i : Int) (!b) = some (b && decide (sum + xs[i] ≤ 9) && isPfrom (prevAt xs (i + 1)) (sum + xs[i]) (xs.drop (i + 1))) := by
          intro b hb
          rw [impl_IsPartition.j1]
          cases b with
          | false => simp
          | true =>
            rw [if_neg (by simp), w64 (by omega) (by omega), w64 (by omega) (by omega)]
            by_cases h4 : sum + xs[i] > 9
            · rw [if_pos h4]
              have : ¬ (sum + xs[i] ≤ 9) := by omega
              simp [this]
            · rw [if_neg h4]
              have h5 : sum + xs[i] ≤ 9 := by omega
              have := ih k (i + 1) (sum + xs[i]) (by omega) (by omega) h5 (by omega)
              simp only [h5, decide_true, Bool.true_and]
              exact this
        by_cases h0 : (i : Int) > 0
        · rw [if_pos h0, w64 (by omega) (by omega), if_pos (by omega), if_pos (by omega)]
          have e : decide (xs[i] > rd xs ((i : Int) - 1)) = !(decide (xs[i] ≤ prevAt xs i)) := by
            unfold prevAt
            rw [if_neg (by omega)]
            by_cases hc : xs[i] ≤ rd xs ((i : Int) - 1)
            · have : ¬ (xs[i] > rd xs ((i : Int) - 1)) := by omega
              simp [hc]
            · have : xs[i] > rd xs ((i : Int) - 1) := by omega
              simp [hc, this]
          rw [e]
          exact hj _ rfl
        · rw [if_neg h0]
          have e : decide (xs[i] ≤ prevAt xs i) = true := by
            unfold prevAt
            rw [if_pos (by omega)]
            simpa using h2
          have := hj true e.symm
          rw [e]
          exact this
      · simp [h2]
        rfl
    · rw [if_neg h1]
      simp [h1]
      rfl

theorem implIsP_eq {k : Nat} {xs : List Int} (hn : xs.length ≤ 1099511627776) (hk : 2 * xs.length < k) : impl_IsPartition.f k xs = some (isP xs) :=
  implIsP_l0 xs hn xs.length k 0 0 (by omega) (by omega) (by omega) hk

def cellsP : List (List Int × Int × Int) := (genP 9 9 9).flatMap fun p => (List.range p.length).flatMap fun (r : Nat) => (List.range (rd p (r : Int)).toNat).map fun (c : Nat) => (p, (r : Int), (c : Int))

theorem cells_mem {l0 : List Int} {a1 a2 : Int} (h : isP l0 = true ∧ 0 ≤ a1 ∧ a1 < l0.length ∧ 0 ≤ a2 ∧ a2 < rd l0 a1) : (l0, a1, a2) ∈ cellsP := by
  obtain ⟨h0, h1, h2, h3, h4⟩ := h
  obtain ⟨r, rfl⟩ := Int.eq_ofNat_of_zero_le h1
  obtain ⟨c, rfl⟩ := Int.eq_ofNat_of_zero_le h3
  simp only [cellsP, List.mem_flatMap, List.mem_map, List.mem_range]
  exact ⟨l0, isP_mem h0, r, by omega, c, by omega, rfl⟩

theorem specCell_no {k : Nat} {l0 : List Int} {a1 a2 : Int} (hn : l0.length ≤ 1099511627776) (hk : 2 * l0.length < k) (h : ¬ (isP l0 = true ∧ 0 ≤ a1 ∧ a1 < l0.length ∧ 0 ≤ a2 ∧ a2 < rd l0 a1)) : spec_l3Cell.f k l0 a1 a2 = some false := by
  rw [spec_l3Cell.f, specIsP_eq hn hk]
  simp only [Option.bind_some]
  by_cases h0 : isP l0 = true
  · by_cases h1 : 0 ≤ a1
    · by_cases h2 : a1 < l0.length
      · by_cases h3 : 0 ≤ a2
        · have h4 : ¬ (a2 < rd l0 a1) := fun h4 => h ⟨h0, h1, h2, h3, h4⟩
          simp [h0, h1, h2, h3, h4]
        · simp [h0, h1, h2, h3]
      · simp [h0, h1, h2]
    · simp [h0, h1]
  · simp [h0]

theorem implCell_no {k : Nat} {l0 : List Int} {a1 a2 : Int} (hn : l0.length ≤ 1099511627776) (hk : 2 * l0.length < k) (h : ¬ (isP l0 = true ∧ 0 ≤ a1 ∧ a1 < l0.length ∧ 0 ≤ a2 ∧ a2 < rd l0 a1)) : impl_hasCell.f k l0 a1 a2 = some false := by
  rw [impl_hasCell.f, implIsP_eq hn hk]
  simp only [Option.bind_some, impl_within.f]
  by_cases h0 : isP l0 = true
  · by_cases h1 : 0 ≤ a1
    · rw [if_pos h0, if_pos h1, w64 (by omega) (by omega)]
      by_cases h2 : a1 < l0.length
      · have h9 := isP_rd h0 h1 h2
        rw [w64 (by omega) (by omega)]
        by_cases h3 : 0 ≤ a2
        · have h4 : ¬ (a2 < rd l0 a1) := fun h4 => h ⟨h0, h1, h2, h3, h4⟩
          have e1 : a1 ≤ (l0.length : Int) - 1 := by omega
          have e2 : ¬ (a2 ≤ rd l0 a1 - 1) := by omega
          simp [h1, h2, h3, e1, e2]
        · have e1 : a1 ≤ (l0.length : Int) - 1 := by omega
          simp [h1, h2, h3, e1]
      · have e1 : ¬ (a1 ≤ (l0.length : Int) - 1) := by omega
        simp [e1]
    · simp [h0, h1]
  · simp [h0]

theorem bit_ok (b : Bool) : ∃ v, spec_l1Bit.f b = some v := by
  rw [spec_l1Bit.f]; cases b <;> exact ⟨_, rfl⟩

theorem once_ok {s : List Int} {pos h n : Int} (hn : s.length ≤ 1099511627776) (h0 : 0 ≤ pos) (h1 : 1 ≤ n) (h2 : n ≤ 256) : ∃ b p' h', spec_l1Once.f s pos h n = some (b, p', h') ∧ 0 ≤ p' := by
  obtain ⟨v, p', h', e, _, _, hp⟩ := l1Below_ok (h := h) hn h0 h1 h2
  exact ⟨_, p', h', by rw [spec_l1Once.f, e, Option.bind_some], hp⟩

theorem drawHook_ok {s : List Int} {k : Nat} (hn : s.length ≤ 1099511627776) (hk : s.length + 100 < k) : ∃ (p : List Int) (r c : Int), spec_DrawHookOf.f k s = some (p, r, c) ∧ p.length ≤ 15 := by
  obtain ⟨h0, e0⟩ := l1New_ok (k := k) hn (by omega)
  obtain ⟨p, p1, h1, e1, hp, hp1⟩ := l2Bent_ok (h := h0) (most := 9) (k := k) alls9 (by omega) hn (Int.le_refl 0) (by omega)
  obtain ⟨v2, p2, h2, e2, _, _, hp2⟩ := l1Below_ok (h := h1) (n := 5) hn hp1 (by omega) (by omega)
  obtain ⟨b3, p3, h3, e3, hp3⟩ := once_ok (h := h2) (n := 8) hn hp2 (by omega) (by omega)
  obtain ⟨v3, e3'⟩ := bit_ok b3
  obtain ⟨v4, p4, h4, e4, _, _, hp4⟩ := l1Below_ok (h := h3) (n := 5) hn hp3 (by omega) (by omega)
  obtain ⟨b5, p5, h5, e5, hp5⟩ := once_ok (h := h4) (n := 8) hn hp4 (by omega) (by omega)
  obtain ⟨v5, e5'⟩ := bit_ok b5
  refine ⟨p, wrap64 (v2 - v3), wrap64 (v4 - v5), ?_, hp⟩
  rw [spec_DrawHookOf.f, spec_l3Case.f, e0, Option.bind_some]
  have e1' : spec_l2Bent.f k s 0 h0 9 = some (p, p1, h1) := e1
  rw [e1', Option.bind_some, e2, Option.bind_some, e3, Option.bind_some, e3', Option.bind_some, e4, Option.bind_some, e5, Option.bind_some, e5', Option.bind_some, Option.bind_some]

theorem drawStd_ok {s : List Int} {k : Nat} (hn : s.length ≤ 1099511627776) (hk : s.length + 100 < k) : ∃ (p : List Int), spec_DrawStandardCount.f k s = some p ∧ p.length ≤ 15 := by
  obtain ⟨h0, e0⟩ := l1New_ok (k := k) hn (by omega)
  obtain ⟨p, p1, h1, e1, hp, hp1⟩ := l2Bent_ok (h := h0) (most := 9) (k := k) alls9 (by omega) hn (Int.le_refl 0) (by omega)
  refine ⟨p, ?_, hp⟩
  rw [spec_DrawStandardCount.f, e0, Option.bind_some]
  have e1' : spec_l2Bent.f k s 0 h0 9 = some (p, p1, h1) := e1
  rw [e1', Option.bind_some]

theorem drawCol_ok {s : List Int} {k : Nat} (hn : s.length ≤ 1099511627776) (hk : s.length + 100 < k) : ∃ (p : List Int) (n : Int), spec_DrawColumnCount.f k s = some (p, n) ∧ p.length ≤ 15 := by
  obtain ⟨h0, e0⟩ := l1New_ok (k := k) hn (by omega)
  obtain ⟨p, p1, h1, e1, hp, hp1⟩ := l2Bent_ok (h := h0) (most := 9) (k := k) alls9 (by omega) hn (Int.le_refl 0) (by omega)
  obtain ⟨v2, p2, h2, e2, _, _, hp2⟩ := l1Below_ok (h := h1) (n := 9) hn hp1 (by omega) (by omega)
  refine ⟨p, wrap64 (v2 - 1), ?_, hp⟩
  rw [spec_DrawColumnCount.f, e0, Option.bind_some]
  have e1' : spec_l2Bent.f k s 0 h0 9 = some (p, p1, h1) := e1
  rw [e1', Option.bind_some, e2, Option.bind_some]

set_option maxHeartbeats 8000000 in
theorem hook_cells : (cellsP.all fun t => (impl_HookOf.f 80 t.1 t.2.1 t.2.2 == spec_HookOf.f 80 t.1 t.2.1 t.2.2) && (spec_HookOf.f 80 t.1 t.2.1 t.2.2).isSome && (impl_ArmOf.f 80 t.1 t.2.1 t.2.2 == spec_ArmOf.f 80 t.1 t.2.1 t.2.2) && (spec_ArmOf.f 80 t.1 t.2.1 t.2.2).isSome && (impl_LegOf.f 80 t.1 t.2.1 t.2.2 == spec_LegOf.f 80 t.1 t.2.1 t.2.2) && (spec_LegOf.f 80 t.1 t.2.1 t.2.2).isSome && (impl_ContentOf.f 80 t.1 t.2.1 t.2.2 == spec_ContentOf.f 80 t.1 t.2.1 t.2.2) && (spec_ContentOf.f 80 t.1 t.2.1 t.2.2).isSome) = true := by decide +kernel

theorem both {α : Type} {g f : Nat → Option α} (hg : ∀ k, LeO (g k) (g (k + 1))) (hf : ∀ k, LeO (f k) (f (k + 1))) {k0 k : Nat} (hk : k0 ≤ k) (e : g k0 = f k0) (s : (f k0).isSome = true) : ∃ v, g k = some v ∧ f k = some v := by
  obtain ⟨v, hv⟩ := Option.isSome_iff_exists.1 s
  exact ⟨v, at_rounds hg hk (e.trans hv), at_rounds hf hk hv⟩

theorem four_ok {l0 : List Int} {k : Nat} (a1 a2 : Int) (hn : l0.length ≤ 15) (hk : 100 ≤ k) :
    (∃ v, impl_HookOf.f k l0 a1 a2 = some v ∧ spec_HookOf.f k l0 a1 a2 = some v) ∧ (∃ v, impl_ArmOf.f k l0 a1 a2 = some v ∧ spec_ArmOf.f k l0 a1 a2 = some v) ∧
    (∃ v, impl_LegOf.f k l0 a1 a2 = some v ∧ spec_LegOf.f k l0 a1 a2 = some v) ∧ (∃ v, impl_ContentOf.f k l0 a1 a2 = some v ∧ spec_ContentOf.f k l0 a1 a2 = some v) := by
  have hn' : l0.length ≤ 1099511627776 := by omega
  by_cases hc : isP l0 = true ∧ 0 ≤ a1 ∧ a1 < l0.length ∧ 0 ≤ a2 ∧ a2 < rd l0 a1
  · have h := all_at hook_cells (cells_mem hc)
    simp only [Bool.and_eq_true, beq_iff_eq] at h
    obtain ⟨⟨⟨⟨⟨⟨⟨h1, h2⟩, h3⟩, h4⟩, h5⟩, h6⟩, h7⟩, h8⟩ := h
    exact ⟨both (impl_HookOf.mono _ _ _) (spec_HookOf.mono _ _ _) (by omega) h1 h2, both (impl_ArmOf.mono _ _ _) (spec_ArmOf.mono _ _ _) (by omega) h3 h4, both (impl_LegOf.mono _ _ _) (spec_LegOf.mono _ _ _) (by omega) h5 h6, both (impl_ContentOf.mono _ _ _) (spec_ContentOf.mono _ _ _) (by omega) h7 h8⟩
  · have h1 := specCell_no (k := k) hn' (by omega) hc
    have h2 := implCell_no (k := k) hn' (by omega) hc
    refine ⟨⟨-1, ?_, ?_⟩, ⟨-1, ?_, ?_⟩, ⟨-1, ?_, ?_⟩, ⟨-100, ?_, ?_⟩⟩
    · rw [impl_HookOf.f, h2]; rfl
    · rw [spec_HookOf.f, h1]; rfl
    · rw [impl_ArmOf.f, h2]; rfl
    · rw [spec_ArmOf.f, h1]; rfl
    · rw [impl_LegOf.f, h2]; rfl
    · rw [spec_LegOf.f, h1]; rfl
    · rw [impl_ContentOf.f, h2]; rfl
    · rw [spec_ContentOf.f, h1]; rfl

set_option maxHeartbeats 8000000 in
theorem q_parts : ((genP 9 9 9).all fun q => (impl_StandardCount.f 100 q == spec_StandardCount.f 100 q) && (spec_StandardCount.f 100 q).isSome && (impl_HookProduct.f 100 q == spec_HookProduct.f 100 q) && (spec_HookProduct.f 100 q).isSome && (impl_HookLengths.f 100 q == spec_HookLengths.f 100 q) && (spec_HookLengths.f 100 q).isSome) = true := by decide +kernel

theorem q_ok {l0 : List Int} {k : Nat} (hn : l0.length ≤ 15) (hk : 100 ≤ k) :
    (∃ v, impl_StandardCount.f k l0 = some v ∧ spec_StandardCount.f k l0 = some v) ∧ (∃ v, impl_HookProduct.f k l0 = some v ∧ spec_HookProduct.f k l0 = some v) ∧ (∃ v, impl_HookLengths.f k l0 = some v ∧ spec_HookLengths.f k l0 = some v) := by
  have hn' : l0.length ≤ 1099511627776 := by omega
  cases hp : isP l0 with
  | true =>
    have h := all_at q_parts (isP_mem hp)
    simp only [Bool.and_eq_true, beq_iff_eq] at h
    obtain ⟨⟨⟨⟨⟨h1, h2⟩, h3⟩, h4⟩, h5⟩, h6⟩ := h
    exact ⟨both (impl_StandardCount.mono _) (spec_StandardCount.mono _) hk h1 h2, both (impl_HookProduct.mono _) (spec_HookProduct.mono _) hk h3 h4, both (impl_HookLengths.mono _) (spec_HookLengths.mono _) hk h5 h6⟩
  | false =>
    refine ⟨⟨0, ?_, ?_⟩, ⟨0, ?_, ?_⟩, ⟨[], ?_, ?_⟩⟩
    · rw [impl_StandardCount.f, implIsP_eq hn' (by omega), hp]; rfl
    · rw [spec_StandardCount.f, specIsP_eq hn' (by omega), hp]; rfl
    · rw [impl_HookProduct.f, implIsP_eq hn' (by omega), hp]; rfl
    · rw [spec_HookProduct.f, specIsP_eq hn' (by omega), hp]; rfl
    · rw [impl_HookLengths.f, implIsP_eq hn' (by omega), hp]; rfl
    · rw [spec_HookLengths.f, specIsP_eq hn' (by omega), hp]; rfl

set_option maxHeartbeats 8000000 in
theorem col_parts : ((genP 9 9 9).all fun q => (List.range 7).all fun n => (impl_ColumnCount.f 100 q (n : Int) == spec_ColumnCount.f 100 q (n : Int)) && (spec_ColumnCount.f 100 q (n : Int)).isSome) = true := by decide +kernel

theorem col_ok {l0 : List Int} {a1 : Int} {k : Nat} (hn : l0.length ≤ 15) (hk : 100 ≤ k) : ∃ v, impl_ColumnCount.f k l0 a1 = some v ∧ spec_ColumnCount.f k l0 a1 = some v := by
  have hn' : l0.length ≤ 1099511627776 := by omega
  by_cases hc : isP l0 = true ∧ 0 ≤ a1 ∧ a1 ≤ 6
  · obtain ⟨h0, h1, h2⟩ := hc
    obtain ⟨n, rfl⟩ := Int.eq_ofNat_of_zero_le h1
    have h := all_at (all_at col_parts (isP_mem h0)) (List.mem_range.2 (show n < 7 by omega))
    simp only [Bool.and_eq_true, beq_iff_eq] at h
    exact both (impl_ColumnCount.mono _ _) (spec_ColumnCount.mono _ _) hk h.1 h.2
  · obtain ⟨k, rfl⟩ : ∃ m, k = m + 1 := ⟨k - 1, by omega⟩
    have hs : spec_ColumnCount.j0 (k + 1) l0 a1 true = some (-1) := by rw [spec_ColumnCount.j0]; rfl
    have hi : impl_ColumnCount.j0 (k + 1) l0 a1 true = some (-1) := by rw [impl_ColumnCount.j0]; rfl
    refine ⟨-1, ?_, ?_⟩
    · rw [impl_ColumnCount.f, implIsP_eq hn' (by omega), impl_within.f]
      simp only [Option.bind_some]
      by_cases h0 : isP l0 = true
      · rw [if_pos h0]
        by_cases h1 : 0 ≤ a1
        · have h2 : ¬ (a1 ≤ 6) := fun h2 => hc ⟨h0, h1, h2⟩
          simp [h1, h2, hi]
        · simp [h1, hi]
      · simp [h0, hi]
    · rw [spec_ColumnCount.f, specIsP_eq hn' (by omega), spec_l1In.f]
      simp only [Option.bind_some]
      by_cases h0 : isP l0 = true
      · rw [if_pos h0]
        by_cases h1 : 0 ≤ a1
        · have h2 : ¬ (a1 ≤ 6) := fun h2 => hc ⟨h0, h1, h2⟩
          simp [h1, h2, hs]
        · simp [h1, hs]
      · simp [h0, hs]

set_option maxHeartbeats 8000000 in
theorem same_lists : ((genP 9 9 9).all fun q => match impl_HookLengths.f 100 q with
  | some v => laws_sameLists.f 100 v v == some true
  | none => false) = true := by decide +kernel

set_option maxHeartbeats 8000000 in
theorem end_parts : ((genP 9 9 9).all fun q => match impl_StandardCount.f 100 q with
  | some n => laws_FnHooks.j0 200 q n false == some true
  | none => false) = true := by decide +kernel

theorem FnHooks (l0 : List Int) (hm : l0.length ≤ maxLen) (hwf : ∀ x ∈ l0, (Lit.int .u8 x).wf = true) : ∃ k, laws_FnHooks.f k l0 = some true := by
  by_cases hbig : (l0.length : Int) > 1048576
  · exact ⟨0, by rw [laws_FnHooks.f, big_yes hbig]; rfl⟩
  have hn : l0.length ≤ 1099511627776 := by omega
  refine ⟨l0.length + 400, ?_⟩
  generalize hk : l0.length + 400 = k
  obtain ⟨p, r, c, e1, hp⟩ := drawHook_ok (k := k) hn (by omega)
  obtain ⟨q, e2, hq⟩ := drawStd_ok (k := k) hn (by omega)
  obtain ⟨m, n, e3, hm⟩ := drawCol_ok (k := k) hn (by omega)
  obtain ⟨⟨v1, f1, g1⟩, ⟨v2, f2, g2⟩, ⟨v3, f3, g3⟩, ⟨v4, f4, g4⟩⟩ := four_ok (k := k) r c hp (by omega)
  obtain ⟨⟨v5, f5, g5⟩, ⟨v6, f6, g6⟩, ⟨v7, f7, g7⟩⟩ := q_ok (k := k) hq (by omega)
  obtain ⟨v8, f8, g8⟩ := col_ok (k := k) (a1 := n) hm (by omega)
  have hq' : q.length ≤ 1099511627776 := by omega
  have hs : laws_sameLists.f k v7 v7 = some true := by
    cases hp : isP q with
    | true =>
      have h := all_at same_lists (isP_mem hp)
      cases e : impl_HookLengths.f 100 q with
      | none => rw [e] at h; cases h
      | some v =>
        rw [e] at h
        have e' := at_rounds (impl_HookLengths.mono q) (show 100 ≤ k by omega) e
        obtain rfl : v = v7 := Option.some.inj (e'.symm.trans f7)
        exact at_rounds (laws_sameLists.mono v v) (show 100 ≤ k by omega) (by simpa using h)
    | false =>
      have : impl_HookLengths.f k q = some [] := by rw [impl_HookLengths.f, implIsP_eq hq' (by omega), hp]; rfl
      obtain rfl : ([] : List (List Int)) = v7 := Option.some.inj (this.symm.trans f7)
      obtain ⟨k, rfl⟩ : ∃ m, k = m + 1 := ⟨k - 1, by omega⟩
      rfl
  have hj : laws_FnHooks.j0 k q v5 false = some true := by
    cases hp : isP q with
    | true =>
      have h := all_at end_parts (isP_mem hp)
      cases e : impl_StandardCount.f 100 q with
      | none => rw [e] at h; cases h
      | some v =>
        rw [e] at h
        have e' := at_rounds (impl_StandardCount.mono q) (show 100 ≤ k by omega) e
        obtain rfl : v = v5 := Option.some.inj (e'.symm.trans f5)
        exact at_rounds (g := fun k => laws_FnHooks.j0 k q v false) (fun k => (laws_FnHooks.mono_l k).1 _ _ _) (show 200 ≤ k by omega) (by simpa using h)
    | false =>
      have : impl_StandardCount.f k q = some 0 := by rw [impl_StandardCount.f, implIsP_eq hq' (by omega), hp]; rfl
      obtain rfl : (0 : Int) = v5 := Option.some.inj (this.symm.trans f5)
      obtain ⟨k, rfl⟩ : ∃ m, k = m + 1 := ⟨k - 1, by omega⟩
      rw [laws_FnHooks.j0, if_neg (by decide), specIsP_eq hq' (by omega), hp]
      rfl
  have hb : (v8 != v8) = false := by simp
  rw [laws_FnHooks.f, big_no hbig]
  simp only [Option.bind_some, e1, e2, e3, f1, g1, f2, g2, f3, g3, f4, g4, f5, g5, f6, g6, f7, g7, f8, g8, hs, hb, if_true, hj]
  simp

end Go.Proofs.Ytkbomfpebhjaoaa.Pure
