/- For every tableau value the program's TurnTableau and the reference's return the same tableau, in memory of its own, and the argument reads as before (the facts that the law's walk asks for; pure part here). No condition. -/
import Derived.Test.YtiehngfcfdlbnaaVFnExactTurnTableau
namespace Go.Proofs.Ytiehngfcfdlbnaa.Pure
open Go.RowKit Go.Proofs.Ytiehngfcfdlbnaa.QFnExactTurnTableau Go.Proofs.YtiehngfcfdlbnaaW.PrintWords Go.Proofs.YtiehngfcfdlbnaaW.PrintLast
set_option linter.unusedVariables false
set_option linter.unusedSimpArgs false

theorem w64 {x : Int} (h1 : -9223372036854775808 ≤ x) (h2 : x ≤ 9223372036854775807) : wrap64 x = x := by
 unfold wrap64; omega

theorem rd_nat (xs : List Int) (i : Nat) (h : i < xs.length) : rd xs (i : Int) = xs[i] := by
 unfold rd; rw [Int.toNat_natCast]; simp [List.getD, h]

theorem succ_of_pos {d k : Nat} (h : d < k) : ∃ m, k = m + 1 := ⟨k - 1, by omega⟩

theorem wf_ints {l : List Int} (h : ∀ x ∈ l, (Lit.int .i64 x).wf = true) : ∀ x ∈ l, -9223372036854775808 ≤ x ∧ x ≤ 9223372036854775807 := by
 intro x hx
 have := h x hx
 simp [Lit.wf, IntKind.min, IntKind.max, IntKind.bits, IntKind.signed] at this
 omega

theorem wf_int {x : Int} (h : (Lit.int .i64 x).wf = true) : -9223372036854775808 ≤ x ∧ x ≤ 9223372036854775807 := by
 simp [Lit.wf, IntKind.min, IntKind.max, IntKind.bits, IntKind.signed] at h
 omega

theorem toIntS_l0 (xs : List Int) (hn : xs.length ≤ 1099511627776) : ∀ (d k i : Nat) (ys : List Int), i + d = xs.length → ys.length = xs.length → (∀ j, j < i → ys[j]? = xs[j]?) → d < k → laws_toIntS.l0 k xs ys (i : Int) = some xs := by
 intro d
 induction d with
 | zero =>
  intro k i ys hi hl ht hk
  obtain ⟨k, rfl⟩ := succ_of_pos hk
  rw [laws_toIntS.l0, if_neg (by omega)]
  congr 1
  refine List.ext_getElem? fun j => ?_
  by_cases hj : j < i
  ·exact ht j hj
  ·rw [List.getElem?_eq_none (by omega), List.getElem?_eq_none (by omega)]
 | succ d ih =>
  intro k i ys hi hl ht hk
  obtain ⟨k, rfl⟩ := succ_of_pos hk
  rw [laws_toIntS.l0, if_pos (by omega), if_pos (by omega), if_pos (by omega), w64 (by omega) (by omega), rd_nat _ _ (by omega), Int.toNat_natCast]
  refine ih k (i + 1) (ys.set i xs[i]) (by omega) (by simp [hl]) (fun j hj => ?_) (by omega)
  rw [List.getElem?_set]
  by_cases hij : i = j
  ·subst hij
   rw [if_pos rfl, if_pos (by omega), List.getElem?_eq_getElem]
  ·rw [if_neg hij]
   exact ht j (by omega)

theorem toIntS_eq {k : Nat} {xs : List Int} (hn : xs.length ≤ 1099511627776) (hk : xs.length < k) : laws_toIntS.f k xs = some xs := by
 rw [laws_toIntS.f, if_pos (by omega), if_pos (by omega)]
 exact toIntS_l0 xs hn xs.length k 0 _ (by omega) (by simp) (fun j hj => by omega) hk

theorem eqIntS_l0 (xs ys : List Int) (hn : xs.length ≤ 1099511627776) (hl : xs.length = ys.length) : ∀ (d k i : Nat), i + d = xs.length → d < k → laws_eqIntS.l0 k xs ys (i : Int) = some (decide (xs.drop i = ys.drop i)) := by
 intro d
 induction d with
 | zero =>
  intro k i hi hk
  obtain ⟨k, rfl⟩ := succ_of_pos hk
  rw [laws_eqIntS.l0, if_neg (by omega), List.drop_of_length_le (by omega), List.drop_of_length_le (by omega)]
  rfl
 | succ d ih =>
  intro k i hi hk
  obtain ⟨k, rfl⟩ := succ_of_pos hk
  rw [laws_eqIntS.l0, if_pos (by omega), if_pos (by omega), if_pos (by omega), w64 (by omega) (by omega), rd_nat xs i (by omega), rd_nat ys i (by omega), List.drop_eq_getElem_cons (l := xs) (i := i) (by omega), List.drop_eq_getElem_cons (l := ys) (i := i) (by omega)]
  by_cases h : xs[i] = ys[i]
  ·rw [if_pos h, h]
   simp only [List.cons.injEq, true_and]
   exact ih k (i + 1) (by omega) (by omega)
  ·rw [if_neg h]
   simp only [List.cons.injEq, h, false_and, decide_false]

theorem eqIntS_eq {k : Nat} {xs ys : List Int} (hn : xs.length ≤ 1099511627776) (hk : xs.length < k) : laws_eqIntS.f k xs ys = some (decide (xs = ys)) := by
 rw [laws_eqIntS.f]
 by_cases h : xs.length = ys.length
 ·rw [if_pos (by omega)]
  exact eqIntS_l0 xs ys hn h xs.length k 0 (by omega) hk
 ·rw [if_neg (by omega)]
  have : xs ≠ ys := fun e => h (by rw [e])
  simp [this]

theorem eqIntS_self {k : Nat} {xs : List Int} (hn : xs.length ≤ 1099511627776) (hk : xs.length < k) : laws_eqIntS.f k xs xs = some true := by
 rw [eqIntS_eq hn hk]; simp

theorem rdl_nat (xs : List (List Int)) (i : Nat) (h : i < xs.length) : rd_L1 xs (i : Int) = xs[i] := by
 unfold rd_L1; rw [Int.toNat_natCast]; simp [List.getD, h]

def sizes (R : List (List Int)) : Nat := (R.map List.length).sum

theorem sizes_cons (x : List Int) (R : List (List Int)) : sizes (x :: R) = x.length + sizes R := by simp [sizes]

theorem le_sum_mem : ∀ {l : List Nat} {x : Nat}, x ∈ l → x ≤ l.sum
 | a :: l, x, h => by
  rw [List.sum_cons]
  rcases List.mem_cons.1 h with rfl | h
  ·omega
  ·have := le_sum_mem h
   omega

theorem sizes_at {R : List (List Int)} {i : Nat} (h : i < R.length) : (R[i]).length ≤ sizes R := by
 unfold sizes
 exact le_sum_mem (List.mem_map.2 ⟨R[i], List.getElem_mem _, rfl⟩)

theorem szIntSS_l0 (R : List (List Int)) (hR : R.length ≤ 1099511627776) (hr : ∀ x ∈ R, x.length ≤ maxLen) : ∀ (d k i : Nat) (m : Int), i + d = R.length → d < k → 0 ≤ m → m ≤ 1048576 →
  ∃ s, laws_szIntSS.l0 k R m (i : Int) = some s ∧ (s < 0 ∨ (0 ≤ s ∧ s = m - sizes (R.drop i))) := by
 intro d
 induction d with
 | zero =>
  intro k i m hi hk h0 h1
  obtain ⟨k, rfl⟩ := succ_of_pos hk
  refine ⟨m, by rw [laws_szIntSS.l0, if_neg (by omega)], .inr ⟨h0, ?_⟩⟩
  rw [List.drop_of_length_le (by omega)]
  simp [sizes]
 | succ d ih =>
  intro k i m hi hk h0 h1
  obtain ⟨k, rfl⟩ := succ_of_pos hk
  have hil : i < R.length := by omega
  have hb := hr R[i] (List.getElem_mem _)
  unfold maxLen at hb
  rw [laws_szIntSS.l0, if_pos (by omega), if_pos (by omega), rdl_nat R i hil, laws_szIntS.f, w64 (x := m - ((R[i]).length : Int)) (by omega) (by omega), w64 (x := (i : Int) + 1) (by omega) (by omega)]
  by_cases hc : m - ((R[i]).length : Int) < 0
  ·exact ⟨-1, by rw [if_pos hc]; simp, .inl (by omega)⟩
  ·rw [if_neg hc]
   simp only [Option.bind_some]
   rw [if_neg hc]
   obtain ⟨s, hs, h⟩ := ih k (i + 1) (m - ((R[i]).length : Int)) (by omega) (by omega) (by omega) (by omega)
   refine ⟨s, hs, h.imp id fun h => ⟨h.1, ?_⟩⟩
   rw [h.2, List.drop_eq_getElem_cons hil, sizes_cons]
   omega

theorem szTableau_two {I : List Int} {R : List (List Int)} {m : Int} {k : Nat} (h0 : I.length ≤ maxLen) (h1 : R.length ≤ maxLen) (hr : ∀ x ∈ R, x.length ≤ maxLen) (hm : 0 ≤ m) (hm1 : m ≤ 1048576) (hk : 1048580 < k) :
  ∃ s, laws_szTableau.f k I R m = some s ∧ (s < 0 ∨ (I.length ≤ 1048576 ∧ R.length ≤ 1048576 ∧ sizes R ≤ 1048576 ∧ 0 ≤ s ∧ s ≤ 1048576)) := by
 have hr' := hr
 unfold maxLen at h0 h1
 simp only [laws_szTableau.f, laws_szIntS.f, laws_szIntSS.f]
 rw [w64 (x := m - (I.length : Int)) (by omega) (by omega)]
 by_cases ha : m - (I.length : Int) < 0
 ·exact ⟨-1, by rw [if_pos ha]; simp, .inl (by omega)⟩
 ·rw [if_neg ha]
  simp only [Option.bind_some]
  rw [if_neg ha, w64 (x := m - (I.length : Int) - (R.length : Int)) (by omega) (by omega)]
  by_cases hb : m - (I.length : Int) - (R.length : Int) < 0
  ·exact ⟨-1, by rw [if_pos hb]; simp, .inl (by omega)⟩
  ·rw [if_neg hb]
   obtain ⟨s, hs, h⟩ := szIntSS_l0 R (by omega) hr' R.length k 0 (m - (I.length : Int) - (R.length : Int)) (by omega) (by omega) (by omega) (by omega)
   have hs' : laws_szIntSS.l0 k R (m - (I.length : Int) - (R.length : Int)) 0 = some s := hs
   rw [hs', Option.bind_some]
   rcases h with h | ⟨h2, h3⟩
   ·exact ⟨-1, by rw [if_pos h], .inl (by omega)⟩
   ·rw [List.drop_zero] at h3
    exact ⟨s, by rw [if_neg (by omega)], .inr ⟨by omega, by omega, by omega, h2, by omega⟩⟩

theorem toIntSS_l0 (R : List (List Int)) (hR : R.length ≤ 1099511627776) {B : Nat} (hB : B ≤ 1099511627776) (hr : ∀ x ∈ R, x.length ≤ B) : ∀ (d k i : Nat) (ys : List (List Int)), i + d = R.length → ys.length = R.length → (∀ j, j < i → ys[j]? = R[j]?) → d + B + 1 < k → laws_toIntSS.l0 k R ys (i : Int) = some R := by
 intro d
 induction d with
 | zero =>
  intro k i ys hi hl ht hk
  obtain ⟨k, rfl⟩ := succ_of_pos hk
  rw [laws_toIntSS.l0, if_neg (by omega)]
  congr 1
  refine List.ext_getElem? fun j => ?_
  by_cases hj : j < i
  ·exact ht j hj
  ·rw [List.getElem?_eq_none (by omega), List.getElem?_eq_none (by omega)]
 | succ d ih =>
  intro k i ys hi hl ht hk
  obtain ⟨k, rfl⟩ := succ_of_pos hk
  have hil : i < R.length := by omega
  have hb := hr R[i] (List.getElem_mem _)
  rw [laws_toIntSS.l0, if_pos (by omega), if_pos (by omega), rdl_nat R i hil, toIntS_eq (by omega) (by omega), Option.bind_some, if_pos (by omega), w64 (by omega) (by omega), Int.toNat_natCast]
  refine ih k (i + 1) (ys.set i R[i]) (by omega) (by simp [hl]) (fun j hj => ?_) (by omega)
  rw [List.getElem?_set]
  by_cases hij : i = j
  ·subst hij
   rw [if_pos rfl, if_pos (by omega), List.getElem?_eq_getElem]
  ·rw [if_neg hij]
   exact ht j (by omega)

theorem toTableau_eq {k : Nat} {I : List Int} {R : List (List Int)} (hn : I.length ≤ 1048576) (hR : R.length ≤ 1048576) (hs : sizes R ≤ 1048576) (hk : 4194304 < k) : laws_toTableau.f k I R = some (I, R) := by
 have hr : ∀ x ∈ R, x.length ≤ 1048576 := by
  intro x hx
  obtain ⟨i, hi, rfl⟩ := List.getElem_of_mem hx
  exact Nat.le_trans (sizes_at hi) hs
 rw [laws_toTableau.f, toIntS_eq (by omega) (by omega), Option.bind_some, laws_toIntSS.f, if_pos (by omega), if_pos (by omega)]
 have := toIntSS_l0 R (by omega) (B := 1048576) (by omega) hr R.length k 0 (List.replicate ((R.length : Int) : Int).toNat []) (by omega) (by simp) (fun j hj => by omega) (by omega)
 have h2 : laws_toIntSS.l0 k R (List.replicate ((R.length : Int) : Int).toNat []) 0 = some R := this
 rw [h2, Option.bind_some]

theorem eqIntSS_l0 (R : List (List Int)) (hR : R.length ≤ 1099511627776) {B : Nat} (hB : B ≤ 1099511627776) (hr : ∀ x ∈ R, x.length ≤ B) : ∀ (d k i : Nat), i + d = R.length → d + B + 1 < k → laws_eqIntSS.l0 k R R (i : Int) = some true := by
 intro d
 induction d with
 | zero =>
  intro k i hi hk
  obtain ⟨k, rfl⟩ := succ_of_pos hk
  rw [laws_eqIntSS.l0, if_neg (by omega)]
 | succ d ih =>
  intro k i hi hk
  obtain ⟨k, rfl⟩ := succ_of_pos hk
  have hil : i < R.length := by omega
  have hb := hr R[i] (List.getElem_mem _)
  rw [laws_eqIntSS.l0, if_pos (by omega), if_pos (by omega), if_pos (by omega), rdl_nat R i hil, eqIntS_self (by omega) (by omega), Option.bind_some, if_pos rfl, w64 (by omega) (by omega)]
  exact ih k (i + 1) (by omega) (by omega)

theorem eqTableau_self {k : Nat} {I : List Int} {R : List (List Int)} (hn : I.length ≤ 1048576) (hR : R.length ≤ 1048576) (hs : sizes R ≤ 1048576) (hk : 4194304 < k) : laws_eqTableau.f k I R I R = some true := by
 have hr : ∀ x ∈ R, x.length ≤ 1048576 := by
  intro x hx
  obtain ⟨i, hi, rfl⟩ := List.getElem_of_mem hx
  exact Nat.le_trans (sizes_at hi) hs
 have h2 : laws_eqIntSS.l0 k R R 0 = some true := eqIntSS_l0 R (by omega) (B := 1048576) (by omega) hr R.length k 0 (by omega) (by omega)
 rw [laws_eqTableau.f, eqIntS_self (by omega) (by omega), Option.bind_some, if_pos rfl, laws_eqIntSS.f, if_pos rfl, h2, Option.bind_some, if_pos rfl]

def isPfrom : Int → Int → List Int → Bool
 | _, _, [] => true
 | prev, sum, x :: xs => decide (1 ≤ x) && decide (x ≤ 9) && decide (x ≤ prev) && decide (sum + x ≤ 9) && isPfrom x (sum + x) xs

def isP (p : List Int) : Bool := isPfrom 9 0 p

def prevAt (xs : List Int) (i : Nat) : Int := if i = 0 then 9 else rd xs ((i : Int) - 1)

theorem prevAt_succ (xs : List Int) (i : Nat) (h : i < xs.length) : prevAt xs (i + 1) = xs[i] := by
 unfold prevAt
 rw [if_neg (by omega), show ((i + 1 : Nat) : Int) - 1 = (i : Int) by omega, rd_nat _ _ h]

theorem isPfrom_step (xs : List Int) (i : Nat) (sum : Int) (h : i < xs.length) :
  isPfrom (prevAt xs i) sum (xs.drop i) = (decide (1 ≤ xs[i]) && decide (xs[i] ≤ 9) && decide (xs[i] ≤ prevAt xs i) && decide (sum + xs[i] ≤ 9) && isPfrom (prevAt xs (i + 1)) (sum + xs[i]) (xs.drop (i + 1))) := by
 rw [List.drop_eq_getElem_cons h, isPfrom, prevAt_succ xs i h]

def genP : Nat → Nat → Nat → List (List Int)
 | 0, _, _ => [[]]
 | f + 1, m, b => [] :: (List.range (min m b)).flatMap fun a => (genP f (a + 1) (b - (a + 1))).map (((a + 1 : Nat) : Int) :: ·)

theorem mem_genP : ∀ (xs : List Int) (f m b : Nat) (prev sum : Int), isPfrom prev sum xs = true → prev ≤ m → 9 - sum ≤ b → b ≤ f → sum ≤ 9 → xs ∈ genP f m b
 | [], 0, _, _, _, _, _, _, _, _, _ => by simp [genP]
 | [], f + 1, _, _, _, _, _, _, _, _, _ => by simp [genP]
 | x :: xs, 0, m, b, prev, sum, h, hm, hb, hf, hs => by
  simp [isPfrom] at h
  omega
 | x :: xs, f + 1, m, b, prev, sum, h, hm, hb, hf, hs => by
  simp only [isPfrom, Bool.and_eq_true, decide_eq_true_eq] at h
  obtain ⟨⟨⟨⟨h1, h2⟩, h3⟩, h4⟩, h5⟩ := h
  simp only [genP, List.mem_cons, List.mem_flatMap, List.mem_map, List.mem_range]
  refine .inr ⟨(x - 1).toNat, by omega, xs, ?_, ?_⟩
  ·exact mem_genP xs f _ _ x (sum + x) h5 (by omega) (by omega) (by omega) (by omega)
  ·congr 1
   omega

theorem isP_mem {p : List Int} (h : isP p = true) : p ∈ genP 9 9 9 := mem_genP p 9 9 9 9 0 h (by omega) (by omega) (by omega) (by omega)

theorem all_at {α : Type} {l : List α} {f : α → Bool} (h : l.all f = true) {x : α} (hx : x ∈ l) : f x = true := List.all_eq_true.1 h x hx

theorem genP_len : (genP 9 9 9).all (fun p => decide (p.length ≤ 9)) = true := by decide +kernel

theorem isP_len {p : List Int} (h : isP p = true) : p.length ≤ 9 := of_decide_eq_true (all_at genP_len (isP_mem h))

theorem genP_rng : (genP 9 9 9).all (fun p => p.all fun x => decide (1 ≤ x) && decide (x ≤ 9)) = true := by decide +kernel

theorem rd_mem {l : List Int} {i : Int} (h0 : 0 ≤ i) (h1 : i < l.length) : rd l i ∈ l := by
 obtain ⟨n, rfl⟩ := Int.eq_ofNat_of_zero_le h0
 rw [rd_nat l n (by omega)]
 exact List.getElem_mem _

theorem isP_rd {l : List Int} {i : Int} (h : isP l = true) (h0 : 0 ≤ i) (h1 : i < l.length) : 1 ≤ rd l i ∧ rd l i ≤ 9 := by
 have := all_at (all_at genP_rng (isP_mem h)) (rd_mem h0 h1)
 simpa using this

theorem specIsP_l0 (xs : List Int) (hn : xs.length ≤ 1099511627776) : ∀ (d k i : Nat) (sum : Int), i + d = xs.length → 0 ≤ sum → sum ≤ 9 → 2 * d < k → spec_IsPartition.l0 k xs sum (i : Int) = some (isPfrom (prevAt xs i) sum (xs.drop i)) := by
 intro d
 induction d with
 | zero =>
  intro k i sum hi _ _ hk
  obtain ⟨k, rfl⟩ := succ_of_pos hk
  rw [spec_IsPartition.l0, if_neg (by omega), List.drop_of_length_le (by omega)]
  rfl
 | succ d ih =>
  intro k i sum hi hs0 hs9 hk
  obtain ⟨k, rfl⟩ : ∃ m, k = m + 2 := ⟨k - 2, by omega⟩
  have hil : i < xs.length := by omega
  rw [spec_IsPartition.l0, if_pos (by omega), if_pos (by omega), rd_nat _ _ hil, isPfrom_step xs i sum hil, spec_l1In.f]
  by_cases h1 : xs[i] ≥ 1
  ·rw [if_pos h1]
   by_cases h2 : xs[i] ≤ 9
   ·have e1 : decide (1 ≤ xs[i]) = true := by simp; omega
    simp only [h2, e1, decide_true, Option.bind_some, Bool.true_and]
    rw [if_pos trivial]
    have hj : ∀ b : Bool, b = decide (xs[i] ≤ prevAt xs i) → spec_IsPartition.j1 (k + 1) xs sum (i : Int) (!b) = some (b && decide (sum + xs[i] ≤ 9) && isPfrom (prevAt xs (i + 1)) (sum + xs[i]) (xs.drop (i + 1))) := by
     intro b hb
     rw [spec_IsPartition.j1]
     cases b with
     | false => simp
     | true =>
      rw [if_neg (by simp), if_pos (by omega), if_pos (by omega), rd_nat _ _ hil, w64 (by omega) (by omega), w64 (by omega) (by omega)]
      by_cases h4 : sum + xs[i] > 9
      ·rw [if_pos h4]
       have : ¬ (sum + xs[i] ≤ 9) := by omega
       simp [this]
      ·rw [if_neg h4]
       have h5 : sum + xs[i] ≤ 9 := by omega
       have := ih k (i + 1) (sum + xs[i]) (by omega) (by omega) h5 (by omega)
       simp only [h5, decide_true, Bool.true_and]
       exact this
    by_cases h0 : (i : Int) > 0
    ·rw [if_pos h0, w64 (by omega) (by omega), if_pos (by omega), if_pos (by omega)]
     have e : decide (xs[i] > rd xs ((i : Int) - 1)) = !(decide (xs[i] ≤ prevAt xs i)) := by
      unfold prevAt
      rw [if_neg (by omega)]
      by_cases hc : xs[i] ≤ rd xs ((i : Int) - 1)
      ·have : ¬ (xs[i] > rd xs ((i : Int) - 1)) := by omega
       simp [hc]
      ·have : xs[i] > rd xs ((i : Int) - 1) := by omega
       simp [hc, this]
     rw [e]
     exact hj _ rfl
    ·rw [if_neg h0]
     have e : decide (xs[i] ≤ prevAt xs i) = true := by
      unfold prevAt
      rw [if_pos (by omega)]
      simpa using h2
     have := hj true e.symm
     rw [e]
     exact this
   ·simp [h2]
    rfl
  ·rw [if_neg h1]
   have : ¬ (1 ≤ xs[i]) := by omega
   simp [this]
   rfl

theorem specIsP_eq {k : Nat} {xs : List Int} (hn : xs.length ≤ 1099511627776) (hk : 2 * xs.length < k) : spec_IsPartition.f k xs = some (isP xs) :=
 specIsP_l0 xs hn xs.length k 0 0 (by omega) (by omega) (by omega) hk

theorem implIsP_l0 (xs : List Int) (hn : xs.length ≤ 1099511627776) : ∀ (d k i : Nat) (sum : Int), i + d = xs.length → 0 ≤ sum → sum ≤ 9 → 2 * d < k → impl_IsPartition.l0 k xs sum xs (xs.length : Int) (i : Int) = some (isPfrom (prevAt xs i) sum (xs.drop i)) := by
 intro d
 induction d with
 | zero =>
  intro k i sum hi _ _ hk
  obtain ⟨k, rfl⟩ := succ_of_pos hk
  rw [impl_IsPartition.l0, if_neg (by omega), List.drop_of_length_le (by omega)]
  rfl
 | succ d ih =>
  intro k i sum hi hs0 hs9 hk
  obtain ⟨k, rfl⟩ : ∃ m, k = m + 2 := ⟨k - 2, by omega⟩
  have hil : i < xs.length := by omega
  rw [impl_IsPartition.l0, if_pos (by omega), if_pos (by omega), if_pos (by omega), rd_nat _ _ hil, isPfrom_step xs i sum hil, impl_within.f]
  by_cases h1 : 1 ≤ xs[i]
  ·rw [if_pos h1]
   by_cases h2 : xs[i] ≤ 9
   ·simp only [h2, h1, decide_true, Option.bind_some, Bool.true_and]
    rw [if_pos trivial]
    have hj : ∀ b : Bool, b = decide (xs[i] ≤ prevAt xs i) → impl_IsPartition.j1 (k + 1) xs sum xs[i] xs (xs.length : Int) (i : Int) (!b) = some (b && decide (sum + xs[i] ≤ 9) && isPfrom (prevAt xs (i + 1)) (sum + xs[i]) (xs.drop (i + 1))) := by
     intro b hb
     rw [impl_IsPartition.j1]
     cases b with
     | false => simp
     | true =>
      rw [if_neg (by simp), w64 (by omega) (by omega), w64 (by omega) (by omega)]
      by_cases h4 : sum + xs[i] > 9
      ·rw [if_pos h4]
       have : ¬ (sum + xs[i] ≤ 9) := by omega
       simp [this]
      ·rw [if_neg h4]
       have h5 : sum + xs[i] ≤ 9 := by omega
       have := ih k (i + 1) (sum + xs[i]) (by omega) (by omega) h5 (by omega)
       simp only [h5, decide_true, Bool.true_and]
       exact this
    by_cases h0 : (i : Int) > 0
    ·rw [if_pos h0, w64 (by omega) (by omega), if_pos (by omega), if_pos (by omega)]
     have e : decide (xs[i] > rd xs ((i : Int) - 1)) = !(decide (xs[i] ≤ prevAt xs i)) := by
      unfold prevAt
      rw [if_neg (by omega)]
      by_cases hc : xs[i] ≤ rd xs ((i : Int) - 1)
      ·have : ¬ (xs[i] > rd xs ((i : Int) - 1)) := by omega
       simp [hc]
      ·have : xs[i] > rd xs ((i : Int) - 1) := by omega
       simp [hc, this]
     rw [e]
     exact hj _ rfl
    ·rw [if_neg h0]
     have e : decide (xs[i] ≤ prevAt xs i) = true := by
      unfold prevAt
      rw [if_pos (by omega)]
      simpa using h2
     have := hj true e.symm
     rw [e]
     exact this
   ·simp [h2]
    rfl
  ·rw [if_neg h1]
   simp [h1]
   rfl

theorem implIsP_eq {k : Nat} {xs : List Int} (hn : xs.length ≤ 1099511627776) (hk : 2 * xs.length < k) : impl_IsPartition.f k xs = some (isP xs) :=
 implIsP_l0 xs hn xs.length k 0 0 (by omega) (by omega) (by omega) hk

def insB : List Int → List Int → Bool
 | [], _ => true
 | _ :: _, [] => false
 | x :: xs, y :: ys => decide (x ≤ y) && insB xs ys

theorem ins_parts : (genP 9 9 9).all (fun q => (genP 9 9 9).all fun p => spec_IsInside.f 50 q p == some (insB q p) && impl_IsInside.f 50 q p == some (insB q p)) = true := by decide +kernel

theorem specInside_eq {k : Nat} {l0 l1 : List Int} (hn : l0.length ≤ 1099511627776) (hn1 : l1.length ≤ 1099511627776) (hk : 2 * l0.length + 2 * l1.length + 50 < k) : spec_IsInside.f k l0 l1 = some (isP l0 && isP l1 && insB l0 l1) := by
 by_cases hc : isP l0 = true ∧ isP l1 = true
 ·have h := all_at (all_at ins_parts (isP_mem hc.1)) (isP_mem hc.2)
  simp only [Bool.and_eq_true, beq_iff_eq] at h
  rw [hc.1, hc.2]
  exact at_rounds (spec_IsInside.mono l0 l1) (by omega) h.1
 ·obtain ⟨k, rfl⟩ := succ_of_pos hk
  rw [spec_IsInside.f, specIsP_eq hn (by omega)]
  simp only [Option.bind_some]
  cases h0 : isP l0 with
  | false => simp [spec_IsInside.j0]
  | true =>
   have h1 : isP l1 = false := by
    cases h1 : isP l1 with
    | false => rfl
    | true => exact absurd ⟨h0, h1⟩ hc
   rw [if_pos rfl, specIsP_eq hn1 (by omega), h1]
   simp [spec_IsInside.j0]

theorem implInside_eq {k : Nat} {l0 l1 : List Int} (hn : l0.length ≤ 1099511627776) (hn1 : l1.length ≤ 1099511627776) (hk : 2 * l0.length + 2 * l1.length + 50 < k) : impl_IsInside.f k l0 l1 = some (isP l0 && isP l1 && insB l0 l1) := by
 by_cases hc : isP l0 = true ∧ isP l1 = true
 ·have h := all_at (all_at ins_parts (isP_mem hc.1)) (isP_mem hc.2)
  simp only [Bool.and_eq_true, beq_iff_eq] at h
  rw [hc.1, hc.2]
  exact at_rounds (impl_IsInside.mono l0 l1) (by omega) h.2
 ·obtain ⟨k, rfl⟩ := succ_of_pos hk
  rw [impl_IsInside.f, implIsP_eq hn (by omega)]
  simp only [Option.bind_some]
  cases h0 : isP l0 with
  | false => simp [impl_IsInside.j0]
  | true =>
   have h1 : isP l1 = false := by
    cases h1 : isP l1 with
    | false => rfl
    | true => exact absurd ⟨h0, h1⟩ hc
   rw [if_pos rfl, implIsP_eq hn1 (by omega), h1]
   simp [impl_IsInside.j0]

def insPairs : List (List Int × List Int) := (genP 9 9 9).flatMap fun p => ((genP 9 9 9).filter fun q => insB q p).map fun q => (p, q)

theorem insPairs_mem {p q : List Int} (hp : isP p = true) (hq : isP q = true) (h : insB q p = true) : (p, q) ∈ insPairs := by
 simp only [insPairs, List.mem_flatMap, List.mem_map, List.mem_filter]
 exact ⟨p, isP_mem hp, q, ⟨isP_mem hq, h⟩, rfl⟩

theorem ins_three {p q : List Int} (h : ¬ (isP q && isP p && insB q p) = false) : isP p = true ∧ isP q = true ∧ insB q p = true := by
 simp only [Bool.not_eq_false, Bool.and_eq_true] at h
 exact ⟨h.1.2, h.1.1, h.2⟩

def atv (l : List Int) (a : Int) : Int := if a < 0 then 0 else if a ≥ (l.length : Int) then 0 else rd l a

theorem l2At_eq (l : List Int) (a : Int) : spec_l2At.f l a = some (atv l a) := by
 unfold spec_l2At.f atv
 by_cases h1 : a < 0
 ·rw [if_pos h1, if_pos h1]
 ·rw [if_neg h1, if_neg h1]
  by_cases h2 : a ≥ (l.length : Int)
  ·rw [if_pos h2, if_pos h2]
  ·rw [if_neg h2, if_neg h2, if_pos (by omega), if_pos (by omega)]

theorem at_eq {l : List Int} (hn : l.length ≤ 1099511627776) (a : Int) : impl_at.f l a = some (atv l a) := by
 unfold impl_at.f atv impl_within.f
 rw [w64 (by omega) (by omega)]
 by_cases h1 : a < 0
 ·rw [if_neg (by omega), Option.bind_some, if_neg (by decide), if_pos h1]
 ·rw [if_pos (by omega), Option.bind_some, if_neg h1]
  by_cases h2 : a ≥ (l.length : Int)
  ·have : decide (a ≤ (l.length : Int) - 1) = false := by simp; omega
   rw [this, if_neg (by decide), if_pos h2]
  ·have : decide (a ≤ (l.length : Int) - 1) = true := by simp; omega
   rw [this, if_pos rfl, if_pos (by omega), if_pos (by omega), if_neg h2]

theorem atv_nat {l : List Int} {i : Nat} (h : i < l.length) : atv l (i : Int) = l[i] := by
 unfold atv
 rw [if_neg (by omega), if_neg (by omega), rd_nat l i h]

theorem atv_out {l : List Int} {a : Int} (h : a < 0 ∨ (l.length : Int) ≤ a) : atv l a = 0 := by
 unfold atv
 by_cases h1 : a < 0
 ·rw [if_pos h1]
 ·rw [if_neg h1, if_pos (by omega)]

theorem atv_rng {l : List Int} (h : isP l = true) (a : Int) : 0 ≤ atv l a ∧ atv l a ≤ 9 := by
 unfold atv
 by_cases h1 : a < 0
 ·rw [if_pos h1]; omega
 ·rw [if_neg h1]
  by_cases h2 : a ≥ (l.length : Int)
  ·rw [if_pos h2]; omega
  ·rw [if_neg h2]
   have := isP_rd h (by omega) (by omega : a < l.length)
   omega

/-- The number of a tableau in a cell, 0 where there is none. -/
def entV (I : List Int) (R : List (List Int)) (r c : Int) : Int := if r < 0 then 0 else if r ≥ (R.length : Int) then 0 else atv (rd_L1 R r) (c - atv I r)

theorem entV_out {I : List Int} {R : List (List Int)} {r c : Int} (h : r < 0 ∨ (R.length : Int) ≤ r) : entV I R r c = 0 := by
 unfold entV
 by_cases h1 : r < 0
 ·rw [if_pos h1]
 ·rw [if_neg h1, if_pos (by omega)]

theorem l5Entry_eq {I : List Int} {R : List (List Int)} (hI : isP I = true) {r c : Int} {k : Nat} (hc : -4611686018427387904 ≤ c) (hc2 : c ≤ 9223372036854775807) (hk : 0 < k) : spec_l5Entry.f k I R r c = some (entV I R r c) := by
 obtain ⟨k, rfl⟩ := succ_of_pos hk
 have ht : ∀ x y z w, spec_l5Entry.j0 (k + 1) x y true z w = some 0 := fun x y z w => by rw [spec_l5Entry.j0]; rfl
 unfold spec_l5Entry.f entV
 by_cases h1 : r < 0
 ·rw [if_pos h1, if_pos h1, ht]
 ·rw [if_neg h1, if_neg h1]
  by_cases h2 : r ≥ (R.length : Int)
  ·rw [if_pos h2, decide_eq_true h2, ht]
  ·have ha := atv_rng hI r
   rw [if_neg h2, decide_eq_false h2, spec_l5Entry.j0, if_neg (by decide), l2At_eq, Option.bind_some, w64 (by omega) (by omega)]
   unfold atv
   by_cases h3 : c - atv I r < 0
   ·unfold atv at h3
    rw [if_pos h3, if_pos h3]
   ·unfold atv at h3
    rw [if_neg h3, if_neg h3, if_pos (by omega), if_pos (by omega)]
    by_cases h4 : c - (if r < 0 then 0 else if r ≥ (I.length : Int) then 0 else rd I r) ≥ ((rd_L1 R r).length : Int)
    ·rw [if_pos h4, if_pos h4]
    ·rw [if_neg h4, if_neg h4, if_pos (by omega), if_pos (by omega)]

theorem entry_eq {I : List Int} {R : List (List Int)} (hI : isP I = true) (hR : R.length ≤ 1099511627776) (hr : ∀ x ∈ R, x.length ≤ 1099511627776) {r c : Int} (hc : -4611686018427387904 ≤ c) (hc2 : c ≤ 9223372036854775807) : impl_Tableau_entry.f I R r c = some (entV I R r c) := by
 have hIl := isP_len hI
 unfold impl_Tableau_entry.f impl_within.f entV
 rw [w64 (x := (R.length : Int) - 1) (by omega) (by omega)]
 by_cases h1 : r < 0
 ·rw [if_neg (by omega), Option.bind_some, if_neg (by decide), if_pos h1]
 ·rw [if_pos (by omega), Option.bind_some, if_neg h1]
  by_cases h2 : r ≥ (R.length : Int)
  ·have : decide (r ≤ (R.length : Int) - 1) = false := by simp; omega
   rw [this, if_neg (by decide), if_pos h2]
  ·have : decide (r ≤ (R.length : Int) - 1) = true := by simp; omega
   have ha := atv_rng hI r
   have hb : (rd_L1 R r).length ≤ 1099511627776 := by
    obtain ⟨n, rfl⟩ := Int.eq_ofNat_of_zero_le (show 0 ≤ r by omega)
    have hn : n < R.length := by omega
    rw [rdl_nat R n hn]
    exact hr _ (List.getElem_mem _)
   rw [this, if_pos rfl, if_pos (by omega), if_pos (by omega), if_neg h2, at_eq (by omega), Option.bind_some, w64 (by omega) (by omega), at_eq hb, Option.bind_some]

def outF (I : List Int) : Nat → List (List Int) → List Int
 | _, [] => []
 | i, r :: rs => (atv I i + r.length) :: outF I (i + 1) rs

theorem outF_len (I : List Int) : ∀ (R : List (List Int)) (i : Nat), (outF I i R).length = R.length
 | [], _ => rfl
 | _ :: rs, i => by simp [outF, outF_len I rs]

theorem outF_at (I : List Int) : ∀ (R : List (List Int)) (i j : Nat) (h : j < R.length), (outF I i R)[j]'(by rw [outF_len]; exact h) = atv I ((i + j : Nat) : Int) + (R[j]).length
 | r :: rs, i, 0, _ => by simp [outF]
 | r :: rs, i, j + 1, h => by
  have := outF_at I rs (i + 1) j (by simpa using h)
  simp only [outF, List.getElem_cons_succ]
  rw [this]
  congr 2
  omega

def okShape (I : List Int) (R : List (List Int)) : Bool := isP I && decide (I.length ≤ R.length) && isP (outF I 0 R) && insB I (outF I 0 R)

def shapeV (I : List Int) (R : List (List Int)) : List Int × List Int × Bool := if okShape I R then (outF I 0 R, I, true) else ([], [], false)

theorem specShape_l0 {I : List Int} {R : List (List Int)} (hI : isP I = true) (hIR : I.length ≤ R.length) (hR : R.length ≤ 1048576) (hr : ∀ x ∈ R, x.length ≤ 1048576) : ∀ (d k i : Nat) (acc : List Int), i + d = R.length → acc.length = i → outF I 0 R = acc ++ outF I i (R.drop i) → d + 4 * R.length + 100 < k →
  spec_ShapeOf.l0 k (i : Int) I R acc I = some (shapeV I R) := by
 have hIl := isP_len hI
 intro d
 induction d with
 | zero =>
  intro k i acc hi ha ho hk
  obtain ⟨k, rfl⟩ := succ_of_pos hk
  rw [List.drop_of_length_le (by omega)] at ho
  simp only [outF, List.append_nil] at ho
  subst ho
  rw [spec_ShapeOf.l0, if_neg (by omega), spec_IsShape.f, specInside_eq (by omega) (by rw [outF_len]; omega) (by rw [outF_len]; omega)]
  simp only [Option.bind_some]
  unfold shapeV okShape
  rw [hI, decide_eq_true hIR]
  simp only [Bool.true_and]
  by_cases hb : (isP (outF I 0 R) && insB I (outF I 0 R)) = true
  ·rw [if_pos hb, if_pos hb]
  ·rw [if_neg hb, if_neg hb]
 | succ d ih =>
  intro k i acc hi ha ho hk
  obtain ⟨k, rfl⟩ := succ_of_pos hk
  have hil : i < R.length := by omega
  have hb := hr R[i] (List.getElem_mem _)
  have hv := atv_rng hI (i : Int)
  rw [spec_ShapeOf.l0, if_pos (by omega), l2At_eq, Option.bind_some, if_pos (by omega), if_pos (by omega), rdl_nat R i hil, w64 (x := (i : Int) + 1) (by omega) (by omega), w64 (x := atv I (i : Int) + ((R[i]).length : Int)) (by omega) (by omega)]
  refine ih k (i + 1) _ (by omega) (by simp [ha]) ?_ (by omega)
  rw [ho, List.drop_eq_getElem_cons hil, outF]
  simp

theorem implShape_l0 {I : List Int} {R : List (List Int)} (hI : isP I = true) (hIR : I.length ≤ R.length) (hR : R.length ≤ 1048576) (hr : ∀ x ∈ R, x.length ≤ 1048576) : ∀ (d k i : Nat) (acc : List Int), i + d = R.length → acc.length = i → outF I 0 R = acc ++ outF I i (R.drop i) → d + 4 * R.length + 100 < k →
  impl_ShapeOf.l0 k R (R.length : Int) (i : Int) I R acc I = some (shapeV I R) := by
 have hIl := isP_len hI
 intro d
 induction d with
 | zero =>
  intro k i acc hi ha ho hk
  obtain ⟨k, rfl⟩ := succ_of_pos hk
  rw [List.drop_of_length_le (by omega)] at ho
  simp only [outF, List.append_nil] at ho
  subst ho
  rw [impl_ShapeOf.l0, if_neg (by omega), impl_IsShape.f, implInside_eq (by omega) (by rw [outF_len]; omega) (by rw [outF_len]; omega)]
  simp only [Option.bind_some]
  unfold shapeV okShape
  rw [hI, decide_eq_true hIR]
  simp only [Bool.true_and]
  by_cases hb : (isP (outF I 0 R) && insB I (outF I 0 R)) = true
  ·rw [if_pos hb, if_pos hb]
  ·rw [if_neg hb, if_neg hb]
 | succ d ih =>
  intro k i acc hi ha ho hk
  obtain ⟨k, rfl⟩ := succ_of_pos hk
  have hil : i < R.length := by omega
  have hb := hr R[i] (List.getElem_mem _)
  have hv := atv_rng hI (i : Int)
  rw [impl_ShapeOf.l0, if_pos (by omega), if_pos (by omega), if_pos (by omega), at_eq (by omega), Option.bind_some, if_pos (by omega), rdl_nat R i hil, w64 (x := (i : Int) + 1) (by omega) (by omega), w64 (x := atv I (i : Int) + ((R[i]).length : Int)) (by omega) (by omega)]
  refine ih k (i + 1) _ (by omega) (by simp [ha]) ?_ (by omega)
  rw [ho, List.drop_eq_getElem_cons hil, outF]
  simp

theorem rows_small {R : List (List Int)} (hs : sizes R ≤ 1048576) : ∀ x ∈ R, x.length ≤ 1048576 := by
 intro x hx
 obtain ⟨i, hi, rfl⟩ := List.getElem_of_mem hx
 exact Nat.le_trans (sizes_at hi) hs

theorem shapeV_no {I : List Int} {R : List (List Int)} (h : isP I = false ∨ R.length < I.length ∨ 9 < R.length) : shapeV I R = ([], [], false) := by
 unfold shapeV okShape
 rcases h with h | h | h
 ·rw [h]; rfl
 ·rw [decide_eq_false (by omega)]; simp
 ·have : isP (outF I 0 R) = false := by
   cases hp : isP (outF I 0 R) with
   | false => rfl
   | true =>
    have := isP_len hp
    rw [outF_len] at this
    omega
  rw [this]; simp

theorem specShapeOf_eq {I : List Int} {R : List (List Int)} {k : Nat} (hI : I.length ≤ 1048576) (hR : R.length ≤ 1048576) (hs : sizes R ≤ 1048576) (hk : 8388608 < k) : spec_ShapeOf.f k I R = some (shapeV I R) := by
 obtain ⟨k, rfl⟩ := succ_of_pos hk
 have ht : ∀ x y z, spec_ShapeOf.j0 (k + 1) true x y z = some ([], [], false) := fun x y z => by rw [spec_ShapeOf.j0]; rfl
 rw [spec_ShapeOf.f]
 simp only [Option.bind_some, List.nil_append, List.length_nil, Nat.zero_add]
 rw [if_pos (by omega), specIsP_eq (by omega) (by omega), Option.bind_some]
 cases hp : isP I with
 | false => rw [if_neg (by decide), ht, shapeV_no (.inl hp)]
 | true =>
  rw [if_pos rfl]
  by_cases h1 : (I.length : Int) > (R.length : Int)
  ·rw [if_pos h1, ht, shapeV_no (.inr (.inl (by omega)))]
  ·rw [if_neg h1]
   by_cases h2 : (R.length : Int) > 9
   ·rw [decide_eq_true h2, ht, shapeV_no (.inr (.inr (by omega)))]
   ·rw [decide_eq_false h2, spec_ShapeOf.j0, if_neg (by decide)]
    exact specShape_l0 hp (by omega) hR (rows_small hs) R.length k 0 [] (by omega) rfl rfl (by omega)

theorem implShapeOf_eq {I : List Int} {R : List (List Int)} {k : Nat} (hI : I.length ≤ 1048576) (hR : R.length ≤ 1048576) (hs : sizes R ≤ 1048576) (hk : 8388608 < k) : impl_ShapeOf.f k I R = some (shapeV I R) := by
 obtain ⟨k, rfl⟩ := succ_of_pos hk
 have ht : ∀ x y, impl_ShapeOf.j0 (k + 1) true x y = some ([], [], false) := fun x y => by rw [impl_ShapeOf.j0]; rfl
 rw [impl_ShapeOf.f, implIsP_eq (by omega) (by omega), Option.bind_some]
 cases hp : isP I with
 | false => rw [if_neg (by decide), ht, shapeV_no (.inl hp)]
 | true =>
  rw [if_pos rfl]
  by_cases h1 : (I.length : Int) > (R.length : Int)
  ·rw [decide_eq_true h1, ht, shapeV_no (.inr (.inl (by omega)))]
  ·rw [decide_eq_false h1, impl_ShapeOf.j0, if_neg (by decide), slices_Clone_int_int.f]
   simp only [Option.bind_some, List.nil_append, List.length_nil, Nat.zero_add]
   rw [if_pos (by omega), Option.bind_some]
   exact implShape_l0 hp (by omega) hR (rows_small hs) R.length k 0 [] (by omega) rfl rfl (by omega)

def allF (f : Nat → Bool) : Nat → Nat → Bool
 | 0, _ => true
 | d + 1, i => f i && allF f d (i + 1)

/-- Number k of row i stands well. -/
def cellB (I : List Int) (R : List (List Int)) (i k : Nat) : Bool :=
 decide (1 ≤ rd (rd_L1 R i) k) && decide (rd (rd_L1 R i) k ≤ 9) && decide (k = 0 ∨ rd (rd_L1 R i) ((k : Int) - 1) ≤ rd (rd_L1 R i) k) && decide (entV I R ((i : Int) - 1) (atv I i + k) < rd (rd_L1 R i) k)

def rowB (I : List Int) (R : List (List Int)) (i : Nat) : Bool := allF (cellB I R i) (rd_L1 R i).length 0

def tabB (I : List Int) (R : List (List Int)) : Bool := okShape I R && allF (rowB I R) R.length 0

theorem entV_first (I : List Int) (R : List (List Int)) (c : Int) : entV I R ((0 : Nat) - 1) c = 0 := entV_out (.inl (by omega))

theorem implTab_l1 {I : List Int} {R : List (List Int)} {i : Nat} {b : Bool} {B : Nat} (hI : isP I = true) (hR : R.length ≤ 1048576) (hr : ∀ x ∈ R, x.length ≤ 1048576) (hi : i < R.length)
  (hnext : ∀ k, B < k → impl_IsTableau.l0 k R (R.length : Int) ((i + 1 : Nat) : Int) I R = some b) :
  ∀ (d k kk : Nat), kk + d = (R[i]).length → d + B + 1 < k → impl_IsTableau.l1 k (i : Int) R[i] R (R.length : Int) (i : Int) R[i] ((R[i]).length : Int) (kk : Int) I R = some (allF (cellB I R i) d kk && b) := by
 have hIl := isP_len hI
 have hri := hr R[i] (List.getElem_mem _)
 intro d
 induction d with
 | zero =>
  intro k kk hkk hk
  obtain ⟨k, rfl⟩ := succ_of_pos hk
  rw [impl_IsTableau.l1, if_neg (by omega), w64 (x := (i : Int) + 1) (by omega) (by omega)]
  have := hnext k (by omega)
  simpa [allF] using this
 | succ d ih =>
  intro k kk hkk hk
  obtain ⟨k, rfl⟩ := succ_of_pos hk
  have hv := atv_rng hI (i : Int)
  have step : impl_IsTableau.l1 k (i : Int) R[i] R (R.length : Int) (i : Int) R[i] ((R[i]).length : Int) (wrap64 ((kk : Int) + 1)) I R = some (allF (cellB I R i) d (kk + 1) && b) := by
   rw [w64 (x := (kk : Int) + 1) (by omega) (by omega)]
   exact ih k (kk + 1) (by omega) (by omega)
  rw [impl_IsTableau.l1, if_pos (by omega), if_pos (by omega), if_pos (by omega), impl_within.f, allF, cellB, rdl_nat R i hi]
  generalize hx : rd R[i] (kk : Int) = x
  by_cases h1 : 1 ≤ x
  ·rw [if_pos h1, Option.bind_some, decide_eq_true h1]
   by_cases h2 : x ≤ 9
   ·rw [decide_eq_true h2, if_pos rfl]
    -- what stands above
    have above : (if (i : Int) > 0 then ((impl_at.f I (i : Int)).bind fun t235 => ((impl_Tableau_entry.f I R (wrap64 ((i : Int) - 1)) (wrap64 (t235 + (kk : Int)))).bind fun t236 => (if x ≤ t236 then (some false) else (impl_IsTableau.l1 k (i : Int) R[i] R (R.length : Int) (i : Int) R[i] ((R[i]).length : Int) (wrap64 ((kk : Int) + 1)) I R)))) else (impl_IsTableau.l1 k (i : Int) R[i] R (R.length : Int) (i : Int) R[i] ((R[i]).length : Int) (wrap64 ((kk : Int) + 1)) I R)) = some (decide (entV I R ((i : Int) - 1) (atv I i + kk) < x) && allF (cellB I R i) d (kk + 1) && b) := by
     by_cases h0 : (i : Int) > 0
     ·rw [if_pos h0, at_eq (by omega), Option.bind_some, w64 (x := (i : Int) - 1) (by omega) (by omega), w64 (x := atv I (i : Int) + (kk : Int)) (by omega) (by omega), entry_eq hI (by omega) (fun x hx => Nat.le_trans (hr x hx) (by omega)) (by omega) (by omega), Option.bind_some]
      by_cases h3 : x ≤ entV I R ((i : Int) - 1) (atv I (i : Int) + (kk : Int))
      ·rw [if_pos h3, decide_eq_false (by omega)]; rfl
      ·rw [if_neg h3, decide_eq_true (by omega), step]; simp
     ·have : entV I R ((i : Int) - 1) (atv I (i : Int) + (kk : Int)) = 0 := entV_out (.inl (by omega))
      rw [if_neg h0, this, decide_eq_true (by omega), step]; simp
    by_cases hk0 : (kk : Int) > 0
    ·rw [if_pos hk0, w64 (x := (kk : Int) - 1) (by omega) (by omega), if_pos (by omega), if_pos (by omega)]
     by_cases h4 : x < rd R[i] ((kk : Int) - 1)
     ·have : decide (kk = 0 ∨ rd R[i] ((kk : Int) - 1) ≤ x) = false := by simp; omega
      rw [if_pos h4, this]; rfl
     ·have : decide (kk = 0 ∨ rd R[i] ((kk : Int) - 1) ≤ x) = true := by simp; omega
      rw [if_neg h4, this, above]; simp [Bool.and_assoc]
    ·have : decide (kk = 0 ∨ rd R[i] ((kk : Int) - 1) ≤ x) = true := by simp; omega
     rw [if_neg hk0, this, above]; simp [Bool.and_assoc]
   ·rw [decide_eq_false h2, if_neg (by decide)]; simp
  ·rw [if_neg h1, Option.bind_some, if_neg (by decide), decide_eq_false h1]; simp

theorem implTab_l0 {I : List Int} {R : List (List Int)} (hI : isP I = true) (hR : R.length ≤ 1048576) (hr : ∀ x ∈ R, x.length ≤ 1048576) :
  ∀ (d k i : Nat), i + d = R.length → sizes (R.drop i) + 3 * d + 2 < k → impl_IsTableau.l0 k R (R.length : Int) (i : Int) I R = some (allF (rowB I R) d i) := by
 intro d
 induction d with
 | zero =>
  intro k i hi hk
  obtain ⟨k, rfl⟩ := succ_of_pos hk
  rw [impl_IsTableau.l0, if_neg (by omega)]; rfl
 | succ d ih =>
  intro k i hi hk
  obtain ⟨k, rfl⟩ := succ_of_pos hk
  have hil : i < R.length := by omega
  rw [List.drop_eq_getElem_cons hil, sizes_cons] at hk
  rw [impl_IsTableau.l0, if_pos (by omega), if_pos (by omega), if_pos (by omega), rdl_nat R i hil]
  have h := implTab_l1 (b := allF (rowB I R) d (i + 1)) (B := sizes (R.drop (i + 1)) + 3 * d + 2) hI hR hr hil (fun k hk => ih k (i + 1) (by omega) hk) (R[i]).length k 0 (by omega) (by omega)
  refine Eq.trans h ?_
  rw [allF, rowB, rdl_nat R i hil]

theorem specTab_l1 {I O : List Int} {R : List (List Int)} {i : Nat} {b : Bool} {B : Nat} (hI : isP I = true) (hR : R.length ≤ 1048576) (hr : ∀ x ∈ R, x.length ≤ 1048576) (hi : i < R.length) (hO : O = outF I 0 R)
  (hnext : ∀ k, B < k → spec_IsTableau.l0 k ((i + 1 : Nat) : Int) I R O I = some b) :
  ∀ (d k kk : Nat), kk + d = (R[i]).length → 2 * d + B + 2 < k → spec_IsTableau.l1 k (i : Int) (atv I i + kk) I R O I = some (allF (cellB I R i) d kk && b) := by
 have hIl := isP_len hI
 have hri := hr R[i] (List.getElem_mem _)
 have hOl : O.length = R.length := by rw [hO, outF_len]
 have hOi : rd O (i : Int) = atv I (i : Int) + ((R[i]).length : Int) := by
  subst hO
  rw [rd_nat _ i (by omega), outF_at I R 0 i hi]
  simp
 have hv := atv_rng hI (i : Int)
 intro d
 induction d with
 | zero =>
  intro k kk hkk hk
  obtain ⟨k, rfl⟩ := succ_of_pos hk
  rw [spec_IsTableau.l1, if_pos (by omega), if_pos (by omega), hOi, if_neg (by omega), w64 (x := (i : Int) + 1) (by omega) (by omega)]
  have := hnext k (by omega)
  simpa [allF] using this
 | succ d ih =>
  intro k kk hkk hk
  obtain ⟨k, rfl⟩ : ∃ m, k = m + 2 := ⟨k - 2, by omega⟩
  have here : ∀ c : Int, entV I R (i : Int) (atv I (i : Int) + c) = atv R[i] c := by
   intro c
   unfold entV
   rw [if_neg (by omega), if_neg (by omega), rdl_nat R i hi]
   congr 1
   omega
  have step : spec_IsTableau.l1 k (i : Int) (wrap64 (atv I (i : Int) + (kk : Int) + 1)) I R O I = some (allF (cellB I R i) d (kk + 1) && b) := by
   rw [w64 (by omega) (by omega)]
   have := ih k (kk + 1) (by omega) (by omega)
   refine Eq.trans ?_ this
   congr 1
   omega
  have hx : atv R[i] (kk : Int) = rd R[i] (kk : Int) := by unfold atv; rw [if_neg (by omega), if_neg (by omega)]
  rw [spec_IsTableau.l1, if_pos (by omega), if_pos (by omega), hOi, if_pos (by omega), l5Entry_eq hI (by omega) (by omega) (by omega), Option.bind_some, here, hx]
  have join : ∀ left : Int, (decide (left ≤ rd R[i] (kk : Int)) = decide (kk = 0 ∨ rd R[i] ((kk : Int) - 1) ≤ rd R[i] (kk : Int)) ∨ ¬ 1 ≤ rd R[i] (kk : Int)) →
    spec_IsTableau.j2 (k + 1) (i : Int) (atv I (i : Int) + (kk : Int)) (rd R[i] (kk : Int)) left I R O I = some (allF (cellB I R i) (d + 1) kk && b) := by
   intro left hl
   rw [spec_IsTableau.j2, spec_l1In.f, allF, cellB, rdl_nat R i hi]
   by_cases h1 : rd R[i] (kk : Int) ≥ 1
   ·have hl' := hl.resolve_right (fun h => h h1)
    rw [if_pos h1, Option.bind_some, decide_eq_true (show 1 ≤ rd R[i] (kk : Int) from h1), ← hl']
    by_cases h2 : rd R[i] (kk : Int) ≤ 9
    ·rw [decide_eq_true h2, if_pos rfl]
     by_cases h3 : left > rd R[i] (kk : Int)
     ·rw [if_pos h3, decide_eq_false (by omega)]; simp
     ·rw [if_neg h3, decide_eq_true (by omega), w64 (x := (i : Int) - 1) (by omega) (by omega), l5Entry_eq hI (by omega) (by omega) (by omega), Option.bind_some]
      by_cases h4 : entV I R ((i : Int) - 1) (atv I (i : Int) + (kk : Int)) ≥ rd R[i] (kk : Int)
      ·rw [if_pos h4, decide_eq_false (by omega)]; simp
      ·rw [if_neg h4, decide_eq_true (by omega), step]; simp
    ·rw [decide_eq_false h2, if_neg (by decide)]; simp
   ·rw [if_neg h1, Option.bind_some, if_neg (by decide), decide_eq_false (by omega)]; simp
  by_cases hc : atv I (i : Int) + (kk : Int) > 0
  ·rw [if_pos hc, w64 (x := atv I (i : Int) + (kk : Int) - 1) (by omega) (by omega), l5Entry_eq hI (by omega) (by omega) (by omega), Option.bind_some]
   have e : atv I (i : Int) + (kk : Int) - 1 = atv I (i : Int) + ((kk : Int) - 1) := by omega
   rw [e, here]
   refine join _ ?_
   by_cases hk0 : kk = 0
   ·by_cases h1 : 1 ≤ rd R[i] (kk : Int)
    ·left
     rw [atv_out (.inl (by omega))]
     simp [hk0]
     subst hk0
     simpa using (show 0 ≤ rd R[i] ((0 : Nat) : Int) by omega)
    ·exact .inr h1
   ·left
    have : atv R[i] ((kk : Int) - 1) = rd R[i] ((kk : Int) - 1) := by unfold atv; rw [if_neg (by omega), if_neg (by omega)]
    rw [this]
    simp [hk0]
  ·rw [if_neg hc]
   refine join _ ?_
   have hk0 : kk = 0 := by omega
   by_cases h1 : 1 ≤ rd R[i] (kk : Int)
   ·left
    subst hk0
    simp
    simpa using (show 0 ≤ rd R[i] ((0 : Nat) : Int) by omega)
   ·exact .inr h1

theorem specTab_l0 {I O : List Int} {R : List (List Int)} (hI : isP I = true) (hR : R.length ≤ 1048576) (hr : ∀ x ∈ R, x.length ≤ 1048576) (hO : O = outF I 0 R) :
  ∀ (d k i : Nat), i + d = R.length → 2 * sizes (R.drop i) + 4 * d + 2 < k → spec_IsTableau.l0 k (i : Int) I R O I = some (allF (rowB I R) d i) := by
 have hOl : O.length = R.length := by rw [hO, outF_len]
 intro d
 induction d with
 | zero =>
  intro k i hi hk
  obtain ⟨k, rfl⟩ := succ_of_pos hk
  rw [spec_IsTableau.l0, if_neg (by omega)]; rfl
 | succ d ih =>
  intro k i hi hk
  obtain ⟨k, rfl⟩ := succ_of_pos hk
  have hil : i < R.length := by omega
  rw [List.drop_eq_getElem_cons hil, sizes_cons] at hk
  rw [spec_IsTableau.l0, if_pos (by omega), l2At_eq, Option.bind_some]
  have h := specTab_l1 (b := allF (rowB I R) d (i + 1)) (B := 2 * sizes (R.drop (i + 1)) + 4 * d + 2) hI hR hr hil hO (fun k hk => ih k (i + 1) (by omega) hk) (R[i]).length k 0 (by omega) (by omega)
  have e : atv I (i : Int) + ((0 : Nat) : Int) = atv I (i : Int) := by omega
  rw [e] at h
  refine Eq.trans h ?_
  rw [allF, rowB, rdl_nat R i hil]

theorem okShape_isP {I : List Int} {R : List (List Int)} (h : okShape I R = true) : isP I = true := by
 unfold okShape at h
 simp only [Bool.and_eq_true] at h
 exact h.1.1.1

theorem specTab_eq {I : List Int} {R : List (List Int)} {k : Nat} (hI : I.length ≤ 1048576) (hR : R.length ≤ 1048576) (hs : sizes R ≤ 1048576) (hk : 8388608 < k) : spec_IsTableau.f k I R = some (tabB I R) := by
 rw [spec_IsTableau.f, specShapeOf_eq hI hR hs hk, Option.bind_some]
 unfold shapeV tabB
 by_cases h : okShape I R = true
 ·rw [if_pos h, h]
  have := specTab_l0 (okShape_isP h) hR (rows_small hs) rfl R.length k 0 (by omega) (by rw [List.drop_zero]; omega)
  simpa using this
 ·rw [if_neg h]
  simp at h
  simp [h]

theorem implTab_eq {I : List Int} {R : List (List Int)} {k : Nat} (hI : I.length ≤ 1048576) (hR : R.length ≤ 1048576) (hs : sizes R ≤ 1048576) (hk : 8388608 < k) : impl_IsTableau.f k I R = some (tabB I R) := by
 rw [impl_IsTableau.f, implShapeOf_eq hI hR hs hk, Option.bind_some]
 unfold shapeV tabB
 by_cases h : okShape I R = true
 ·rw [if_pos h, h]
  have := implTab_l0 (okShape_isP h) hR (rows_small hs) R.length k 0 (by omega) (by rw [List.drop_zero]; omega)
  simpa using this
 ·rw [if_neg h]
  simp at h
  simp [h]

theorem allF_at {f : Nat → Bool} : ∀ (d i : Nat), allF f d i = true → ∀ j, i ≤ j → j < i + d → f j = true
 | 0, i, _, j, h1, h2 => by omega
 | d + 1, i, h, j, h1, h2 => by
  simp only [allF, Bool.and_eq_true] at h
  by_cases e : j = i
  ·subst e; exact h.1
  ·exact allF_at d (i + 1) h.2 j (by omega) (by omega)

theorem allF_of {f : Nat → Bool} : ∀ (d i : Nat), (∀ j, i ≤ j → j < i + d → f j = true) → allF f d i = true
 | 0, _, _ => rfl
 | d + 1, i, h => by
  simp only [allF, Bool.and_eq_true]
  exact ⟨h i (Nat.le_refl _) (by omega), allF_of d (i + 1) fun j h1 h2 => h j (by omega) (by omega)⟩

theorem isPfrom_sum : ∀ (xs : List Int) (p s : Int), isPfrom p s xs = true → s ≤ 9 → s + xs.sum ≤ 9
 | [], _, s, _, h => by simpa using h
 | x :: xs, p, s, h, _ => by
  simp only [isPfrom, Bool.and_eq_true, decide_eq_true_eq] at h
  have := isPfrom_sum xs x (s + x) h.2 (by omega)
  rw [List.sum_cons]
  omega

theorem outF_sum {I : List Int} (h0 : ∀ a, 0 ≤ atv I a) : ∀ (R : List (List Int)) (i : Nat), (sizes R : Int) ≤ (outF I i R).sum
 | [], _ => by simp [outF, sizes]
 | r :: rs, i => by
  have h1 := outF_sum h0 rs (i + 1)
  have h2 := h0 (i : Int)
  rw [outF, List.sum_cons, sizes_cons]
  omega

theorem okShape_out {I : List Int} {R : List (List Int)} (h : okShape I R = true) : isP (outF I 0 R) = true := by
 unfold okShape at h
 simp only [Bool.and_eq_true] at h
 exact h.1.2

theorem tabB_ok {I : List Int} {R : List (List Int)} (h : tabB I R = true) : okShape I R = true := by
 unfold tabB at h
 simp only [Bool.and_eq_true] at h
 exact h.1

theorem okShape_sizes {I : List Int} {R : List (List Int)} (h : okShape I R = true) : sizes R ≤ 9 := by
 have h1 := isPfrom_sum (outF I 0 R) 9 0 (okShape_out h) (by omega)
 have h2 := outF_sum (fun a => (atv_rng (okShape_isP h) a).1) R 0
 omega

theorem okShape_len {I : List Int} {R : List (List Int)} (h : okShape I R = true) : R.length ≤ 9 := by
 have := isP_len (okShape_out h)
 rwa [outF_len] at this

theorem flat_len (R : List (List Int)) : R.flatten.length = sizes R := by rw [List.length_flatten]; rfl

theorem tabB_cell {I : List Int} {R : List (List Int)} (h : tabB I R = true) {i j : Nat} (hi : i < R.length) (hj : j < (R[i]).length) : 1 ≤ (R[i])[j] ∧ (R[i])[j] ≤ 9 := by
 unfold tabB at h
 simp only [Bool.and_eq_true] at h
 have h1 := allF_at _ _ h.2 i (Nat.zero_le _) (by omega)
 unfold rowB at h1
 rw [rdl_nat R i hi] at h1
 have h2 := allF_at _ _ h1 j (Nat.zero_le _) (by omega)
 unfold cellB at h2
 rw [rdl_nat R i hi, rd_nat _ j hj] at h2
 simp only [Bool.and_eq_true, decide_eq_true_eq] at h2
 exact ⟨h2.1.1.1, h2.1.1.2⟩

theorem tabB_flat {I : List Int} {R : List (List Int)} (h : tabB I R = true) : R.flatten.length ≤ 9 ∧ ∀ x ∈ R.flatten, 1 ≤ x ∧ x ≤ 9 := by
 refine ⟨by rw [flat_len]; exact okShape_sizes (tabB_ok h), fun x hx => ?_⟩
 obtain ⟨l, hl, hxl⟩ := List.mem_flatten.1 hx
 obtain ⟨i, hi, rfl⟩ := List.getElem_of_mem hl
 obtain ⟨j, hj, rfl⟩ := List.getElem_of_mem hxl
 exact tabB_cell h hi hj

theorem l5Numbers_l0 (I : List Int) (R : List (List Int)) (hR : R.length ≤ 1048576) : ∀ (d k i : Nat) (acc : List Int), i + d = R.length → d < k → acc.length + sizes (R.drop i) ≤ 1099511627776 → spec_l5Numbers.l0 k acc (i : Int) I R = some (acc ++ (R.drop i).flatten) := by
 intro d
 induction d with
 | zero =>
  intro k i acc hi hk hb
  obtain ⟨k, rfl⟩ := succ_of_pos hk
  rw [spec_l5Numbers.l0, if_neg (by omega), List.drop_of_length_le (by omega)]
  simp
 | succ d ih =>
  intro k i acc hi hk hb
  obtain ⟨k, rfl⟩ := succ_of_pos hk
  have hil : i < R.length := by omega
  have hd := List.drop_eq_getElem_cons hil
  rw [hd, sizes_cons] at hb
  rw [spec_l5Numbers.l0, if_pos (by omega), if_pos (by omega), rdl_nat R i hil, if_pos (by omega), w64 (by omega) (by omega)]
  refine (ih k (i + 1) (acc ++ R[i]) (by omega) (by omega) (by rw [List.length_append]; omega)).trans ?_
  rw [hd, List.flatten_cons, List.append_assoc]

theorem l5Numbers_eq {I : List Int} {R : List (List Int)} {k : Nat} (hR : R.length ≤ 1048576) (hs : sizes R ≤ 1048576) (hk : R.length < k) : spec_l5Numbers.f k I R = some R.flatten := by
 have := l5Numbers_l0 I R hR R.length k 0 [] (by omega) hk (by simpa using (by omega : sizes R ≤ 1099511627776))
 simpa [spec_l5Numbers.f] using this

theorem concat_l1 (R : List (List Int)) (hR : R.length ≤ 1048576) : ∀ (d k i : Nat) (acc : List Int), i + d = R.length → d < k → acc.length + sizes (R.drop i) ≤ 1099511627776 → slices_Concat_int_int.l1 k acc R (R.length : Int) (i : Int) = some (acc ++ (R.drop i).flatten) := by
 intro d
 induction d with
 | zero =>
  intro k i acc hi hk hb
  obtain ⟨k, rfl⟩ := succ_of_pos hk
  rw [slices_Concat_int_int.l1, if_neg (by omega), List.drop_of_length_le (by omega)]
  simp
 | succ d ih =>
  intro k i acc hi hk hb
  obtain ⟨k, rfl⟩ := succ_of_pos hk
  have hil : i < R.length := by omega
  have hd := List.drop_eq_getElem_cons hil
  rw [hd, sizes_cons] at hb
  rw [slices_Concat_int_int.l1, if_pos (by omega), if_pos (by omega), if_pos (by omega), rdl_nat R i hil, if_pos (by omega), w64 (by omega) (by omega)]
  refine (ih k (i + 1) (acc ++ R[i]) (by omega) (by omega) (by rw [List.length_append]; omega)).trans ?_
  rw [hd, List.flatten_cons, List.append_assoc]

theorem concat_l0 (R : List (List Int)) (hR : R.length ≤ 1048576) (hs : sizes R ≤ 1048576) : ∀ (d k i : Nat) (m : Int), i + d = R.length → d + R.length + 1 < k → 0 ≤ m → m + sizes (R.drop i) ≤ 1048576 → slices_Concat_int_int.l0 k R m R (R.length : Int) (i : Int) = some R.flatten := by
 intro d
 induction d with
 | zero =>
  intro k i m hi hk h0 hb
  obtain ⟨k, rfl⟩ := succ_of_pos hk
  rw [slices_Concat_int_int.l0, if_neg (by omega), slices_Grow_int_int.f, if_pos h0, if_pos (by omega), Option.bind_some]
  have := concat_l1 R hR R.length k 0 [] (by omega) (by omega) (by simpa using (by omega : sizes R ≤ 1099511627776))
  simpa using this
 | succ d ih =>
  intro k i m hi hk h0 hb
  obtain ⟨k, rfl⟩ := succ_of_pos hk
  have hil : i < R.length := by omega
  have hd := List.drop_eq_getElem_cons hil
  rw [hd, sizes_cons] at hb
  rw [slices_Concat_int_int.l0, if_pos (by omega), if_pos (by omega), if_pos (by omega), rdl_nat R i hil, w64 (x := m + ((R[i]).length : Int)) (by omega) (by omega), if_neg (by omega), w64 (x := (i : Int) + 1) (by omega) (by omega)]
  exact ih k (i + 1) (m + (R[i]).length) (by omega) (by omega) (by omega) (by omega)

theorem concat_eq {R : List (List Int)} {k : Nat} (hR : R.length ≤ 1048576) (hs : sizes R ≤ 1048576) (hk : 2 * R.length + 1 < k) : slices_Concat_int_int.f k R = some R.flatten := by
 rw [slices_Concat_int_int.f]
 have := concat_l0 R hR hs R.length k 0 0 (by omega) (by omega) (by omega) (by rw [List.drop_zero]; omega)
 simpa using this

theorem index_l0 (l : List Int) (x : Int) (hn : l.length ≤ 1099511627776) : ∀ (d k i : Nat), i + d = l.length → d < k → ∃ r, slices_Index_int_int.l0 k l x (l.length : Int) (i : Int) = some r ∧ decide (r ≥ 0) = (l.drop i).contains x := by
 intro d
 induction d with
 | zero =>
  intro k i hi hk
  obtain ⟨k, rfl⟩ := succ_of_pos hk
  exact ⟨-1, by rw [slices_Index_int_int.l0, if_neg (by omega)], by rw [List.drop_of_length_le (by omega)]; rfl⟩
 | succ d ih =>
  intro k i hi hk
  obtain ⟨k, rfl⟩ := succ_of_pos hk
  have hil : i < l.length := by omega
  rw [slices_Index_int_int.l0, if_pos (by omega), if_pos (by omega), if_pos (by omega), rd_nat l i hil, w64 (by omega) (by omega), List.drop_eq_getElem_cons hil, List.contains_cons]
  by_cases h : x = l[i]
  ·exact ⟨(i : Int), by rw [if_pos h], by rw [h]; simp⟩
  ·obtain ⟨r, h1, h2⟩ := ih k (i + 1) (by omega) (by omega)
   exact ⟨r, by rw [if_neg h]; exact h1, by rw [h2]; simp [h]⟩

theorem contains_eq {l : List Int} {x : Int} {k : Nat} (hn : l.length ≤ 1099511627776) (hk : l.length < k) : slices_Contains_int_int.f k l x = some (l.contains x) := by
 obtain ⟨r, h1, h2⟩ := index_l0 l x hn l.length k 0 (by omega) hk
 have h1' : slices_Index_int_int.f k l x = some r := h1
 rw [slices_Contains_int_int.f, h1', Option.bind_some, h2, List.drop_zero]

def sumc (l : List Int) : Nat → Nat
 | 0 => 0
 | n + 1 => sumc l n + l.count ((n : Int) + 1)

theorem sumc_nil : ∀ n, sumc [] n = 0
 | 0 => rfl
 | n + 1 => by simp [sumc, sumc_nil n]

theorem sumc_cons (x : Int) (l : List Int) : ∀ n : Nat, sumc (x :: l) n = sumc l n + if 1 ≤ x ∧ x ≤ (n : Int) then 1 else 0
 | 0 => by simp only [sumc]; rw [if_neg (by omega)]
 | n + 1 => by
  simp only [sumc, sumc_cons x l n, List.count_cons]
  by_cases h : x = (n : Int) + 1
  ·subst h
   rw [if_neg (by omega), if_pos (by simp), if_pos (by omega)]
   omega
  ·rw [if_neg (c := (x == (n : Int) + 1) = true) (by simpa using h)]
   by_cases h2 : 1 ≤ x ∧ x ≤ (n : Int)
   ·rw [if_pos h2, if_pos (by omega)]; omega
   ·rw [if_neg h2, if_neg (by omega)]; omega

theorem sumc_le (n : Nat) : ∀ l : List Int, sumc l n ≤ l.length
 | [] => by rw [sumc_nil]; exact Nat.zero_le _
 | x :: l => by
  rw [sumc_cons, List.length_cons]
  have := sumc_le n l
  split <;> omega

theorem sumc_all (n : Nat) : ∀ l : List Int, (∀ x ∈ l, 1 ≤ x ∧ x ≤ (n : Int)) → sumc l n = l.length
 | [], _ => sumc_nil n
 | x :: l, h => by
  rw [sumc_cons, List.length_cons, if_pos (h x (List.mem_cons_self ..)), sumc_all n l (fun y hy => h y (List.mem_cons_of_mem _ hy))]

theorem all_of_sumc (n : Nat) : ∀ l : List Int, sumc l n = l.length → ∀ x ∈ l, 1 ≤ x ∧ x ≤ (n : Int)
 | [], _, x, hx => by cases hx
 | x :: l, h, y, hy => by
  rw [sumc_cons, List.length_cons] at h
  have := sumc_le n l
  by_cases hx : 1 ≤ x ∧ x ≤ (n : Int)
  ·rw [if_pos hx] at h
   rcases List.mem_cons.1 hy with rfl | hy
   ·exact hx
   ·exact all_of_sumc n l (by omega) y hy
  ·rw [if_neg hx] at h; omega

theorem one_each (l : List Int) : ∀ n : Nat, (∀ j : Nat, j < n → l.count ((j : Int) + 1) ≤ 1) → sumc l n ≤ n ∧ (sumc l n = n → ∀ j : Nat, j < n → l.count ((j : Int) + 1) = 1)
 | 0, _ => ⟨Nat.le_refl _, fun _ j hj => by omega⟩
 | n + 1, h => by
  obtain ⟨h1, h2⟩ := one_each l n (fun j hj => h j (by omega))
  have hn := h n (by omega)
  simp only [sumc]
  refine ⟨by omega, fun he j hj => ?_⟩
  by_cases hjn : j = n
  ·subst hjn; omega
  ·exact h2 (by omega) j (by omega)

theorem each_one (l : List Int) : ∀ n : Nat, (∀ j : Nat, j < n → 1 ≤ l.count ((j : Int) + 1)) → n ≤ sumc l n ∧ (sumc l n = n → ∀ j : Nat, j < n → l.count ((j : Int) + 1) = 1)
 | 0, _ => ⟨Nat.le_refl _, fun _ j hj => by omega⟩
 | n + 1, h => by
  obtain ⟨h1, h2⟩ := each_one l n (fun j hj => h j (by omega))
  have hn := h n (by omega)
  simp only [sumc]
  refine ⟨by omega, fun he j hj => ?_⟩
  by_cases hjn : j = n
  ·subst hjn; omega
  ·exact h2 (by omega) j (by omega)

/-- No two of a list alike. -/
def onceB : List Int → Bool
 | [] => true
 | x :: l => !l.contains x && onceB l

theorem once_count : ∀ l : List Int, onceB l = true → ∀ y, l.count y ≤ 1
 | [], _, y => by simp
 | x :: l, h, y => by
  simp only [onceB, Bool.and_eq_true, Bool.not_eq_true', List.contains_eq_mem, decide_eq_false_iff_not] at h
  rw [List.count_cons]
  by_cases hxy : x = y
  ·subst hxy
   rw [if_pos (by simp), List.count_eq_zero_of_not_mem h.1]
   omega
  ·rw [if_neg (by simpa using hxy)]
   have := once_count l h.2 y
   omega

theorem once_of_count : ∀ l : List Int, (∀ y ∈ l, l.count y ≤ 1) → onceB l = true
 | [], _ => rfl
 | x :: l, h => by
  simp only [onceB, Bool.and_eq_true, Bool.not_eq_true', List.contains_eq_mem, decide_eq_false_iff_not]
  have hx := h x (List.mem_cons_self ..)
  rw [List.count_cons_self] at hx
  refine ⟨fun hm => ?_, once_of_count l fun y hy => ?_⟩
  ·have := List.count_pos_iff.2 hm
   omega
  ·have := h y (List.mem_cons_of_mem _ hy)
   rw [List.count_cons] at this
   split at this <;> omega

def stdB (l : List Int) : Bool := decide (∀ x ∈ l, x ≤ (l.length : Int)) && onceB l

theorem std_iff {l : List Int} (h1 : ∀ x ∈ l, 1 ≤ x) : stdB l = true ↔ ∀ j : Nat, j < l.length → ((j : Int) + 1) ∈ l := by
 unfold stdB
 simp only [Bool.and_eq_true, decide_eq_true_eq]
 constructor
 ·rintro ⟨ha, hb⟩ j hj
  have hs := sumc_all l.length l (fun x hx => ⟨h1 x hx, ha x hx⟩)
  have := (one_each l l.length (fun j _ => once_count l hb _)).2 hs j hj
  exact List.count_pos_iff.1 (by omega)
 ·intro h
  have hc : ∀ j : Nat, j < l.length → 1 ≤ l.count ((j : Int) + 1) := fun j hj => List.count_pos_iff.2 (h j hj)
  obtain ⟨hle, heq⟩ := each_one l l.length hc
  have hs : sumc l l.length = l.length := by have := sumc_le l.length l; omega
  have hall := all_of_sumc l.length l hs
  refine ⟨fun x hx => (hall x hx).2, once_of_count l fun y hy => ?_⟩
  have hy1 := hall y hy
  have := heq hs (y - 1).toNat (by omega)
  rw [show (((y - 1).toNat : Nat) : Int) + 1 = y by omega] at this
  omega

def goS (N : Int) : List Int → List Int → Bool
 | _, [] => true
 | done, x :: xs => if x > N then false else if done.contains x then false else goS N (done ++ [x]) xs

theorem goS_iff (N : Int) : ∀ (rest done : List Int), goS N done rest = true ↔ (∀ x ∈ rest, x ≤ N ∧ x ∉ done) ∧ onceB rest = true
 | [], done => by simp [goS, onceB]
 | x :: xs, done => by
  have ih := goS_iff N xs (done ++ [x])
  rw [goS]
  by_cases h1 : x > N
  ·rw [if_pos h1]
   simp only [Bool.false_eq_true, false_iff]
   rintro ⟨h, _⟩
   have := (h x (List.mem_cons_self ..)).1
   omega
  ·rw [if_neg h1]
   by_cases h2 : done.contains x = true
   ·rw [if_pos h2]
    simp only [Bool.false_eq_true, false_iff]
    rintro ⟨h, _⟩
    exact (h x (List.mem_cons_self ..)).2 (by simpa using h2)
   ·rw [if_neg h2, ih]
    have h2' : x ∉ done := by simpa using h2
    simp only [onceB, Bool.and_eq_true, Bool.not_eq_true', List.contains_eq_mem, decide_eq_false_iff_not, List.mem_append, List.mem_cons, List.not_mem_nil, or_false, not_or]
    constructor
    ·rintro ⟨h, h3⟩
     refine ⟨fun y hy => ?_, fun hx => (h x hx).2.2 rfl, h3⟩
     rcases hy with rfl | hy
     ·exact ⟨by omega, h2'⟩
     ·exact ⟨(h y hy).1, (h y hy).2.1⟩
    ·rintro ⟨h, h3, h4⟩
     refine ⟨fun y hy => ⟨(h y (.inr hy)).1, (h y (.inr hy)).2, fun e => h3 (e ▸ hy)⟩, h4⟩

theorem goS_std (l : List Int) : goS (l.length : Int) [] l = stdB l := by
 rw [Bool.eq_iff_iff, goS_iff]
 unfold stdB
 simp

theorem rdOf_set {s : List Bool} {a v : Int} (ha : 0 ≤ a) (ha2 : a < s.length) (hv : 0 ≤ v) (hv2 : v < s.length) : rdOf false (s.set a.toNat true) v = if v = a then true else rdOf false s v := by
 obtain ⟨m, rfl⟩ := Int.eq_ofNat_of_zero_le ha
 obtain ⟨n, rfl⟩ := Int.eq_ofNat_of_zero_le hv
 have hm : m < s.length := by omega
 have hn : n < s.length := by omega
 unfold rdOf
 simp only [Int.toNat_natCast, List.getD_eq_getElem?_getD, List.getElem?_set]
 by_cases h : m = n
 ·subst h
  simp [hm]
 ·rw [if_neg h, if_neg (by omega)]

theorem specStd_l0 (l : List Int) (hl : l.length ≤ 9) (hx : ∀ x ∈ l, 1 ≤ x ∧ x ≤ 9) : ∀ (d k i : Nat) (seen : List Bool), i + d = l.length → d < k → seen.length = 10 → (∀ v : Int, 1 ≤ v → v ≤ 9 → rdOf false seen v = (l.take i).contains v) →
  spec_IsStandard.l0 k l seen (i : Int) = some (goS (l.length : Int) (l.take i) (l.drop i)) := by
 intro d
 induction d with
 | zero =>
  intro k i seen hi hk hs hv
  obtain ⟨k, rfl⟩ := succ_of_pos hk
  rw [spec_IsStandard.l0, if_neg (by omega), List.drop_of_length_le (by omega)]
  rfl
 | succ d ih =>
  intro k i seen hi hk hs hv
  obtain ⟨k, rfl⟩ := succ_of_pos hk
  have hil : i < l.length := by omega
  have hr := hx l[i] (List.getElem_mem _)
  rw [spec_IsStandard.l0, if_pos (by omega), if_pos (by omega), rd_nat l i hil, List.drop_eq_getElem_cons hil, goS]
  by_cases h1 : l[i] > (l.length : Int)
  ·rw [if_pos h1, if_pos h1]
  ·rw [if_neg h1, if_neg h1, if_pos (by omega), if_pos (by omega), hv _ hr.1 hr.2]
   by_cases h2 : (l.take i).contains l[i] = true
   ·rw [if_pos h2, if_pos h2]
   ·rw [if_neg h2, if_neg h2, w64 (by omega) (by omega)]
    have e := List.take_succ_eq_append_getElem hil
    rw [← e]
    refine ih k (i + 1) _ (by omega) (by omega) (by simpa using hs) (fun v h3 h4 => ?_)
    rw [rdOf_set (by omega) (by omega) (by omega) (by omega), e, List.contains_append, hv v h3 h4]
    by_cases h5 : v = l[i]
    ·rw [if_pos h5, h5]; simp
    ·rw [if_neg h5]; simp [h5]

theorem specStd_eq {I : List Int} {R : List (List Int)} {k : Nat} (hI : I.length ≤ 1048576) (hR : R.length ≤ 1048576) (hs : sizes R ≤ 1048576) (hk : 8388608 < k) : spec_IsStandard.f k I R = some (tabB I R && stdB R.flatten) := by
 rw [spec_IsStandard.f, specTab_eq hI hR hs hk, Option.bind_some]
 cases ht : tabB I R with
 | false => rw [if_neg (by decide)]; rfl
 | true =>
  obtain ⟨h1, h2⟩ := tabB_flat ht
  rw [if_pos rfl, l5Numbers_eq hR hs (by omega), Option.bind_some, if_pos (by omega)]
  have := specStd_l0 R.flatten h1 h2 R.flatten.length k 0 (List.replicate 10 false) (by omega) (by omega) (by simp) (fun v h3 h4 => by
   obtain ⟨n, rfl⟩ := Int.eq_ofNat_of_zero_le (show 0 ≤ v by omega)
   unfold rdOf
   rw [List.getD_eq_getElem?_getD, List.getElem?_replicate, List.take_zero]
   split <;> rfl)
  rw [List.take_zero, List.drop_zero, goS_std] at this
  exact this

theorem areOnce_l0 (l : List Int) (hl : l.length ≤ 1048576) : ∀ (d k i : Nat), i + d = l.length → d + l.length + 1 < k → impl_areOnce.l0 k l ((i : Int) + 1) = some (allF (fun j => l.contains ((j : Int) + 1)) d i) := by
 intro d
 induction d with
 | zero =>
  intro k i hi hk
  obtain ⟨k, rfl⟩ := succ_of_pos hk
  rw [impl_areOnce.l0, if_neg (by omega)]; rfl
 | succ d ih =>
  intro k i hi hk
  obtain ⟨k, rfl⟩ := succ_of_pos hk
  rw [impl_areOnce.l0, if_pos (by omega), contains_eq (by omega) (by omega), Option.bind_some, allF]
  cases hc : l.contains ((i : Int) + 1) with
  | false => rw [if_neg (by decide)]; rfl
  | true =>
   rw [if_pos rfl, w64 (by omega) (by omega), Bool.true_and]
   have := ih k (i + 1) (by omega) (by omega)
   rwa [show ((i + 1 : Nat) : Int) + 1 = (i : Int) + 1 + 1 by omega] at this

theorem once_std {l : List Int} (h1 : ∀ x ∈ l, 1 ≤ x) : allF (fun j => l.contains ((j : Int) + 1)) l.length 0 = stdB l := by
 rw [Bool.eq_iff_iff, std_iff h1]
 constructor
 ·intro h j hj
  have := allF_at _ _ h j (Nat.zero_le _) (by omega)
  simpa using this
 ·intro h
  exact allF_of _ _ fun j _ hj => by simpa using h j (by omega)

theorem implStd_eq {I : List Int} {R : List (List Int)} {k : Nat} (hI : I.length ≤ 1048576) (hR : R.length ≤ 1048576) (hs : sizes R ≤ 1048576) (hk : 8388608 < k) : impl_IsStandard.f k I R = some (tabB I R && stdB R.flatten) := by
 rw [impl_IsStandard.f, implTab_eq hI hR hs hk, Option.bind_some]
 cases ht : tabB I R with
 | false => rw [if_neg (by decide)]; rfl
 | true =>
  obtain ⟨h1, h2⟩ := tabB_flat ht
  have h3 := areOnce_l0 R.flatten (by omega) R.flatten.length k 0 (by omega) (by omega)
  have h4 : impl_areOnce.f k R.flatten = some (stdB R.flatten) := by
   rw [impl_areOnce.f, ← once_std (fun x hx => (h2 x hx).1)]
   simpa using h3
  rw [if_pos rfl, concat_eq hR hs (by omega), Option.bind_some, h4, Option.bind_some]; rfl

def markL : Int → List Int → List Int
 | _, [] => []
 | m, _ :: xs => m :: markL (m + 1) xs

theorem markL_len : ∀ (xs : List Int) (m : Int), (markL m xs).length = xs.length
 | [], _ => rfl
 | _ :: xs, m => by simp [markL, markL_len xs]

theorem markIntS_l0 : ∀ (d k i : Nat) (xs : List Int) (m : Int), i + d = xs.length → d < k → 0 ≤ m → m + d ≤ 4611686018427387904 → xs.length ≤ 1099511627776 →
  laws_markIntS.l0 k xs m (i : Int) = some (m + d, xs.take i ++ markL m (xs.drop i)) := by
 intro d
 induction d with
 | zero =>
  intro k i xs m hi hk hm hb hn
  obtain ⟨k, rfl⟩ := succ_of_pos hk
  rw [laws_markIntS.l0, if_neg (by omega), List.drop_of_length_le (by omega), List.take_of_length_le (by omega)]
  simp [markL]
 | succ d ih =>
  intro k i xs m hi hk hm hb hn
  obtain ⟨k, rfl⟩ := succ_of_pos hk
  rw [laws_markIntS.l0, if_pos (by omega), if_pos (by omega), w64 (by omega) (by omega), w64 (by omega) (by omega), Int.toNat_natCast]
  have := ih k (i + 1) (xs.set i m) (m + 1) (by simp; omega) (by omega) (by omega) (by omega) (by simpa using hn)
  refine Eq.trans this ?_
  have e1 : (xs.set i m).take (i + 1) = xs.take i ++ [m] := by
   rw [List.take_succ_eq_append_getElem (by simp; omega)]
   simp [List.take_set_of_le]
  have e2 : (xs.set i m).drop (i + 1) = xs.drop (i + 1) := by
   rw [List.drop_set_of_lt (by omega)]
  rw [e1, e2, List.drop_eq_getElem_cons (l := xs) (i := i) (by omega), markL]
  congr 2
  ·omega
  ·simp

theorem markIntS_eq {k : Nat} {xs : List Int} {m : Int} (hn : xs.length ≤ 1099511627776) (hk : xs.length < k) (h0 : 0 ≤ m) (h1 : m ≤ 2305843009213693952) : laws_markIntS.f k xs m = some (m + xs.length, markL m xs) := by
 have := markIntS_l0 xs.length k 0 xs m (by omega) hk h0 (by omega) hn
 rw [laws_markIntS.f]
 simpa using this

theorem heldIntS_l0 : ∀ (xs : List Int) (k : Nat) (ys : List Int) (m : Int), xs.length < k → 0 ≤ m → m + xs.length ≤ 4611686018427387904 → ys.length + xs.length ≤ 1099511627776 →
  laws_heldIntS.l0 k (ys ++ markL m xs) m (ys.length : Int) = some (m + xs.length) := by
 intro xs
 induction xs with
 | nil =>
  intro k ys m hk hm hb hn
  obtain ⟨k, rfl⟩ := succ_of_pos hk
  rw [laws_heldIntS.l0, if_neg (by simp [markL])]
  simp
 | cons x xs ih =>
  intro k ys m hk hm hb hn
  obtain ⟨k, rfl⟩ := succ_of_pos hk
  simp only [List.length_cons] at hk hb hn
  have hl : (ys ++ markL m (x :: xs)).length = ys.length + (xs.length + 1) := by simp [markL_len]
  rw [laws_heldIntS.l0, if_pos (by omega), if_pos (by omega), rd_nat _ _ (by omega), w64 (by omega) (by omega), w64 (by omega) (by omega)]
  have e : (ys ++ markL m (x :: xs))[ys.length]'(by omega) = m := by simp [markL]
  rw [if_pos e]
  have := ih k (ys ++ [m]) (m + 1) (by omega) (by omega) (by omega) (by simp; omega)
  simp only [List.append_assoc, List.singleton_append, List.length_append, List.length_cons, List.length_nil] at this
  refine Eq.trans ?_ (this.trans ?_)
  ·rfl
  ·congr 1
   simp only [List.length_cons]
   omega

theorem heldIntS_eq {k : Nat} {xs : List Int} {m : Int} (hn : xs.length ≤ 1099511627776) (hk : xs.length < k) (h0 : 0 ≤ m) (h1 : m ≤ 2305843009213693952) : laws_heldIntS.f k (markL m xs) m = some (m + xs.length) := by
 have := heldIntS_l0 xs k [] m hk h0 (by omega) (by simpa using hn)
 simpa [laws_heldIntS.f] using this

def markLL : Int → List (List Int) → List (List Int)
 | _, [] => []
 | m, r :: rs => markL m r :: markLL (m + r.length) rs

theorem markLL_len : ∀ (R : List (List Int)) (m : Int), (markLL m R).length = R.length
 | [], _ => rfl
 | _ :: rs, m => by simp [markLL, markLL_len rs]

theorem markIntSS_l0 {B : Nat} (hB : B ≤ 1099511627776) : ∀ (d k i : Nat) (xs : List (List Int)) (m : Int), i + d = xs.length → d + B + 1 < k → 0 ≤ m → m + sizes (xs.drop i) ≤ 1152921504606846976 → xs.length ≤ 1099511627776 → (∀ x ∈ xs.drop i, x.length ≤ B) →
  laws_markIntSS.l0 k xs m (i : Int) = some (m + sizes (xs.drop i), xs.take i ++ markLL m (xs.drop i)) := by
 intro d
 induction d with
 | zero =>
  intro k i xs m hi hk hm hb hn hr
  obtain ⟨k, rfl⟩ := succ_of_pos hk
  rw [laws_markIntSS.l0, if_neg (by omega), List.drop_of_length_le (by omega), List.take_of_length_le (by omega)]
  simp [markLL, sizes]
 | succ d ih =>
  intro k i xs m hi hk hm hb hn hr
  obtain ⟨k, rfl⟩ := succ_of_pos hk
  have hil : i < xs.length := by omega
  have hd := List.drop_eq_getElem_cons hil
  rw [hd, sizes_cons] at hb
  have hrow := hr xs[i] (by rw [hd]; exact List.mem_cons_self ..)
  rw [laws_markIntSS.l0, if_pos (by omega), if_pos (by omega), rdl_nat xs i hil, markIntS_eq (by omega) (by omega) hm (by omega), Option.bind_some, w64 (by omega) (by omega), Int.toNat_natCast]
  have e2 : (xs.set i (markL m xs[i])).drop (i + 1) = xs.drop (i + 1) := by rw [List.drop_set_of_lt (by omega)]
  have e1 : (xs.set i (markL m xs[i])).take (i + 1) = xs.take i ++ [markL m xs[i]] := by
   rw [List.take_succ_eq_append_getElem (by simp; omega)]
   simp [List.take_set_of_le]
  have := ih k (i + 1) (xs.set i (markL m xs[i])) (m + (xs[i]).length) (by simp; omega) (by omega) (by omega) (by rw [e2]; omega) (by simpa using hn) (by rw [e2]; intro x hx; exact hr x (by rw [hd]; exact List.mem_cons_of_mem _ hx))
  refine Eq.trans this ?_
  rw [e1, e2, hd, sizes_cons, markLL]
  congr 2
  ·omega
  ·simp

theorem markIntSS_eq {k : Nat} {R : List (List Int)} {m : Int} (hR : R.length ≤ 1048576) (hs : sizes R ≤ 1048576) (hk : 4194304 < k) (h0 : 0 ≤ m) (h1 : m ≤ 1099511627776) : laws_markIntSS.f k R m = some (m + sizes R, markLL m R) := by
 have hr : ∀ x ∈ R, x.length ≤ 1048576 := by
  intro x hx
  obtain ⟨i, hi, rfl⟩ := List.getElem_of_mem hx
  exact Nat.le_trans (sizes_at hi) hs
 have := markIntSS_l0 (B := 1048576) (by omega) R.length k 0 R m (by omega) (by omega) h0 (by rw [List.drop_zero]; omega) (by omega) (by simpa using hr)
 rw [laws_markIntSS.f]
 simpa using this

theorem heldIntSS_l0 {B : Nat} (hB : B ≤ 1099511627776) : ∀ (R : List (List Int)) (k : Nat) (ys : List (List Int)) (m : Int), R.length + B + 1 < k → 0 ≤ m → m + sizes R ≤ 1152921504606846976 → ys.length + R.length ≤ 1099511627776 → (∀ x ∈ R, x.length ≤ B) →
  laws_heldIntSS.l0 k (ys ++ markLL m R) m (ys.length : Int) = some (m + sizes R) := by
 intro R
 induction R with
 | nil =>
  intro k ys m hk hm hb hn hr
  obtain ⟨k, rfl⟩ := succ_of_pos hk
  rw [laws_heldIntSS.l0, if_neg (by simp [markLL])]
  simp [sizes]
 | cons r R ih =>
  intro k ys m hk hm hb hn hr
  obtain ⟨k, rfl⟩ := succ_of_pos hk
  rw [sizes_cons] at hb ⊢
  simp only [List.length_cons] at hk hn
  have hrow := hr r (List.mem_cons_self ..)
  have hl : (ys ++ markLL m (r :: R)).length = ys.length + (R.length + 1) := by simp [markLL_len]
  rw [laws_heldIntSS.l0, if_pos (by omega), if_pos (by omega), rdl_nat _ _ (by omega)]
  have e : (ys ++ markLL m (r :: R))[ys.length]'(by omega) = markL m r := by simp [markLL]
  rw [e, heldIntS_eq (by omega) (by omega) hm (by omega), Option.bind_some, if_neg (by omega), w64 (by omega) (by omega)]
  have := ih k (ys ++ [markL m r]) (m + r.length) (by omega) (by omega) (by omega) (by simp; omega) (fun x hx => hr x (List.mem_cons_of_mem _ hx))
  simp only [List.append_assoc, List.singleton_append, List.length_append, List.length_cons, List.length_nil] at this
  refine Eq.trans ?_ (this.trans ?_)
  ·rfl
  ·congr 1
   omega

theorem heldIntSS_eq {k : Nat} {R : List (List Int)} {m : Int} (hR : R.length ≤ 1048576) (hs : sizes R ≤ 1048576) (hk : 4194304 < k) (h0 : 0 ≤ m) (h1 : m ≤ 1099511627776) : laws_heldIntSS.f k (markLL m R) m = some (m + sizes R) := by
 have hr : ∀ x ∈ R, x.length ≤ 1048576 := by
  intro x hx
  obtain ⟨i, hi, rfl⟩ := List.getElem_of_mem hx
  exact Nat.le_trans (sizes_at hi) hs
 have := heldIntSS_l0 (B := 1048576) (by omega) R k [] m (by omega) h0 (by omega) (by simpa using (by omega : R.length ≤ 1099511627776)) hr
 simpa [laws_heldIntSS.f] using this

def hd0 : List Int → Int
 | [] => 0
 | x :: _ => x

def conjB (q : List Int) : Bool := match impl_Conjugate.f 100 q with
 | some a => spec_l2Turn.f 100 q == some a && decide (a.length ≤ 9) && decide ((a.length : Int) = hd0 q)
 | none => false

set_option maxHeartbeats 8000000 in
theorem conj_all : (genP 9 9 9).all conjB = true := by decide +kernel

theorem conj_of {q : List Int} {k : Nat} (h : isP q = true) (hk : 100 ≤ k) : ∃ a, impl_Conjugate.f k q = some a ∧ spec_l2Turn.f k q = some a ∧ a.length ≤ 9 ∧ (a.length : Int) = hd0 q := by
 have h1 := all_at conj_all (isP_mem h)
 unfold conjB at h1
 cases e : impl_Conjugate.f 100 q with
 | none => rw [e] at h1; cases h1
 | some a =>
  rw [e] at h1
  simp only [Bool.and_eq_true, beq_iff_eq, decide_eq_true_eq] at h1
  exact ⟨a, at_rounds (impl_Conjugate.mono q) hk e, at_rounds (spec_l2Turn.mono q) hk h1.1.1, h1.1.2, h1.2⟩

def turnRow (I : List Int) (R : List (List Int)) (c : Int) : Nat → Nat → List Int
 | 0, _ => []
 | d + 1, i => (if entV I R (i : Int) c > 0 then [entV I R (i : Int) c] else []) ++ turnRow I R c d (i + 1)

theorem turnRow_len (I : List Int) (R : List (List Int)) (c : Int) : ∀ d i, (turnRow I R c d i).length ≤ d
 | 0, _ => by simp [turnRow]
 | d + 1, i => by
  have := turnRow_len I R c d (i + 1)
  rw [turnRow, List.length_append]
  split <;> simp <;> omega

def turnRows (I : List Int) (R : List (List Int)) : Nat → Nat → List (List Int)
 | 0, _ => []
 | d + 1, c => turnRow I R (c : Int) R.length 0 :: turnRows I R d (c + 1)

theorem turnRows_len (I : List Int) (R : List (List Int)) : ∀ d c, (turnRows I R d c).length = d
 | 0, _ => rfl
 | d + 1, c => by simp [turnRows, turnRows_len I R d]

theorem turnRows_sizes (I : List Int) (R : List (List Int)) : ∀ d c, sizes (turnRows I R d c) ≤ d * R.length
 | 0, _ => by simp [turnRows, sizes]
 | d + 1, c => by
  have h1 := turnRows_sizes I R d (c + 1)
  have h2 := turnRow_len I R (c : Int) R.length 0
  rw [turnRows, sizes_cons, Nat.succ_mul]
  omega

section
variable {I : List Int} {R : List (List Int)} (hI : isP I = true) (hR : R.length ≤ 9) (hr : ∀ x ∈ R, x.length ≤ 1048576)
include hI hR

theorem specTT_l1 {O J C : List Int} {n : Int} {c : Nat} {v : List Int × List (List Int) × Bool} {B : Nat} {Q : List (List Int)} (hO : O.length = R.length) (hc : c ≤ 9) (hQ : Q.length ≤ 9) :
  ∀ (d k i : Nat) (acc : List Int), i + d = R.length → acc.length ≤ i → (∀ k, B < k → spec_TurnTableau.l0 k n ((c + 1 : Nat) : Int) I R O J C (Q ++ [acc ++ turnRow I R (c : Int) d i]) = some v) → d + B + 1 < k →
   spec_TurnTableau.l1 k n (c : Int) acc (i : Int) I R O J C Q = some v := by
 intro d
 induction d with
 | zero =>
  intro k i acc hi ha hnext hk
  obtain ⟨k, rfl⟩ := succ_of_pos hk
  rw [spec_TurnTableau.l1, if_neg (by omega), if_pos (by omega), w64 (by omega) (by omega)]
  have := hnext k (by omega)
  simpa [turnRow] using this
 | succ d ih =>
  intro k i acc hi ha hnext hk
  obtain ⟨k, rfl⟩ := succ_of_pos hk
  rw [spec_TurnTableau.l1, if_pos (by omega), l5Entry_eq hI (by omega) (by omega) (by omega), Option.bind_some, w64 (x := (i : Int) + 1) (by omega) (by omega)]
  by_cases h : entV I R (i : Int) (c : Int) > 0
  ·rw [if_pos h, Option.bind_some, if_pos (by omega)]
   refine ih k (i + 1) _ (by omega) (by rw [List.length_append, List.length_singleton]; omega) (fun k hk => ?_) (by omega)
   have := hnext k hk
   rw [turnRow, if_pos h] at this
   simpa using this
  ·rw [if_neg h]
   refine ih k (i + 1) _ (by omega) (by omega) (fun k hk => ?_) (by omega)
   have := hnext k hk
   rw [turnRow, if_neg h] at this
   simpa using this

theorem specTT_l0 {O J C : List Int} {n : Nat} (hO : O.length = R.length) (hn : n ≤ 9) : ∀ (d k c : Nat) (Q : List (List Int)), c + d = n → Q.length = c → 12 * d < k →
  spec_TurnTableau.l0 k (n : Int) (c : Int) I R O J C Q = some (C, Q ++ turnRows I R d c, true) := by
 intro d
 induction d with
 | zero =>
  intro k c Q hc hQ hk
  obtain ⟨k, rfl⟩ := succ_of_pos hk
  rw [spec_TurnTableau.l0, if_neg (by omega)]
  simp [turnRows]
 | succ d ih =>
  intro k c Q hc hQ hk
  obtain ⟨k, rfl⟩ := succ_of_pos hk
  rw [spec_TurnTableau.l0, if_pos (by omega)]
  refine specTT_l1 hI hR (B := 12 * d) hO (by omega) (by omega) R.length k 0 [] (by omega) (by simp) (fun k hk => ?_) (by omega)
  rw [ih k (c + 1) _ (by omega) (by rw [List.length_append, List.length_singleton]; omega) hk, turnRows]
  simp

include hr
theorem implTT_l1 {C : List Int} {n : Int} {c : Nat} {v : List Int × List (List Int) × Bool} {B : Nat} {Q : List (List Int)} (hc : c ≤ 9) (hQ : Q.length ≤ 9) :
  ∀ (d k i : Nat) (acc : List Int), i + d = R.length → acc.length ≤ i → (∀ k, B < k → impl_TurnTableau.l0 k n ((c + 1 : Nat) : Int) I R C (Q ++ [acc ++ turnRow I R (c : Int) d i]) = some v) → d + B + 1 < k →
   impl_TurnTableau.l1 k (c : Int) acc n (c : Int) (R.length : Int) (i : Int) I R C Q = some v := by
 intro d
 induction d with
 | zero =>
  intro k i acc hi ha hnext hk
  obtain ⟨k, rfl⟩ := succ_of_pos hk
  rw [impl_TurnTableau.l1, if_neg (by omega), if_pos (by omega), w64 (by omega) (by omega)]
  have := hnext k (by omega)
  simpa [turnRow] using this
 | succ d ih =>
  intro k i acc hi ha hnext hk
  obtain ⟨k, rfl⟩ := succ_of_pos hk
  rw [impl_TurnTableau.l1, if_pos (by omega), entry_eq hI (by omega) (fun x hx => Nat.le_trans (hr x hx) (by omega)) (by omega) (by omega), Option.bind_some, w64 (x := (i : Int) + 1) (by omega) (by omega)]
  by_cases h : entV I R (i : Int) (c : Int) > 0
  ·rw [if_pos h, if_pos (by omega)]
   refine ih k (i + 1) _ (by omega) (by rw [List.length_append, List.length_singleton]; omega) (fun k hk => ?_) (by omega)
   have := hnext k hk
   rw [turnRow, if_pos h] at this
   simpa using this
  ·rw [if_neg h]
   refine ih k (i + 1) _ (by omega) (by omega) (fun k hk => ?_) (by omega)
   have := hnext k hk
   rw [turnRow, if_neg h] at this
   simpa using this

theorem implTT_l0 {C : List Int} {n : Nat} (hn : n ≤ 9) : ∀ (d k c : Nat) (Q : List (List Int)), c + d = n → Q.length = c → 12 * d < k →
  impl_TurnTableau.l0 k (n : Int) (c : Int) I R C Q = some (C, Q ++ turnRows I R d c, true) := by
 intro d
 induction d with
 | zero =>
  intro k c Q hc hQ hk
  obtain ⟨k, rfl⟩ := succ_of_pos hk
  rw [impl_TurnTableau.l0, if_neg (by omega)]
  simp [turnRows]
 | succ d ih =>
  intro k c Q hc hQ hk
  obtain ⟨k, rfl⟩ := succ_of_pos hk
  rw [impl_TurnTableau.l0, if_pos (by omega)]
  refine implTT_l1 hI hR hr (B := 12 * d) (by omega) (by omega) R.length k 0 [] (by omega) (by simp) (fun k hk => ?_) (by omega)
  rw [ih k (c + 1) _ (by omega) (by rw [List.length_append, List.length_singleton]; omega) hk, turnRows]
  simp
end

/-- What both turn a tableau into. -/
theorem turn_eq {I : List Int} {R : List (List Int)} {k : Nat} (h1 : I.length ≤ 1048576) (h2 : R.length ≤ 1048576) (h3 : sizes R ≤ 1048576) (hk : 8388608 < k) :
  ∃ (P : List Int) (Q : List (List Int)) (b : Bool), spec_TurnTableau.f k I R = some (P, Q, b) ∧ impl_TurnTableau.f k I R = some (P, Q, b) ∧ P.length ≤ 9 ∧ Q.length ≤ 9 ∧ sizes Q ≤ 81 := by
 rw [spec_TurnTableau.f, impl_TurnTableau.f, specStd_eq h1 h2 h3 hk, implStd_eq h1 h2 h3 hk, Option.bind_some, Option.bind_some]
 by_cases ht : (tabB I R && stdB R.flatten) = true
 ·rw [if_pos ht, if_pos ht, specShapeOf_eq h1 h2 h3 hk, implShapeOf_eq h1 h2 h3 hk, Option.bind_some, Option.bind_some]
  simp only [Bool.and_eq_true] at ht
  have hok := tabB_ok ht.1
  have hP := okShape_isP hok
  have hO := okShape_out hok
  have hR9 := okShape_len hok
  have hrs := rows_small h3
  obtain ⟨C, c1, c2, c3, _⟩ := conj_of (k := k) hP (by omega)
  obtain ⟨D, d1, _, d3, d4⟩ := conj_of (k := k) hO (by omega)
  unfold shapeV
  rw [if_pos hok]
  dsimp only
  rw [c1, c2, Option.bind_some, Option.bind_some, d1, Option.bind_some]
  have hs : ∀ m : Nat, m = D.length → spec_TurnTableau.j0 k (m : Int) I R (outF I 0 R) I C = some (C, turnRows I R D.length 0, true) := by
   intro m hm
   subst hm
   obtain ⟨k, rfl⟩ := succ_of_pos hk
   rw [spec_TurnTableau.j0]
   have := specTT_l0 (J := I) (C := C) hP hR9 (outF_len I R 0) d3 D.length k 0 [] (by omega) rfl (by omega)
   simpa using this
  refine ⟨C, turnRows I R D.length 0, true, ?_, ?_, c3, by rw [turnRows_len]; exact d3, Nat.le_trans (turnRows_sizes I R _ _) (Nat.mul_le_mul d3 hR9)⟩
  ·cases e : outF I 0 R with
   | nil =>
    rw [e] at d4 hs
    rw [if_neg (by simp)]
    exact hs 0 (by have d5 : (D.length : Int) = 0 := d4; omega)
   | cons x xs =>
    rw [e] at d4 hs
    have e2 : rd (x :: xs) 0 = (D.length : Int) := by have d5 : (D.length : Int) = x := d4; rw [d5]; rfl
    rw [if_pos (by simp), if_pos (by simp), e2]
    exact hs _ rfl
  ·have := implTT_l0 (C := C) hP hR9 hrs d3 D.length k 0 [] (by omega) rfl (by omega)
   simpa using this
 ·rw [if_neg ht, if_neg ht]
  exact ⟨[], [], false, rfl, rfl, by simp, by simp, by simp [sizes]⟩

theorem FnExactTurnTableau (I : List Int) (R : List (List Int)) (hm0 : I.length ≤ maxLen) (_ : ∀ x ∈ I, (Lit.int .i64 x).wf = true) (hm1 : R.length ≤ maxLen) (hr : ∀ x ∈ R, x.length ≤ maxLen ∧ ∀ n ∈ x, (Lit.int .i64 n).wf = true) : ∃ k, laws_FnExactTurnTableau.ok k I R := by
 refine ⟨8388700, ⟨?_⟩⟩
 obtain ⟨s, hs, h⟩ := szTableau_two (m := 1048576) (k := 8388700) hm0 hm1 (fun x hx => (hr x hx).1) (by omega) (by omega) (by omega)
 rcases h with h | ⟨h1, h2, h3, h4, _⟩
 ·exact .inl ⟨s, h, hs⟩
 ·obtain ⟨P, Q, b, e2, e3, hp, hq, hz⟩ := turn_eq h1 h2 h3 (show 8388608 < 8388700 by omega)
  have h6 : laws_heldTableau.f 8388700 (markL 1 P) (markLL (1 + (P.length : Int)) Q) 1 = some (1 + (P.length : Int) + sizes Q) := by
   rw [laws_heldTableau.f, heldIntS_eq (by omega) (by omega) (by omega) (by omega), Option.bind_some, if_neg (by omega), heldIntSS_eq (by omega) (by omega) (by omega) (by omega) (by omega), Option.bind_some, if_neg (by omega)]
  exact .inr ⟨s, 1 + I.length, 1 + I.length + sizes R, 1 + (P.length : Int) + sizes Q, P, Q, markL 1 I, markL 1 P, markLL (1 + (P.length : Int)) Q, b, markLL (1 + I.length) R, h4, hs, toTableau_eq h1 h2 h3 (by omega), e2, e3, eqTableau_self (by omega) (by omega) (by omega) (by omega), eqTableau_self h1 h2 h3 (by omega), markIntS_eq (by omega) (by omega) (by omega) (by omega), markIntSS_eq h2 h3 (by omega) (by omega) (by omega), by omega, ⟨1 + (P.length : Int), markIntS_eq (by omega) (by omega) (by omega) (by omega), markIntSS_eq (by omega) (by omega) (by omega) (by omega) (by omega)⟩, by omega, h6⟩

end Go.Proofs.Ytiehngfcfdlbnaa.Pure
