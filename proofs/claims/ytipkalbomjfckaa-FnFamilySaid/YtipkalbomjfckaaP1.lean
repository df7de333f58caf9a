/-
  Proved here, in plain numbers: closures, least conditions and duals of families of conditions.
-/
import Derived.Test.YtipkalbomjfckaaS2
namespace Go.Proofs.Ytipkalbomjfckaa
theorem ext16 {a b : Nat} (ha : a < 65536) (hb : b < 65536) (h : ∀ i, i < 16 → has a i = has b i) : a = b := by
  apply Nat.eq_of_testBit_eq
  intro i
  by_cases hi : i < 16
  · exact h i hi
  · rw [has_lt ha (by omega), has_lt hb (by omega)]
theorem upN_lt (f : Nat) : upN f < 65536 := setOf_lt65536 _ 16 (Nat.le_refl _)
theorem leastN_lt (f : Nat) : leastN f < 65536 := setOf_lt65536 _ 16 (Nat.le_refl _)
theorem dualN_lt (f : Nat) : dualN f < 65536 := setOf_lt65536 _ 16 (Nat.le_refl _)
theorem has_setOf (F : Nat → Bool) (i : Nat) (hi : i < 16) : has (setOf F 16) i = F i := by unfold has; rw [setOf_bit]; simp [hi]
theorem anyOf_iff (f : Nat) (F : Nat → Bool) : anyOf f F = true ↔ ∃ i, i < 16 ∧ has f i = true ∧ F i = true := anyTo_iff f F 16
theorem has_up (f q : Nat) (hq : q < 16) : has (upN f) q = true ↔ ∃ p, p < 16 ∧ has f p = true ∧ sub p q = true := by
  unfold upN; rw [has_setOf _ _ hq, anyOf_iff]
theorem has_dual (f q : Nat) (hq : q < 16) : has (dualN f) q = true ↔ ∀ p, p < 16 → has f p = true → meets p q = true := by
  unfold dualN
  rw [has_setOf _ _ hq, Bool.not_eq_true', ← Bool.not_eq_true, anyOf_iff]
  constructor
  · intro h p hp hf
    cases hm : meets p q
    · exact absurd ⟨p, hp, hf, by rw [hm]; rfl⟩ h
    · rfl
  · rintro h ⟨p, hp, hf, hm⟩
    rw [h p hp hf] at hm
    exact absurd hm (by decide)
theorem has_least (f q : Nat) (hq : q < 16) : has (leastN f) q = true ↔ has f q = true ∧ ∀ p, p < 16 → has f p = true → sub p q = true → p = q := by
  unfold leastN
  rw [has_setOf _ _ hq, Bool.and_eq_true, Bool.not_eq_true', ← Bool.not_eq_true, anyOf_iff]
  constructor
  · rintro ⟨h1, h2⟩
    refine ⟨h1, fun p hp hf hs => ?_⟩
    by_cases e : p = q
    · exact e
    · exact absurd ⟨p, hp, hf, by simp [e, hs]⟩ h2
  · rintro ⟨h1, h2⟩
    refine ⟨h1, ?_⟩
    rintro ⟨p, hp, hf, hs⟩
    simp only [Bool.and_eq_true, Bool.not_eq_true', decide_eq_false_iff_not] at hs
    exact hs.1 (h2 p hp hf hs.2)
theorem sub_refl : ∀ p : Nat, p < 16 → sub p p = true := by decide
theorem sub_trans : ∀ p : Nat, p < 16 → ∀ q : Nat, q < 16 → ∀ r : Nat, r < 16 → sub p q = true → sub q r = true → sub p r = true := by decide +kernel
theorem sub_anti : ∀ p : Nat, p < 16 → ∀ q : Nat, q < 16 → sub p q = true → sub q p = true → p = q := by decide +kernel
theorem sub_le : ∀ p : Nat, p < 16 → ∀ q : Nat, q < 16 → sub p q = true → p ≤ q := by decide +kernel
theorem sub_or : ∀ p : Nat, p < 16 → ∀ q : Nat, q < 16 → sub p (orN p q) = true := by decide +kernel
theorem meets_not : ∀ p : Nat, p < 16 → ∀ q : Nat, q < 16 → meets p q = !sub p (diff 15 q) := by decide +kernel
theorem meets_sub : ∀ p : Nat, p < 16 → ∀ q : Nat, q < 16 → ∀ r : Nat, r < 16 → meets p q = true → sub q r = true → meets p r = true := by decide +kernel
theorem diff_diff : ∀ p : Nat, p < 16 → diff 15 (diff 15 p) = p := by decide
theorem diff16 (q : Nat) : diff 15 q < 16 := Nat.lt_of_le_of_lt Nat.and_le_left (by omega)
theorem up_has (f q : Nat) (hq : q < 16) (h : has f q = true) : has (upN f) q = true := (has_up f q hq).2 ⟨q, hq, h, sub_refl q hq⟩
theorem bool_ext {a b : Bool} (h : a = true ↔ b = true) : a = b := by cases a <;> cases b <;> simp_all
theorem up_up (f : Nat) : upN (upN f) = upN f := ext16 (upN_lt _) (upN_lt _) fun q hq => bool_ext (by
  constructor
  · intro h
    obtain ⟨p, hp, h1, h2⟩ := (has_up _ _ hq).1 h
    obtain ⟨r, hr, h3, h4⟩ := (has_up _ _ hp).1 h1
    exact (has_up _ _ hq).2 ⟨r, hr, h3, sub_trans r hr p hp q hq h4 h2⟩
  · exact up_has _ _ hq)
theorem dual_not (f q : Nat) (hq : q < 16) : has (dualN f) q = !has (upN f) (diff 15 q) := by
  apply bool_ext
  rw [Bool.not_eq_true', ← Bool.not_eq_true, has_dual _ _ hq, has_up _ _ (diff16 q)]
  constructor
  · rintro h ⟨p, hp, hf, hs⟩
    have := h p hp hf
    rw [meets_not p hp q hq, hs] at this
    exact absurd this (by decide)
  · intro h p hp hf
    rw [meets_not p hp q hq]
    cases hs : sub p (diff 15 q)
    · rfl
    · exact absurd ⟨p, hp, hf, hs⟩ h
theorem up_dual (f : Nat) : upN (dualN f) = dualN f := ext16 (upN_lt _) (dualN_lt _) fun q hq => bool_ext (by
  constructor
  · intro h
    obtain ⟨p, hp, h1, h2⟩ := (has_up _ _ hq).1 h
    exact (has_dual _ _ hq).2 fun r hr hf => meets_sub r hr p hp q hq ((has_dual _ _ hp).1 h1 r hr hf) h2
  · exact up_has _ _ hq)
theorem dual_dual (f : Nat) : dualN (dualN f) = upN f := ext16 (dualN_lt _) (upN_lt _) fun q hq => by
  rw [dual_not _ _ hq, up_dual, dual_not _ _ (diff16 q), diff_diff q hq, Bool.not_not]
theorem dual_up (f : Nat) : dualN (upN f) = dualN f := ext16 (dualN_lt _) (dualN_lt _) fun q hq => by
  rw [dual_not _ _ hq, dual_not _ _ hq, up_up]
/-- Below each condition of a family lies a least one. -/
theorem least_below (f : Nat) : ∀ n q : Nat, q ≤ n → q < 16 → has f q = true → ∃ r, r < 16 ∧ has (leastN f) r = true ∧ sub r q = true := by
  intro n
  induction n with
  | zero =>
    intro q hn hq hf
    obtain rfl : q = 0 := by omega
    refine ⟨0, hq, (has_least _ _ hq).2 ⟨hf, fun p hp _ hs => ?_⟩, sub_refl 0 hq⟩
    have := sub_le p hp 0 hq hs
    omega
  | succ n ih =>
    intro q hn hq hf
    by_cases h : ∃ p, p < 16 ∧ has f p = true ∧ sub p q = true ∧ p ≠ q
    · obtain ⟨p, hp, h1, h2, h3⟩ := h
      have := sub_le p hp q hq h2
      obtain ⟨r, hr, h4, h5⟩ := ih p (by omega) hp h1
      exact ⟨r, hr, h4, sub_trans r hr p hp q hq h5 h2⟩
    · refine ⟨q, hq, (has_least _ _ hq).2 ⟨hf, fun p hp hf' hs => ?_⟩, sub_refl q hq⟩
      by_cases e : p = q
      · exact e
      · exact absurd ⟨p, hp, hf', hs, e⟩ h
theorem up_least (f : Nat) : upN (leastN f) = upN f := ext16 (upN_lt _) (upN_lt _) fun q hq => bool_ext (by
  constructor
  · intro h
    obtain ⟨p, hp, h1, h2⟩ := (has_up _ _ hq).1 h
    exact (has_up _ _ hq).2 ⟨p, hp, ((has_least _ _ hp).1 h1).1, h2⟩
  · intro h
    obtain ⟨p, hp, h1, h2⟩ := (has_up _ _ hq).1 h
    obtain ⟨r, hr, h3, h4⟩ := least_below f 16 p (by omega) hp h1
    exact (has_up _ _ hq).2 ⟨r, hr, h3, sub_trans r hr p hp q hq h4 h2⟩)
theorem least_up (f : Nat) : leastN (upN f) = leastN f := ext16 (leastN_lt _) (leastN_lt _) fun q hq => bool_ext (by
  rw [has_least _ _ hq, has_least _ _ hq]
  constructor
  · rintro ⟨h1, h2⟩
    obtain ⟨p, hp, h3, h4⟩ := (has_up _ _ hq).1 h1
    have e := h2 p hp (up_has _ _ hp h3) h4
    subst e
    exact ⟨h3, fun r hr hf hs => h2 r hr (up_has _ _ hr hf) hs⟩
  · rintro ⟨h1, h2⟩
    refine ⟨up_has _ _ hq h1, fun p hp hf hs => ?_⟩
    obtain ⟨r, hr, h3, h4⟩ := (has_up _ _ hp).1 hf
    have e := h2 r hr h3 (sub_trans r hr p hp q hq h4 hs)
    subst e
    exact sub_anti p hp r hq hs h4)
theorem least_some (f q : Nat) (hq : q < 16) (h : has f q = true) : leastN f ≠ 0 := by
  obtain ⟨r, _, h1, _⟩ := least_below f 16 q (by omega) hq h
  intro e
  rw [e, has_zero] at h1
  exact absurd h1 (by decide)
end Go.Proofs.Ytipkalbomjfckaa
