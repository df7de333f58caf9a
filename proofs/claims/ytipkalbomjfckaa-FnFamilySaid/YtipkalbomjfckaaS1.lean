/-
  Proved here: what the reference's functions of families (CloseUp, LeastOf, DualFamily) return, for every number: what the program's return.
-/
import Derived.Test.YtipkalbomjfckaaF1
import Derived.Test.YtipkalbomjfckaaC1
namespace Go.Proofs.Ytipkalbomjfckaa
open Go.RowKit
theorem has_or_pow (o q i : Nat) : has (orN o (pow2 q)) i = (has o i || decide (q = i)) := by
  unfold has orN pow2; rw [Nat.testBit_or, Nat.testBit_two_pow]
theorem has_diff_pow (o q i : Nat) (hi : i < 16) : has (diff o (pow2 q)) i = (has o i && !decide (q = i)) := by
  unfold has diff pow2; rw [Nat.testBit_and, Nat.testBit_xor, Nat.testBit_two_pow, testBit_full]; simp [hi]
theorem has_zero (i : Nat) : has 0 i = false := by unfold has; simp
theorem eq_setOf (o : Nat) (F : Nat → Bool) (h : o < 65536) (hb : ∀ i, i < 16 → has o i = F i) : o = setOf F 16 := by
  apply Nat.eq_of_testBit_eq
  intro i
  rw [setOf_bit]
  by_cases hi : i < 16
  · have := hb i hi; unfold has at this; rw [this]; simp [hi]
  · rw [has_lt h (by omega)]; simp [hi]
theorem meets_comm (p q : Nat) : meets p q = meets q p := by unfold meets; rw [Nat.and_comm]
def UpInv (f p q o : Nat) : Prop := o < 65536 ∧ ∀ i, i < 16 → has o i = (anyTo f (fun p' => sub p' i) p || (has f p && decide (i < q) && sub p i))
theorem UpInv.start (f : Nat) : UpInv f 0 0 0 := ⟨by omega, fun i _ => by simp [has_zero, anyTo]⟩
theorem UpInv.no {f p q o : Nat} (h : UpInv f p q o) (hs : sub p q = false) : UpInv f p (q + 1) o := by
  refine ⟨h.1, fun i hi => ?_⟩
  rw [h.2 i hi]
  by_cases e : i = q
  · subst e; simp [hs]
  · have : decide (i < q + 1) = decide (i < q) := by simp; omega
    rw [this]
theorem UpInv.yes {f p q o : Nat} (h : UpInv f p q o) (hs : sub p q = true) (hf : has f p = true) (hq : q < 16) : UpInv f p (q + 1) (orN o (pow2 q)) := by
  refine ⟨orN_lt _ _ h.1 (pow2_lt _ hq), fun i hi => ?_⟩
  rw [has_or_pow, h.2 i hi]
  by_cases e : i = q
  · subst e; simp [hs, hf]
  · have : decide (i < q + 1) = decide (i < q) := by simp; omega
    have e' : ¬ q = i := fun x => e x.symm
    rw [this]; simp [e']
theorem UpInv.next {f p o : Nat} (h : UpInv f p 16 o) : UpInv f (p + 1) 0 o := by
  refine ⟨h.1, fun i hi => ?_⟩
  rw [h.2 i hi]; simp [anyTo, hi]
theorem UpInv.skip {f p o : Nat} (h : UpInv f p 0 o) (hf : has f p = false) : UpInv f (p + 1) 0 o := by
  refine ⟨h.1, fun i hi => ?_⟩
  rw [h.2 i hi]; simp [anyTo, hf]
theorem UpInv.last {f o : Nat} (h : UpInv f 16 0 o) : o = upN f :=
  eq_setOf _ _ h.1 fun i hi => by rw [h.2 i hi]; simp [anyOf]
set_option maxHeartbeats 400000 in
theorem l1Up_any (f : Nat) (w : World) :
    Calls Try.prog 56 #[.int .i64 f] w fun e w' => e = .returned (.int .i64 (upN f : Nat)) ∧ w = w' := by
  go_enter Try.func56, Try.ntmps56
  go_wp2_with fail
  go_loop [3, 4, 5] (fun v u _ => ∃ p o : Nat, p ≤ 16 ∧ u = .int .i64 p ∧ v = .int .i64 o ∧ UpInv f p 0 o) (fun _ u _ => 16 - (intOf u).toNat)
  case atStart => exact ⟨0, 0, by omega, rfl, rfl, UpInv.start f⟩
  case round =>
    obtain ⟨p, o, hp, rfl, rfl, hi⟩ := hrel
    by_cases hlt : p < 16
    · have hl1 : (p : Int) < 16 := by omega
      cases hh : has f p
      · have hh' := hid hh
        clear hh
        go_wp2_with fail
        go_loop [3, 5] (fun v u => ∃ o q : Nat, q = 0 ∧ u = .int .i64 q ∧ v = .int .i64 o ∧ UpInv f p 0 o) (fun _ u => 16 - (intOf u).toNat)
        case atStart => exact ⟨o, 0, rfl, rfl, rfl, hi⟩
        case round =>
          obtain ⟨o2, q, rfl, rfl, rfl, hi2⟩ := hrel
          have hx := hh'.out
          go_wp2_with (first | (go_at_call 55; refine (l1Has_any f p hlt _).mono ?_; rintro e w' ⟨rfl, rfl⟩) | fail)
          go_round
          case rel => exact ⟨p + 1, o2, by omega, by go_num, rfl, hi2.skip hh'.out⟩
          case measure => simp [intOf]; omega
      · have hh' := hid hh
        clear hh
        go_wp2_with fail
        go_loop [3, 5] (fun v u => ∃ o q : Nat, q ≤ 16 ∧ u = .int .i64 q ∧ v = .int .i64 o ∧ UpInv f p q o) (fun _ u => 16 - (intOf u).toNat)
        case atStart => exact ⟨o, 0, by omega, rfl, rfl, hi⟩
        case round =>
          obtain ⟨o2, q, hq, rfl, rfl, hi2⟩ := hrel
          have hx := hh'.out
          by_cases hlt2 : q < 16
          · have hl2 : (q : Int) < 16 := by omega
            have b1 : p < 65536 := by omega
            have b2 : q < 65536 := by omega
            have b3 := hi2.1
            cases hs : sub p q
            · have hs' := hid hs
              go_wp2_with (first | (go_at_call 55; refine (l1Has_any f p hlt _).mono ?_; rintro e w' ⟨rfl, rfl⟩) | fail)
              go_round
              case rel => exact ⟨o2, q + 1, by omega, by go_num, rfl, hi2.no hs'.out⟩
              case measure => simp [intOf]; omega
            · have hs' := hid hs
              go_wp2_with (first | (go_at_call 55; refine (l1Has_any f p hlt _).mono ?_; rintro e w' ⟨rfl, rfl⟩) | fail)
              go_round
              case rel => exact ⟨_, q + 1, by omega, by go_num, rfl, hi2.yes hs'.out hh'.out hlt2⟩
              case measure => simp [intOf]; omega
          · obtain rfl : q = 16 := by omega
            go_wp2_with (first | (go_at_call 55; refine (l1Has_any f p hlt _).mono ?_; rintro e w' ⟨rfl, rfl⟩) | fail)
            go_round
            case rel => exact ⟨p + 1, o2, by omega, by go_num, rfl, hi2.next⟩
            case measure => simp [intOf]; omega
    · obtain rfl : p = 16 := by omega
      go_wp2_with fail
      go_ret
      exact ⟨by rw [hi.last]; rfl, rfl⟩
end Go.Proofs.Ytipkalbomjfckaa
