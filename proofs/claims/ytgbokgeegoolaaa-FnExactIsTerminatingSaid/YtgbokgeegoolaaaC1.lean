/-
  Proved here: what CountStates and the counting of ones return, for every number.
-/
import Derived.Test.YtgbokgeegoolaaaC0
namespace Go.Proofs.Ytgbokgeegoolaaa
open Go.RowKit
def onesTo (p : Nat) : Nat → Nat
  | 0 => 0
  | k + 1 => onesTo p k + has01 p k
def ones (p : Nat) : Nat := onesTo p 4
theorem ones_half : ∀ m : Nat, m < 16 → ones (m / 2) + m % 2 = ones m := by decide
theorem onesTo_le (p k : Nat) : onesTo p k ≤ k := by
  induction k with
  | zero => simp [onesTo]
  | succ k ih => simp only [onesTo, has01]; cases has p k <;> simp <;> omega
theorem ones_le (p : Nat) : ones p ≤ 4 := onesTo_le p 4
theorem ones_zero : ones 0 = 0 := by decide
set_option maxHeartbeats 400000 in
theorem l1Ones_any (n : Nat) (hn : n < 16) (w : World) :
    Calls Try.prog 43 #[.int .i64 n] w fun e w' => e = .returned (.int .i64 (ones n : Nat)) ∧ w = w' := by
  go_enter Try.func43, Try.ntmps43
  go_wp2
  go_loop [0, 3] (fun u v => ∃ m j : Nat, m < 16 ∧ u = .int .i64 m ∧ v = .int .i64 j ∧ j + ones m = ones n) (fun u _ => (intOf u).toNat)
  case atStart => exact ⟨n, 0, hn, rfl, rfl, by omega⟩
  case round =>
    obtain ⟨m, j, hm, rfl, rfl, hj⟩ := hrel
    have h4 := ones_le n
    have hj2 : j ≤ 4 := by omega
    have h1 := ones_half m hm
    have HJ := hid hj
    have H1 := hid h1
    clear hj h1 h4
    have ha := and1_i64 m
    by_cases h0 : 0 < m
    · have h0' : (0 : Int) < (m : Int) := by omega
      go_wp2
      go_round
      case rel => exact ⟨m / 2, j + m % 2, by omega, by go_num, by go_num, by have := HJ.out; have := H1.out; omega⟩
      case measure => simp [intOf]; omega
    · obtain rfl : m = 0 := by omega
      go_wp2
      go_ret
      have e : j = ones n := by have := HJ.out; rwa [ones_zero] at this
      subst e
      exact ⟨rfl, rfl⟩
set_option maxHeartbeats 400000 in
theorem countStates_yes (n : Nat) (hn : n < 16) (w : World) :
    Calls Try.prog 45 #[.int .i64 n] w fun e w' => e = .returned (.int .i64 (ones n : Nat)) ∧ w = w' := by
  go_enter Try.func45, Try.ntmps45
  go_wp2_with (first | (go_at_call 56; refine (icv_yes _ hn _).mono ?_; rintro e w' ⟨rfl, rfl⟩) | fail)
  go_loop [3, 4, 8] (fun v _ u => ∃ s : Nat, s ≤ 4 ∧ u = .int .i64 s ∧ v = .int .i64 (onesTo n s : Nat)) (fun _ _ u => 4 - (intOf u).toNat)
  case atStart => exact ⟨0, by omega, rfl, rfl⟩
  case round =>
    obtain ⟨s, hs, rfl, rfl⟩ := hrel
    have h4 := onesTo_le n s
    have h5 : has01 n s ≤ 1 := by unfold has01; cases has n s <;> simp
    have hs16 : s < 16 := by omega
    by_cases h0 : s < 4
    · have h0' : (s : Int) < 4 := by omega
      go_wp2
      go_round
      case rel => exact ⟨s + 1, by omega, by go_num, by simp only [onesTo]; go_num⟩
      case measure => simp [intOf]; omega
    · obtain rfl : s = 4 := by omega
      go_wp2
      go_ret
      exact ⟨rfl, rfl⟩
theorem countStates_no (n : Int) (hn : n < 0 ∨ 15 < n) (w : World) :
    Calls Try.prog 45 #[.int .i64 n] w fun e w' => e = .returned (.int .i64 (-1)) ∧ w = w' := by
  have HN := hid hn
  clear hn
  go_enter Try.func45, Try.ntmps45
  go_wp2_with (first | (go_at_call 56; refine (icv_no _ HN.out _).mono ?_; rintro e w' ⟨rfl, rfl⟩) | fail)
  go_ret
  exact ⟨rfl, rfl⟩
end Go.Proofs.Ytgbokgeegoolaaa
