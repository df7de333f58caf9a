/-
  Proved here: what CountStates and the counting of ones return, for every number.
-/
import Derived.Test.YtipkalbomjfckaaC0
namespace Go.Proofs.Ytipkalbomjfckaa
open Go.RowKit
def onesTo (p : Nat) : Nat → Nat
  | 0 => 0
  | k + 1 => onesTo p k + has01 p k
def ones (p : Nat) : Nat := onesTo p 4
theorem ones_half : ∀ m : Nat, m < 16 → ones (m / 2) + m % 2 = ones m := by decide
theorem onesTo_le (p k : Nat) : onesTo p k ≤ k := by
  induction k with
  | zero => simp [onesTo]
  | succ k ih => simp only [onesTo, has01]; cases has p k <;> simp <;> omega
theorem ones_le (p : Nat) : ones p ≤ 4 := onesTo_le p 4
theorem ones_zero : ones 0 = 0 := by decide
set_option maxHeartbeats 400000 in
theorem l1Has_any (f i : Nat) (hi : i < 16) (w : World) :
    Calls Try.prog 55 #[.int .i64 f, .int .i64 i] w fun e w' => e = .returned (.bool (has f i)) ∧ w = w' := by
  go_enter Try.func55, Try.ntmps55
  go_wp2
  go_ret
  exact ⟨rfl, rfl⟩
end Go.Proofs.Ytipkalbomjfckaa
