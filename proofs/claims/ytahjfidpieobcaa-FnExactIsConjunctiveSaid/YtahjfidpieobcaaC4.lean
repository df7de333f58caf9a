/-
  Proved here: what TestRel and AssertTrans return in the program and in the reference, for every number.
-/
import Derived.Test.YtahjfidpieobcaaC3
namespace Go.Proofs.Ytahjfidpieobcaa
open Go.RowKit
def testRow (p s : Nat) : Nat := andN p (pow2 s)
theorem testRow_eq (p : Nat) (s : Nat) (hs : s < 4) : setOf (fun t => decide (s = t) && has p s) 4 = testRow p s := by
  apply Nat.eq_of_testBit_eq
  intro i
  rw [setOf_bit]
  unfold testRow andN pow2 has
  rw [Nat.testBit_and, Nat.testBit_two_pow]
  by_cases e : s = i
  · subst e; simp [hs]
  · simp [e]
end Go.Proofs.Ytahjfidpieobcaa
