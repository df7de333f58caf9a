/-
  Proved here: what CloseUp, LeastOf, DualFamily and FormatCondition return in the program and in the reference, for all numbers.
-/
import Derived.Test.YtipkalbomjfckaaI1
import Derived.Test.YtipkalbomjfckaaS2
import Derived.Test.YtipkalbomjfckaaS3
namespace Go.Proofs.Ytipkalbomjfckaa
open Go.RowKit
def upI (f : Int) : Int := if famI f then ((upN f.toNat : Nat) : Int) else -1
def leastI (f : Int) : Int := if famI f then ((leastN f.toNat : Nat) : Int) else -1
def dualI (f : Int) : Int := if famI f then ((dualN f.toNat : Nat) : Int) else -1
def fmtI (p : Int) : ByteArray := if condI p then fmt p.toNat else ByteArray.empty
theorem upI_yes (n : Nat) (h : n < 65536) : upI (n : Int) = ((upN n : Nat) : Int) := by unfold upI; rw [famI_yes n h]; simp
theorem upI_no (p : Int) (h : famI p = false) : upI p = -1 := by unfold upI; rw [h]; rfl
theorem leastI_yes (n : Nat) (h : n < 65536) : leastI (n : Int) = ((leastN n : Nat) : Int) := by unfold leastI; rw [famI_yes n h]; simp
theorem leastI_no (p : Int) (h : famI p = false) : leastI p = -1 := by unfold leastI; rw [h]; rfl
theorem dualI_yes (n : Nat) (h : n < 65536) : dualI (n : Int) = ((dualN n : Nat) : Int) := by unfold dualI; rw [famI_yes n h]; simp
theorem dualI_no (p : Int) (h : famI p = false) : dualI p = -1 := by unfold dualI; rw [h]; rfl
theorem fmtI_yes (n : Nat) (h : n < 16) : fmtI (n : Int) = fmt n := by unfold fmtI; rw [condI_yes n h]; simp
theorem fmtI_no (p : Int) (h : condI p = false) : fmtI p = ByteArray.empty := by unfold fmtI; rw [h]; rfl
theorem iUp_all (p : Int) (w : World) :
    Calls Try.prog 17 #[.int .i64 p] w fun e w' => e = .returned (.int .i64 (upI p)) ∧ Grew w w' := by
  rcases famOr p with ⟨n, hn, rfl⟩ | h
  · rw [upI_yes n hn]; exact closeUp_yes n hn w
  · rw [upI_no p (famI_no p h)]; exact closeUp_no p h w
theorem iLeast_all (p : Int) (w : World) :
    Calls Try.prog 39 #[.int .i64 p] w fun e w' => e = .returned (.int .i64 (leastI p)) ∧ Grew w w' := by
  rcases famOr p with ⟨n, hn, rfl⟩ | h
  · rw [leastI_yes n hn]; exact leastOf_yes n hn w
  · rw [leastI_no p (famI_no p h)]; exact leastOf_no p h w
theorem iDual_all (p : Int) (w : World) :
    Calls Try.prog 40 #[.int .i64 p] w fun e w' => e = .returned (.int .i64 (dualI p)) ∧ Grew w w' := by
  rcases famOr p with ⟨n, hn, rfl⟩ | h
  · rw [dualI_yes n hn]; exact dualFamily_yes n hn w
  · rw [dualI_no p (famI_no p h)]; exact dualFamily_no p h w
end Go.Proofs.Ytipkalbomjfckaa
