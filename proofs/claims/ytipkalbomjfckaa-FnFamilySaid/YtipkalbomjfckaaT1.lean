/-
  Proved here: what the helpers of the laws of chapter 3 and the functions that these laws call return for valid texts, in the names of the plain laws.
-/
import Derived.Test.YtipkalbomjfckaaK6
import Derived.Test.YtipkalbomjfckaaK4
import Derived.Test.YtipkalbomjfckaaI2
import Derived.Test.YtipkalbomjfckaaP4
namespace Go.Proofs.Ytipkalbomjfckaa
open Go.RowKit
theorem pThen (t u : ByteArray) (ht : TValid t) (hu : TValid u) (w : World) :
    Calls Try.prog 49 #[.string t, .string u] w fun e w' => e = .returned (.tuple #[.string (thenT t u), .bool true]) ∧ Grew w w' := iThenT_yes t u ht hu w
theorem rThen (t u : ByteArray) (ht : TValid t) (hu : TValid u) (w : World) :
    Calls Try.prog 50 #[.string t, .string u] w fun e w' => e = .returned (.tuple #[.string (thenT t u), .bool true]) ∧ w = w' := sThenT_yes t u ht hu w
theorem dThen (t u : ByteArray) (ht : TValid t) (hu : TValid u) (w : World) :
    Calls Try.prog 26 #[.string t, .string u] w fun e w' => e = .returned (.string (thenT t u)) ∧ Grew w w' := by
  have HT := hid ht
  have HU := hid hu
  clear ht hu
  go_enter Try.func26, Try.ntmps26
  go_wp2_with fail
  refine (pThen t u HT.out HU.out _).mono ?_
  rintro e w1 ⟨rfl, hg⟩
  go_wp2_with fail
  go_ret
  exact ⟨rfl, hg⟩
theorem pMeet (t u : ByteArray) (ht : TValid t) (hu : TValid u) (w : World) :
    Calls Try.prog 20 #[.string t, .string u] w fun e w' => e = .returned (.tuple #[.string (meetT t u), .bool true]) ∧ Grew w w' := iMeetT_yes t u ht hu w
theorem rMeet (t u : ByteArray) (ht : TValid t) (hu : TValid u) (w : World) :
    Calls Try.prog 21 #[.string t, .string u] w fun e w' => e = .returned (.tuple #[.string (meetT t u), .bool true]) ∧ w = w' := sMeetT_yes t u ht hu w
theorem dMeet (t u : ByteArray) (ht : TValid t) (hu : TValid u) (w : World) :
    Calls Try.prog 27 #[.string t, .string u] w fun e w' => e = .returned (.string (meetT t u)) ∧ Grew w w' := by
  have HT := hid ht
  have HU := hid hu
  clear ht hu
  go_enter Try.func27, Try.ntmps27
  go_wp2_with fail
  refine (pMeet t u HT.out HU.out _).mono ?_
  rintro e w1 ⟨rfl, hg⟩
  go_wp2_with fail
  go_ret
  exact ⟨rfl, hg⟩
theorem pJoin (t u : ByteArray) (ht : TValid t) (hu : TValid u) (w : World) :
    Calls Try.prog 22 #[.string t, .string u] w fun e w' => e = .returned (.tuple #[.string (joinT t u), .bool true]) ∧ Grew w w' := iJoinT_yes t u ht hu w
theorem rJoin (t u : ByteArray) (ht : TValid t) (hu : TValid u) (w : World) :
    Calls Try.prog 23 #[.string t, .string u] w fun e w' => e = .returned (.tuple #[.string (joinT t u), .bool true]) ∧ w = w' := sJoinT_yes t u ht hu w
theorem dJoin (t u : ByteArray) (ht : TValid t) (hu : TValid u) (w : World) :
    Calls Try.prog 28 #[.string t, .string u] w fun e w' => e = .returned (.string (joinT t u)) ∧ Grew w w' := by
  have HT := hid ht
  have HU := hid hu
  clear ht hu
  go_enter Try.func28, Try.ntmps28
  go_wp2_with fail
  refine (pJoin t u HT.out HU.out _).mono ?_
  rintro e w1 ⟨rfl, hg⟩
  go_wp2_with fail
  go_ret
  exact ⟨rfl, hg⟩
theorem pDual (t : ByteArray) (ht : TValid t) (w : World) :
    Calls Try.prog 51 #[.string t] w fun e w' => e = .returned (.tuple #[.string (dualT t), .bool true]) ∧ Grew w w' := iDualT_yes t ht w
theorem rDual (t : ByteArray) (ht : TValid t) (w : World) :
    Calls Try.prog 52 #[.string t] w fun e w' => e = .returned (.tuple #[.string (dualT t), .bool true]) ∧ w = w' := sDualT_yes t ht w
theorem dDual (t : ByteArray) (ht : TValid t) (w : World) :
    Calls Try.prog 36 #[.string t] w fun e w' => e = .returned (.string (dualT t)) ∧ Grew w w' := by
  have HT := hid ht
  clear ht
  go_enter Try.func36, Try.ntmps36
  go_wp2_with fail
  refine (pDual t HT.out _).mono ?_
  rintro e w1 ⟨rfl, hg⟩
  go_wp2_with fail
  go_ret
  exact ⟨rfl, hg⟩
theorem pRef (t u : ByteArray) (ht : TValid t) (hu : TValid u) (w : World) :
    Calls Try.prog 25 #[.string t, .string u] w fun e w' => e = .returned (.bool (refT t u)) ∧ Grew w w' := iRefines_yes t u ht hu w
theorem pAssert (p : Nat) (hp : p < 16) (w : World) :
    Calls Try.prog 30 #[.int .i64 p] w fun e w' => e = .returned (.tuple #[.string (assertT p), .bool true]) ∧ Grew w w' := assertTrans_yes p hp w
theorem rAssert (p : Nat) (hp : p < 16) (w : World) :
    Calls Try.prog 31 #[.int .i64 p] w fun e w' => e = .returned (.tuple #[.string (assertT p), .bool true]) ∧ w = w' := sAssertTrans_yes p hp w
theorem pAssume (p : Nat) (hp : p < 16) (w : World) :
    Calls Try.prog 32 #[.int .i64 p] w fun e w' => e = .returned (.tuple #[.string (assumeT p), .bool true]) ∧ Grew w w' := iAssumeT_yes p hp w
theorem rAssume (p : Nat) (hp : p < 16) (w : World) :
    Calls Try.prog 33 #[.int .i64 p] w fun e w' => e = .returned (.tuple #[.string (assumeT p), .bool true]) ∧ w = w' := sAssumeT_yes p hp w
theorem ht_then {t u : ByteArray} (ht : Hid (TValid t)) (hu : Hid (TValid u)) : Hid (TValid (thenT t u)) := hid (tv_then ht.out hu.out)
theorem ht_meet {t u : ByteArray} (ht : Hid (TValid t)) (hu : Hid (TValid u)) : Hid (TValid (meetT t u)) := hid (tv_meet ht.out hu.out)
theorem ht_join {t u : ByteArray} (ht : Hid (TValid t)) (hu : Hid (TValid u)) : Hid (TValid (joinT t u)) := hid (tv_join ht.out hu.out)
theorem ht_dual {t : ByteArray} (ht : Hid (TValid t)) : Hid (TValid (dualT t)) := hid (tv_dual ht.out)
theorem ht_assert (p : Nat) (hp : p < 16) : Hid (TValid (assertT p)) := hid (tv_assert p hp)
theorem ht_assume (p : Nat) : Hid (TValid (assumeT p)) := hid (tv_assume p)
theorem ht_skip : Hid (TValid { data := #[48, 49, 50, 51, 52, 53, 54, 55, 56, 57, 97, 98, 99, 100, 101, 102] }) := hid tv_skip
theorem ht_fail : Hid (TValid { data := #[48, 48, 48, 48, 48, 48, 48, 48, 48, 48, 48, 48, 48, 48, 48, 48] }) := hid tv_fail
theorem ht_full : Hid (TValid { data := #[102, 102, 102, 102, 102, 102, 102, 102, 102, 102, 102, 102, 102, 102, 102, 102] }) := hid tv_full
end Go.Proofs.Ytipkalbomjfckaa
