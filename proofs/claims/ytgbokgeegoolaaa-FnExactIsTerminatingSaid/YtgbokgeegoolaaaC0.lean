/-
  Proved here: what the tests of one number (ConditionValid, FamilyValid, stateOk and their like) return, for every number.
-/
import Derived.Test.YtgbokgeegoolaaaLib
import Derived.Test.YtgbokgeegoolaaaRows
namespace Go.Proofs.Ytgbokgeegoolaaa
open Go.RowKit
set_option maxHeartbeats 400000 in
theorem icv_yes (n : Nat) (hn : n < 16) (w : World) :
    Calls Try.prog 56 #[.int .i64 n] w fun e w' => e = .returned (.bool true) ∧ w = w' := by
  have h0 : (0 : Int) ≤ (n : Int) := by omega
  have h1 : (n : Int) ≤ 15 := by omega
  have h2 : (n : Int) < 16 := by omega
  go_enter Try.func56, Try.ntmps56
  go_wp2
  go_ret
  exact ⟨rfl, rfl⟩
set_option maxHeartbeats 400000 in
theorem icv_no (p : Int) (hp : p < 0 ∨ 15 < p) (w : World) :
    Calls Try.prog 56 #[.int .i64 p] w fun e w' => e = .returned (.bool false) ∧ w = w' := by
  rcases part p 15 16 rfl with ⟨h1, h2⟩ | ⟨h1, h2, h3, h4⟩ | ⟨h1, h2, h3⟩
  · clear hp
    go_enter Try.func56, Try.ntmps56
    go_wp2
    go_ret
    exact ⟨rfl, rfl⟩
  · clear hp
    go_enter Try.func56, Try.ntmps56
    go_wp2
    go_ret
    exact ⟨rfl, rfl⟩
  · omega
set_option maxHeartbeats 400000 in
theorem scv_yes (n : Nat) (hn : n < 16) (w : World) :
    Calls Try.prog 54 #[.int .i64 n] w fun e w' => e = .returned (.bool true) ∧ w = w' := by
  have h0 : (0 : Int) ≤ (n : Int) := by omega
  have h1 : (n : Int) ≤ 15 := by omega
  have h2 : (n : Int) < 16 := by omega
  go_enter Try.func54, Try.ntmps54
  go_wp2
  go_ret
  exact ⟨rfl, rfl⟩
set_option maxHeartbeats 400000 in
theorem scv_no (p : Int) (hp : p < 0 ∨ 15 < p) (w : World) :
    Calls Try.prog 54 #[.int .i64 p] w fun e w' => e = .returned (.bool false) ∧ w = w' := by
  rcases part p 15 16 rfl with ⟨h1, h2⟩ | ⟨h1, h2, h3, h4⟩ | ⟨h1, h2, h3⟩
  · clear hp
    go_enter Try.func54, Try.ntmps54
    go_wp2
    go_ret
    exact ⟨rfl, rfl⟩
  · clear hp
    go_enter Try.func54, Try.ntmps54
    go_wp2
    go_ret
    exact ⟨rfl, rfl⟩
  · omega
end Go.Proofs.Ytgbokgeegoolaaa
