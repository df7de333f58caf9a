/-
  Proved here: what the tests of one number (ConditionValid, FamilyValid, stateOk and their like) return, for every number.
-/
import Derived.Test.YtipkalbomjfckaaLib
import Derived.Test.YtipkalbomjfckaaRows
namespace Go.Proofs.Ytipkalbomjfckaa
open Go.RowKit
set_option maxHeartbeats 400000 in
theorem icv_yes (n : Nat) (hn : n < 16) (w : World) :
    Calls Try.prog 81 #[.int .i64 n] w fun e w' => e = .returned (.bool true) ∧ w = w' := by
  have h0 : (0 : Int) ≤ (n : Int) := by omega
  have h1 : (n : Int) ≤ 15 := by omega
  have h2 : (n : Int) < 16 := by omega
  go_enter Try.func81, Try.ntmps81
  go_wp2
  go_ret
  exact ⟨rfl, rfl⟩
set_option maxHeartbeats 400000 in
theorem icv_no (p : Int) (hp : p < 0 ∨ 15 < p) (w : World) :
    Calls Try.prog 81 #[.int .i64 p] w fun e w' => e = .returned (.bool false) ∧ w = w' := by
  rcases part p 15 16 rfl with ⟨h1, h2⟩ | ⟨h1, h2, h3, h4⟩ | ⟨h1, h2, h3⟩
  · clear hp
    go_enter Try.func81, Try.ntmps81
    go_wp2
    go_ret
    exact ⟨rfl, rfl⟩
  · clear hp
    go_enter Try.func81, Try.ntmps81
    go_wp2
    go_ret
    exact ⟨rfl, rfl⟩
  · omega
set_option maxHeartbeats 400000 in
theorem scv_yes (n : Nat) (hn : n < 16) (w : World) :
    Calls Try.prog 83 #[.int .i64 n] w fun e w' => e = .returned (.bool true) ∧ w = w' := by
  have h0 : (0 : Int) ≤ (n : Int) := by omega
  have h1 : (n : Int) ≤ 15 := by omega
  have h2 : (n : Int) < 16 := by omega
  go_enter Try.func83, Try.ntmps83
  go_wp2
  go_ret
  exact ⟨rfl, rfl⟩
set_option maxHeartbeats 400000 in
theorem scv_no (p : Int) (hp : p < 0 ∨ 15 < p) (w : World) :
    Calls Try.prog 83 #[.int .i64 p] w fun e w' => e = .returned (.bool false) ∧ w = w' := by
  rcases part p 15 16 rfl with ⟨h1, h2⟩ | ⟨h1, h2, h3, h4⟩ | ⟨h1, h2, h3⟩
  · clear hp
    go_enter Try.func83, Try.ntmps83
    go_wp2
    go_ret
    exact ⟨rfl, rfl⟩
  · clear hp
    go_enter Try.func83, Try.ntmps83
    go_wp2
    go_ret
    exact ⟨rfl, rfl⟩
  · omega
set_option maxHeartbeats 400000 in
theorem ifv_yes (n : Nat) (hn : n < 65536) (w : World) :
    Calls Try.prog 58 #[.int .i64 n] w fun e w' => e = .returned (.bool true) ∧ w = w' := by
  have h0 : (0 : Int) ≤ (n : Int) := by omega
  have h1 : (n : Int) ≤ 65535 := by omega
  have h2 : (n : Int) < 65536 := by omega
  go_enter Try.func58, Try.ntmps58
  go_wp2
  go_ret
  exact ⟨rfl, rfl⟩
set_option maxHeartbeats 400000 in
theorem ifv_no (p : Int) (hp : p < 0 ∨ 65535 < p) (w : World) :
    Calls Try.prog 58 #[.int .i64 p] w fun e w' => e = .returned (.bool false) ∧ w = w' := by
  rcases part p 65535 65536 rfl with ⟨h1, h2⟩ | ⟨h1, h2, h3, h4⟩ | ⟨h1, h2, h3⟩
  · clear hp
    go_enter Try.func58, Try.ntmps58
    go_wp2
    go_ret
    exact ⟨rfl, rfl⟩
  · clear hp
    go_enter Try.func58, Try.ntmps58
    go_wp2
    go_ret
    exact ⟨rfl, rfl⟩
  · omega
set_option maxHeartbeats 400000 in
theorem sfv_yes (n : Nat) (hn : n < 65536) (w : World) :
    Calls Try.prog 54 #[.int .i64 n] w fun e w' => e = .returned (.bool true) ∧ w = w' := by
  have h0 : (0 : Int) ≤ (n : Int) := by omega
  have h1 : (n : Int) ≤ 65535 := by omega
  have h2 : (n : Int) < 65536 := by omega
  go_enter Try.func54, Try.ntmps54
  go_wp2
  go_ret
  exact ⟨rfl, rfl⟩
set_option maxHeartbeats 400000 in
theorem sfv_no (p : Int) (hp : p < 0 ∨ 65535 < p) (w : World) :
    Calls Try.prog 54 #[.int .i64 p] w fun e w' => e = .returned (.bool false) ∧ w = w' := by
  rcases part p 65535 65536 rfl with ⟨h1, h2⟩ | ⟨h1, h2, h3, h4⟩ | ⟨h1, h2, h3⟩
  · clear hp
    go_enter Try.func54, Try.ntmps54
    go_wp2
    go_ret
    exact ⟨rfl, rfl⟩
  · clear hp
    go_enter Try.func54, Try.ntmps54
    go_wp2
    go_ret
    exact ⟨rfl, rfl⟩
  · omega
set_option maxHeartbeats 400000 in
theorem ist_yes (n : Nat) (hn : n < 4) (w : World) :
    Calls Try.prog 65 #[.int .i64 n] w fun e w' => e = .returned (.bool true) ∧ w = w' := by
  have h0 : (0 : Int) ≤ (n : Int) := by omega
  have h1 : (n : Int) ≤ 3 := by omega
  have h2 : (n : Int) < 4 := by omega
  go_enter Try.func65, Try.ntmps65
  go_wp2
  go_ret
  exact ⟨rfl, rfl⟩
set_option maxHeartbeats 400000 in
theorem ist_no (p : Int) (hp : p < 0 ∨ 3 < p) (w : World) :
    Calls Try.prog 65 #[.int .i64 p] w fun e w' => e = .returned (.bool false) ∧ w = w' := by
  rcases part p 3 4 rfl with ⟨h1, h2⟩ | ⟨h1, h2, h3, h4⟩ | ⟨h1, h2, h3⟩
  · clear hp
    go_enter Try.func65, Try.ntmps65
    go_wp2
    go_ret
    exact ⟨rfl, rfl⟩
  · clear hp
    go_enter Try.func65, Try.ntmps65
    go_wp2
    go_ret
    exact ⟨rfl, rfl⟩
  · omega
set_option maxHeartbeats 400000 in
theorem sst_yes (n : Nat) (hn : n < 4) (w : World) :
    Calls Try.prog 88 #[.int .i64 n] w fun e w' => e = .returned (.bool true) ∧ w = w' := by
  have h0 : (0 : Int) ≤ (n : Int) := by omega
  have h1 : (n : Int) ≤ 3 := by omega
  have h2 : (n : Int) < 4 := by omega
  go_enter Try.func88, Try.ntmps88
  go_wp2
  go_ret
  exact ⟨rfl, rfl⟩
set_option maxHeartbeats 400000 in
theorem sst_no (p : Int) (hp : p < 0 ∨ 3 < p) (w : World) :
    Calls Try.prog 88 #[.int .i64 p] w fun e w' => e = .returned (.bool false) ∧ w = w' := by
  rcases part p 3 4 rfl with ⟨h1, h2⟩ | ⟨h1, h2, h3, h4⟩ | ⟨h1, h2, h3⟩
  · clear hp
    go_enter Try.func88, Try.ntmps88
    go_wp2
    go_ret
    exact ⟨rfl, rfl⟩
  · clear hp
    go_enter Try.func88, Try.ntmps88
    go_wp2
    go_ret
    exact ⟨rfl, rfl⟩
  · omega
end Go.Proofs.Ytipkalbomjfckaa
