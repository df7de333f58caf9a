/-
  Proved here: what the tests of one number (ConditionValid, FamilyValid, stateOk and their like) return, for every number.
-/
import Derived.Test.YtiofgfllagajkaaLib
import Derived.Test.YtiofgfllagajkaaRows
namespace Go.Proofs.Ytiofgfllagajkaa
open Go.RowKit
set_option maxHeartbeats 400000 in
theorem icv_yes (n : Nat) (hn : n < 16) (w : World) :
    Calls Try.prog 27 #[.int .i64 n] w fun e w' => e = .returned (.bool true) ∧ w = w' := by
  have h0 : (0 : Int) ≤ (n : Int) := by omega
  have h1 : (n : Int) ≤ 15 := by omega
  have h2 : (n : Int) < 16 := by omega
  go_enter Try.func27, Try.ntmps27
  go_wp2
  go_ret
  exact ⟨rfl, rfl⟩
set_option maxHeartbeats 400000 in
theorem icv_no (p : Int) (hp : p < 0 ∨ 15 < p) (w : World) :
    Calls Try.prog 27 #[.int .i64 p] w fun e w' => e = .returned (.bool false) ∧ w = w' := by
  rcases part p 15 16 rfl with ⟨h1, h2⟩ | ⟨h1, h2, h3, h4⟩ | ⟨h1, h2, h3⟩
  · clear hp
    go_enter Try.func27, Try.ntmps27
    go_wp2
    go_ret
    exact ⟨rfl, rfl⟩
  · clear hp
    go_enter Try.func27, Try.ntmps27
    go_wp2
    go_ret
    exact ⟨rfl, rfl⟩
  · omega
set_option maxHeartbeats 400000 in
theorem scv_yes (n : Nat) (hn : n < 16) (w : World) :
    Calls Try.prog 58 #[.int .i64 n] w fun e w' => e = .returned (.bool true) ∧ w = w' := by
  have h0 : (0 : Int) ≤ (n : Int) := by omega
  have h1 : (n : Int) ≤ 15 := by omega
  have h2 : (n : Int) < 16 := by omega
  go_enter Try.func58, Try.ntmps58
  go_wp2
  go_ret
  exact ⟨rfl, rfl⟩
set_option maxHeartbeats 400000 in
theorem scv_no (p : Int) (hp : p < 0 ∨ 15 < p) (w : World) :
    Calls Try.prog 58 #[.int .i64 p] w fun e w' => e = .returned (.bool false) ∧ w = w' := by
  rcases part p 15 16 rfl with ⟨h1, h2⟩ | ⟨h1, h2, h3, h4⟩ | ⟨h1, h2, h3⟩
  · clear hp
    go_enter Try.func58, Try.ntmps58
    go_wp2
    go_ret
    exact ⟨rfl, rfl⟩
  · clear hp
    go_enter Try.func58, Try.ntmps58
    go_wp2
    go_ret
    exact ⟨rfl, rfl⟩
  · omega
set_option maxHeartbeats 400000 in
theorem ifv_yes (n : Nat) (hn : n < 65536) (w : World) :
    Calls Try.prog 41 #[.int .i64 n] w fun e w' => e = .returned (.bool true) ∧ w = w' := by
  have h0 : (0 : Int) ≤ (n : Int) := by omega
  have h1 : (n : Int) ≤ 65535 := by omega
  have h2 : (n : Int) < 65536 := by omega
  go_enter Try.func41, Try.ntmps41
  go_wp2
  go_ret
  exact ⟨rfl, rfl⟩
set_option maxHeartbeats 400000 in
theorem ifv_no (p : Int) (hp : p < 0 ∨ 65535 < p) (w : World) :
    Calls Try.prog 41 #[.int .i64 p] w fun e w' => e = .returned (.bool false) ∧ w = w' := by
  rcases part p 65535 65536 rfl with ⟨h1, h2⟩ | ⟨h1, h2, h3, h4⟩ | ⟨h1, h2, h3⟩
  · clear hp
    go_enter Try.func41, Try.ntmps41
    go_wp2
    go_ret
    exact ⟨rfl, rfl⟩
  · clear hp
    go_enter Try.func41, Try.ntmps41
    go_wp2
    go_ret
    exact ⟨rfl, rfl⟩
  · omega
set_option maxHeartbeats 400000 in
theorem sfv_yes (n : Nat) (hn : n < 65536) (w : World) :
    Calls Try.prog 42 #[.int .i64 n] w fun e w' => e = .returned (.bool true) ∧ w = w' := by
  have h0 : (0 : Int) ≤ (n : Int) := by omega
  have h1 : (n : Int) ≤ 65535 := by omega
  have h2 : (n : Int) < 65536 := by omega
  go_enter Try.func42, Try.ntmps42
  go_wp2
  go_ret
  exact ⟨rfl, rfl⟩
set_option maxHeartbeats 400000 in
theorem sfv_no (p : Int) (hp : p < 0 ∨ 65535 < p) (w : World) :
    Calls Try.prog 42 #[.int .i64 p] w fun e w' => e = .returned (.bool false) ∧ w = w' := by
  rcases part p 65535 65536 rfl with ⟨h1, h2⟩ | ⟨h1, h2, h3, h4⟩ | ⟨h1, h2, h3⟩
  · clear hp
    go_enter Try.func42, Try.ntmps42
    go_wp2
    go_ret
    exact ⟨rfl, rfl⟩
  · clear hp
    go_enter Try.func42, Try.ntmps42
    go_wp2
    go_ret
    exact ⟨rfl, rfl⟩
  · omega
set_option maxHeartbeats 400000 in
theorem ist_yes (n : Nat) (hn : n < 4) (w : World) :
    Calls Try.prog 63 #[.int .i64 n] w fun e w' => e = .returned (.bool true) ∧ w = w' := by
  have h0 : (0 : Int) ≤ (n : Int) := by omega
  have h1 : (n : Int) ≤ 3 := by omega
  have h2 : (n : Int) < 4 := by omega
  go_enter Try.func63, Try.ntmps63
  go_wp2
  go_ret
  exact ⟨rfl, rfl⟩
set_option maxHeartbeats 400000 in
theorem ist_no (p : Int) (hp : p < 0 ∨ 3 < p) (w : World) :
    Calls Try.prog 63 #[.int .i64 p] w fun e w' => e = .returned (.bool false) ∧ w = w' := by
  rcases part p 3 4 rfl with ⟨h1, h2⟩ | ⟨h1, h2, h3, h4⟩ | ⟨h1, h2, h3⟩
  · clear hp
    go_enter Try.func63, Try.ntmps63
    go_wp2
    go_ret
    exact ⟨rfl, rfl⟩
  · clear hp
    go_enter Try.func63, Try.ntmps63
    go_wp2
    go_ret
    exact ⟨rfl, rfl⟩
  · omega
set_option maxHeartbeats 400000 in
theorem sst_yes (n : Nat) (hn : n < 4) (w : World) :
    Calls Try.prog 64 #[.int .i64 n] w fun e w' => e = .returned (.bool true) ∧ w = w' := by
  have h0 : (0 : Int) ≤ (n : Int) := by omega
  have h1 : (n : Int) ≤ 3 := by omega
  have h2 : (n : Int) < 4 := by omega
  go_enter Try.func64, Try.ntmps64
  go_wp2
  go_ret
  exact ⟨rfl, rfl⟩
set_option maxHeartbeats 400000 in
theorem sst_no (p : Int) (hp : p < 0 ∨ 3 < p) (w : World) :
    Calls Try.prog 64 #[.int .i64 p] w fun e w' => e = .returned (.bool false) ∧ w = w' := by
  rcases part p 3 4 rfl with ⟨h1, h2⟩ | ⟨h1, h2, h3, h4⟩ | ⟨h1, h2, h3⟩
  · clear hp
    go_enter Try.func64, Try.ntmps64
    go_wp2
    go_ret
    exact ⟨rfl, rfl⟩
  · clear hp
    go_enter Try.func64, Try.ntmps64
    go_wp2
    go_ret
    exact ⟨rfl, rfl⟩
  · omega
set_option maxHeartbeats 400000 in
theorem sboth_yes (n m : Nat) (hn : n < 16) (hm : m < 16) (w : World) :
    Calls Try.prog 66 #[.int .i64 n, .int .i64 m] w fun e w' => e = .returned (.bool true) ∧ w = w' := by
  go_enter Try.func66, Try.ntmps66
  go_wp2_with (first | (go_at_call 58; refine (scv_yes _ (by assumption) _).mono ?_; rintro e w' ⟨rfl, rfl⟩) | fail)
  go_ret
  exact ⟨rfl, rfl⟩
end Go.Proofs.Ytiofgfllagajkaa
