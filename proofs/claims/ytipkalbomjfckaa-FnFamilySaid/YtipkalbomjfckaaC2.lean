/-
  Proved here: what the digits, the texts of relations and transformers, and the reference's assertion return, for all small numbers.
-/
import Derived.Test.YtipkalbomjfckaaC1
import Derived.Test.YtipkalbomjfckaaMk
namespace Go.Proofs.Ytipkalbomjfckaa
open Go.RowKit
theorem and16 (p q : Nat) (hp : p < 16) : andN p q < 16 := Nat.lt_of_le_of_lt Nat.and_le_left hp
set_option maxHeartbeats 400000 in
theorem l2Digit_any (n : Nat) (hn : n < 16) (w : World) :
    Calls Try.prog 57 #[.int .i64 n] w fun e w' => e = .returned (.string (dig n)) ∧ w = w' := by
  have hd := digits_slice n hn
  go_enter Try.func57, Try.ntmps57
  go_wp2
  go_ret
  exact ⟨rfl, rfl⟩
set_option maxHeartbeats 400000 in
theorem digit_any (n : Nat) (hn : n < 16) (w : World) :
    Calls Try.prog 107 #[.int .i64 n] w fun e w' => e = .returned (.string (dig n)) ∧ w = w' := by
  have hd := digits_slice n hn
  go_enter Try.func107, Try.ntmps107
  go_wp2
  go_ret
  exact ⟨rfl, rfl⟩
set_option maxHeartbeats 400000 in
theorem l3Assert_any (p : Nat) (hp : p < 16) (w : World) :
    Calls Try.prog 84 #[.int .i64 p] w fun e w' => e = .returned (.string (text (fun q => andN p q) 16)) ∧ w = w' := by
  have hp2 : p < 65536 := by omega
  go_enter Try.func84, Try.ntmps84
  go_wp2_with fail
  go_loop [3, 4] (fun v u => ∃ s : Nat, s ≤ 16 ∧ u = .int .i64 s ∧ v = .string (text (fun q => andN p q) s)) (fun _ u => 16 - (intOf u).toNat)
  case atStart => exact ⟨0, by omega, rfl, rfl⟩
  case round =>
    obtain ⟨s, hs, rfl, rfl⟩ := hrel
    by_cases h0 : s < 16
    · have h0' : (s : Int) < 16 := by omega
      have h1 : s < 65536 := by omega
      have h2 := and16 p s hp
      go_wp2_with fail
      refine (l2Digit_any _ h2 _).mono ?_
      rintro e w1 ⟨rfl, rfl⟩
      go_wp2_with fail
      go_round
      case rel => exact ⟨s + 1, by omega, by go_num, by rw [← text_succ]⟩
      case measure => simp [intOf]; omega
    · obtain rfl : s = 16 := by omega
      go_wp2_with fail
      go_ret
      exact ⟨rfl, rfl⟩
set_option maxHeartbeats 400000 in
theorem transText_any (f : Nat → Nat) (hf : ∀ i, i < 16 → f i < 16) (w : World) :
    Calls Try.prog 60 #[.agg (arrV 16 f)] w fun e w' => e = .returned (.string (text f 16)) ∧ Grew w w' := by
  have HF := hid hf
  clear hf
  go_enter Try.func60, Try.ntmps60
  go_wp2_with (first | (refine wpList_load_row rfl 53 _ rfl w.heap.size rfl _ _ _ _ (heap_alloc_new _ _) Try.underlying53 rfl (info_transV _) ?_) | fail)
  go_loop [3, 5, 7] (fun v _ u => ∃ s : Nat, s ≤ 16 ∧ u = .int .i64 s ∧ v = .string (text f s)) (fun _ _ u => 16 - (intOf u).toNat)
  case atStart => exact ⟨0, by omega, rfl, rfl⟩
  case round =>
    obtain ⟨s, hs, rfl, rfl⟩ := hrel
    by_cases h0 : s < 16
    · have h0' : (s : Int) < 16 := by omega
      have h1 : s < 65536 := by omega
      have h2 := HF.out s h0
      go_wp2_with fail
      refine (digit_any _ h2 _).mono ?_
      rintro e w1 ⟨rfl, rfl⟩
      go_wp2_with fail
      go_round
      case rel => exact ⟨s + 1, by omega, by go_num, by rw [← text_succ]⟩
      case measure => simp [intOf]; omega
    · obtain rfl : s = 16 := by omega
      go_wp2_with fail
      go_ret
      exact ⟨rfl, (Below.refl _ _).alloc (Nat.le_refl _) _⟩
end Go.Proofs.Ytipkalbomjfckaa
