/-
  Proved here: what TestRel and AssertTrans return in the program and in the reference, for every number.
-/
import Derived.Test.YtddmefpdigibaaaC3
namespace Go.Proofs.Ytddmefpdigibaaa
open Go.RowKit
def testRow (p s : Nat) : Nat := andN p (pow2 s)
theorem testRow_eq (p : Nat) (s : Nat) (hs : s < 4) : setOf (fun t => decide (s = t) && has p s) 4 = testRow p s := by
  apply Nat.eq_of_testBit_eq
  intro i
  rw [setOf_bit]
  unfold testRow andN pow2 has
  rw [Nat.testBit_and, Nat.testBit_two_pow]
  by_cases e : s = i
  · subst e; simp [hs]
  · simp [e]
set_option maxHeartbeats 400000 in
theorem testRel_yes (p : Nat) (hp : p < 16) (w : World) :
    Calls Try.prog 34 #[.int .i64 p] w fun e w' => e = .returned (.tuple #[.string (text (testRow p) 4), .bool true]) ∧ Grew w w' := by
  go_enter Try.func34, Try.ntmps34
  go_wp2_with (first | (go_at_call 16; refine (icv_yes _ hp _).mono ?_; rintro e w' ⟨rfl, rfl⟩) | fail)
  refine (makeRel_any _ #[.pointer (some ⟨w.heap.size, 0, none⟩)] (fun s t => decide (s = t) && has p s) _ enter_TestRel1 (fun s t hs ht w' hb => testRel1_any _ s t p w' (by omega) (cell_later2 hb (cell_alloc_one _ _ _ _)))).mono ?_
  rintro e w1 ⟨rfl, hb⟩
  have HB := hid ((Grew.alloc _ _).trans hb)
  clear hb
  go_wp2_with fail
  refine (relText_any _ (fun s _ => setOf_lt16 _ 4 (Nat.le_refl _)) _).mono ?_
  rintro e w2 ⟨rfl, hb2⟩
  have HB2 := hid hb2
  clear hb2
  go_wp2_with fail
  go_ret2
  exact ⟨by rw [text_congr _ _ 4 (testRow_eq p)]; rfl, HB.out.trans HB2.out⟩
theorem testRel_no (p : Int) (hp : p < 0 ∨ 15 < p) (w : World) :
    Calls Try.prog 34 #[.int .i64 p] w fun e w' => e = .returned (.tuple #[.string ByteArray.empty, .bool false]) ∧ Grew w w' := by
  have HN := hid hp
  clear hp
  go_enter Try.func34, Try.ntmps34
  go_wp2_with (first | (go_at_call 16; refine (icv_no _ HN.out _).mono ?_; rintro e w' ⟨rfl, rfl⟩) | fail)
  go_ret2
  exact ⟨rfl, Grew.alloc _ _⟩
set_option maxHeartbeats 400000 in
theorem sTestRel_yes (p : Nat) (hp : p < 16) (w : World) :
    Calls Try.prog 33 #[.int .i64 p] w fun e w' => e = .returned (.tuple #[.string (text (testRow p) 4), .bool true]) ∧ w = w' := by
  have hp2 : p < 65536 := by omega
  go_enter Try.func33, Try.ntmps33
  go_wp2_with (first | (go_at_call 15; refine (scv_yes _ hp _).mono ?_; rintro e w' ⟨rfl, rfl⟩) | fail)
  go_loop [4, 5] (fun v u => ∃ s : Nat, s ≤ 4 ∧ u = .int .i64 s ∧ v = .string (text (testRow p) s)) (fun _ u => 4 - (intOf u).toNat)
  case atStart => exact ⟨0, by omega, rfl, rfl⟩
  case round =>
    obtain ⟨s, hs, rfl, rfl⟩ := hrel
    by_cases h0 : s < 4
    · have h0' : (s : Int) < 4 := by omega
      have h1 : s < 65536 := by omega
      have h2 : s < 16 := by omega
      have h3 := and16 p (pow2 s) hp
      go_wp2_with fail
      refine (l2Digit_any _ h3 _).mono ?_
      rintro e w1 ⟨rfl, rfl⟩
      go_wp2_with fail
      go_round
      case rel => exact ⟨s + 1, by omega, by go_num, by rw [← text_succ]; rfl⟩
      case measure => simp [intOf]; omega
    · obtain rfl : s = 4 := by omega
      go_wp2_with fail
      go_ret2
      exact ⟨rfl, rfl⟩
theorem sTestRel_no (p : Int) (hp : p < 0 ∨ 15 < p) (w : World) :
    Calls Try.prog 33 #[.int .i64 p] w fun e w' => e = .returned (.tuple #[.string ByteArray.empty, .bool false]) ∧ w = w' := by
  have HN := hid hp
  clear hp
  go_enter Try.func33, Try.ntmps33
  go_wp2_with (first | (go_at_call 15; refine (scv_no _ HN.out _).mono ?_; rintro e w' ⟨rfl, rfl⟩) | fail)
  go_ret2
  exact ⟨rfl, rfl⟩
theorem enter_assert1 : ∀ a w, (callFunc 52 a).run Try.prog w = .ok (.enter 52 a) w := fun _ _ => by kernel_rfl
set_option maxHeartbeats 400000 in
theorem assert1_any (b q p : Nat) (w : World) (hq : q < 65536) (hp : p < 65536) (hc : w.cell? ⟨b, 0, none⟩ = some (.int .i64 p)) :
    Calls Try.prog 52 (#[.int .i64 q] ++ #[.pointer (some ⟨b, 0, none⟩)]) w fun e w' => e = .returned (.int .i64 (andN p q : Nat)) ∧ Grew w w' := by
  go_enter Try.func52, Try.ntmps52
  go_wp2
  go_ret
  exact ⟨rfl, Grew.refl _⟩
set_option maxHeartbeats 400000 in
theorem assert_any (p : Nat) (hp : p < 16) (w : World) :
    Calls Try.prog 48 #[.int .i64 p] w fun e w' => e = .returned (.agg (arrV 16 (fun q => andN p q))) ∧ Grew w w' := by
  go_enter Try.func48, Try.ntmps48
  go_wp2_with fail
  refine (makeTrans_any _ #[.pointer (some ⟨w.heap.size, 0, none⟩)] (fun q => andN p q) _ enter_assert1 (fun q hq w' hb => assert1_any _ q p w' (by omega) (by omega) (cell_later2 hb ?_))).mono ?_
  · go_simp
  rintro e w1 ⟨rfl, hb⟩
  have HR := hid (heap_later hb (heap_alloc2_new _ _ _))
  have HB := hid (((Grew.alloc _ _).trans (Grew.alloc _ _)).trans hb)
  clear hb
  go_wp2_with (first | (refine wpList_store_row rfl 37 _ _ rfl (w.heap.size + 1) (arrV 16 (fun q => andN p q)) rfl rfl 37 (arrV 16 (fun _ => 0)) HR.out (info_transV _) (by rw [arrV_size, arrV_size]) (arrV_one _ _) ?_) | fail)
  refine bodyPost_ret (results_cell_row rfl _ _ (w.heap.size + 1) 37 (arrV 16 (fun q => andN p q)) (0, 0) _ rfl (setRow_heap _ _ _ _ _ _ HR.out) Try.underlying37 rfl (info_transV _)) rfl ?_
  exact ⟨rfl, below_setRow HB.out (by omega) _⟩
set_option maxHeartbeats 400000 in
theorem assertTrans_yes (p : Nat) (hp : p < 16) (w : World) :
    Calls Try.prog 36 #[.int .i64 p] w fun e w' => e = .returned (.tuple #[.string (text (fun q => andN p q) 16), .bool true]) ∧ Grew w w' := by
  go_enter Try.func36, Try.ntmps36
  go_wp2_with (first | (go_at_call 16; refine (icv_yes _ hp _).mono ?_; rintro e w' ⟨rfl, rfl⟩) | fail)
  refine (assert_any _ hp _).mono ?_
  rintro e w1 ⟨rfl, hb⟩
  go_wp2_with fail
  refine (transText_any _ (fun q _ => and16 p q hp) _).mono ?_
  rintro e w2 ⟨rfl, hb2⟩
  go_wp2_with fail
  go_ret2
  exact ⟨rfl, hb.trans hb2⟩
theorem assertTrans_no (p : Int) (hp : p < 0 ∨ 15 < p) (w : World) :
    Calls Try.prog 36 #[.int .i64 p] w fun e w' => e = .returned (.tuple #[.string ByteArray.empty, .bool false]) ∧ Grew w w' := by
  have HN := hid hp
  clear hp
  go_enter Try.func36, Try.ntmps36
  go_wp2_with (first | (go_at_call 16; refine (icv_no _ HN.out _).mono ?_; rintro e w' ⟨rfl, rfl⟩) | fail)
  go_ret2
  exact ⟨rfl, Grew.refl _⟩
set_option maxHeartbeats 400000 in
theorem sAssertTrans_yes (p : Nat) (hp : p < 16) (w : World) :
    Calls Try.prog 35 #[.int .i64 p] w fun e w' => e = .returned (.tuple #[.string (text (fun q => andN p q) 16), .bool true]) ∧ w = w' := by
  go_enter Try.func35, Try.ntmps35
  go_wp2_with (first | (go_at_call 15; refine (scv_yes _ hp _).mono ?_; rintro e w' ⟨rfl, rfl⟩) | fail)
  refine (l3Assert_any _ hp _).mono ?_
  rintro e w1 ⟨rfl, rfl⟩
  go_wp2_with fail
  go_ret2
  exact ⟨rfl, rfl⟩
theorem sAssertTrans_no (p : Int) (hp : p < 0 ∨ 15 < p) (w : World) :
    Calls Try.prog 35 #[.int .i64 p] w fun e w' => e = .returned (.tuple #[.string ByteArray.empty, .bool false]) ∧ w = w' := by
  have HN := hid hp
  clear hp
  go_enter Try.func35, Try.ntmps35
  go_wp2_with (first | (go_at_call 15; refine (scv_no _ HN.out _).mono ?_; rintro e w' ⟨rfl, rfl⟩) | fail)
  go_ret2
  exact ⟨rfl, rfl⟩
end Go.Proofs.Ytddmefpdigibaaa
