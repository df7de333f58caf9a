/-
  Proved here: what TestRel and AssertTrans return in the program and in the reference, for every number.
-/
import Derived.Test.YtipkalbomjfckaaC3
namespace Go.Proofs.Ytipkalbomjfckaa
open Go.RowKit
def testRow (p s : Nat) : Nat := andN p (pow2 s)
theorem testRow_eq (p : Nat) (s : Nat) (hs : s < 4) : setOf (fun t => decide (s = t) && has p s) 4 = testRow p s := by
  apply Nat.eq_of_testBit_eq
  intro i
  rw [setOf_bit]
  unfold testRow andN pow2 has
  rw [Nat.testBit_and, Nat.testBit_two_pow]
  by_cases e : s = i
  · subst e; simp [hs]
  · simp [e]
theorem enter_assert1 : ∀ a w, (callFunc 113 a).run Try.prog w = .ok (.enter 113 a) w := fun _ _ => by kernel_rfl
set_option maxHeartbeats 400000 in
theorem assert1_any (b q p : Nat) (w : World) (hq : q < 65536) (hp : p < 65536) (hc : w.cell? ⟨b, 0, none⟩ = some (.int .i64 p)) :
    Calls Try.prog 113 (#[.int .i64 q] ++ #[.pointer (some ⟨b, 0, none⟩)]) w fun e w' => e = .returned (.int .i64 (andN p q : Nat)) ∧ Grew w w' := by
  go_enter Try.func113, Try.ntmps113
  go_wp2
  go_ret
  exact ⟨rfl, Grew.refl _⟩
set_option maxHeartbeats 400000 in
theorem assert_any (p : Nat) (hp : p < 16) (w : World) :
    Calls Try.prog 82 #[.int .i64 p] w fun e w' => e = .returned (.agg (arrV 16 (fun q => andN p q))) ∧ Grew w w' := by
  go_enter Try.func82, Try.ntmps82
  go_wp2_with fail
  refine (makeTrans_any _ #[.pointer (some ⟨w.heap.size, 0, none⟩)] (fun q => andN p q) _ enter_assert1 (fun q hq w' hb => assert1_any _ q p w' (by omega) (by omega) (cell_later2 hb ?_))).mono ?_
  · go_simp
  rintro e w1 ⟨rfl, hb⟩
  have HR := hid (heap_later hb (heap_alloc2_new _ _ _))
  have HB := hid (((Grew.alloc _ _).trans (Grew.alloc _ _)).trans hb)
  clear hb
  go_wp2_with (first | (refine wpList_store_row rfl 53 _ _ rfl (w.heap.size + 1) (arrV 16 (fun q => andN p q)) rfl rfl 53 (arrV 16 (fun _ => 0)) HR.out (info_transV _) (by simp only [arrV_size]) (arrV_one _ _) ?_) | fail)
  refine bodyPost_ret (results_cell_row rfl _ _ (w.heap.size + 1) 53 (arrV 16 (fun q => andN p q)) (0, 0) _ rfl (setRow_heap _ _ _ _ _ _ HR.out) Try.underlying53 rfl (info_transV _)) rfl ?_
  exact ⟨rfl, below_setRow HB.out (by omega) _⟩
set_option maxHeartbeats 400000 in
theorem assertTrans_yes (p : Nat) (hp : p < 16) (w : World) :
    Calls Try.prog 30 #[.int .i64 p] w fun e w' => e = .returned (.tuple #[.string (text (fun q => andN p q) 16), .bool true]) ∧ Grew w w' := by
  go_enter Try.func30, Try.ntmps30
  go_wp2_with (first | (go_at_call 81; refine (icv_yes _ hp _).mono ?_; rintro e w' ⟨rfl, rfl⟩) | fail)
  refine (assert_any _ hp _).mono ?_
  rintro e w1 ⟨rfl, hb⟩
  go_wp2_with fail
  refine (transText_any _ (fun q _ => and16 p q hp) _).mono ?_
  rintro e w2 ⟨rfl, hb2⟩
  go_wp2_with fail
  go_ret2
  exact ⟨rfl, hb.trans hb2⟩
theorem assertTrans_no (p : Int) (hp : p < 0 ∨ 15 < p) (w : World) :
    Calls Try.prog 30 #[.int .i64 p] w fun e w' => e = .returned (.tuple #[.string ByteArray.empty, .bool false]) ∧ Grew w w' := by
  have HN := hid hp
  clear hp
  go_enter Try.func30, Try.ntmps30
  go_wp2_with (first | (go_at_call 81; refine (icv_no _ HN.out _).mono ?_; rintro e w' ⟨rfl, rfl⟩) | fail)
  go_ret2
  exact ⟨rfl, Grew.refl _⟩
set_option maxHeartbeats 400000 in
theorem sAssertTrans_yes (p : Nat) (hp : p < 16) (w : World) :
    Calls Try.prog 31 #[.int .i64 p] w fun e w' => e = .returned (.tuple #[.string (text (fun q => andN p q) 16), .bool true]) ∧ w = w' := by
  go_enter Try.func31, Try.ntmps31
  go_wp2_with (first | (go_at_call 83; refine (scv_yes _ hp _).mono ?_; rintro e w' ⟨rfl, rfl⟩) | fail)
  refine (l3Assert_any _ hp _).mono ?_
  rintro e w1 ⟨rfl, rfl⟩
  go_wp2_with fail
  go_ret2
  exact ⟨rfl, rfl⟩
theorem sAssertTrans_no (p : Int) (hp : p < 0 ∨ 15 < p) (w : World) :
    Calls Try.prog 31 #[.int .i64 p] w fun e w' => e = .returned (.tuple #[.string ByteArray.empty, .bool false]) ∧ w = w' := by
  have HN := hid hp
  clear hp
  go_enter Try.func31, Try.ntmps31
  go_wp2_with (first | (go_at_call 83; refine (scv_no _ HN.out _).mono ?_; rintro e w' ⟨rfl, rfl⟩) | fail)
  go_ret2
  exact ⟨rfl, rfl⟩
end Go.Proofs.Ytipkalbomjfckaa
