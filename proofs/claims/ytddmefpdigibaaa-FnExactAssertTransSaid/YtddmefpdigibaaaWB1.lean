/-
  The walks of laws over conditions, tests and assertions.
-/
import Derived.Test.YtddmefpdigibaaaC4
namespace Go.Proofs.Ytddmefpdigibaaa
open Go.RowKit
set_option maxHeartbeats 400000 in
theorem wFnExactTestRel (a0 : Int) (w : World) (_w0 : (Lit.int .i64 a0).wf = true) :
    Calls Try.prog 13 #[.int .i64 a0] w fun e w' => e = .returned (.bool true) ∧ Grew w w' := by
  rcases condOr a0 with ⟨n, hn, rfl⟩ | h
  · go_enter Try.func13, Try.ntmps13
    go_wp2_with fail
    refine (sTestRel_yes n hn _).mono ?_
    rintro e w1 ⟨rfl, rfl⟩
    go_wp2_with fail
    refine (testRel_yes n hn _).mono ?_
    rintro e w1 ⟨rfl, hb⟩
    go_wp2_with fail
    go_ret
    exact ⟨rfl, hb⟩
  · have HH := hid h
    clear h
    go_enter Try.func13, Try.ntmps13
    go_wp2_with fail
    refine (sTestRel_no a0 HH.out _).mono ?_
    rintro e w1 ⟨rfl, rfl⟩
    go_wp2_with fail
    refine (testRel_no a0 HH.out _).mono ?_
    rintro e w1 ⟨rfl, hb⟩
    go_wp2_with fail
    go_ret
    exact ⟨rfl, hb⟩
set_option maxHeartbeats 400000 in
theorem wFnExactAssertTrans (a0 : Int) (w : World) (_w0 : (Lit.int .i64 a0).wf = true) :
    Calls Try.prog 14 #[.int .i64 a0] w fun e w' => e = .returned (.bool true) ∧ Grew w w' := by
  rcases condOr a0 with ⟨n, hn, rfl⟩ | h
  · go_enter Try.func14, Try.ntmps14
    go_wp2_with fail
    refine (sAssertTrans_yes n hn _).mono ?_
    rintro e w1 ⟨rfl, rfl⟩
    go_wp2_with fail
    refine (assertTrans_yes n hn _).mono ?_
    rintro e w1 ⟨rfl, hb⟩
    go_wp2_with fail
    go_ret
    exact ⟨rfl, hb⟩
  · have HH := hid h
    clear h
    go_enter Try.func14, Try.ntmps14
    go_wp2_with fail
    refine (sAssertTrans_no a0 HH.out _).mono ?_
    rintro e w1 ⟨rfl, rfl⟩
    go_wp2_with fail
    refine (assertTrans_no a0 HH.out _).mono ?_
    rintro e w1 ⟨rfl, hb⟩
    go_wp2_with fail
    go_ret
    exact ⟨rfl, hb⟩
set_option maxHeartbeats 400000 in
theorem wFnExactCountStates (a0 : Int) (w : World) (_w0 : (Lit.int .i64 a0).wf = true) :
    Calls Try.prog 12 #[.int .i64 a0] w fun e w' => e = .returned (.bool true) ∧ Grew w w' := by
  rcases condOr a0 with ⟨n, hn, rfl⟩ | h
  · go_enter Try.func12, Try.ntmps12
    go_wp2_with fail
    refine (sCountStates_yes n hn _).mono ?_
    rintro e w1 ⟨rfl, rfl⟩
    go_wp2_with fail
    refine (countStates_yes n hn _).mono ?_
    rintro e w1 ⟨rfl, rfl⟩
    go_wp2_with fail
    go_ret
    exact ⟨rfl, Grew.refl _⟩
  · have HH := hid h
    clear h
    go_enter Try.func12, Try.ntmps12
    go_wp2_with fail
    refine (sCountStates_no a0 HH.out _).mono ?_
    rintro e w1 ⟨rfl, rfl⟩
    go_wp2_with fail
    refine (countStates_no a0 HH.out _).mono ?_
    rintro e w1 ⟨rfl, rfl⟩
    go_wp2_with fail
    go_ret
    exact ⟨rfl, Grew.refl _⟩
theorem wFnExactConstants (w : World) :
    Calls Try.prog 3 #[] w fun e w' => e = .returned (.bool true) ∧ Grown w w' := by
  go_enter Try.func3, Try.ntmps3
  go_wp2
  go_ret
  exact ⟨rfl, Grown.refl _⟩
end Go.Proofs.Ytddmefpdigibaaa
