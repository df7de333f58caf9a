/-
  The walks of the exact laws of families and of texts of conditions: the law returns true, for every argument.
-/
import Derived.Test.YtiofgfllagajkaaS2
import Derived.Test.YtiofgfllagajkaaS3
namespace Go.Proofs.Ytiofgfllagajkaa
open Go.RowKit
set_option maxHeartbeats 400000 in
theorem wFnExactDualFamily (a0 : Int) (w : World) (_w0 : (Lit.int .i64 a0).wf = true) :
    Calls Try.prog 3 #[.int .i64 a0] w fun e w' => e = .returned (.bool true) ∧ Grew w w' := by
  rcases famOr a0 with ⟨n, hn, rfl⟩ | h
  · go_enter Try.func3, Try.ntmps3
    go_wp2_with fail
    refine (sDualFamily_yes n hn _).mono ?_
    rintro e w1 ⟨rfl, rfl⟩
    go_wp2_with fail
    refine (dualFamily_yes n hn _).mono ?_
    rintro e w1 ⟨rfl, hb⟩
    go_wp2_with fail
    go_ret
    exact ⟨rfl, hb⟩
  · have HH := hid h
    clear h
    go_enter Try.func3, Try.ntmps3
    go_wp2_with fail
    refine (sDualFamily_no a0 HH.out _).mono ?_
    rintro e w1 ⟨rfl, rfl⟩
    go_wp2_with fail
    refine (dualFamily_no a0 HH.out _).mono ?_
    rintro e w1 ⟨rfl, hb⟩
    go_wp2_with fail
    go_ret
    exact ⟨rfl, hb⟩
set_option maxHeartbeats 400000 in
theorem wFnExactCloseUp (a0 : Int) (w : World) (_w0 : (Lit.int .i64 a0).wf = true) :
    Calls Try.prog 4 #[.int .i64 a0] w fun e w' => e = .returned (.bool true) ∧ Grew w w' := by
  rcases famOr a0 with ⟨n, hn, rfl⟩ | h
  · go_enter Try.func4, Try.ntmps4
    go_wp2_with fail
    refine (sCloseUp_yes n hn _).mono ?_
    rintro e w1 ⟨rfl, rfl⟩
    go_wp2_with fail
    refine (closeUp_yes n hn _).mono ?_
    rintro e w1 ⟨rfl, hb⟩
    go_wp2_with fail
    go_ret
    exact ⟨rfl, hb⟩
  · have HH := hid h
    clear h
    go_enter Try.func4, Try.ntmps4
    go_wp2_with fail
    refine (sCloseUp_no a0 HH.out _).mono ?_
    rintro e w1 ⟨rfl, rfl⟩
    go_wp2_with fail
    refine (closeUp_no a0 HH.out _).mono ?_
    rintro e w1 ⟨rfl, hb⟩
    go_wp2_with fail
    go_ret
    exact ⟨rfl, hb⟩
set_option maxHeartbeats 400000 in
theorem wFnExactLeastOf (a0 : Int) (w : World) (_w0 : (Lit.int .i64 a0).wf = true) :
    Calls Try.prog 5 #[.int .i64 a0] w fun e w' => e = .returned (.bool true) ∧ Grew w w' := by
  rcases famOr a0 with ⟨n, hn, rfl⟩ | h
  · go_enter Try.func5, Try.ntmps5
    go_wp2_with fail
    refine (sLeastOf_yes n hn _).mono ?_
    rintro e w1 ⟨rfl, rfl⟩
    go_wp2_with fail
    refine (leastOf_yes n hn _).mono ?_
    rintro e w1 ⟨rfl, hb⟩
    go_wp2_with fail
    go_ret
    exact ⟨rfl, hb⟩
  · have HH := hid h
    clear h
    go_enter Try.func5, Try.ntmps5
    go_wp2_with fail
    refine (sLeastOf_no a0 HH.out _).mono ?_
    rintro e w1 ⟨rfl, rfl⟩
    go_wp2_with fail
    refine (leastOf_no a0 HH.out _).mono ?_
    rintro e w1 ⟨rfl, hb⟩
    go_wp2_with fail
    go_ret
    exact ⟨rfl, hb⟩
set_option maxHeartbeats 400000 in
theorem wFnExactFormatCondition (a0 : Int) (w : World) (_w0 : (Lit.int .i64 a0).wf = true) :
    Calls Try.prog 6 #[.int .i64 a0] w fun e w' => e = .returned (.bool true) ∧ Grew w w' := by
  rcases condOr a0 with ⟨n, hn, rfl⟩ | h
  · go_enter Try.func6, Try.ntmps6
    go_wp2_with fail
    refine (sFormatCondition_yes n hn _).mono ?_
    rintro e w1 ⟨rfl, ha⟩
    go_wp2_with fail
    refine (formatCondition_yes n hn _).mono ?_
    rintro e w1 ⟨rfl, rfl⟩
    go_wp2_with fail
    go_ret
    exact ⟨rfl, ha⟩
  · have HH := hid h
    clear h
    go_enter Try.func6, Try.ntmps6
    go_wp2_with fail
    refine (sFormatCondition_no a0 HH.out _).mono ?_
    rintro e w1 ⟨rfl, ha⟩
    go_wp2_with fail
    refine (formatCondition_no a0 HH.out _).mono ?_
    rintro e w1 ⟨rfl, rfl⟩
    go_wp2_with fail
    go_ret
    exact ⟨rfl, ha⟩
set_option maxHeartbeats 400000 in
theorem wFnExactParseCondition (a0 : ByteArray) (w : World) (_w0 : a0.size ≤ maxLen) :
    Calls Try.prog 7 #[.string a0] w fun e w' => e = .returned (.bool true) ∧ Grew w w' := by
  by_cases hl : (1048576 : Int) < (a0.size : Int)
  · go_enter Try.func7, Try.ntmps7
    go_wp2_with fail
    go_ret
    exact ⟨rfl, Grew.refl _⟩
  · go_enter Try.func7, Try.ntmps7
    go_wp2_with fail
    refine (sParseCondition_any a0 _).mono ?_
    rintro e w1 ⟨rfl, hb⟩
    unfold parseV
    go_wp2_with fail
    refine (parseCondition_any a0 _).mono ?_
    rintro e w1 ⟨rfl, rfl⟩
    unfold parseV
    go_wp2_with fail
    go_ret
    exact ⟨rfl, hb⟩
end Go.Proofs.Ytiofgfllagajkaa
