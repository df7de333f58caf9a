/-
  The walks of the exact laws of relations and of what asks a transformer: the law returns true, for all arguments.
-/
import Derived.Test.YtgbokgeegoolaaaK4
namespace Go.Proofs.Ytgbokgeegoolaaa
open Go.RowKit
set_option maxHeartbeats 400000 in
theorem wFnExactRelValid (a0 : ByteArray) (w : World) (_w0 : a0.size ≤ maxLen) :
    Calls Try.prog 3 #[.string a0] w fun e w' => e = .returned (.bool true) ∧ Grew w w' := by
  by_cases hl : (1048576 : Int) < (a0.size : Int)
  · go_enter Try.func3, Try.ntmps3
    go_wp2_with fail
    go_ret
    exact ⟨rfl, Grew.refl _⟩
  · have hs : a0.size ≤ 1048576 := by omega
    by_cases h : Valid 4 a0
    · have H := hid h
      clear h
      go_enter Try.func3, Try.ntmps3
      go_wp2_with fail
      refine (sRelValid_yes a0 H.out _).mono ?_
      rintro e w1 ⟨rfl, rfl⟩
      go_wp2_with fail
      refine (iRelValid_yes a0 H.out _).mono ?_
      rintro e w1 ⟨rfl, hg⟩
      go_wp2_with fail
      go_ret
      exact ⟨rfl, hg⟩
    · have H := hid h
      clear h
      go_enter Try.func3, Try.ntmps3
      go_wp2_with fail
      refine (sRelValid_no a0 hs H.out _).mono ?_
      rintro e w1 ⟨rfl, rfl⟩
      go_wp2_with fail
      refine (iRelValid_no a0 H.out _).mono ?_
      rintro e w1 ⟨rfl, hg⟩
      go_wp2_with fail
      go_ret
      exact ⟨rfl, hg⟩
set_option maxHeartbeats 400000 in
theorem wFnExactIsFunction (a0 : ByteArray) (w : World) (_w0 : a0.size ≤ maxLen) :
    Calls Try.prog 5 #[.string a0] w fun e w' => e = .returned (.bool true) ∧ Grew w w' := by
  by_cases hl : (1048576 : Int) < (a0.size : Int)
  · go_enter Try.func5, Try.ntmps5
    go_wp2_with fail
    go_ret
    exact ⟨rfl, Grew.refl _⟩
  · have hs : a0.size ≤ 1048576 := by omega
    by_cases h : Valid 4 a0
    · have H := hid h
      clear h
      go_enter Try.func5, Try.ntmps5
      go_wp2_with fail
      refine (sIsFunction_yes a0 H.out _).mono ?_
      rintro e w1 ⟨rfl, rfl⟩
      go_wp2_with fail
      refine (iIsFunction_yes a0 H.out _).mono ?_
      rintro e w1 ⟨rfl, hg⟩
      go_wp2_with fail
      go_ret
      exact ⟨rfl, hg⟩
    · have H := hid h
      clear h
      go_enter Try.func5, Try.ntmps5
      go_wp2_with fail
      refine (sIsFunction_no a0 hs H.out _).mono ?_
      rintro e w1 ⟨rfl, rfl⟩
      go_wp2_with fail
      refine (iIsFunction_no a0 H.out _).mono ?_
      rintro e w1 ⟨rfl, hg⟩
      go_wp2_with fail
      go_ret
      exact ⟨rfl, hg⟩
set_option maxHeartbeats 400000 in
theorem wFnExactCountPairs (a0 : ByteArray) (w : World) (_w0 : a0.size ≤ maxLen) :
    Calls Try.prog 9 #[.string a0] w fun e w' => e = .returned (.bool true) ∧ Grew w w' := by
  by_cases hl : (1048576 : Int) < (a0.size : Int)
  · go_enter Try.func9, Try.ntmps9
    go_wp2_with fail
    go_ret
    exact ⟨rfl, Grew.refl _⟩
  · have hs : a0.size ≤ 1048576 := by omega
    by_cases h : Valid 4 a0
    · have H := hid h
      clear h
      go_enter Try.func9, Try.ntmps9
      go_wp2_with fail
      refine (sCountPairs_yes a0 H.out _).mono ?_
      rintro e w1 ⟨rfl, rfl⟩
      go_wp2_with fail
      refine (iCountPairs_yes a0 H.out _).mono ?_
      rintro e w1 ⟨rfl, hg⟩
      go_wp2_with fail
      go_ret
      exact ⟨rfl, hg⟩
    · have H := hid h
      clear h
      go_enter Try.func9, Try.ntmps9
      go_wp2_with fail
      refine (sCountPairs_no a0 hs H.out _).mono ?_
      rintro e w1 ⟨rfl, rfl⟩
      go_wp2_with fail
      refine (iCountPairs_no a0 H.out _).mono ?_
      rintro e w1 ⟨rfl, hg⟩
      go_wp2_with fail
      go_ret
      exact ⟨rfl, hg⟩
set_option maxHeartbeats 400000 in
theorem wFnExactDomainOf (a0 : ByteArray) (w : World) (_w0 : a0.size ≤ maxLen) :
    Calls Try.prog 8 #[.string a0] w fun e w' => e = .returned (.bool true) ∧ Grew w w' := by
  by_cases hl : (1048576 : Int) < (a0.size : Int)
  · go_enter Try.func8, Try.ntmps8
    go_wp2_with fail
    go_ret
    exact ⟨rfl, Grew.refl _⟩
  · have hs : a0.size ≤ 1048576 := by omega
    by_cases h : Valid 4 a0
    · have H := hid h
      clear h
      go_enter Try.func8, Try.ntmps8
      go_wp2_with fail
      refine (sDomainOf_yes a0 H.out _).mono ?_
      rintro e w1 ⟨rfl, rfl⟩
      go_wp2_with fail
      refine (iDomainOf_yes a0 H.out _).mono ?_
      rintro e w1 ⟨rfl, hg⟩
      go_wp2_with fail
      go_ret
      exact ⟨rfl, hg⟩
    · have H := hid h
      clear h
      go_enter Try.func8, Try.ntmps8
      go_wp2_with fail
      refine (sDomainOf_no a0 hs H.out _).mono ?_
      rintro e w1 ⟨rfl, rfl⟩
      go_wp2_with fail
      refine (iDomainOf_no a0 H.out _).mono ?_
      rintro e w1 ⟨rfl, hg⟩
      go_wp2_with fail
      go_ret
      exact ⟨rfl, hg⟩
set_option maxHeartbeats 400000 in
theorem wFnExactMonotoneTable (a0 : ByteArray) (w : World) (_w0 : a0.size ≤ maxLen) :
    Calls Try.prog 10 #[.string a0] w fun e w' => e = .returned (.bool true) ∧ Grew w w' := by
  by_cases hl : (1048576 : Int) < (a0.size : Int)
  · go_enter Try.func10, Try.ntmps10
    go_wp2_with fail
    go_ret
    exact ⟨rfl, Grew.refl _⟩
  · have hs : a0.size ≤ 1048576 := by omega
    by_cases h : TValid a0
    · have H := hid h
      clear h
      go_enter Try.func10, Try.ntmps10
      go_wp2_with fail
      refine (sMonotone_yes a0 H.out _).mono ?_
      rintro e w1 ⟨rfl, rfl⟩
      go_wp2_with fail
      refine (iMonotone_yes a0 H.out _).mono ?_
      rintro e w1 ⟨rfl, hg⟩
      go_wp2_with fail
      go_ret
      exact ⟨rfl, hg⟩
    · have H := hid h
      clear h
      go_enter Try.func10, Try.ntmps10
      go_wp2_with fail
      refine (sMonotone_no a0 hs H.out _).mono ?_
      rintro e w1 ⟨rfl, rfl⟩
      go_wp2_with fail
      refine (iMonotone_no a0 H.out _).mono ?_
      rintro e w1 ⟨rfl, hg⟩
      go_wp2_with fail
      go_ret
      exact ⟨rfl, hg⟩
set_option maxHeartbeats 400000 in
theorem wFnExactTransValid (a0 : ByteArray) (w : World) (_w0 : a0.size ≤ maxLen) :
    Calls Try.prog 11 #[.string a0] w fun e w' => e = .returned (.bool true) ∧ Grew w w' := by
  by_cases hl : (1048576 : Int) < (a0.size : Int)
  · go_enter Try.func11, Try.ntmps11
    go_wp2_with fail
    go_ret
    exact ⟨rfl, Grew.refl _⟩
  · have hs : a0.size ≤ 1048576 := by omega
    by_cases h : TValid a0
    · have H := hid h
      clear h
      go_enter Try.func11, Try.ntmps11
      go_wp2_with fail
      refine (sTransValid_yes a0 H.out _).mono ?_
      rintro e w1 ⟨rfl, rfl⟩
      go_wp2_with fail
      refine (iTransValid_yes a0 H.out _).mono ?_
      rintro e w1 ⟨rfl, hg⟩
      go_wp2_with fail
      go_ret
      exact ⟨rfl, hg⟩
    · have H := hid h
      clear h
      go_enter Try.func11, Try.ntmps11
      go_wp2_with fail
      refine (sTransValid_no a0 hs H.out _).mono ?_
      rintro e w1 ⟨rfl, rfl⟩
      go_wp2_with fail
      refine (iTransValid_no a0 H.out _).mono ?_
      rintro e w1 ⟨rfl, hg⟩
      go_wp2_with fail
      go_ret
      exact ⟨rfl, hg⟩
set_option maxHeartbeats 400000 in
theorem wFnExactIsStrict (a0 : ByteArray) (w : World) (_w0 : a0.size ≤ maxLen) :
    Calls Try.prog 13 #[.string a0] w fun e w' => e = .returned (.bool true) ∧ Grew w w' := by
  by_cases hl : (1048576 : Int) < (a0.size : Int)
  · go_enter Try.func13, Try.ntmps13
    go_wp2_with fail
    go_ret
    exact ⟨rfl, Grew.refl _⟩
  · have hs : a0.size ≤ 1048576 := by omega
    by_cases h : TValid a0
    · have H := hid h
      clear h
      go_enter Try.func13, Try.ntmps13
      go_wp2_with fail
      refine (sIsStrict_yes a0 H.out _).mono ?_
      rintro e w1 ⟨rfl, rfl⟩
      go_wp2_with fail
      refine (iIsStrict_yes a0 H.out _).mono ?_
      rintro e w1 ⟨rfl, hg⟩
      go_wp2_with fail
      go_ret
      exact ⟨rfl, hg⟩
    · have H := hid h
      clear h
      go_enter Try.func13, Try.ntmps13
      go_wp2_with fail
      refine (sIsStrict_no a0 hs H.out _).mono ?_
      rintro e w1 ⟨rfl, rfl⟩
      go_wp2_with fail
      refine (iIsStrict_no a0 H.out _).mono ?_
      rintro e w1 ⟨rfl, hg⟩
      go_wp2_with fail
      go_ret
      exact ⟨rfl, hg⟩
set_option maxHeartbeats 400000 in
theorem wFnExactIsTerminating (a0 : ByteArray) (w : World) (_w0 : a0.size ≤ maxLen) :
    Calls Try.prog 14 #[.string a0] w fun e w' => e = .returned (.bool true) ∧ Grew w w' := by
  by_cases hl : (1048576 : Int) < (a0.size : Int)
  · go_enter Try.func14, Try.ntmps14
    go_wp2_with fail
    go_ret
    exact ⟨rfl, Grew.refl _⟩
  · have hs : a0.size ≤ 1048576 := by omega
    by_cases h : TValid a0
    · have H := hid h
      clear h
      go_enter Try.func14, Try.ntmps14
      go_wp2_with fail
      refine (sIsTerm_yes a0 H.out _).mono ?_
      rintro e w1 ⟨rfl, rfl⟩
      go_wp2_with fail
      refine (iIsTerm_yes a0 H.out _).mono ?_
      rintro e w1 ⟨rfl, hg⟩
      go_wp2_with fail
      go_ret
      exact ⟨rfl, hg⟩
    · have H := hid h
      clear h
      go_enter Try.func14, Try.ntmps14
      go_wp2_with fail
      refine (sIsTerm_no a0 hs H.out _).mono ?_
      rintro e w1 ⟨rfl, rfl⟩
      go_wp2_with fail
      refine (iIsTerm_no a0 H.out _).mono ?_
      rintro e w1 ⟨rfl, hg⟩
      go_wp2_with fail
      go_ret
      exact ⟨rfl, hg⟩
set_option maxHeartbeats 400000 in
theorem wFnExactDiamondOf (a0 : ByteArray) (a1 : Int) (w : World) (_w0 : a0.size ≤ maxLen) (_w1 : (Lit.int .i64 a1).wf = true) :
    Calls Try.prog 6 #[.string a0, .int .i64 a1] w fun e w' => e = .returned (.bool true) ∧ Grew w w' := by
  by_cases hl : (1048576 : Int) < (a0.size : Int)
  · go_enter Try.func6, Try.ntmps6
    go_wp2_with fail
    go_ret
    exact ⟨rfl, Grew.refl _⟩
  · have hs : a0.size ≤ 1048576 := by omega
    by_cases h : Valid 4 a0
    · have H := hid h
      clear h
      rcases condOr a1 with ⟨n, hn, rfl⟩ | h2
      · go_enter Try.func6, Try.ntmps6
        go_wp2_with fail
        refine (sDiamondOf_yes a0 n H.out hn _).mono ?_
        rintro e w1 ⟨rfl, rfl⟩
        go_wp2_with fail
        refine (iDiamondOf_yes a0 n H.out hn _).mono ?_
        rintro e w1 ⟨rfl, hg⟩
        go_wp2_with fail
        go_ret
        exact ⟨rfl, hg⟩
      · have H2 := hid (condI_no a1 h2)
        clear h2
        go_enter Try.func6, Try.ntmps6
        go_wp2_with fail
        refine (sDiamondOf_no a0 a1 hs (.inr H2.out) _).mono ?_
        rintro e w1 ⟨rfl, rfl⟩
        go_wp2_with fail
        refine (iDiamondOf_no a0 a1 (.inr H2.out) _).mono ?_
        rintro e w1 ⟨rfl, hg⟩
        go_wp2_with fail
        go_ret
        exact ⟨rfl, hg⟩
    · have H := hid h
      clear h
      go_enter Try.func6, Try.ntmps6
      go_wp2_with fail
      refine (sDiamondOf_no a0 a1 hs (.inl H.out) _).mono ?_
      rintro e w1 ⟨rfl, rfl⟩
      go_wp2_with fail
      refine (iDiamondOf_no a0 a1 (.inl H.out) _).mono ?_
      rintro e w1 ⟨rfl, hg⟩
      go_wp2_with fail
      go_ret
      exact ⟨rfl, hg⟩
set_option maxHeartbeats 400000 in
theorem wFnExactBoxOf (a0 : ByteArray) (a1 : Int) (w : World) (_w0 : a0.size ≤ maxLen) (_w1 : (Lit.int .i64 a1).wf = true) :
    Calls Try.prog 7 #[.string a0, .int .i64 a1] w fun e w' => e = .returned (.bool true) ∧ Grew w w' := by
  by_cases hl : (1048576 : Int) < (a0.size : Int)
  · go_enter Try.func7, Try.ntmps7
    go_wp2_with fail
    go_ret
    exact ⟨rfl, Grew.refl _⟩
  · have hs : a0.size ≤ 1048576 := by omega
    by_cases h : Valid 4 a0
    · have H := hid h
      clear h
      rcases condOr a1 with ⟨n, hn, rfl⟩ | h2
      · go_enter Try.func7, Try.ntmps7
        go_wp2_with fail
        refine (sBoxOf_yes a0 n H.out hn _).mono ?_
        rintro e w1 ⟨rfl, rfl⟩
        go_wp2_with fail
        refine (iBoxOf_yes a0 n H.out hn _).mono ?_
        rintro e w1 ⟨rfl, hg⟩
        go_wp2_with fail
        go_ret
        exact ⟨rfl, hg⟩
      · have H2 := hid (condI_no a1 h2)
        clear h2
        go_enter Try.func7, Try.ntmps7
        go_wp2_with fail
        refine (sBoxOf_no a0 a1 hs (.inr H2.out) _).mono ?_
        rintro e w1 ⟨rfl, rfl⟩
        go_wp2_with fail
        refine (iBoxOf_no a0 a1 (.inr H2.out) _).mono ?_
        rintro e w1 ⟨rfl, hg⟩
        go_wp2_with fail
        go_ret
        exact ⟨rfl, hg⟩
    · have H := hid h
      clear h
      go_enter Try.func7, Try.ntmps7
      go_wp2_with fail
      refine (sBoxOf_no a0 a1 hs (.inl H.out) _).mono ?_
      rintro e w1 ⟨rfl, rfl⟩
      go_wp2_with fail
      refine (iBoxOf_no a0 a1 (.inl H.out) _).mono ?_
      rintro e w1 ⟨rfl, hg⟩
      go_wp2_with fail
      go_ret
      exact ⟨rfl, hg⟩
set_option maxHeartbeats 400000 in
theorem wFnExactApplyTrans (a0 : ByteArray) (a1 : Int) (w : World) (_w0 : a0.size ≤ maxLen) (_w1 : (Lit.int .i64 a1).wf = true) :
    Calls Try.prog 12 #[.string a0, .int .i64 a1] w fun e w' => e = .returned (.bool true) ∧ Grew w w' := by
  by_cases hl : (1048576 : Int) < (a0.size : Int)
  · go_enter Try.func12, Try.ntmps12
    go_wp2_with fail
    go_ret
    exact ⟨rfl, Grew.refl _⟩
  · have hs : a0.size ≤ 1048576 := by omega
    by_cases h : TValid a0
    · have H := hid h
      clear h
      rcases condOr a1 with ⟨n, hn, rfl⟩ | h2
      · go_enter Try.func12, Try.ntmps12
        go_wp2_with fail
        refine (sApply_yes a0 n H.out hn _).mono ?_
        rintro e w1 ⟨rfl, rfl⟩
        go_wp2_with fail
        refine (iApply_yes a0 n H.out hn _).mono ?_
        rintro e w1 ⟨rfl, hg⟩
        go_wp2_with fail
        go_ret
        exact ⟨rfl, hg⟩
      · have H2 := hid (condI_no a1 h2)
        clear h2
        go_enter Try.func12, Try.ntmps12
        go_wp2_with fail
        refine (sApply_no a0 a1 hs (.inr H2.out) _).mono ?_
        rintro e w1 ⟨rfl, rfl⟩
        go_wp2_with fail
        refine (iApply_no a0 a1 (.inr H2.out) _).mono ?_
        rintro e w1 ⟨rfl, hg⟩
        go_wp2_with fail
        go_ret
        exact ⟨rfl, hg⟩
    · have H := hid h
      clear h
      go_enter Try.func12, Try.ntmps12
      go_wp2_with fail
      refine (sApply_no a0 a1 hs (.inl H.out) _).mono ?_
      rintro e w1 ⟨rfl, rfl⟩
      go_wp2_with fail
      refine (iApply_no a0 a1 (.inl H.out) _).mono ?_
      rintro e w1 ⟨rfl, hg⟩
      go_wp2_with fail
      go_ret
      exact ⟨rfl, hg⟩
set_option maxHeartbeats 400000 in
theorem wFnExactWithinRel (a0 a1 : ByteArray) (w : World) (_w0 : a0.size ≤ maxLen) (_w1 : a1.size ≤ maxLen) :
    Calls Try.prog 4 #[.string a0, .string a1] w fun e w' => e = .returned (.bool true) ∧ Grew w w' := by
  by_cases hl : (1048576 : Int) < (a0.size : Int)
  · go_enter Try.func4, Try.ntmps4
    go_wp2_with fail
    go_ret
    exact ⟨rfl, Grew.refl _⟩
  · have hs : a0.size ≤ 1048576 := by omega
    by_cases hl2 : (1048576 : Int) < (a1.size : Int)
    · go_enter Try.func4, Try.ntmps4
      go_wp2_with fail
      go_ret
      exact ⟨rfl, Grew.refl _⟩
    · have hs2 : a1.size ≤ 1048576 := by omega
      by_cases h : Valid 4 a0 ∧ Valid 4 a1
      · have H := hid h
        clear h
        go_enter Try.func4, Try.ntmps4
        go_wp2_with fail
        refine (sWithinRel_yes a0 a1 H.out.1 H.out.2 _).mono ?_
        rintro e w1 ⟨rfl, rfl⟩
        go_wp2_with fail
        refine (iWithinRel_yes a0 a1 H.out.1 H.out.2 _).mono ?_
        rintro e w1 ⟨rfl, hg⟩
        go_wp2_with fail
        go_ret
        exact ⟨rfl, hg⟩
      · have H := hid h
        clear h
        go_enter Try.func4, Try.ntmps4
        go_wp2_with fail
        refine (sWithinRel_no a0 a1 hs hs2 H.out _).mono ?_
        rintro e w1 ⟨rfl, rfl⟩
        go_wp2_with fail
        refine (iWithinRel_no a0 a1 H.out _).mono ?_
        rintro e w1 ⟨rfl, hg⟩
        go_wp2_with fail
        go_ret
        exact ⟨rfl, hg⟩
end Go.Proofs.Ytgbokgeegoolaaa
