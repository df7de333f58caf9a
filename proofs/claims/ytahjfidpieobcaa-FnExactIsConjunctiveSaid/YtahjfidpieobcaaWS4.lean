/-
  The walks of the exact laws of the makers of transformers: the law returns true, for all arguments.
-/
import Derived.Test.YtahjfidpieobcaaK6
namespace Go.Proofs.Ytahjfidpieobcaa
open Go.RowKit
set_option maxHeartbeats 400000 in
theorem wFnExactMiraclesOf (a0 : ByteArray) (w : World) (_w0 : a0.size ≤ maxLen) :
    Calls Try.prog 12 #[.string a0] w fun e w' => e = .returned (.bool true) ∧ Grew w w' := by
  by_cases hl : (1048576 : Int) < (a0.size : Int)
  · go_enter Try.func12, Try.ntmps12
    go_wp2_with fail
    go_ret
    exact ⟨rfl, Grew.refl _⟩
  · have hs : a0.size ≤ 1048576 := by omega
    by_cases h : TValid a0
    · have H := hid h
      clear h
      go_enter Try.func12, Try.ntmps12
      go_wp2_with fail
      refine (sMiracles_yes a0 H.out _).mono ?_
      rintro e w1 ⟨rfl, rfl⟩
      go_wp2_with fail
      refine (iMiracles_yes a0 H.out _).mono ?_
      rintro e w1 ⟨rfl, hg⟩
      go_wp2_with fail
      go_ret
      exact ⟨rfl, hg⟩
    · have H := hid h
      clear h
      go_enter Try.func12, Try.ntmps12
      go_wp2_with fail
      refine (sMiracles_no a0 hs H.out _).mono ?_
      rintro e w1 ⟨rfl, rfl⟩
      go_wp2_with fail
      refine (iMiracles_no a0 H.out _).mono ?_
      rintro e w1 ⟨rfl, hg⟩
      go_wp2_with fail
      go_ret
      exact ⟨rfl, hg⟩
set_option maxHeartbeats 400000 in
theorem wFnExactStartsOf (a0 : ByteArray) (w : World) (_w0 : a0.size ≤ maxLen) :
    Calls Try.prog 13 #[.string a0] w fun e w' => e = .returned (.bool true) ∧ Grew w w' := by
  by_cases hl : (1048576 : Int) < (a0.size : Int)
  · go_enter Try.func13, Try.ntmps13
    go_wp2_with fail
    go_ret
    exact ⟨rfl, Grew.refl _⟩
  · have hs : a0.size ≤ 1048576 := by omega
    by_cases h : TValid a0
    · have H := hid h
      clear h
      go_enter Try.func13, Try.ntmps13
      go_wp2_with fail
      refine (sStarts_yes a0 H.out _).mono ?_
      rintro e w1 ⟨rfl, rfl⟩
      go_wp2_with fail
      refine (iStarts_yes a0 H.out _).mono ?_
      rintro e w1 ⟨rfl, hg⟩
      go_wp2_with fail
      go_ret
      exact ⟨rfl, hg⟩
    · have H := hid h
      clear h
      go_enter Try.func13, Try.ntmps13
      go_wp2_with fail
      refine (sStarts_no a0 hs H.out _).mono ?_
      rintro e w1 ⟨rfl, rfl⟩
      go_wp2_with fail
      refine (iStarts_no a0 H.out _).mono ?_
      rintro e w1 ⟨rfl, hg⟩
      go_wp2_with fail
      go_ret
      exact ⟨rfl, hg⟩
set_option maxHeartbeats 400000 in
theorem wFnExactIsConjunctive (a0 : ByteArray) (w : World) (_w0 : a0.size ≤ maxLen) :
    Calls Try.prog 14 #[.string a0] w fun e w' => e = .returned (.bool true) ∧ Grew w w' := by
  by_cases hl : (1048576 : Int) < (a0.size : Int)
  · go_enter Try.func14, Try.ntmps14
    go_wp2_with fail
    go_ret
    exact ⟨rfl, Grew.refl _⟩
  · have hs : a0.size ≤ 1048576 := by omega
    by_cases h : TValid a0
    · have H := hid h
      clear h
      go_enter Try.func14, Try.ntmps14
      go_wp2_with fail
      refine (sIsConj_yes a0 H.out _).mono ?_
      rintro e w1 ⟨rfl, rfl⟩
      go_wp2_with fail
      refine (iIsConj_yes a0 H.out _).mono ?_
      rintro e w1 ⟨rfl, hg⟩
      go_wp2_with fail
      go_ret
      exact ⟨rfl, hg⟩
    · have H := hid h
      clear h
      go_enter Try.func14, Try.ntmps14
      go_wp2_with fail
      refine (sIsConj_no a0 hs H.out _).mono ?_
      rintro e w1 ⟨rfl, rfl⟩
      go_wp2_with fail
      refine (iIsConj_no a0 H.out _).mono ?_
      rintro e w1 ⟨rfl, hg⟩
      go_wp2_with fail
      go_ret
      exact ⟨rfl, hg⟩
set_option maxHeartbeats 400000 in
theorem wFnExactDualTrans (a0 : ByteArray) (w : World) (_w0 : a0.size ≤ maxLen) :
    Calls Try.prog 11 #[.string a0] w fun e w' => e = .returned (.bool true) ∧ Grew w w' := by
  by_cases hl : (1048576 : Int) < (a0.size : Int)
  · go_enter Try.func11, Try.ntmps11
    go_wp2_with fail
    go_ret
    exact ⟨rfl, Grew.refl _⟩
  · have hs : a0.size ≤ 1048576 := by omega
    by_cases h : TValid a0
    · have H := hid h
      clear h
      go_enter Try.func11, Try.ntmps11
      go_wp2_with fail
      refine (sDualT_yes a0 H.out _).mono ?_
      rintro e w1 ⟨rfl, rfl⟩
      go_wp2_with fail
      refine (iDualT_yes a0 H.out _).mono ?_
      rintro e w1 ⟨rfl, hg⟩
      go_wp2_with fail
      go_ret
      exact ⟨rfl, hg⟩
    · have H := hid h
      clear h
      go_enter Try.func11, Try.ntmps11
      go_wp2_with fail
      refine (sDualT_no a0 hs H.out _).mono ?_
      rintro e w1 ⟨rfl, rfl⟩
      go_wp2_with fail
      refine (iDualT_no a0 H.out _).mono ?_
      rintro e w1 ⟨rfl, hg⟩
      go_wp2_with fail
      go_ret
      exact ⟨rfl, hg⟩
set_option maxHeartbeats 400000 in
theorem wFnExactAngelTrans (a0 : ByteArray) (w : World) (_w0 : a0.size ≤ maxLen) :
    Calls Try.prog 6 #[.string a0] w fun e w' => e = .returned (.bool true) ∧ Grew w w' := by
  by_cases hl : (1048576 : Int) < (a0.size : Int)
  · go_enter Try.func6, Try.ntmps6
    go_wp2_with fail
    go_ret
    exact ⟨rfl, Grew.refl _⟩
  · have hs : a0.size ≤ 1048576 := by omega
    by_cases h : Valid 4 a0
    · have H := hid h
      clear h
      go_enter Try.func6, Try.ntmps6
      go_wp2_with fail
      refine (sAngelT_yes a0 H.out _).mono ?_
      rintro e w1 ⟨rfl, rfl⟩
      go_wp2_with fail
      refine (iAngelT_yes a0 H.out _).mono ?_
      rintro e w1 ⟨rfl, hg⟩
      go_wp2_with fail
      go_ret
      exact ⟨rfl, hg⟩
    · have H := hid h
      clear h
      go_enter Try.func6, Try.ntmps6
      go_wp2_with fail
      refine (sAngelT_no a0 hs H.out _).mono ?_
      rintro e w1 ⟨rfl, rfl⟩
      go_wp2_with fail
      refine (iAngelT_no a0 H.out _).mono ?_
      rintro e w1 ⟨rfl, hg⟩
      go_wp2_with fail
      go_ret
      exact ⟨rfl, hg⟩
set_option maxHeartbeats 400000 in
theorem wFnExactDemonTrans (a0 : ByteArray) (w : World) (_w0 : a0.size ≤ maxLen) :
    Calls Try.prog 7 #[.string a0] w fun e w' => e = .returned (.bool true) ∧ Grew w w' := by
  by_cases hl : (1048576 : Int) < (a0.size : Int)
  · go_enter Try.func7, Try.ntmps7
    go_wp2_with fail
    go_ret
    exact ⟨rfl, Grew.refl _⟩
  · have hs : a0.size ≤ 1048576 := by omega
    by_cases h : Valid 4 a0
    · have H := hid h
      clear h
      go_enter Try.func7, Try.ntmps7
      go_wp2_with fail
      refine (sDemonT_yes a0 H.out _).mono ?_
      rintro e w1 ⟨rfl, rfl⟩
      go_wp2_with fail
      refine (iDemonT_yes a0 H.out _).mono ?_
      rintro e w1 ⟨rfl, hg⟩
      go_wp2_with fail
      go_ret
      exact ⟨rfl, hg⟩
    · have H := hid h
      clear h
      go_enter Try.func7, Try.ntmps7
      go_wp2_with fail
      refine (sDemonT_no a0 hs H.out _).mono ?_
      rintro e w1 ⟨rfl, rfl⟩
      go_wp2_with fail
      refine (iDemonT_no a0 H.out _).mono ?_
      rintro e w1 ⟨rfl, hg⟩
      go_wp2_with fail
      go_ret
      exact ⟨rfl, hg⟩
set_option maxHeartbeats 400000 in
theorem wFnExactFamilyOf (a0 : ByteArray) (a1 : Int) (w : World) (_w0 : a0.size ≤ maxLen) (_w1 : (Lit.int .i64 a1).wf = true) :
    Calls Try.prog 5 #[.string a0, .int .i64 a1] w fun e w' => e = .returned (.bool true) ∧ Grew w w' := by
  by_cases hl : (1048576 : Int) < (a0.size : Int)
  · go_enter Try.func5, Try.ntmps5
    go_wp2_with fail
    go_ret
    exact ⟨rfl, Grew.refl _⟩
  · have hs : a0.size ≤ 1048576 := by omega
    by_cases h : TValid a0
    · have H := hid h
      clear h
      rcases stateOr a1 with ⟨n, hn, rfl⟩ | h2
      · go_enter Try.func5, Try.ntmps5
        go_wp2_with fail
        refine (sFamilyOf_yes a0 n H.out hn _).mono ?_
        rintro e w1 ⟨rfl, rfl⟩
        go_wp2_with fail
        refine (iFamilyOf_yes a0 n H.out hn _).mono ?_
        rintro e w1 ⟨rfl, hg⟩
        go_wp2_with fail
        go_ret
        exact ⟨rfl, hg⟩
      · have H2 := hid (stateI_no a1 h2)
        clear h2
        go_enter Try.func5, Try.ntmps5
        go_wp2_with fail
        refine (sFamilyOf_no a0 a1 hs (.inr H2.out) _).mono ?_
        rintro e w1 ⟨rfl, rfl⟩
        go_wp2_with fail
        refine (iFamilyOf_no a0 a1 (.inr H2.out) _).mono ?_
        rintro e w1 ⟨rfl, hg⟩
        go_wp2_with fail
        go_ret
        exact ⟨rfl, hg⟩
    · have H := hid h
      clear h
      go_enter Try.func5, Try.ntmps5
      go_wp2_with fail
      refine (sFamilyOf_no a0 a1 hs (.inl H.out) _).mono ?_
      rintro e w1 ⟨rfl, rfl⟩
      go_wp2_with fail
      refine (iFamilyOf_no a0 a1 (.inl H.out) _).mono ?_
      rintro e w1 ⟨rfl, hg⟩
      go_wp2_with fail
      go_ret
      exact ⟨rfl, hg⟩
set_option maxHeartbeats 400000 in
theorem wFnExactRefinesTrans (a0 a1 : ByteArray) (w : World) (_w0 : a0.size ≤ maxLen) (_w1 : a1.size ≤ maxLen) :
    Calls Try.prog 4 #[.string a0, .string a1] w fun e w' => e = .returned (.bool true) ∧ Grew w w' := by
  by_cases hl : (1048576 : Int) < (a0.size : Int)
  · go_enter Try.func4, Try.ntmps4
    go_wp2_with fail
    go_ret
    exact ⟨rfl, Grew.refl _⟩
  · have hs : a0.size ≤ 1048576 := by omega
    by_cases hl2 : (1048576 : Int) < (a1.size : Int)
    · go_enter Try.func4, Try.ntmps4
      go_wp2_with fail
      go_ret
      exact ⟨rfl, Grew.refl _⟩
    · have hs2 : a1.size ≤ 1048576 := by omega
      by_cases h : TValid a0 ∧ TValid a1
      · have H := hid h
        clear h
        go_enter Try.func4, Try.ntmps4
        go_wp2_with fail
        refine (sRefines_yes a0 a1 H.out.1 H.out.2 _).mono ?_
        rintro e w1 ⟨rfl, rfl⟩
        go_wp2_with fail
        refine (iRefines_yes a0 a1 H.out.1 H.out.2 _).mono ?_
        rintro e w1 ⟨rfl, hg⟩
        go_wp2_with fail
        go_ret
        exact ⟨rfl, hg⟩
      · have H := hid h
        clear h
        go_enter Try.func4, Try.ntmps4
        go_wp2_with fail
        refine (sRefines_no a0 a1 hs hs2 H.out _).mono ?_
        rintro e w1 ⟨rfl, rfl⟩
        go_wp2_with fail
        refine (iRefines_no a0 a1 H.out _).mono ?_
        rintro e w1 ⟨rfl, hg⟩
        go_wp2_with fail
        go_ret
        exact ⟨rfl, hg⟩
set_option maxHeartbeats 400000 in
theorem wFnExactMeetTrans (a0 a1 : ByteArray) (w : World) (_w0 : a0.size ≤ maxLen) (_w1 : a1.size ≤ maxLen) :
    Calls Try.prog 9 #[.string a0, .string a1] w fun e w' => e = .returned (.bool true) ∧ Grew w w' := by
  by_cases hl : (1048576 : Int) < (a0.size : Int)
  · go_enter Try.func9, Try.ntmps9
    go_wp2_with fail
    go_ret
    exact ⟨rfl, Grew.refl _⟩
  · have hs : a0.size ≤ 1048576 := by omega
    by_cases hl2 : (1048576 : Int) < (a1.size : Int)
    · go_enter Try.func9, Try.ntmps9
      go_wp2_with fail
      go_ret
      exact ⟨rfl, Grew.refl _⟩
    · have hs2 : a1.size ≤ 1048576 := by omega
      by_cases h : TValid a0 ∧ TValid a1
      · have H := hid h
        clear h
        go_enter Try.func9, Try.ntmps9
        go_wp2_with fail
        refine (sMeetT_yes a0 a1 H.out.1 H.out.2 _).mono ?_
        rintro e w1 ⟨rfl, rfl⟩
        go_wp2_with fail
        refine (iMeetT_yes a0 a1 H.out.1 H.out.2 _).mono ?_
        rintro e w1 ⟨rfl, hg⟩
        go_wp2_with fail
        go_ret
        exact ⟨rfl, hg⟩
      · have H := hid h
        clear h
        go_enter Try.func9, Try.ntmps9
        go_wp2_with fail
        refine (sMeetT_no a0 a1 hs hs2 H.out _).mono ?_
        rintro e w1 ⟨rfl, rfl⟩
        go_wp2_with fail
        refine (iMeetT_no a0 a1 H.out _).mono ?_
        rintro e w1 ⟨rfl, hg⟩
        go_wp2_with fail
        go_ret
        exact ⟨rfl, hg⟩
set_option maxHeartbeats 400000 in
theorem wFnExactJoinTrans (a0 a1 : ByteArray) (w : World) (_w0 : a0.size ≤ maxLen) (_w1 : a1.size ≤ maxLen) :
    Calls Try.prog 8 #[.string a0, .string a1] w fun e w' => e = .returned (.bool true) ∧ Grew w w' := by
  by_cases hl : (1048576 : Int) < (a0.size : Int)
  · go_enter Try.func8, Try.ntmps8
    go_wp2_with fail
    go_ret
    exact ⟨rfl, Grew.refl _⟩
  · have hs : a0.size ≤ 1048576 := by omega
    by_cases hl2 : (1048576 : Int) < (a1.size : Int)
    · go_enter Try.func8, Try.ntmps8
      go_wp2_with fail
      go_ret
      exact ⟨rfl, Grew.refl _⟩
    · have hs2 : a1.size ≤ 1048576 := by omega
      by_cases h : TValid a0 ∧ TValid a1
      · have H := hid h
        clear h
        go_enter Try.func8, Try.ntmps8
        go_wp2_with fail
        refine (sJoinT_yes a0 a1 H.out.1 H.out.2 _).mono ?_
        rintro e w1 ⟨rfl, rfl⟩
        go_wp2_with fail
        refine (iJoinT_yes a0 a1 H.out.1 H.out.2 _).mono ?_
        rintro e w1 ⟨rfl, hg⟩
        go_wp2_with fail
        go_ret
        exact ⟨rfl, hg⟩
      · have H := hid h
        clear h
        go_enter Try.func8, Try.ntmps8
        go_wp2_with fail
        refine (sJoinT_no a0 a1 hs hs2 H.out _).mono ?_
        rintro e w1 ⟨rfl, rfl⟩
        go_wp2_with fail
        refine (iJoinT_no a0 a1 H.out _).mono ?_
        rintro e w1 ⟨rfl, hg⟩
        go_wp2_with fail
        go_ret
        exact ⟨rfl, hg⟩
set_option maxHeartbeats 400000 in
theorem wFnExactThenTrans (a0 a1 : ByteArray) (w : World) (_w0 : a0.size ≤ maxLen) (_w1 : a1.size ≤ maxLen) :
    Calls Try.prog 10 #[.string a0, .string a1] w fun e w' => e = .returned (.bool true) ∧ Grew w w' := by
  by_cases hl : (1048576 : Int) < (a0.size : Int)
  · go_enter Try.func10, Try.ntmps10
    go_wp2_with fail
    go_ret
    exact ⟨rfl, Grew.refl _⟩
  · have hs : a0.size ≤ 1048576 := by omega
    by_cases hl2 : (1048576 : Int) < (a1.size : Int)
    · go_enter Try.func10, Try.ntmps10
      go_wp2_with fail
      go_ret
      exact ⟨rfl, Grew.refl _⟩
    · have hs2 : a1.size ≤ 1048576 := by omega
      by_cases h : TValid a0 ∧ TValid a1
      · have H := hid h
        clear h
        go_enter Try.func10, Try.ntmps10
        go_wp2_with fail
        refine (sThenT_yes a0 a1 H.out.1 H.out.2 _).mono ?_
        rintro e w1 ⟨rfl, rfl⟩
        go_wp2_with fail
        refine (iThenT_yes a0 a1 H.out.1 H.out.2 _).mono ?_
        rintro e w1 ⟨rfl, hg⟩
        go_wp2_with fail
        go_ret
        exact ⟨rfl, hg⟩
      · have H := hid h
        clear h
        go_enter Try.func10, Try.ntmps10
        go_wp2_with fail
        refine (sThenT_no a0 a1 hs hs2 H.out _).mono ?_
        rintro e w1 ⟨rfl, rfl⟩
        go_wp2_with fail
        refine (iThenT_no a0 a1 H.out _).mono ?_
        rintro e w1 ⟨rfl, hg⟩
        go_wp2_with fail
        go_ret
        exact ⟨rfl, hg⟩
set_option maxHeartbeats 400000 in
theorem wFnExactAssumeTrans (a0 : Int) (w : World) (_w0 : (Lit.int .i64 a0).wf = true) :
    Calls Try.prog 3 #[.int .i64 a0] w fun e w' => e = .returned (.bool true) ∧ Grew w w' := by
  rcases condOr a0 with ⟨n, hn, rfl⟩ | h
  · go_enter Try.func3, Try.ntmps3
    go_wp2_with fail
    refine (sAssumeT_yes n hn _).mono ?_
    rintro e w1 ⟨rfl, rfl⟩
    go_wp2_with fail
    refine (iAssumeT_yes n hn _).mono ?_
    rintro e w1 ⟨rfl, hg⟩
    go_wp2_with fail
    go_ret
    exact ⟨rfl, hg⟩
  · have HH := hid h
    clear h
    go_enter Try.func3, Try.ntmps3
    go_wp2_with fail
    refine (sAssumeT_no a0 HH.out _).mono ?_
    rintro e w1 ⟨rfl, rfl⟩
    go_wp2_with fail
    refine (iAssumeT_no a0 HH.out _).mono ?_
    rintro e w1 ⟨rfl, hg⟩
    go_wp2_with fail
    go_ret
    exact ⟨rfl, hg⟩
end Go.Proofs.Ytahjfidpieobcaa
