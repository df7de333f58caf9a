/-
  The walks of the laws FnCloseUp and FnConditionText: the law returns true, for every slice of bytes.
-/
import Derived.Test.YtiofgfllagajkaaWL2
namespace Go.Proofs.Ytiofgfllagajkaa
open Go.RowKit
def downTo (p : Nat) : Nat → Bool := fun q => sub q p
def downTo2 (p : Nat) : Nat → Bool := fun q => !decide (q = p) && sub q p
set_option maxRecDepth 100000 in
set_option maxHeartbeats 4000000 in
theorem wFnCloseUp (a0 : Option Addr) (len0 cap0 : Nat) (z0 : List Int) (w : World) (w0 : IsRow .u8 w a0 len0 cap0 z0) :
    Calls Try.prog 12 #[.slice a0 len0 cap0] w fun e w' => e = .returned (.bool true) ∧ Grew w w' := by
  have W0 := hid w0
  clear w0
  by_cases hl : 1048576 < len0
  · have hl' : (1048576 : Int) < (len0 : Int) := by omega
    go_enter Try.func12, Try.ntmps12
    go_wp2_with fail
    go_ret
    exact ⟨rfl, Grew.refl _⟩
  · have hl' : ¬ (1048576 : Int) < (len0 : Int) := by omega
    go_enter Try.func12, Try.ntmps12
    go_wp2_with fail
    refine (DrawCloseUp_any a0 len0 cap0 z0 w W0.out (by omega)).mono ?_
    rintro e w1 ⟨f, rfl, hg⟩
    have HG := hid hg
    clear hg
    rcases famOr f with ⟨F, hF, rfl⟩ | hf
    · have e1 := leastI_yes F hF
      have c1 := famI_yes F hF
      have e2 := upI_yes F hF
      have p1 : ¬ ((upN F : Nat) : Int) < 0 := by omega
      go_wp2_with fail
      refine (iUp_all _ _).mono ?_
      rintro e w2 ⟨rfl, hg2⟩
      go_wp2_with fail
      refine (iLeast_all _ _).mono ?_
      rintro e w3 ⟨rfl, hg3⟩
      have HG3 := hid (HG.out.trans (hg2.trans hg3))
      clear hg2 hg3
      go_wp2_with (first | (go_at_call 16; refine (sUp_all _ _).mono ?_; rintro e w' ⟨rfl, rfl⟩) | (go_at_call 18; refine (sLeast_all _ _).mono ?_; rintro e w' ⟨rfl, rfl⟩) | fail)
      go_loop [6, 7, 8, 9] (fun u _ _ _ => ∃ p : Nat, p ≤ 16 ∧ u = .int .i64 p) (fun u _ _ _ => 16 - (intOf u).toNat)
      case atStart => exact ⟨0, by omega, rfl⟩
      case round =>
        obtain ⟨p, hp, rfl⟩ := hrel
        by_cases hlt : p < 16
        · have hl1 : (p : Int) < 16 := by omega
          go_wp2_with fail
          go_loop [7, 8, 9] (fun u v t => ∃ (q : Nat) (b1 b2 : Bool), q ≤ 16 ∧ t = .int .i64 q ∧ u = .bool b1 ∧ v = .bool b2 ∧ anyTo F (downTo p) q = b1 ∧ anyTo F (downTo2 p) q = b2) (fun _ _ u => 16 - (intOf u).toNat)
          case atStart => exact ⟨0, false, false, by omega, rfl, rfl, rfl, rfl, rfl⟩
          case round =>
            obtain ⟨q, b1, b2, hq, rfl, rfl, rfl, h1, h2⟩ := hrel
            by_cases hlt2 : q < 16
            · have hl2 : (q : Int) < 16 := by omega
              have f1 := infI_yes F q hF hlt2
              have f2 := impI_yes q p hlt2 hlt
              have n1 : anyTo F (downTo p) (q + 1) = (b1 || (has F q && sub q p)) := by rw [← h1]; rfl
              have n2 : anyTo F (downTo2 p) (q + 1) = (b2 || (has F q && (!decide (q = p) && sub q p))) := by rw [← h2]; rfl
              clear h1 h2
              by_cases hqp : q = p
              · have x1 : ((q : Int) != (p : Int)) = false := by simp; omega
                have x2 : ((q : Int) == (p : Int)) = true := by simp; omega
                rw [decide_eq_true hqp] at n2
                have HQP := hid hqp
                clear hqp
                cases g1 : has F q
                all_goals
                  cases g2 : sub q p
                  all_goals
                    rw [g1] at f1
                    rw [g2] at f2
                    rw [g1, g2] at n1 n2
                    have N1 := hid n1
                    have N2 := hid n2
                    clear n1 n2
                    cases b1
                    all_goals
                      cases b2
                      all_goals
                        go_wp2_with (first | (go_at_call 39; refine (iInf_all _ _ _).mono ?_; rintro e w' ⟨rfl, rfl⟩) | (go_at_call 33; refine (iImp_all _ _ _).mono ?_; rintro e w' ⟨rfl, rfl⟩) | fail)
                        go_round
                        case rel => exact ⟨q + 1, _, _, by omega, by go_num, rfl, rfl, N1.out, N2.out⟩
                        case measure => simp [intOf]; omega
              · have x1 : ((q : Int) != (p : Int)) = true := by simp; omega
                have x2 : ((q : Int) == (p : Int)) = false := by simp; omega
                rw [decide_eq_false hqp] at n2
                have HQP := hid hqp
                clear hqp
                cases g1 : has F q
                all_goals
                  cases g2 : sub q p
                  all_goals
                    rw [g1] at f1
                    rw [g2] at f2
                    rw [g1, g2] at n1 n2
                    have N1 := hid n1
                    have N2 := hid n2
                    clear n1 n2
                    cases b1
                    all_goals
                      cases b2
                      all_goals
                        go_wp2_with (first | (go_at_call 39; refine (iInf_all _ _ _).mono ?_; rintro e w' ⟨rfl, rfl⟩) | (go_at_call 33; refine (iImp_all _ _ _).mono ?_; rintro e w' ⟨rfl, rfl⟩) | fail)
                        go_round
                        case rel => exact ⟨q + 1, _, _, by omega, by go_num, rfl, rfl, N1.out, N2.out⟩
                        case measure => simp [intOf]; omega
            · obtain rfl : q = 16 := by omega
              have f1 := infI_yes (upN F) p (upN_lt F) hlt
              have f2 := infI_yes (leastN F) p (leastN_lt F) hlt
              have f3 := infI_yes F p hF hlt
              have k1 : has (upN F) p = b1 := by rw [← h1]; unfold upN; rw [has_setOf _ _ hlt]; rfl
              have k2 : has (leastN F) p = (has F p && !b2) := by rw [← h2]; unfold leastN; rw [has_setOf _ _ hlt]; rfl
              rw [k1] at f1
              rw [k2] at f2
              clear h1 h2 k1 k2
              cases g1 : has F p
              all_goals
                rw [g1] at f2 f3
                cases b1
                all_goals
                  cases b2
                  all_goals
                    go_wp2_with (first | (go_at_call 39; refine (iInf_all _ _ _).mono ?_; rintro e w' ⟨rfl, rfl⟩) | fail)
                    go_round
                    case rel => exact ⟨p + 1, by omega, by go_num⟩
                    case measure => simp [intOf]; omega
        · obtain rfl : p = 16 := by omega
          have g1 := upI_yes (upN F) (upN_lt F)
          have g2 := upI_yes (leastN F) (leastN_lt F)
          have g3 := leastI_yes (upN F) (upN_lt F)
          rw [up_up] at g1
          rw [up_least] at g2
          rw [least_up] at g3
          go_wp2_with fail
          refine (iUp_all _ _).mono ?_
          rintro e w4 ⟨rfl, hg4⟩
          go_wp2_with fail
          refine (iUp_all _ _).mono ?_
          rintro e w5 ⟨rfl, hg5⟩
          go_wp2_with fail
          refine (iLeast_all _ _).mono ?_
          rintro e w6 ⟨rfl, hg6⟩
          go_wp2_with fail
          go_ret
          exact ⟨rfl, HG3.out.trans (hg4.trans (hg5.trans hg6))⟩
    · have e0 := famI_no f hf
      have e1 := upI_no f e0
      have e2 := leastI_no f e0
      clear hf
      go_wp2_with fail
      refine (iUp_all _ _).mono ?_
      rintro e w2 ⟨rfl, hg2⟩
      go_wp2_with fail
      refine (iLeast_all _ _).mono ?_
      rintro e w3 ⟨rfl, hg3⟩
      go_wp2_with (first | (go_at_call 16; refine (sUp_all _ _).mono ?_; rintro e w' ⟨rfl, rfl⟩) | (go_at_call 18; refine (sLeast_all _ _).mono ?_; rintro e w' ⟨rfl, rfl⟩) | (go_at_call 41; refine (iFam_all _ _).mono ?_; rintro e w' ⟨rfl, rfl⟩) | fail)
      go_ret
      exact ⟨rfl, HG.out.trans (hg2.trans hg3)⟩
theorem fmt_data : ∀ n : Nat, n < 16 → ∀ i : Nat, i < n → ((fmt i).data.toList == (fmt n).data.toList) = false := by decide
theorem fmt_back (n : Nat) (hn : n < 16) : parseN (fmt n) = some n :=
  parseN_some hn (fun i hi => by rw [ByteArray.toList_eq, ByteArray.toList_eq]; exact fmt_data n hn i hi) (by simp)
theorem fmt_len : ∀ n : Nat, n < 16 → (fmt n).size = max (ones n) 1 := by decide
theorem fmt_dash : ∀ n : Nat, n < 16 → ((fmt n).data.toList == [45]) = (ones n == 0) := by decide
theorem fmt_empty : ∀ n : Nat, n < 16 → (fmt n).data.toList.isEmpty = false := by decide
theorem parse_lt {s : ByteArray} {k : Nat} (h : parseN s = some k) : k < 16 ∧ ((fmt k).toList == s.toList) = true := by
  unfold parseN at h
  rw [List.find?_range_eq_some] at h
  exact ⟨by simpa using h.2.1, h.1⟩
set_option maxRecDepth 100000 in
set_option maxHeartbeats 4000000 in
theorem wFnConditionText (a0 : Option Addr) (len0 cap0 : Nat) (z0 : List Int) (a1 : Option Addr) (len1 cap1 : Nat) (z1 : List Int) (w : World) (w0 : IsRow .u8 w a0 len0 cap0 z0) (w1 : IsRow .u8 w a1 len1 cap1 z1) :
    Calls Try.prog 13 #[.slice a0 len0 cap0, .slice a1 len1 cap1] w fun e w' => e = .returned (.bool true) ∧ Grew w w' := by
  have W0 := hid w0
  have W1 := hid w1
  clear w0 w1
  by_cases hl : 1048576 < len0
  · have hl' : (1048576 : Int) < (len0 : Int) := by omega
    go_enter Try.func13, Try.ntmps13
    go_wp2_with fail
    go_ret
    exact ⟨rfl, Grew.refl _⟩
  · have hl' : ¬ (1048576 : Int) < (len0 : Int) := by omega
    by_cases hk : 1048576 < len1
    · have hk' : (1048576 : Int) < (len1 : Int) := by omega
      go_enter Try.func13, Try.ntmps13
      go_wp2_with fail
      go_ret
      exact ⟨rfl, Grew.refl _⟩
    · have hk' : ¬ (1048576 : Int) < (len1 : Int) := by omega
      go_enter Try.func13, Try.ntmps13
      go_wp2_with fail
      refine (DrawFormatCondition_any a0 len0 cap0 z0 w W0.out (by omega)).mono ?_
      rintro e w2 ⟨p, rfl, hg⟩
      have HG := hid hg
      have W2 := hid (W1.out.grew hg)
      clear hg
      rcases condOr p with ⟨n, hn, rfl⟩ | hp
      rotate_left
      focus
        have c1 := condI_no p hp
        have c2 := fmtI_no p c1
        clear hp
        go_wp2_with (first | (go_at_call 21; refine (iFmt_all _ _).mono ?_; rintro e w' ⟨rfl, rfl⟩) | fail)
        refine (sFmt_all _ _).mono ?_
        rintro e w3 ⟨rfl, hg⟩
        have HG3 := hid (HG.out.trans hg)
        have W3 := hid (W2.out.grew hg)
        clear hg
        go_wp2_with (first | (go_at_call 27; refine (iCond_all _ _).mono ?_; rintro e w' ⟨rfl, rfl⟩) | fail)
      rotate_left
      focus
        have c1 := condI_yes n hn
        have c2 := fmtI_yes n hn
        have c3 : (fmt n).toList.isEmpty = false := by rw [ByteArray.toList_eq]; exact fmt_empty n hn
        have c4 : parseV (fmt n) = .tuple #[.int .i64 (n : Int), .bool true] := by unfold parseV; rw [fmt_back n hn]; rfl
        have c5 := cntI_yes n hn
        have c6 : ((fmt n).size : Int) = max ((ones n : Nat) : Int) 1 := by rw [fmt_len n hn]; omega
        have c7 : ((fmt n).toList == [45]) = (((ones n : Nat) : Int) == 0) := by
          rw [ByteArray.toList_eq, fmt_dash n hn, Bool.eq_iff_iff]; simp
        have c8 := ones_le n
        have C4 := hid c4
        clear c4
        go_wp2_with (first | (go_at_call 21; refine (iFmt_all _ _).mono ?_; rintro e w' ⟨rfl, rfl⟩) | fail)
        refine (sFmt_all _ _).mono ?_
        rintro e w3 ⟨rfl, hg⟩
        have HG3 := hid (HG.out.trans hg)
        have W3 := hid (W2.out.grew hg)
        clear hg
        go_wp2_with (first | (go_at_call 27; refine (iCond_all _ _).mono ?_; rintro e w' ⟨rfl, rfl⟩) | fail)
        refine (parseCondition_any _ _).mono ?_
        rintro e w' ⟨rfl, rfl⟩
        rw [C4.out]
        go_wp2_with (first | (go_at_call 28; refine (iCnt_all _ _).mono ?_; rintro e w' ⟨rfl, rfl⟩) | fail)
      all_goals
        refine (DrawParseCondition_any a1 len1 cap1 z1 w3 W3.out (by omega)).mono ?_
        rintro e w4 ⟨s, hs, rfl, hg⟩
        have HG4 := hid (HG3.out.trans hg)
        clear hg
        cases hp : parseN s
        · have pv : parseV s = .tuple #[.int .i64 0, .bool false] := by unfold parseV; rw [hp]; rfl
          have PV := hid pv
          clear pv hp
          go_wp2_with fail
          refine (parseCondition_any s _).mono ?_
          rintro e w' ⟨rfl, rfl⟩
          rw [PV.out]
          go_wp2_with fail
          refine (sParseCondition_any s _).mono ?_
          rintro e w5 ⟨rfl, hg⟩
          rw [PV.out]
          go_wp2_with fail
          go_ret
          exact ⟨rfl, HG4.out.trans hg⟩
        · rename_i k
          have pv : parseV s = .tuple #[.int .i64 (k : Int), .bool true] := by unfold parseV; rw [hp]; rfl
          have pk := parse_lt hp
          have q1 := pk.1
          have q2 := pk.2
          have q3 := fmtI_yes k q1
          have PV := hid pv
          clear pv hp pk
          go_wp2_with fail
          refine (parseCondition_any s _).mono ?_
          rintro e w' ⟨rfl, rfl⟩
          rw [PV.out]
          go_wp2_with fail
          refine (sParseCondition_any s _).mono ?_
          rintro e w5 ⟨rfl, hg⟩
          rw [PV.out]
          go_wp2_with (first | (go_at_call 21; refine (iFmt_all _ _).mono ?_; rintro e w' ⟨rfl, rfl⟩) | fail)
          go_ret
          exact ⟨rfl, HG4.out.trans hg⟩
end Go.Proofs.Ytiofgfllagajkaa
