/-
  The walk of the law FnMeetJoin: it returns true, for all slices of bytes.
-/
import Derived.Test.YtipkalbomjfckaaD4
import Derived.Test.YtipkalbomjfckaaT1
import Derived.Deep.CutRange
namespace Go.Proofs.Ytipkalbomjfckaa
open Go.RowKit
set_option maxRecDepth 100000 in
set_option maxHeartbeats 4000000 in
theorem wFnMeetJoin (a0 : Option Addr) (len0 cap0 : Nat) (z0 : List Int) (a1 : Option Addr) (len1 cap1 : Nat) (z1 : List Int) (w : World) (w0 : IsRow .u8 w a0 len0 cap0 z0) (w1 : IsRow .u8 w a1 len1 cap1 z1) :
    Calls Try.prog 5 #[.slice a0 len0 cap0, .slice a1 len1 cap1] w fun e w' => e = .returned (.bool true) ∧ Grew w w' := by
  have W0 := hid w0
  have W1 := hid w1
  clear w0 w1
  by_cases hl : 1048576 < len0
  · have hl' : (1048576 : Int) < (len0 : Int) := by omega
    go_enter Try.func5, Try.ntmps5
    go_wp2_with fail
    go_ret
    exact ⟨rfl, Grew.refl _⟩
  · have hl' : ¬ (1048576 : Int) < (len0 : Int) := by omega
    by_cases hk : 1048576 < len1
    · have hk' : (1048576 : Int) < (len1 : Int) := by omega
      go_enter Try.func5, Try.ntmps5
      go_wp2_with fail
      go_ret
      exact ⟨rfl, Grew.refl _⟩
    · have hk' : ¬ (1048576 : Int) < (len1 : Int) := by omega
      go_enter Try.func5, Try.ntmps5
      go_wp2_with fail
      refine (DrawMeetTrans_any a0 len0 cap0 z0 w W0.out (by omega)).mono ?_
      rintro e w2 ⟨t, u, hts, hus, rfl, hg⟩
      replace hg := hid hg
      by_cases hv : TValid t ∧ TValid u
      · have HT := hid hv.1
        have HU := hid hv.2
        have HA := ht_meet HT HU
        have HB := ht_join HT HU
        clear hv hts hus
        go_wp2_with (first | (go_at_call 20; refine (pMeet _ _ (Hid.out (by with_reducible (repeat (first | assumption | apply ht_then | apply ht_meet | apply ht_join | apply ht_dual | exact ht_assert _ (by assumption) | exact ht_assume _ | exact ht_skip | exact ht_fail | exact ht_full)))) (Hid.out (by with_reducible (repeat (first | assumption | apply ht_then | apply ht_meet | apply ht_join | apply ht_dual | exact ht_assert _ (by assumption) | exact ht_assume _ | exact ht_skip | exact ht_fail | exact ht_full)))) _).mono ?_; rintro e w' ⟨rfl, hn⟩; replace hg := hid (hg.out.trans hn); clear hn) | (go_at_call 21; refine (rMeet _ _ (Hid.out (by with_reducible (repeat (first | assumption | apply ht_then | apply ht_meet | apply ht_join | apply ht_dual | exact ht_assert _ (by assumption) | exact ht_assume _ | exact ht_skip | exact ht_fail | exact ht_full)))) (Hid.out (by with_reducible (repeat (first | assumption | apply ht_then | apply ht_meet | apply ht_join | apply ht_dual | exact ht_assert _ (by assumption) | exact ht_assume _ | exact ht_skip | exact ht_fail | exact ht_full)))) _).mono ?_; rintro e w' ⟨rfl, rfl⟩) | (go_at_call 22; refine (pJoin _ _ (Hid.out (by with_reducible (repeat (first | assumption | apply ht_then | apply ht_meet | apply ht_join | apply ht_dual | exact ht_assert _ (by assumption) | exact ht_assume _ | exact ht_skip | exact ht_fail | exact ht_full)))) (Hid.out (by with_reducible (repeat (first | assumption | apply ht_then | apply ht_meet | apply ht_join | apply ht_dual | exact ht_assert _ (by assumption) | exact ht_assume _ | exact ht_skip | exact ht_fail | exact ht_full)))) _).mono ?_; rintro e w' ⟨rfl, hn⟩; replace hg := hid (hg.out.trans hn); clear hn) | (go_at_call 23; refine (rJoin _ _ (Hid.out (by with_reducible (repeat (first | assumption | apply ht_then | apply ht_meet | apply ht_join | apply ht_dual | exact ht_assert _ (by assumption) | exact ht_assume _ | exact ht_skip | exact ht_fail | exact ht_full)))) (Hid.out (by with_reducible (repeat (first | assumption | apply ht_then | apply ht_meet | apply ht_join | apply ht_dual | exact ht_assert _ (by assumption) | exact ht_assume _ | exact ht_skip | exact ht_fail | exact ht_full)))) _).mono ?_; rintro e w' ⟨rfl, rfl⟩) | fail)
        refine (DrawDualTrans_any a1 len1 cap1 z1 _ (W1.out.grew hg.out) (by omega)).mono ?_
        rintro e w3 ⟨v, hvs, rfl, hn⟩
        replace hg := hid (hg.out.trans hn)
        clear hn
        have x1 := meet_comm t u
        have x2 := join_comm t u
        have x3 := meet_join HT.out u
        have x4 := join_meet HT.out u
        have x5 := meet_eq HT.out u
        by_cases hw : TValid v
        · have HV := hid hw
          clear hw hvs
          go_wp2_with fail
          refine (iTransValid_yes v HV.out _).mono ?_
          rintro e w' ⟨rfl, hn⟩
          replace hg := hid (hg.out.trans hn)
          clear hn
          go_upto_region 12 with fail
          go_cut [132] from 107 to 132 (fun s wx => s = .bool false ∧ Grew w wx)
          case first =>
            have y1 := ref_meet t u v
            have y2 := join_ref t u v
            cases c1 : refT v t
            all_goals
              cases c2 : refT v u
              all_goals
                cases c3 : refT t v
                all_goals
                  cases c4 : refT u v
                  all_goals
                    rw [c1, c2] at y1
                    rw [c3, c4] at y2
                    go_wp2_with (first | (go_at_call 25; refine (pRef _ _ (Hid.out (by with_reducible (repeat (first | assumption | apply ht_then | apply ht_meet | apply ht_join | apply ht_dual | exact ht_assert _ (by assumption) | exact ht_assume _ | exact ht_skip | exact ht_fail | exact ht_full)))) (Hid.out (by with_reducible (repeat (first | assumption | apply ht_then | apply ht_meet | apply ht_join | apply ht_dual | exact ht_assert _ (by assumption) | exact ht_assume _ | exact ht_skip | exact ht_fail | exact ht_full)))) _).mono ?_; rintro e w' ⟨rfl, hn⟩; replace hg := hid (hg.out.trans hn); clear hn) | fail)
                    go_meet
                    case rel => exact ⟨rfl, hg.out⟩
          case rest =>
            obtain ⟨rfl, hg2⟩ := hcut
            replace hg := hid hg2
            clear hg2
            have y3 := meet_then t u v
            have y4 := join_then t u v
            have y5 := then_meet HV.out t u
            have y6 := then_join HV.out t u
            go_wp2_with (first | (go_at_call 26; refine (dThen _ _ (Hid.out (by with_reducible (repeat (first | assumption | apply ht_then | apply ht_meet | apply ht_join | apply ht_dual | exact ht_assert _ (by assumption) | exact ht_assume _ | exact ht_skip | exact ht_fail | exact ht_full)))) (Hid.out (by with_reducible (repeat (first | assumption | apply ht_then | apply ht_meet | apply ht_join | apply ht_dual | exact ht_assert _ (by assumption) | exact ht_assume _ | exact ht_skip | exact ht_fail | exact ht_full)))) _).mono ?_; rintro e w' ⟨rfl, hn⟩; replace hg := hid (hg.out.trans hn); clear hn) | (go_at_call 27; refine (dMeet _ _ (Hid.out (by with_reducible (repeat (first | assumption | apply ht_then | apply ht_meet | apply ht_join | apply ht_dual | exact ht_assert _ (by assumption) | exact ht_assume _ | exact ht_skip | exact ht_fail | exact ht_full)))) (Hid.out (by with_reducible (repeat (first | assumption | apply ht_then | apply ht_meet | apply ht_join | apply ht_dual | exact ht_assert _ (by assumption) | exact ht_assume _ | exact ht_skip | exact ht_fail | exact ht_full)))) _).mono ?_; rintro e w' ⟨rfl, hn⟩; replace hg := hid (hg.out.trans hn); clear hn) | (go_at_call 28; refine (dJoin _ _ (Hid.out (by with_reducible (repeat (first | assumption | apply ht_then | apply ht_meet | apply ht_join | apply ht_dual | exact ht_assert _ (by assumption) | exact ht_assume _ | exact ht_skip | exact ht_fail | exact ht_full)))) (Hid.out (by with_reducible (repeat (first | assumption | apply ht_then | apply ht_meet | apply ht_join | apply ht_dual | exact ht_assert _ (by assumption) | exact ht_assume _ | exact ht_skip | exact ht_fail | exact ht_full)))) _).mono ?_; rintro e w' ⟨rfl, hn⟩; replace hg := hid (hg.out.trans hn); clear hn) | (go_at_call 25; refine (pRef _ _ (Hid.out (by with_reducible (repeat (first | assumption | apply ht_then | apply ht_meet | apply ht_join | apply ht_dual | exact ht_assert _ (by assumption) | exact ht_assume _ | exact ht_skip | exact ht_fail | exact ht_full)))) (Hid.out (by with_reducible (repeat (first | assumption | apply ht_then | apply ht_meet | apply ht_join | apply ht_dual | exact ht_assert _ (by assumption) | exact ht_assume _ | exact ht_skip | exact ht_fail | exact ht_full)))) _).mono ?_; rintro e w' ⟨rfl, hn⟩; replace hg := hid (hg.out.trans hn); clear hn) | fail)
            go_ret
            exact ⟨rfl, hg.out⟩
        · have HW := hid hw
          clear hw
          go_wp2_with fail
          refine (iTransValid_no v HW.out _).mono ?_
          rintro e w' ⟨rfl, hn⟩
          replace hg := hid (hg.out.trans hn)
          clear hn
          go_wp2_with (first | (go_at_call 27; refine (dMeet _ _ (Hid.out (by with_reducible (repeat (first | assumption | apply ht_then | apply ht_meet | apply ht_join | apply ht_dual | exact ht_assert _ (by assumption) | exact ht_assume _ | exact ht_skip | exact ht_fail | exact ht_full)))) (Hid.out (by with_reducible (repeat (first | assumption | apply ht_then | apply ht_meet | apply ht_join | apply ht_dual | exact ht_assert _ (by assumption) | exact ht_assume _ | exact ht_skip | exact ht_fail | exact ht_full)))) _).mono ?_; rintro e w' ⟨rfl, hn⟩; replace hg := hid (hg.out.trans hn); clear hn) | (go_at_call 28; refine (dJoin _ _ (Hid.out (by with_reducible (repeat (first | assumption | apply ht_then | apply ht_meet | apply ht_join | apply ht_dual | exact ht_assert _ (by assumption) | exact ht_assume _ | exact ht_skip | exact ht_fail | exact ht_full)))) (Hid.out (by with_reducible (repeat (first | assumption | apply ht_then | apply ht_meet | apply ht_join | apply ht_dual | exact ht_assert _ (by assumption) | exact ht_assume _ | exact ht_skip | exact ht_fail | exact ht_full)))) _).mono ?_; rintro e w' ⟨rfl, hn⟩; replace hg := hid (hg.out.trans hn); clear hn) | (go_at_call 25; refine (pRef _ _ (Hid.out (by with_reducible (repeat (first | assumption | apply ht_then | apply ht_meet | apply ht_join | apply ht_dual | exact ht_assert _ (by assumption) | exact ht_assume _ | exact ht_skip | exact ht_fail | exact ht_full)))) (Hid.out (by with_reducible (repeat (first | assumption | apply ht_then | apply ht_meet | apply ht_join | apply ht_dual | exact ht_assert _ (by assumption) | exact ht_assume _ | exact ht_skip | exact ht_fail | exact ht_full)))) _).mono ?_; rintro e w' ⟨rfl, hn⟩; replace hg := hid (hg.out.trans hn); clear hn) | fail)
          go_ret
          exact ⟨rfl, hg.out⟩
      · have HN := hid hv
        have HS1 := hid hts
        have HS2 := hid hus
        clear hv hts hus
        go_wp2_with (first | (go_at_call 20; refine (iMeetT_no _ _ HN.out _).mono ?_; rintro e w' ⟨rfl, hn⟩; replace hg := hid (hg.out.trans hn); clear hn) | (go_at_call 21; refine (sMeetT_no _ _ HS1.out HS2.out HN.out _).mono ?_; rintro e w' ⟨rfl, rfl⟩) | (go_at_call 22; refine (iJoinT_no _ _ HN.out _).mono ?_; rintro e w' ⟨rfl, hn⟩; replace hg := hid (hg.out.trans hn); clear hn) | (go_at_call 23; refine (sJoinT_no _ _ HS1.out HS2.out HN.out _).mono ?_; rintro e w' ⟨rfl, rfl⟩) | fail)
        go_ret
        exact ⟨rfl, hg.out⟩
end Go.Proofs.Ytipkalbomjfckaa
