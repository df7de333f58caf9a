/-
  The walk of the law FnDual: it returns true, for all slices of bytes.
-/
import Derived.Test.YtipkalbomjfckaaD4
import Derived.Test.YtipkalbomjfckaaT1
namespace Go.Proofs.Ytipkalbomjfckaa
open Go.RowKit
set_option maxRecDepth 100000 in
set_option maxHeartbeats 4000000 in
theorem wFnDual (a0 : Option Addr) (len0 cap0 : Nat) (z0 : List Int) (a1 : Option Addr) (len1 cap1 : Nat) (z1 : List Int) (w : World) (w0 : IsRow .u8 w a0 len0 cap0 z0) (w1 : IsRow .u8 w a1 len1 cap1 z1) :
    Calls Try.prog 10 #[.slice a0 len0 cap0, .slice a1 len1 cap1] w fun e w' => e = .returned (.bool true) ∧ Grew w w' := by
  have W0 := hid w0
  have W1 := hid w1
  clear w0 w1
  by_cases hl : 1048576 < len0
  · have hl' : (1048576 : Int) < (len0 : Int) := by omega
    go_enter Try.func10, Try.ntmps10
    go_wp2_with fail
    go_ret
    exact ⟨rfl, Grew.refl _⟩
  · have hl' : ¬ (1048576 : Int) < (len0 : Int) := by omega
    by_cases hk : 1048576 < len1
    · have hk' : (1048576 : Int) < (len1 : Int) := by omega
      go_enter Try.func10, Try.ntmps10
      go_wp2_with fail
      go_ret
      exact ⟨rfl, Grew.refl _⟩
    · have hk' : ¬ (1048576 : Int) < (len1 : Int) := by omega
      go_enter Try.func10, Try.ntmps10
      go_wp2_with fail
      refine (DrawDualTrans_any a0 len0 cap0 z0 w W0.out (by omega)).mono ?_
      rintro e w2 ⟨t, hts, rfl, hg⟩
      replace hg := hid hg
      by_cases hv : TValid t
      · have HT := hid hv
        clear hv hts
        go_wp2_with (first | (go_at_call 51; refine (pDual _ (Hid.out (by with_reducible (repeat (first | assumption | apply ht_then | apply ht_meet | apply ht_join | apply ht_dual | exact ht_assert _ (by assumption) | exact ht_assume _ | exact ht_skip | exact ht_fail | exact ht_full)))) _).mono ?_; rintro e w' ⟨rfl, hn⟩; replace hg := hid (hg.out.trans hn); clear hn) | (go_at_call 52; refine (rDual _ (Hid.out (by with_reducible (repeat (first | assumption | apply ht_then | apply ht_meet | apply ht_join | apply ht_dual | exact ht_assert _ (by assumption) | exact ht_assume _ | exact ht_skip | exact ht_fail | exact ht_full)))) _).mono ?_; rintro e w' ⟨rfl, rfl⟩) | (go_at_call 18; refine (iTransValid_yes _ (Hid.out (by with_reducible (repeat (first | assumption | apply ht_then | apply ht_meet | apply ht_join | apply ht_dual | exact ht_assert _ (by assumption) | exact ht_assume _ | exact ht_skip | exact ht_fail | exact ht_full)))) _).mono ?_; rintro e w' ⟨rfl, hn⟩; replace hg := hid (hg.out.trans hn); clear hn) | fail)
        go_loopw [10] (fun u wr => ∃ q : Nat, q ≤ 16 ∧ u = .int .i64 q ∧ Grew w wr) (fun u _ => 16 - (intOf u).toNat)
        case atStart => exact ⟨0, by omega, rfl, hg.out⟩
        case round =>
          obtain ⟨q, hq, rfl, hg2⟩ := hrel
          replace hg := hid hg2
          clear hg2
          by_cases hlt : q < 16
          · have hl1 : (q : Int) < 16 := by omega
            have e1 := notI_yes q hlt
            have e2 := notI_yes (dv t (diff 15 q)) (dv_lt _ _)
            have e3 := dv_dual t q hlt
            unfold notN at e1 e2
            go_wp2_with (first | (go_at_call 45; refine (iApply_yes _ _ (Hid.out (by with_reducible (repeat (first | assumption | apply ht_then | apply ht_meet | apply ht_join | apply ht_dual | exact ht_assert _ (by assumption) | exact ht_assume _ | exact ht_skip | exact ht_fail | exact ht_full)))) (by first | assumption | exact dv_lt _ _ | exact and16 _ _ (by assumption) | exact orN_16 _ _ (by assumption) (by assumption) | exact diff15_lt _) _).mono ?_; rintro e w' ⟨rfl, hn⟩; replace hg := hid (hg.out.trans hn); clear hn) | (go_at_call 53; refine (iNot_all _ _).mono ?_; rintro e w' ⟨rfl, rfl⟩) | fail)
            go_roundw
            case rel => exact ⟨q + 1, by omega, by go_num, hg.out⟩
            case measure => simp [intOf]; omega
          · obtain rfl : q = 16 := by omega
            go_wp2_with fail
            refine (DrawDualTrans_any a1 len1 cap1 z1 _ (W1.out.grew hg.out) (by omega)).mono ?_
            rintro e w3 ⟨u, hus, rfl, hn⟩
            replace hg := hid (hg.out.trans hn)
            clear hn
            have x1 := dual_dualT HT.out
            have x2 : dualT ⟨#[48, 49, 50, 51, 52, 53, 54, 55, 56, 57, 97, 98, 99, 100, 101, 102]⟩ = ⟨#[48, 49, 50, 51, 52, 53, 54, 55, 56, 57, 97, 98, 99, 100, 101, 102]⟩ := dual_skip
            by_cases hu : TValid u
            · have HU := hid hu
              clear hu hus
              have x3 := dual_meet t u
              have x4 := dual_then t u
              have x5 := dual_ref t u
              go_wp2_with (first | (go_at_call 18; refine (iTransValid_yes _ (Hid.out (by with_reducible (repeat (first | assumption | apply ht_then | apply ht_meet | apply ht_join | apply ht_dual | exact ht_assert _ (by assumption) | exact ht_assume _ | exact ht_skip | exact ht_fail | exact ht_full)))) _).mono ?_; rintro e w' ⟨rfl, hn⟩; replace hg := hid (hg.out.trans hn); clear hn) | (go_at_call 27; refine (dMeet _ _ (Hid.out (by with_reducible (repeat (first | assumption | apply ht_then | apply ht_meet | apply ht_join | apply ht_dual | exact ht_assert _ (by assumption) | exact ht_assume _ | exact ht_skip | exact ht_fail | exact ht_full)))) (Hid.out (by with_reducible (repeat (first | assumption | apply ht_then | apply ht_meet | apply ht_join | apply ht_dual | exact ht_assert _ (by assumption) | exact ht_assume _ | exact ht_skip | exact ht_fail | exact ht_full)))) _).mono ?_; rintro e w' ⟨rfl, hn⟩; replace hg := hid (hg.out.trans hn); clear hn) | (go_at_call 28; refine (dJoin _ _ (Hid.out (by with_reducible (repeat (first | assumption | apply ht_then | apply ht_meet | apply ht_join | apply ht_dual | exact ht_assert _ (by assumption) | exact ht_assume _ | exact ht_skip | exact ht_fail | exact ht_full)))) (Hid.out (by with_reducible (repeat (first | assumption | apply ht_then | apply ht_meet | apply ht_join | apply ht_dual | exact ht_assert _ (by assumption) | exact ht_assume _ | exact ht_skip | exact ht_fail | exact ht_full)))) _).mono ?_; rintro e w' ⟨rfl, hn⟩; replace hg := hid (hg.out.trans hn); clear hn) | (go_at_call 26; refine (dThen _ _ (Hid.out (by with_reducible (repeat (first | assumption | apply ht_then | apply ht_meet | apply ht_join | apply ht_dual | exact ht_assert _ (by assumption) | exact ht_assume _ | exact ht_skip | exact ht_fail | exact ht_full)))) (Hid.out (by with_reducible (repeat (first | assumption | apply ht_then | apply ht_meet | apply ht_join | apply ht_dual | exact ht_assert _ (by assumption) | exact ht_assume _ | exact ht_skip | exact ht_fail | exact ht_full)))) _).mono ?_; rintro e w' ⟨rfl, hn⟩; replace hg := hid (hg.out.trans hn); clear hn) | (go_at_call 36; refine (dDual _ (Hid.out (by with_reducible (repeat (first | assumption | apply ht_then | apply ht_meet | apply ht_join | apply ht_dual | exact ht_assert _ (by assumption) | exact ht_assume _ | exact ht_skip | exact ht_fail | exact ht_full)))) _).mono ?_; rintro e w' ⟨rfl, hn⟩; replace hg := hid (hg.out.trans hn); clear hn) | (go_at_call 25; refine (pRef _ _ (Hid.out (by with_reducible (repeat (first | assumption | apply ht_then | apply ht_meet | apply ht_join | apply ht_dual | exact ht_assert _ (by assumption) | exact ht_assume _ | exact ht_skip | exact ht_fail | exact ht_full)))) (Hid.out (by with_reducible (repeat (first | assumption | apply ht_then | apply ht_meet | apply ht_join | apply ht_dual | exact ht_assert _ (by assumption) | exact ht_assume _ | exact ht_skip | exact ht_fail | exact ht_full)))) _).mono ?_; rintro e w' ⟨rfl, hn⟩; replace hg := hid (hg.out.trans hn); clear hn) | fail)
              go_ret
              exact ⟨rfl, hg.out⟩
            · have HU := hid hu
              clear hu
              go_wp2_with fail
              refine (iTransValid_no u HU.out _).mono ?_
              rintro e w' ⟨rfl, hn⟩
              replace hg := hid (hg.out.trans hn)
              clear hn
              go_wp2_with (first | (go_at_call 36; refine (dDual _ (Hid.out (by with_reducible (repeat (first | assumption | apply ht_then | apply ht_meet | apply ht_join | apply ht_dual | exact ht_assert _ (by assumption) | exact ht_assume _ | exact ht_skip | exact ht_fail | exact ht_full)))) _).mono ?_; rintro e w' ⟨rfl, hn⟩; replace hg := hid (hg.out.trans hn); clear hn) | fail)
              go_ret
              exact ⟨rfl, hg.out⟩
      · have HN := hid hv
        have HS := hid hts
        clear hv hts
        go_wp2_with (first | (go_at_call 51; refine (iDualT_no t HN.out _).mono ?_; rintro e w' ⟨rfl, hn⟩; replace hg := hid (hg.out.trans hn); clear hn) | (go_at_call 52; refine (sDualT_no t HS.out HN.out _).mono ?_; rintro e w' ⟨rfl, rfl⟩) | (go_at_call 18; refine (iTransValid_no t HN.out _).mono ?_; rintro e w' ⟨rfl, hn⟩; replace hg := hid (hg.out.trans hn); clear hn) | fail)
        go_ret
        exact ⟨rfl, hg.out⟩
end Go.Proofs.Ytipkalbomjfckaa
