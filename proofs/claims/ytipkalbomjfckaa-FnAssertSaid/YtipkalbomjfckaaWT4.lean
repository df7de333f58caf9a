/-
  The walk of the law FnAssert: it returns true, for all slices of bytes.
-/
import Derived.Test.YtipkalbomjfckaaD4
import Derived.Test.YtipkalbomjfckaaT1
namespace Go.Proofs.Ytipkalbomjfckaa
open Go.RowKit
theorem mod16 (n : Nat) : ∃ m : Nat, (n : Int) % 16 = (m : Int) ∧ m < 16 := ⟨n % 16, by omega, by omega⟩
set_option maxRecDepth 100000 in
set_option maxHeartbeats 4000000 in
theorem wFnAssert (a0 : Option Addr) (len0 cap0 : Nat) (z0 : List Int) (a1 : Option Addr) (len1 cap1 : Nat) (z1 : List Int) (w : World) (w0 : IsRow .u8 w a0 len0 cap0 z0) (w1 : IsRow .u8 w a1 len1 cap1 z1) :
    Calls Try.prog 6 #[.slice a0 len0 cap0, .slice a1 len1 cap1] w fun e w' => e = .returned (.bool true) ∧ Grew w w' := by
  have W0 := hid w0
  have W1 := hid w1
  clear w0 w1
  by_cases hl : 1048576 < len0
  · have hl' : (1048576 : Int) < (len0 : Int) := by omega
    go_enter Try.func6, Try.ntmps6
    go_wp2_with fail
    go_ret
    exact ⟨rfl, Grew.refl _⟩
  · have hl' : ¬ (1048576 : Int) < (len0 : Int) := by omega
    by_cases hk : 1048576 < len1
    · have hk' : (1048576 : Int) < (len1 : Int) := by omega
      go_enter Try.func6, Try.ntmps6
      go_wp2_with fail
      go_ret
      exact ⟨rfl, Grew.refl _⟩
    · have hk' : ¬ (1048576 : Int) < (len1 : Int) := by omega
      go_enter Try.func6, Try.ntmps6
      go_wp2_with fail
      refine (DrawAssertTrans_any a0 len0 cap0 z0 w W0.out (by omega)).mono ?_
      rintro e w2 ⟨p, rfl, hg⟩
      replace hg := hid hg
      rcases condOr p with ⟨n, hn16, rfl⟩ | hp
      · obtain ⟨m, hm, hm16⟩ := mod16 len1
        have e1 := andI_yes n m hn16 hm16
        have x1 := dual_assertT n hn16
        have x2 : refT (assertT n) ⟨#[48, 49, 50, 51, 52, 53, 54, 55, 56, 57, 97, 98, 99, 100, 101, 102]⟩ = true := assert_skip n hn16
        have x3 : refT ⟨#[48, 49, 50, 51, 52, 53, 54, 55, 56, 57, 97, 98, 99, 100, 101, 102]⟩ (assumeT n) = true := skip_assume n
        have x4 := assert_then n m hn16 hm16
        have x5 := assert_assume n hn16
        have l1 := and16 n m hn16
        have HA := ht_assert n hn16
        have HM := ht_assume n
        have HK := ht_assert m hm16
        go_wp2_with (first | (go_at_call 30; refine (pAssert _ (by first | assumption | exact dv_lt _ _ | exact and16 _ _ (by assumption) | exact orN_16 _ _ (by assumption) (by assumption) | exact diff15_lt _) _).mono ?_; rintro e w' ⟨rfl, hn⟩; replace hg := hid (hg.out.trans hn); clear hn) | (go_at_call 31; refine (rAssert _ (by first | assumption | exact dv_lt _ _ | exact and16 _ _ (by assumption) | exact orN_16 _ _ (by assumption) (by assumption) | exact diff15_lt _) _).mono ?_; rintro e w' ⟨rfl, rfl⟩) | (go_at_call 32; refine (pAssume _ (by first | assumption | exact dv_lt _ _ | exact and16 _ _ (by assumption) | exact orN_16 _ _ (by assumption) (by assumption) | exact diff15_lt _) _).mono ?_; rintro e w' ⟨rfl, hn⟩; replace hg := hid (hg.out.trans hn); clear hn) | (go_at_call 33; refine (rAssume _ (by first | assumption | exact dv_lt _ _ | exact and16 _ _ (by assumption) | exact orN_16 _ _ (by assumption) (by assumption) | exact diff15_lt _) _).mono ?_; rintro e w' ⟨rfl, rfl⟩) | fail)
        refine (DrawRefinesTrans_any a1 len1 cap1 z1 _ (W1.out.grew hg.out) (by omega)).mono ?_
        rintro e w3 ⟨t, u, hts, hus, rfl, hn⟩
        replace hg := hid (hg.out.trans hn)
        clear hn
        by_cases ht : TValid t
        · have HT := hid ht
          clear ht hts
          by_cases hu : TValid u
          · have HU := hid hu
            clear hu hus
            have x6 := assert_ref n hn16 t u
            go_wp2_with (first | (go_at_call 18; refine (iTransValid_yes _ (Hid.out (by with_reducible (repeat (first | assumption | apply ht_then | apply ht_meet | apply ht_join | apply ht_dual | exact ht_assert _ (by assumption) | exact ht_assume _ | exact ht_skip | exact ht_fail | exact ht_full)))) _).mono ?_; rintro e w' ⟨rfl, hn⟩; replace hg := hid (hg.out.trans hn); clear hn) | (go_at_call 35; refine (iAnd_all _ _ _).mono ?_; rintro e w' ⟨rfl, rfl⟩) | (go_at_call 30; refine (pAssert _ (by first | assumption | exact dv_lt _ _ | exact and16 _ _ (by assumption) | exact orN_16 _ _ (by assumption) (by assumption) | exact diff15_lt _) _).mono ?_; rintro e w' ⟨rfl, hn⟩; replace hg := hid (hg.out.trans hn); clear hn) | (go_at_call 36; refine (dDual _ (Hid.out (by with_reducible (repeat (first | assumption | apply ht_then | apply ht_meet | apply ht_join | apply ht_dual | exact ht_assert _ (by assumption) | exact ht_assume _ | exact ht_skip | exact ht_fail | exact ht_full)))) _).mono ?_; rintro e w' ⟨rfl, hn⟩; replace hg := hid (hg.out.trans hn); clear hn) | (go_at_call 26; refine (dThen _ _ (Hid.out (by with_reducible (repeat (first | assumption | apply ht_then | apply ht_meet | apply ht_join | apply ht_dual | exact ht_assert _ (by assumption) | exact ht_assume _ | exact ht_skip | exact ht_fail | exact ht_full)))) (Hid.out (by with_reducible (repeat (first | assumption | apply ht_then | apply ht_meet | apply ht_join | apply ht_dual | exact ht_assert _ (by assumption) | exact ht_assume _ | exact ht_skip | exact ht_fail | exact ht_full)))) _).mono ?_; rintro e w' ⟨rfl, hn⟩; replace hg := hid (hg.out.trans hn); clear hn) | (go_at_call 25; refine (pRef _ _ (Hid.out (by with_reducible (repeat (first | assumption | apply ht_then | apply ht_meet | apply ht_join | apply ht_dual | exact ht_assert _ (by assumption) | exact ht_assume _ | exact ht_skip | exact ht_fail | exact ht_full)))) (Hid.out (by with_reducible (repeat (first | assumption | apply ht_then | apply ht_meet | apply ht_join | apply ht_dual | exact ht_assert _ (by assumption) | exact ht_assume _ | exact ht_skip | exact ht_fail | exact ht_full)))) _).mono ?_; rintro e w' ⟨rfl, hn⟩; replace hg := hid (hg.out.trans hn); clear hn) | fail)
            go_ret
            exact ⟨rfl, hg.out⟩
          · have HU := hid hu
            clear hu hus
            go_wp2_with fail
            refine (iTransValid_yes t HT.out _).mono ?_
            rintro e w' ⟨rfl, hn⟩
            replace hg := hid (hg.out.trans hn)
            clear hn
            go_wp2_with fail
            refine (iTransValid_no u HU.out _).mono ?_
            rintro e w' ⟨rfl, hn⟩
            replace hg := hid (hg.out.trans hn)
            clear hn
            go_wp2_with (first | (go_at_call 35; refine (iAnd_all _ _ _).mono ?_; rintro e w' ⟨rfl, rfl⟩) | (go_at_call 30; refine (pAssert _ (by first | assumption | exact dv_lt _ _ | exact and16 _ _ (by assumption) | exact orN_16 _ _ (by assumption) (by assumption) | exact diff15_lt _) _).mono ?_; rintro e w' ⟨rfl, hn⟩; replace hg := hid (hg.out.trans hn); clear hn) | (go_at_call 36; refine (dDual _ (Hid.out (by with_reducible (repeat (first | assumption | apply ht_then | apply ht_meet | apply ht_join | apply ht_dual | exact ht_assert _ (by assumption) | exact ht_assume _ | exact ht_skip | exact ht_fail | exact ht_full)))) _).mono ?_; rintro e w' ⟨rfl, hn⟩; replace hg := hid (hg.out.trans hn); clear hn) | (go_at_call 26; refine (dThen _ _ (Hid.out (by with_reducible (repeat (first | assumption | apply ht_then | apply ht_meet | apply ht_join | apply ht_dual | exact ht_assert _ (by assumption) | exact ht_assume _ | exact ht_skip | exact ht_fail | exact ht_full)))) (Hid.out (by with_reducible (repeat (first | assumption | apply ht_then | apply ht_meet | apply ht_join | apply ht_dual | exact ht_assert _ (by assumption) | exact ht_assume _ | exact ht_skip | exact ht_fail | exact ht_full)))) _).mono ?_; rintro e w' ⟨rfl, hn⟩; replace hg := hid (hg.out.trans hn); clear hn) | (go_at_call 25; refine (pRef _ _ (Hid.out (by with_reducible (repeat (first | assumption | apply ht_then | apply ht_meet | apply ht_join | apply ht_dual | exact ht_assert _ (by assumption) | exact ht_assume _ | exact ht_skip | exact ht_fail | exact ht_full)))) (Hid.out (by with_reducible (repeat (first | assumption | apply ht_then | apply ht_meet | apply ht_join | apply ht_dual | exact ht_assert _ (by assumption) | exact ht_assume _ | exact ht_skip | exact ht_fail | exact ht_full)))) _).mono ?_; rintro e w' ⟨rfl, hn⟩; replace hg := hid (hg.out.trans hn); clear hn) | fail)
            go_ret
            exact ⟨rfl, hg.out⟩
        · have HT := hid ht
          clear ht hts
          go_wp2_with fail
          refine (iTransValid_no t HT.out _).mono ?_
          rintro e w' ⟨rfl, hn⟩
          replace hg := hid (hg.out.trans hn)
          clear hn
          go_wp2_with (first | (go_at_call 35; refine (iAnd_all _ _ _).mono ?_; rintro e w' ⟨rfl, rfl⟩) | (go_at_call 30; refine (pAssert _ (by first | assumption | exact dv_lt _ _ | exact and16 _ _ (by assumption) | exact orN_16 _ _ (by assumption) (by assumption) | exact diff15_lt _) _).mono ?_; rintro e w' ⟨rfl, hn⟩; replace hg := hid (hg.out.trans hn); clear hn) | (go_at_call 36; refine (dDual _ (Hid.out (by with_reducible (repeat (first | assumption | apply ht_then | apply ht_meet | apply ht_join | apply ht_dual | exact ht_assert _ (by assumption) | exact ht_assume _ | exact ht_skip | exact ht_fail | exact ht_full)))) _).mono ?_; rintro e w' ⟨rfl, hn⟩; replace hg := hid (hg.out.trans hn); clear hn) | (go_at_call 26; refine (dThen _ _ (Hid.out (by with_reducible (repeat (first | assumption | apply ht_then | apply ht_meet | apply ht_join | apply ht_dual | exact ht_assert _ (by assumption) | exact ht_assume _ | exact ht_skip | exact ht_fail | exact ht_full)))) (Hid.out (by with_reducible (repeat (first | assumption | apply ht_then | apply ht_meet | apply ht_join | apply ht_dual | exact ht_assert _ (by assumption) | exact ht_assume _ | exact ht_skip | exact ht_fail | exact ht_full)))) _).mono ?_; rintro e w' ⟨rfl, hn⟩; replace hg := hid (hg.out.trans hn); clear hn) | (go_at_call 25; refine (pRef _ _ (Hid.out (by with_reducible (repeat (first | assumption | apply ht_then | apply ht_meet | apply ht_join | apply ht_dual | exact ht_assert _ (by assumption) | exact ht_assume _ | exact ht_skip | exact ht_fail | exact ht_full)))) (Hid.out (by with_reducible (repeat (first | assumption | apply ht_then | apply ht_meet | apply ht_join | apply ht_dual | exact ht_assert _ (by assumption) | exact ht_assume _ | exact ht_skip | exact ht_fail | exact ht_full)))) _).mono ?_; rintro e w' ⟨rfl, hn⟩; replace hg := hid (hg.out.trans hn); clear hn) | fail)
          go_ret
          exact ⟨rfl, hg.out⟩
      · have HP := hid hp
        clear hp
        go_wp2_with (first | (go_at_call 30; refine (assertTrans_no _ HP.out _).mono ?_; rintro e w' ⟨rfl, hn⟩; replace hg := hid (hg.out.trans hn); clear hn) | (go_at_call 31; refine (sAssertTrans_no _ HP.out _).mono ?_; rintro e w' ⟨rfl, rfl⟩) | (go_at_call 32; refine (iAssumeT_no _ HP.out _).mono ?_; rintro e w' ⟨rfl, hn⟩; replace hg := hid (hg.out.trans hn); clear hn) | (go_at_call 33; refine (sAssumeT_no _ HP.out _).mono ?_; rintro e w' ⟨rfl, rfl⟩) | fail)
        go_ret
        exact ⟨rfl, hg.out⟩
end Go.Proofs.Ytipkalbomjfckaa
