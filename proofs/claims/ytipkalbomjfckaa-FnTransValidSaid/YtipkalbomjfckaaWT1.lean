/-
  The walk of the law FnTransValid: it returns true, for all slices of bytes.
-/
import Derived.Test.YtipkalbomjfckaaD4
import Derived.Test.YtipkalbomjfckaaT1
namespace Go.Proofs.Ytipkalbomjfckaa
open Go.RowKit
theorem mod16 (n : Nat) : ∃ m : Nat, (n : Int) % 16 = (m : Int) ∧ m < 16 := ⟨n % 16, by omega, by omega⟩
set_option maxRecDepth 100000 in
set_option maxHeartbeats 4000000 in
theorem wFnTransValid (a0 : Option Addr) (len0 cap0 : Nat) (z0 : List Int) (a1 : Option Addr) (len1 cap1 : Nat) (z1 : List Int) (w : World) (w0 : IsRow .u8 w a0 len0 cap0 z0) (w1 : IsRow .u8 w a1 len1 cap1 z1) :
    Calls Try.prog 8 #[.slice a0 len0 cap0, .slice a1 len1 cap1] w fun e w' => e = .returned (.bool true) ∧ Grew w w' := by
  have W0 := hid w0
  have W1 := hid w1
  clear w0 w1
  by_cases hl : 1048576 < len0
  · have hl' : (1048576 : Int) < (len0 : Int) := by omega
    go_enter Try.func8, Try.ntmps8
    go_wp2_with fail
    go_ret
    exact ⟨rfl, Grew.refl _⟩
  · have hl' : ¬ (1048576 : Int) < (len0 : Int) := by omega
    by_cases hk : 1048576 < len1
    · have hk' : (1048576 : Int) < (len1 : Int) := by omega
      go_enter Try.func8, Try.ntmps8
      go_wp2_with fail
      go_ret
      exact ⟨rfl, Grew.refl _⟩
    · have hk' : ¬ (1048576 : Int) < (len1 : Int) := by omega
      go_enter Try.func8, Try.ntmps8
      go_wp2_with fail
      refine (DrawMonotoneTable_any a0 len0 cap0 z0 w W0.out (by omega)).mono ?_
      rintro e w2 ⟨t, hts, rfl, hg⟩
      replace hg := hid hg
      by_cases hv : TValid t
      · have HT := hid hv
        clear hv hts
        obtain ⟨m, hm, hm16⟩ := mod16 len1
        go_wp2_with (first | (go_at_call 18; refine (iTransValid_yes _ (Hid.out (by with_reducible (repeat (first | assumption | apply ht_then | apply ht_meet | apply ht_join | apply ht_dual | exact ht_assert _ (by assumption) | exact ht_assume _ | exact ht_skip | exact ht_fail | exact ht_full)))) _).mono ?_; rintro e w' ⟨rfl, hn⟩; replace hg := hid (hg.out.trans hn); clear hn) | (go_at_call 42; refine (sTransValid_yes _ (Hid.out (by with_reducible (repeat (first | assumption | apply ht_then | apply ht_meet | apply ht_join | apply ht_dual | exact ht_assert _ (by assumption) | exact ht_assume _ | exact ht_skip | exact ht_fail | exact ht_full)))) _).mono ?_; rintro e w' ⟨rfl, rfl⟩) | (go_at_call 43; refine (iMonotone_yes _ (Hid.out (by with_reducible (repeat (first | assumption | apply ht_then | apply ht_meet | apply ht_join | apply ht_dual | exact ht_assert _ (by assumption) | exact ht_assume _ | exact ht_skip | exact ht_fail | exact ht_full)))) _).mono ?_; rintro e w' ⟨rfl, hn⟩; replace hg := hid (hg.out.trans hn); clear hn) | (go_at_call 44; refine (sMonotone_yes _ (Hid.out (by with_reducible (repeat (first | assumption | apply ht_then | apply ht_meet | apply ht_join | apply ht_dual | exact ht_assert _ (by assumption) | exact ht_assume _ | exact ht_skip | exact ht_fail | exact ht_full)))) _).mono ?_; rintro e w' ⟨rfl, rfl⟩) | fail)
        rw [hm]
        go_loopw [8, 9, 10, 11, 12] (fun u _ _ _ _ wr => ∃ q : Nat, q ≤ 16 ∧ u = .int .i64 q ∧ Grew w wr) (fun u _ _ _ _ _ => 16 - (intOf u).toNat)
        case atStart => exact ⟨0, by omega, rfl, hg.out⟩
        case round =>
          obtain ⟨q, hq, rfl, hg2⟩ := hrel
          replace hg := hid hg2
          clear hg2
          by_cases hlt : q < 16
          · have hl1 : (q : Int) < 16 := by omega
            have l1 := dv_lt t m
            have l2 := dv_lt t q
            have l3 := and16 m q hm16
            have l4 := orN_16 m q hm16 hlt
            have e1 := andI_yes m q hm16 hlt
            have e2 := orI_yes m q hm16 hlt
            have e3 := impI_yes m q hm16 hlt
            have e4 := impI_yes (dv t m) (dv t q) l1 l2
            have e5 := andI_yes (dv t m) (dv t q) l1 l2
            have e6 := orI_yes (dv t m) (dv t q) l1 l2
            have e7 := impI_yes (dv t (andN m q)) (andN (dv t m) (dv t q)) (dv_lt _ _) (and16 _ _ l1)
            have e8 := impI_yes (orN (dv t m) (dv t q)) (dv t (orN m q)) (orN_16 _ _ l1 l2) (dv_lt _ _)
            rw [mono_and1 HT.out.2 (small_dv t) m q hm16 hlt] at e7
            rw [mono_or1 HT.out.2 (small_dv t) m q hm16 hlt] at e8
            cases g1 : sub m q
            · rw [g1] at e3
              clear g1
              go_wp2_with (first | (go_at_call 35; refine (iAnd_all _ _ _).mono ?_; rintro e w' ⟨rfl, rfl⟩) | (go_at_call 46; refine (iOr_all _ _ _).mono ?_; rintro e w' ⟨rfl, rfl⟩) | (go_at_call 47; refine (iImp_all _ _ _).mono ?_; rintro e w' ⟨rfl, rfl⟩) | (go_at_call 45; refine (iApply_yes _ _ (Hid.out (by with_reducible (repeat (first | assumption | apply ht_then | apply ht_meet | apply ht_join | apply ht_dual | exact ht_assert _ (by assumption) | exact ht_assume _ | exact ht_skip | exact ht_fail | exact ht_full)))) (by first | assumption | exact dv_lt _ _ | exact and16 _ _ (by assumption) | exact orN_16 _ _ (by assumption) (by assumption) | exact diff15_lt _) _).mono ?_; rintro e w' ⟨rfl, hn⟩; replace hg := hid (hg.out.trans hn); clear hn) | fail)
              go_roundw
              case rel => exact ⟨q + 1, by omega, by go_num, hg.out⟩
              case measure => simp [intOf]; omega
            · have g2 := HT.out.2 m hm16 q hlt g1
              rw [g2] at e4
              rw [g1] at e3
              clear g1 g2
              go_wp2_with (first | (go_at_call 35; refine (iAnd_all _ _ _).mono ?_; rintro e w' ⟨rfl, rfl⟩) | (go_at_call 46; refine (iOr_all _ _ _).mono ?_; rintro e w' ⟨rfl, rfl⟩) | (go_at_call 47; refine (iImp_all _ _ _).mono ?_; rintro e w' ⟨rfl, rfl⟩) | (go_at_call 45; refine (iApply_yes _ _ (Hid.out (by with_reducible (repeat (first | assumption | apply ht_then | apply ht_meet | apply ht_join | apply ht_dual | exact ht_assert _ (by assumption) | exact ht_assume _ | exact ht_skip | exact ht_fail | exact ht_full)))) (by first | assumption | exact dv_lt _ _ | exact and16 _ _ (by assumption) | exact orN_16 _ _ (by assumption) (by assumption) | exact diff15_lt _) _).mono ?_; rintro e w' ⟨rfl, hn⟩; replace hg := hid (hg.out.trans hn); clear hn) | fail)
              go_roundw
              case rel => exact ⟨q + 1, by omega, by go_num, hg.out⟩
              case measure => simp [intOf]; omega
          · obtain rfl : q = 16 := by omega
            go_wp2_with fail
            go_ret
            exact ⟨rfl, hg.out⟩
      · have HN := hid hv
        have HS := hid hts
        clear hv hts
        go_wp2_with (first | (go_at_call 18; refine (iTransValid_no _ HN.out _).mono ?_; rintro e w' ⟨rfl, hn⟩; replace hg := hid (hg.out.trans hn); clear hn) | (go_at_call 42; refine (sTransValid_no _ HS.out HN.out _).mono ?_; rintro e w' ⟨rfl, rfl⟩) | (go_at_call 43; refine (iMonotone_no _ HN.out _).mono ?_; rintro e w' ⟨rfl, hn⟩; replace hg := hid (hg.out.trans hn); clear hn) | (go_at_call 44; refine (sMonotone_no _ HS.out HN.out _).mono ?_; rintro e w' ⟨rfl, rfl⟩) | (go_at_call 45; refine (iApply_no _ _ (.inl HN.out) _).mono ?_; rintro e w' ⟨rfl, hn⟩; replace hg := hid (hg.out.trans hn); clear hn) | fail)
        go_ret
        exact ⟨rfl, hg.out⟩
end Go.Proofs.Ytipkalbomjfckaa
