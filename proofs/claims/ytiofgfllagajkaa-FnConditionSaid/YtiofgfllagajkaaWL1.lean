/-
  The walks of the laws of conditions (FnHasState, FnCondition): the law returns true, for every slice of bytes.
-/
import Derived.Test.YtiofgfllagajkaaD2
namespace Go.Proofs.Ytiofgfllagajkaa
open Go.RowKit
theorem has_and (p q s : Nat) : has (andN p q) s = (has p s && has q s) := by unfold has andN; rw [Nat.testBit_and]
theorem has_or (p q s : Nat) : has (orN p q) s = (has p s || has q s) := by unfold has orN; rw [Nat.testBit_or]
theorem has_diff (p q s : Nat) (hs : s < 16) : has (diff p q) s = (has p s && !has q s) := by
  unfold has diff; rw [Nat.testBit_and, Nat.testBit_xor, testBit_full]; simp [hs]
theorem has_15 (s : Nat) (hs : s < 4) : has 15 s = true := by
  unfold has
  rw [show (15 : Nat) = 2 ^ 4 - 1 from rfl, Nat.testBit_two_pow_sub_one]; simpa using hs
theorem has_not (p s : Nat) (hs : s < 4) : has (notN p) s = !has p s := by
  unfold notN; rw [has_diff _ _ _ (by omega), has_15 _ hs]; simp
theorem sub_has (p q s : Nat) (h : sub p q = true) (hs : s < 16) (hp : has p s = true) : has q s = true := by
  unfold sub at h
  have h0 : diff p q = 0 := by simpa using h
  have := has_diff p q s hs
  rw [h0, has_zero, hp] at this
  simpa using this
theorem orN16 (p q : Nat) (hp : p < 16) (hq : q < 16) : orN p q < 16 := Nat.or_lt_two_pow (n := 4) hp hq
theorem andN16 (p q : Nat) (hp : p < 16) : andN p q < 16 := Nat.lt_of_le_of_lt Nat.and_le_left hp
theorem notN16 (p : Nat) : notN p < 16 := Nat.lt_of_le_of_lt Nat.and_le_left (by omega)
set_option maxHeartbeats 1000000 in
theorem wFnHasState (a0 : Option Addr) (len0 cap0 : Nat) (z0 : List Int) (w : World) (w0 : IsRow .u8 w a0 len0 cap0 z0) :
    Calls Try.prog 8 #[.slice a0 len0 cap0] w fun e w' => e = .returned (.bool true) ∧ Grew w w' := by
  have W0 := hid w0
  clear w0
  by_cases hl : 1048576 < len0
  · have hl' : (1048576 : Int) < (len0 : Int) := by omega
    go_enter Try.func8, Try.ntmps8
    go_wp2_with fail
    go_ret
    exact ⟨rfl, Grew.refl _⟩
  · have hl' : ¬ (1048576 : Int) < (len0 : Int) := by omega
    go_enter Try.func8, Try.ntmps8
    go_wp2_with fail
    refine (DrawHasState_any a0 len0 cap0 z0 w W0.out (by omega)).mono ?_
    rintro e w1 ⟨p, s, rfl, hg⟩
    have HG := hid hg
    clear hg
    rcases condOr p with ⟨n, hn, rfl⟩ | hp
    · have hc := condI_yes n hn
      have hcnt := cntI_yes n hn
      go_wp2_with (first | (go_at_call 25; refine (iHas_all _ _ _).mono ?_; rintro e w' ⟨rfl, rfl⟩) | (go_at_call 26; refine (sHas_all _ _ _).mono ?_; rintro e w' ⟨rfl, rfl⟩) | (go_at_call 27; refine (iCond_all _ _).mono ?_; rintro e w' ⟨rfl, rfl⟩) | fail)
      go_loop [6, 7] (fun v u => ∃ k : Nat, k ≤ 4 ∧ u = .int .i64 k ∧ v = .int .i64 (onesTo n k : Nat)) (fun _ u => 4 - (intOf u).toNat)
      case atStart => exact ⟨0, by omega, rfl, rfl⟩
      case round =>
        obtain ⟨k, hk, rfl, rfl⟩ := hrel
        by_cases hlt : k < 4
        · have hl1 : (k : Int) < 4 := by omega
          have hh := hasI_yes n k hn hlt
          have hle := onesTo_le n k
          have hnext : onesTo n (k + 1) = onesTo n k + has01 n k := rfl
          unfold has01 at hnext
          cases hb : has n k
          · rw [hb] at hnext hh
            have HN := hid hnext
            clear hnext
            go_wp2_with (first | (go_at_call 25; refine (iHas_all _ _ _).mono ?_; rintro e w' ⟨rfl, rfl⟩) | fail)
            go_round
            case rel => exact ⟨k + 1, by omega, by go_num, by rw [HN.out]; rfl⟩
            case measure => simp [intOf]; omega
          · rw [hb] at hnext hh
            have HN := hid hnext
            clear hnext
            go_wp2_with (first | (go_at_call 25; refine (iHas_all _ _ _).mono ?_; rintro e w' ⟨rfl, rfl⟩) | fail)
            go_round
            case rel => exact ⟨k + 1, by omega, by go_num, by rw [HN.out]; rfl⟩
            case measure => simp [intOf]; omega
        · obtain rfl : k = 4 := by omega
          have hones : ones n = onesTo n 4 := rfl
          rcases stateOr s with ⟨m, hm, rfl⟩ | hs
          · have hm1 : (0 : Int) ≤ (m : Int) := by omega
            have hm2 : (m : Int) < 4 := by omega
            go_wp2_with (first | (go_at_call 28; refine (iCnt_all _ _).mono ?_; rintro e w' ⟨rfl, rfl⟩) | fail)
            go_ret
            exact ⟨rfl, HG.out⟩
          · have hs2 := hasI_no2 (n : Int) s (stateI_no s hs)
            rcases hs with hs | hs
            · have hs3 : decide (0 ≤ s) = false := by simp; omega
              go_wp2_with (first | (go_at_call 28; refine (iCnt_all _ _).mono ?_; rintro e w' ⟨rfl, rfl⟩) | fail)
              go_ret
              exact ⟨rfl, HG.out⟩
            · have hs3 : decide (s < 4) = false := by simp; omega
              have hs4 : 0 ≤ s := by omega
              go_wp2_with (first | (go_at_call 28; refine (iCnt_all _ _).mono ?_; rintro e w' ⟨rfl, rfl⟩) | fail)
              go_ret
              exact ⟨rfl, HG.out⟩
    · have hc := condI_no p hp
      have hh := hasI_no p s hc
      have HP := hid hp
      clear hp
      go_wp2_with (first | (go_at_call 25; refine (iHas_all _ _ _).mono ?_; rintro e w' ⟨rfl, rfl⟩) | (go_at_call 26; refine (sHas_all _ _ _).mono ?_; rintro e w' ⟨rfl, rfl⟩) | (go_at_call 27; refine (iCond_all _ _).mono ?_; rintro e w' ⟨rfl, rfl⟩) | fail)
      go_ret
      exact ⟨rfl, HG.out⟩
theorem and_sub : ∀ n : Nat, n < 16 → ∀ m : Nat, m < 16 → (andN n m == n) = sub n m := by decide +kernel
theorem or_sub : ∀ n : Nat, n < 16 → ∀ m : Nat, m < 16 → (orN n m == m) = sub n m := by decide +kernel
theorem ones_sum : ∀ n : Nat, n < 16 → ∀ m : Nat, m < 16 → ones (andN n m) + ones (orN n m) = ones n + ones m := by decide +kernel
theorem and_subI (n m : Nat) (hn : n < 16) (hm : m < 16) : (((andN n m : Nat) : Int) == (n : Int)) = sub n m := by
  rw [← and_sub n hn m hm, Bool.eq_iff_iff]; simp; omega
theorem or_subI (n m : Nat) (hn : n < 16) (hm : m < 16) : (((orN n m : Nat) : Int) == (m : Int)) = sub n m := by
  rw [← or_sub n hn m hm, Bool.eq_iff_iff]; simp; omega
set_option maxRecDepth 100000 in
set_option maxHeartbeats 2000000 in
theorem wFnCondition (a0 : Option Addr) (len0 cap0 : Nat) (z0 : List Int) (w : World) (w0 : IsRow .u8 w a0 len0 cap0 z0) :
    Calls Try.prog 9 #[.slice a0 len0 cap0] w fun e w' => e = .returned (.bool true) ∧ Grew w w' := by
  have W0 := hid w0
  clear w0
  by_cases hl : 1048576 < len0
  · have hl' : (1048576 : Int) < (len0 : Int) := by omega
    go_enter Try.func9, Try.ntmps9
    go_wp2_with fail
    go_ret
    exact ⟨rfl, Grew.refl _⟩
  · have hl' : ¬ (1048576 : Int) < (len0 : Int) := by omega
    go_enter Try.func9, Try.ntmps9
    go_wp2_with fail
    refine (DrawImplies_any a0 len0 cap0 z0 w W0.out (by omega)).mono ?_
    rintro e w1 ⟨p, q, rfl, hg⟩
    have HG := hid hg
    clear hg
    rcases condOr p with ⟨n, hn, rfl⟩ | hp
    · rcases condOr q with ⟨m, hm, rfl⟩ | hq
      · have c1 := condI_yes n hn
        have c2 := condI_yes m hm
        have e1 := andI_yes n m hn hm
        have e2 := orI_yes n m hn hm
        have e3 := notI_yes n hn
        have e4 := impI_yes n m hn hm
        go_wp2_with (first | (go_at_call 30; refine (iAnd_all _ _ _).mono ?_; rintro e w' ⟨rfl, rfl⟩) | (go_at_call 31; refine (iOr_all _ _ _).mono ?_; rintro e w' ⟨rfl, rfl⟩) | (go_at_call 32; refine (iNot_all _ _).mono ?_; rintro e w' ⟨rfl, rfl⟩) | (go_at_call 33; refine (iImp_all _ _ _).mono ?_; rintro e w' ⟨rfl, rfl⟩) | (go_at_call 34; refine (sAnd_all _ _ _).mono ?_; rintro e w' ⟨rfl, rfl⟩) | (go_at_call 35; refine (sOr_all _ _ _).mono ?_; rintro e w' ⟨rfl, rfl⟩) | (go_at_call 36; refine (sNot_all _ _).mono ?_; rintro e w' ⟨rfl, rfl⟩) | (go_at_call 37; refine (sImp_all _ _ _).mono ?_; rintro e w' ⟨rfl, rfl⟩) | (go_at_call 27; refine (iCond_all _ _).mono ?_; rintro e w' ⟨rfl, rfl⟩) | fail)
        go_loop [9, 10, 11] (fun u _ _ => ∃ k : Nat, k ≤ 4 ∧ u = .int .i64 k) (fun u _ _ => 4 - (intOf u).toNat)
        case atStart => exact ⟨0, by omega, rfl⟩
        case round =>
          obtain ⟨k, hk, rfl⟩ := hrel
          by_cases hlt : k < 4
          · have hl1 : (k : Int) < 4 := by omega
            have f1 := hasI_yes n k hn hlt
            have f2 := hasI_yes m k hm hlt
            have f3 := hasI_yes (andN n m) k (andN16 n m hn) hlt
            have f4 := hasI_yes (orN n m) k (orN16 n m hn hm) hlt
            have f5 := hasI_yes (notN n) k (notN16 n) hlt
            rw [has_and] at f3
            rw [has_or] at f4
            rw [has_not _ _ hlt] at f5
            have hsub := sub_has n m k
            cases g1 : has n k
            · cases g2 : has m k
              all_goals
                rw [g1, g2] at f3 f4
                rw [g1] at f1 f5
                rw [g2] at f2
                clear hsub
                cases g3 : sub n m
                all_goals
                  rw [g3] at e4
                  go_wp2_with (first | (go_at_call 25; refine (iHas_all _ _ _).mono ?_; rintro e w' ⟨rfl, rfl⟩) | fail)
                  go_round
                  case rel => exact ⟨k + 1, by omega, by go_num⟩
                  case measure => simp [intOf]; omega
            · cases g2 : has m k
              · rw [g1, g2] at f3 f4
                rw [g1] at f1 f5
                rw [g2] at f2
                cases g3 : sub n m
                · rw [g3] at e4
                  clear hsub
                  go_wp2_with (first | (go_at_call 25; refine (iHas_all _ _ _).mono ?_; rintro e w' ⟨rfl, rfl⟩) | fail)
                  go_round
                  case rel => exact ⟨k + 1, by omega, by go_num⟩
                  case measure => simp [intOf]; omega
                · have := hsub g3 (by omega) g1
                  rw [g2] at this
                  exact absurd this (by decide)
              · rw [g1, g2] at f3 f4
                rw [g1] at f1 f5
                rw [g2] at f2
                clear hsub
                cases g3 : sub n m
                all_goals
                  rw [g3] at e4
                  go_wp2_with (first | (go_at_call 25; refine (iHas_all _ _ _).mono ?_; rintro e w' ⟨rfl, rfl⟩) | fail)
                  go_round
                  case rel => exact ⟨k + 1, by omega, by go_num⟩
                  case measure => simp [intOf]; omega
          · obtain rfl : k = 4 := by omega
            have k1 := and_subI n m hn hm
            have k2 := or_subI n m hn hm
            have k3 := cntI_yes n hn
            have k4 := cntI_yes m hm
            have k5 := cntI_yes (andN n m) (andN16 n m hn)
            have k6 := cntI_yes (orN n m) (orN16 n m hn hm)
            have l1 := ones_le n
            have l2 := ones_le m
            have l3 := ones_le (andN n m)
            have l4 := ones_le (orN n m)
            have hs := ones_sum n hn m hm
            have k7 : ((((ones (andN n m) : Nat) : Int) + ((ones (orN n m) : Nat) : Int)) == (((ones n : Nat) : Int) + ((ones m : Nat) : Int))) = true := by simp; omega
            clear hs
            cases g3 : sub n m
            all_goals
              rw [g3] at e4 k1 k2
              go_wp2_with (first | (go_at_call 28; refine (iCnt_all _ _).mono ?_; rintro e w' ⟨rfl, rfl⟩) | fail)
              go_ret
              exact ⟨rfl, HG.out⟩
      · have c1 := condI_yes n hn
        have c2 := condI_no q hq
        have e1 := andI_no2 (n : Int) q c2
        have e2 := orI_no2 (n : Int) q c2
        have e3 := notI_yes n hn
        have e4 := impI_no2 (n : Int) q c2
        clear hq
        go_wp2_with (first | (go_at_call 30; refine (iAnd_all _ _ _).mono ?_; rintro e w' ⟨rfl, rfl⟩) | (go_at_call 31; refine (iOr_all _ _ _).mono ?_; rintro e w' ⟨rfl, rfl⟩) | (go_at_call 32; refine (iNot_all _ _).mono ?_; rintro e w' ⟨rfl, rfl⟩) | (go_at_call 33; refine (iImp_all _ _ _).mono ?_; rintro e w' ⟨rfl, rfl⟩) | (go_at_call 34; refine (sAnd_all _ _ _).mono ?_; rintro e w' ⟨rfl, rfl⟩) | (go_at_call 35; refine (sOr_all _ _ _).mono ?_; rintro e w' ⟨rfl, rfl⟩) | (go_at_call 36; refine (sNot_all _ _).mono ?_; rintro e w' ⟨rfl, rfl⟩) | (go_at_call 37; refine (sImp_all _ _ _).mono ?_; rintro e w' ⟨rfl, rfl⟩) | (go_at_call 27; refine (iCond_all _ _).mono ?_; rintro e w' ⟨rfl, rfl⟩) | fail)
        go_ret
        exact ⟨rfl, HG.out⟩
    · have c1 := condI_no p hp
      have e1 := andI_no p q c1
      have e2 := orI_no p q c1
      have e3 := notI_no p c1
      have e4 := impI_no p q c1
      clear hp
      go_wp2_with (first | (go_at_call 30; refine (iAnd_all _ _ _).mono ?_; rintro e w' ⟨rfl, rfl⟩) | (go_at_call 31; refine (iOr_all _ _ _).mono ?_; rintro e w' ⟨rfl, rfl⟩) | (go_at_call 32; refine (iNot_all _ _).mono ?_; rintro e w' ⟨rfl, rfl⟩) | (go_at_call 33; refine (iImp_all _ _ _).mono ?_; rintro e w' ⟨rfl, rfl⟩) | (go_at_call 34; refine (sAnd_all _ _ _).mono ?_; rintro e w' ⟨rfl, rfl⟩) | (go_at_call 35; refine (sOr_all _ _ _).mono ?_; rintro e w' ⟨rfl, rfl⟩) | (go_at_call 36; refine (sNot_all _ _).mono ?_; rintro e w' ⟨rfl, rfl⟩) | (go_at_call 37; refine (sImp_all _ _ _).mono ?_; rintro e w' ⟨rfl, rfl⟩) | (go_at_call 27; refine (iCond_all _ _).mono ?_; rintro e w' ⟨rfl, rfl⟩) | fail)
      go_ret
      exact ⟨rfl, HG.out⟩
end Go.Proofs.Ytiofgfllagajkaa
