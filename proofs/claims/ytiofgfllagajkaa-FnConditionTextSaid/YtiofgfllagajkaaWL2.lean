/-
  The walks of the laws of families (FnInFamily, FnDualFamily, FnCloseUp): the law returns true, for every slice of bytes.
-/
import Derived.Test.YtiofgfllagajkaaD2
import Derived.Test.YtiofgfllagajkaaI2
import Derived.Test.YtiofgfllagajkaaP1
namespace Go.Proofs.Ytiofgfllagajkaa
open Go.RowKit
theorem mod16 (n : Nat) : ∃ m : Nat, (n : Int) % 16 = (m : Int) ∧ m < 16 := ⟨n % 16, by omega, by omega⟩
theorem orN16b (p q : Nat) (hp : p < 16) (hq : q < 16) : orN p q < 16 := Nat.or_lt_two_pow (n := 4) hp hq
theorem notN_lt (p : Nat) : notN p < 16 := Nat.lt_of_le_of_lt Nat.and_le_left (by omega)
set_option maxRecDepth 100000 in
set_option maxHeartbeats 1000000 in
theorem wFnInFamily (a0 : Option Addr) (len0 cap0 : Nat) (z0 : List Int) (a1 : Option Addr) (len1 cap1 : Nat) (z1 : List Int) (w : World) (w0 : IsRow .u8 w a0 len0 cap0 z0) (_w1 : IsRow .u8 w a1 len1 cap1 z1) :
    Calls Try.prog 10 #[.slice a0 len0 cap0, .slice a1 len1 cap1] w fun e w' => e = .returned (.bool true) ∧ Grew w w' := by
  have W0 := hid w0
  clear w0 _w1
  by_cases hl : 1048576 < len0
  · have hl' : (1048576 : Int) < (len0 : Int) := by omega
    go_enter Try.func10, Try.ntmps10
    go_wp2_with fail
    go_ret
    exact ⟨rfl, Grew.refl _⟩
  · have hl' : ¬ (1048576 : Int) < (len0 : Int) := by omega
    by_cases hk : 1048576 < len1
    · have hk' : (1048576 : Int) < (len1 : Int) := by omega
      go_enter Try.func10, Try.ntmps10
      go_wp2_with fail
      go_ret
      exact ⟨rfl, Grew.refl _⟩
    · have hk' : ¬ (1048576 : Int) < (len1 : Int) := by omega
      go_enter Try.func10, Try.ntmps10
      go_wp2_with fail
      refine (DrawInFamily_any a0 len0 cap0 z0 w W0.out (by omega)).mono ?_
      rintro e w1 ⟨f, p, rfl, hg⟩
      have HG := hid hg
      clear hg
      rcases famOr f with ⟨F, hF, rfl⟩ | hf
      · rcases condOr p with ⟨n, hn, rfl⟩ | hp
        · have e1 := infI_yes F n hF hn
          have c1 := condI_yes n hn
          cases hh : has F n
          · rw [hh] at e1
            go_wp2_with (first | (go_at_call 39; refine (iInf_all _ _ _).mono ?_; rintro e w' ⟨rfl, rfl⟩) | (go_at_call 40; refine (sInf_all _ _ _).mono ?_; rintro e w' ⟨rfl, rfl⟩) | (go_at_call 41; refine (iFam_all _ _).mono ?_; rintro e w' ⟨rfl, rfl⟩) | (go_at_call 42; refine (sFam_all _ _).mono ?_; rintro e w' ⟨rfl, rfl⟩) | fail)
            go_ret
            exact ⟨rfl, HG.out⟩
          · rw [hh] at e1
            have HH := hid hh
            clear hh
            obtain ⟨m, hm, hm16⟩ := mod16 len1
            have e2 := orI_yes n m hn hm16
            have e3 := upI_yes F hF
            have e4 := infI_yes (upN F) (orN n m) (upN_lt F) (orN16b n m hn hm16)
            rw [(has_up F (orN n m) (orN16b n m hn hm16)).2 ⟨n, hn, HH.out, sub_or n hn m hm16⟩] at e4
            have e5 := leastI_yes F hF
            have e6 : (((leastN F : Nat) : Int) != 0) = true := by have := least_some F n hn HH.out; simp; omega
            go_wp2_with (first | (go_at_call 39; refine (iInf_all _ _ _).mono ?_; rintro e w' ⟨rfl, rfl⟩) | (go_at_call 40; refine (sInf_all _ _ _).mono ?_; rintro e w' ⟨rfl, rfl⟩) | (go_at_call 41; refine (iFam_all _ _).mono ?_; rintro e w' ⟨rfl, rfl⟩) | (go_at_call 42; refine (sFam_all _ _).mono ?_; rintro e w' ⟨rfl, rfl⟩) | (go_at_call 27; refine (iCond_all _ _).mono ?_; rintro e w' ⟨rfl, rfl⟩) | fail)
            refine (iUp_all _ _).mono ?_
            rintro e w2 ⟨rfl, hg2⟩
            go_wp2_with (first | (go_at_call 31; refine (iOr_all _ _ _).mono ?_; rintro e w' ⟨rfl, rfl⟩) | (go_at_call 39; refine (iInf_all _ _ _).mono ?_; rintro e w' ⟨rfl, rfl⟩) | fail)
            refine (iLeast_all _ _).mono ?_
            rintro e w3 ⟨rfl, hg3⟩
            go_wp2_with fail
            go_ret
            exact ⟨rfl, HG.out.trans (hg2.trans hg3)⟩
        · have e1 := infI_no2 (F : Int) p (condI_no p hp)
          clear hp
          go_wp2_with (first | (go_at_call 39; refine (iInf_all _ _ _).mono ?_; rintro e w' ⟨rfl, rfl⟩) | (go_at_call 40; refine (sInf_all _ _ _).mono ?_; rintro e w' ⟨rfl, rfl⟩) | (go_at_call 41; refine (iFam_all _ _).mono ?_; rintro e w' ⟨rfl, rfl⟩) | (go_at_call 42; refine (sFam_all _ _).mono ?_; rintro e w' ⟨rfl, rfl⟩) | fail)
          go_ret
          exact ⟨rfl, HG.out⟩
      · have e1 := infI_no f p (famI_no f hf)
        clear hf
        go_wp2_with (first | (go_at_call 39; refine (iInf_all _ _ _).mono ?_; rintro e w' ⟨rfl, rfl⟩) | (go_at_call 40; refine (sInf_all _ _ _).mono ?_; rintro e w' ⟨rfl, rfl⟩) | (go_at_call 41; refine (iFam_all _ _).mono ?_; rintro e w' ⟨rfl, rfl⟩) | (go_at_call 42; refine (sFam_all _ _).mono ?_; rintro e w' ⟨rfl, rfl⟩) | fail)
        go_ret
        exact ⟨rfl, HG.out⟩
set_option maxRecDepth 100000 in
set_option maxHeartbeats 1000000 in
theorem wFnDualFamily (a0 : Option Addr) (len0 cap0 : Nat) (z0 : List Int) (w : World) (w0 : IsRow .u8 w a0 len0 cap0 z0) :
    Calls Try.prog 11 #[.slice a0 len0 cap0] w fun e w' => e = .returned (.bool true) ∧ Grew w w' := by
  have W0 := hid w0
  clear w0
  by_cases hl : 1048576 < len0
  · have hl' : (1048576 : Int) < (len0 : Int) := by omega
    go_enter Try.func11, Try.ntmps11
    go_wp2_with fail
    go_ret
    exact ⟨rfl, Grew.refl _⟩
  · have hl' : ¬ (1048576 : Int) < (len0 : Int) := by omega
    go_enter Try.func11, Try.ntmps11
    go_wp2_with fail
    refine (DrawDualFamily_any a0 len0 cap0 z0 w W0.out (by omega)).mono ?_
    rintro e w1 ⟨f, rfl, hg⟩
    have HG := hid hg
    clear hg
    rcases famOr f with ⟨F, hF, rfl⟩ | hf
    · have e1 := dualI_yes F hF
      have c1 := famI_yes F hF
      have e2 := upI_yes F hF
      have p1 : ¬ ((dualN F : Nat) : Int) < 0 := by omega
      go_wp2_with fail
      refine (iDual_all _ _).mono ?_
      rintro e w2 ⟨rfl, hg2⟩
      go_wp2_with (first | (go_at_call 14; refine (sDual_all _ _).mono ?_; rintro e w' ⟨rfl, rfl⟩) | fail)
      refine (iUp_all _ _).mono ?_
      rintro e w3 ⟨rfl, hg3⟩
      have HG3 := hid (HG.out.trans (hg2.trans hg3))
      clear hg2 hg3
      go_wp2_with fail
      go_loop [6] (fun u => ∃ k : Nat, k ≤ 16 ∧ u = .int .i64 k) (fun u => 16 - (intOf u).toNat)
      case atStart => exact ⟨0, by omega, rfl⟩
      case round =>
        obtain ⟨k, hk, rfl⟩ := hrel
        by_cases hlt : k < 16
        · have hl1 : (k : Int) < 16 := by omega
          have f1 := infI_yes (dualN F) k (dualN_lt F) hlt
          have f2 := notI_yes k hlt
          have f3 := infI_yes (upN F) (notN k) (upN_lt F) (notN_lt k)
          rw [dual_not F k hlt] at f1
          unfold notN at f2 f3
          cases hb : has (upN F) (diff 15 k)
          all_goals
            rw [hb] at f1 f3
            go_wp2_with (first | (go_at_call 39; refine (iInf_all _ _ _).mono ?_; rintro e w' ⟨rfl, rfl⟩) | (go_at_call 32; refine (iNot_all _ _).mono ?_; rintro e w' ⟨rfl, rfl⟩) | fail)
            go_round
            case rel => exact ⟨k + 1, by omega, by go_num⟩
            case measure => simp [intOf]; omega
        · obtain rfl : k = 16 := by omega
          have g1 := upI_yes (dualN F) (dualN_lt F)
          have g2 := dualI_yes (dualN F) (dualN_lt F)
          have g3 := dualI_yes (upN F) (upN_lt F)
          rw [up_dual] at g1
          rw [dual_dual] at g2
          rw [dual_up] at g3
          go_wp2_with fail
          refine (iUp_all _ _).mono ?_
          rintro e w4 ⟨rfl, hg4⟩
          go_wp2_with fail
          refine (iDual_all _ _).mono ?_
          rintro e w5 ⟨rfl, hg5⟩
          go_wp2_with fail
          refine (iDual_all _ _).mono ?_
          rintro e w6 ⟨rfl, hg6⟩
          go_wp2_with fail
          go_ret
          exact ⟨rfl, HG3.out.trans (hg4.trans (hg5.trans hg6))⟩
    · have e0 := famI_no f hf
      have e1 := dualI_no f e0
      clear hf
      go_wp2_with fail
      refine (iDual_all _ _).mono ?_
      rintro e w2 ⟨rfl, hg2⟩
      go_wp2_with (first | (go_at_call 14; refine (sDual_all _ _).mono ?_; rintro e w' ⟨rfl, rfl⟩) | (go_at_call 41; refine (iFam_all _ _).mono ?_; rintro e w' ⟨rfl, rfl⟩) | fail)
      go_ret
      exact ⟨rfl, HG.out.trans hg2⟩
end Go.Proofs.Ytiofgfllagajkaa
