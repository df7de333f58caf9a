/-
  Proved here: what the reference's LeastOf and DualFamily return, for every number: what the program's return.
-/
import Derived.Test.YtiofgfllagajkaaS1
namespace Go.Proofs.Ytiofgfllagajkaa
open Go.RowKit
/-- How far the row of a condition has been gone through. -/
def upTo (i p q : Nat) : Nat := if i < p then 16 else if i = p then q else 0
theorem upTo_next (i p : Nat) : upTo i p 16 = upTo i (p + 1) 0 := by
  unfold upTo
  by_cases h : i < p
  · rw [if_pos h, if_pos (by omega)]
  · rw [if_neg h]
    by_cases e : i = p
    · rw [if_pos e, if_pos (by omega)]
    · rw [if_neg e, if_neg (by omega)]
      by_cases g : i = p + 1
      · rw [if_pos g]
      · rw [if_neg g]
def others (i : Nat) : Nat → Bool := fun q => !decide (q = i) && sub q i
def LeInv (f p q o : Nat) : Prop := o < 65536 ∧ ∀ i, i < 16 → has o i = (has f i && !anyTo f (others i) (upTo i p q))
theorem LeInv.start (f : Nat) (hf : f < 65536) : LeInv f 0 0 f := ⟨hf, fun i _ => by
  have : upTo i 0 0 = 0 := by unfold upTo; simp
  rw [this]; simp [anyTo]⟩
theorem LeInv.no {f p q o : Nat} (h : LeInv f p q o) (hs : (has f q && others p q) = false) : LeInv f p (q + 1) o := by
  refine ⟨h.1, fun i hi => ?_⟩
  rw [h.2 i hi]
  by_cases e : i = p
  · subst e
    have e1 : upTo i i q = q := by simp [upTo]
    have e2 : upTo i i (q + 1) = q + 1 := by simp [upTo]
    rw [e1, e2]; simp only [anyTo]; rw [hs]; simp
  · have : upTo i p (q + 1) = upTo i p q := by unfold upTo; simp [e]
    rw [this]
theorem LeInv.yes {f p q o : Nat} (h : LeInv f p q o) (hs : (has f q && others p q) = true) : LeInv f p (q + 1) (diff o (pow2 p)) := by
  refine ⟨diff_lt _ _ h.1, fun i hi => ?_⟩
  rw [has_diff_pow _ _ _ hi, h.2 i hi]
  by_cases e : i = p
  · subst e
    have e2 : upTo i i (q + 1) = q + 1 := by simp [upTo]
    rw [e2]; simp only [anyTo]; rw [hs]; simp
  · have : upTo i p (q + 1) = upTo i p q := by unfold upTo; simp [e]
    have e' : ¬ p = i := fun x => e x.symm
    rw [this]; simp [e']
theorem LeInv.next {f p o : Nat} (h : LeInv f p 16 o) : LeInv f (p + 1) 0 o := by
  refine ⟨h.1, fun i hi => ?_⟩
  rw [h.2 i hi, upTo_next]
theorem LeInv.last {f o : Nat} (h : LeInv f 16 0 o) : o = leastN f :=
  eq_setOf _ _ h.1 fun i hi => by
    have : upTo i 16 0 = 16 := by unfold upTo; rw [if_pos hi]
    rw [h.2 i hi, this]; rfl
set_option maxHeartbeats 800000 in
theorem l1Least_any (f : Nat) (hf : f < 65536) (w : World) :
    Calls Try.prog 55 #[.int .i64 f] w fun e w' => e = .returned (.int .i64 (leastN f : Nat)) ∧ w = w' := by
  go_enter Try.func55, Try.ntmps55
  go_wp2_with fail
  go_loop [3, 4, 5] (fun v u _ => ∃ p o : Nat, p ≤ 16 ∧ u = .int .i64 p ∧ v = .int .i64 o ∧ LeInv f p 0 o) (fun _ u _ => 16 - (intOf u).toNat)
  case atStart => exact ⟨0, f, by omega, rfl, rfl, LeInv.start f hf⟩
  case round =>
    obtain ⟨p, o, hp, rfl, rfl, hi⟩ := hrel
    by_cases hlt : p < 16
    · have hl1 : (p : Int) < 16 := by omega
      go_wp2_with fail
      go_loop [3, 5] (fun v u => ∃ o q : Nat, q ≤ 16 ∧ u = .int .i64 q ∧ v = .int .i64 o ∧ LeInv f p q o) (fun _ u => 16 - (intOf u).toNat)
      case atStart => exact ⟨o, 0, by omega, rfl, rfl, hi⟩
      case round =>
        obtain ⟨o2, q, hq, rfl, rfl, hi2⟩ := hrel
        by_cases hlt2 : q < 16
        · have hl2 : (q : Int) < 16 := by omega
          have b1 : p < 65536 := by omega
          have b2 : q < 65536 := by omega
          have b3 := hi2.1
          by_cases hpq : q = p
          · have x1 : ((p : Int) != (q : Int)) = false := by simp; omega
            have x2 : ((p : Int) == (q : Int)) = true := by simp; omega
            have key : (has f q && others p q) = false := by unfold others; simp [hpq]
            have KEY := hid key
            have HPQ := hid hpq
            clear key hpq
            go_wp2_with fail
            go_round
            case rel => exact ⟨o2, q + 1, by omega, by go_num, rfl, hi2.no KEY.out⟩
            case measure => simp [intOf]; omega
          · have x1 : ((p : Int) != (q : Int)) = true := by simp; omega
            have x2 : ((p : Int) == (q : Int)) = false := by simp; omega
            cases hh : has f q
            · have key : (has f q && others p q) = false := by simp [hh]
              have KEY := hid key
              have HPQ := hid hpq
              clear key hpq
              go_wp2_with (first | (go_at_call 47; refine (l1Has_any f q hlt2 _).mono ?_; rintro e w' ⟨rfl, rfl⟩) | fail)
              go_round
              case rel => exact ⟨o2, q + 1, by omega, by go_num, rfl, hi2.no KEY.out⟩
              case measure => simp [intOf]; omega
            · cases hs : sub q p
              · have key : (has f q && others p q) = false := by unfold others; simp [hs]
                have KEY := hid key
                have HPQ := hid hpq
                clear key hpq
                go_wp2_with (first | (go_at_call 47; refine (l1Has_any f q hlt2 _).mono ?_; rintro e w' ⟨rfl, rfl⟩) | fail)
                go_round
                case rel => exact ⟨o2, q + 1, by omega, by go_num, rfl, hi2.no KEY.out⟩
                case measure => simp [intOf]; omega
              · have key : (has f q && others p q) = true := by unfold others; simp [hs, hh, hpq]
                have KEY := hid key
                have HPQ := hid hpq
                have b4 := pow2_lt p hlt
                clear key hpq
                go_wp2_with (first | (go_at_call 47; refine (l1Has_any f q hlt2 _).mono ?_; rintro e w' ⟨rfl, rfl⟩) | fail)
                go_round
                case rel => exact ⟨_, q + 1, by omega, by go_num, rfl, hi2.yes KEY.out⟩
                case measure => simp [intOf]; omega
        · obtain rfl : q = 16 := by omega
          go_wp2_with fail
          go_round
          case rel => exact ⟨p + 1, o2, by omega, by go_num, rfl, hi2.next⟩
          case measure => simp [intOf]; omega
    · obtain rfl : p = 16 := by omega
      go_wp2_with fail
      go_ret
      exact ⟨by rw [hi.last]; rfl, rfl⟩
theorem sLeastOf_yes (f : Nat) (hf : f < 65536) (w : World) :
    Calls Try.prog 18 #[.int .i64 f] w fun e w' => e = .returned (.int .i64 (leastN f : Nat)) ∧ w = w' := by
  go_enter Try.func18, Try.ntmps18
  go_wp2_with (first | (go_at_call 42; refine (sfv_yes _ hf _).mono ?_; rintro e w' ⟨rfl, rfl⟩) | fail)
  refine (l1Least_any f hf _).mono ?_
  rintro e w1 ⟨rfl, rfl⟩
  go_wp2_with fail
  go_ret
  exact ⟨rfl, rfl⟩
theorem sLeastOf_no (f : Int) (hf : f < 0 ∨ 65535 < f) (w : World) :
    Calls Try.prog 18 #[.int .i64 f] w fun e w' => e = .returned (.int .i64 (-1)) ∧ w = w' := by
  have HN := hid hf
  clear hf
  go_enter Try.func18, Try.ntmps18
  go_wp2_with (first | (go_at_call 42; refine (sfv_no _ HN.out _).mono ?_; rintro e w' ⟨rfl, rfl⟩) | fail)
  go_ret
  exact ⟨rfl, rfl⟩
def apart (p : Nat) : Nat → Bool := fun q => !meets p q
theorem dualN_eq (f : Nat) : dualN f = setOf (fun p => !anyOf f (apart p)) 16 := by
  unfold dualN apart
  congr 1
  funext q
  have : (fun p => !meets p q) = (fun p => !meets q p) := by funext p; rw [meets_comm]
  rw [this]
set_option maxHeartbeats 800000 in
theorem sDualFamily_yes (f : Nat) (hf : f < 65536) (w : World) :
    Calls Try.prog 14 #[.int .i64 f] w fun e w' => e = .returned (.int .i64 (dualN f : Nat)) ∧ w = w' := by
  go_enter Try.func14, Try.ntmps14
  go_wp2_with (first | (go_at_call 42; refine (sfv_yes _ hf _).mono ?_; rintro e w' ⟨rfl, rfl⟩) | fail)
  go_loop [3, 4, 5, 6] (fun v u _ _ => ∃ p : Nat, p ≤ 16 ∧ u = .int .i64 p ∧ v = .int .i64 (setOf (fun p => !anyOf f (apart p)) p : Nat)) (fun _ u _ _ => 16 - (intOf u).toNat)
  case atStart => exact ⟨0, by omega, rfl, rfl⟩
  case round =>
    obtain ⟨p, hp, rfl, rfl⟩ := hrel
    by_cases hlt : p < 16
    · have hl1 : (p : Int) < 16 := by omega
      have b1 : p < 65536 := by omega
      have b4 := setOf_lt65536 (fun p => !anyOf f (apart p)) p (by omega)
      go_wp2_with fail
      go_loop [5, 6] (fun v u => ∃ (q : Nat) (b : Bool), q ≤ 16 ∧ u = .int .i64 q ∧ v = .bool b ∧ anyTo f (apart p) q = !b) (fun _ u => 16 - (intOf u).toNat)
      case atStart => exact ⟨0, true, by omega, rfl, rfl, rfl⟩
      case round =>
        obtain ⟨q, b, hq, rfl, rfl, ha⟩ := hrel
        by_cases hlt2 : q < 16
        · have hl2 : (q : Int) < 16 := by omega
          have b2 : q < 65536 := by omega
          cases b
          · have key : anyTo f (apart p) (q + 1) = true := by simp only [anyTo]; rw [ha]; rfl
            have KEY := hid key
            clear key ha
            go_wp2_with (first | (go_at_call 47; refine (l1Has_any f q hlt2 _).mono ?_; rintro e w' ⟨rfl, rfl⟩) | fail)
            go_round
            case rel => exact ⟨q + 1, false, by omega, by go_num, rfl, KEY.out⟩
            case measure => simp [intOf]; omega
          · cases hh : has f q
            · have key : anyTo f (apart p) (q + 1) = false := by simp only [anyTo]; rw [ha, hh]; rfl
              have KEY := hid key
              clear key ha
              go_wp2_with (first | (go_at_call 47; refine (l1Has_any f q hlt2 _).mono ?_; rintro e w' ⟨rfl, rfl⟩) | fail)
              go_round
              case rel => exact ⟨q + 1, true, by omega, by go_num, rfl, KEY.out⟩
              case measure => simp [intOf]; omega
            · cases hm : meets p q
              · have key : anyTo f (apart p) (q + 1) = true := by simp only [anyTo, apart]; rw [hh, hm]; simp
                have KEY := hid key
                clear key ha
                go_wp2_with (first | (go_at_call 47; refine (l1Has_any f q hlt2 _).mono ?_; rintro e w' ⟨rfl, rfl⟩) | fail)
                go_round
                case rel => exact ⟨q + 1, false, by omega, by go_num, rfl, KEY.out⟩
                case measure => simp [intOf]; omega
              · have key : anyTo f (apart p) (q + 1) = false := by simp only [anyTo]; rw [ha, hh]; simp [apart, hm]
                have KEY := hid key
                clear key ha
                go_wp2_with (first | (go_at_call 47; refine (l1Has_any f q hlt2 _).mono ?_; rintro e w' ⟨rfl, rfl⟩) | fail)
                go_round
                case rel => exact ⟨q + 1, true, by omega, by go_num, rfl, KEY.out⟩
                case measure => simp [intOf]; omega
        · obtain rfl : q = 16 := by omega
          cases b
          · have key := setOf_no (fun p => !anyOf f (apart p)) p (by simp [anyOf, ha])
            have KEY := hid key
            clear key ha
            go_wp2_with fail
            go_round
            case rel => exact ⟨p + 1, by omega, by go_num, by rw [KEY.out]⟩
            case measure => simp [intOf]; omega
          · have key := setOf_yes (fun p => !anyOf f (apart p)) p (by simp [anyOf, ha])
            have KEY := hid key
            clear key ha
            go_wp2_with fail
            go_round
            case rel => exact ⟨p + 1, by omega, by go_num, by rw [KEY.out]⟩
            case measure => simp [intOf]; omega
    · obtain rfl : p = 16 := by omega
      go_wp2_with fail
      go_ret
      exact ⟨by rw [dualN_eq]; rfl, rfl⟩
theorem sDualFamily_no (f : Int) (hf : f < 0 ∨ 65535 < f) (w : World) :
    Calls Try.prog 14 #[.int .i64 f] w fun e w' => e = .returned (.int .i64 (-1)) ∧ w = w' := by
  have HN := hid hf
  clear hf
  go_enter Try.func14, Try.ntmps14
  go_wp2_with (first | (go_at_call 42; refine (sfv_no _ HN.out _).mono ?_; rintro e w' ⟨rfl, rfl⟩) | fail)
  go_ret
  exact ⟨rfl, rfl⟩
end Go.Proofs.Ytiofgfllagajkaa
