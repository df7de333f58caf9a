/-
  Proved here: what the reference's functions of relations and transformers (DiamondOf, BoxOf, DomainOf, IsFunction, CountPairs, MonotoneTable, ApplyTrans and their like) return, for all arguments.
-/
import Derived.Test.YtgbokgeegoolaaaK1
import Derived.Test.YtgbokgeegoolaaaH3
namespace Go.Proofs.Ytgbokgeegoolaaa
open Go.RowKit
theorem sReady_yes (r : ByteArray) (p : Nat) (hr : Valid 4 r) (hp : p < 16) (w : World) :
    Calls Try.prog 46 #[.string r, .int .i64 p] w fun e w' => e = .returned (.bool true) ∧ w = w' := by
  have HR := hid hr
  clear hr
  go_enter Try.func46, Try.ntmps46
  go_wp2_with fail
  refine (sRelValid_yes r HR.out _).mono ?_
  rintro e w1 ⟨rfl, rfl⟩
  go_wp2_with (first | (go_at_call 54; refine (scv_yes _ hp _).mono ?_; rintro e w' ⟨rfl, rfl⟩) | fail)
  go_ret
  exact ⟨rfl, rfl⟩
theorem sReady_no (r : ByteArray) (p : Int) (hs : r.size ≤ 1048576) (h : ¬ Valid 4 r ∨ condI p = false) (w : World) :
    Calls Try.prog 46 #[.string r, .int .i64 p] w fun e w' => e = .returned (.bool false) ∧ w = w' := by
  by_cases hr : Valid 4 r
  · have hp : condI p = false := h.resolve_left (fun x => x hr)
    have HR := hid hr
    clear hr h
    go_enter Try.func46, Try.ntmps46
    go_wp2_with fail
    refine (sRelValid_yes r HR.out _).mono ?_
    rintro e w1 ⟨rfl, rfl⟩
    go_wp2_with (first | (go_at_call 54; refine (sCond_all _ _).mono ?_; rintro e w' ⟨rfl, rfl⟩) | fail)
    go_ret
    exact ⟨rfl, rfl⟩
  · have HR := hid hr
    clear hr h
    go_enter Try.func46, Try.ntmps46
    go_wp2_with fail
    refine (sRelValid_no r hs HR.out _).mono ?_
    rintro e w1 ⟨rfl, rfl⟩
    go_wp2_with fail
    go_ret
    exact ⟨rfl, rfl⟩
theorem sDiamondOf_yes (r : ByteArray) (p : Nat) (hr : Valid 4 r) (hp : p < 16) (w : World) :
    Calls Try.prog 21 #[.string r, .int .i64 p] w fun e w' => e = .returned (.int .i64 (diaN (dv r) p : Nat)) ∧ w = w' := by
  have HR := hid hr
  clear hr
  go_enter Try.func21, Try.ntmps21
  go_wp2_with fail
  refine (sReady_yes r p HR.out hp _).mono ?_
  rintro e w1 ⟨rfl, rfl⟩
  go_wp2_with fail
  refine (l2Diamond_any r p HR.out hp _).mono ?_
  rintro e w1 ⟨rfl, rfl⟩
  go_wp2_with fail
  go_ret
  exact ⟨rfl, rfl⟩
theorem sDiamondOf_no (r : ByteArray) (p : Int) (hs : r.size ≤ 1048576) (h : ¬ Valid 4 r ∨ condI p = false) (w : World) :
    Calls Try.prog 21 #[.string r, .int .i64 p] w fun e w' => e = .returned (.int .i64 (-1)) ∧ w = w' := by
  have HH := hid h
  clear h
  go_enter Try.func21, Try.ntmps21
  go_wp2_with fail
  refine (sReady_no r p hs HH.out _).mono ?_
  rintro e w1 ⟨rfl, rfl⟩
  go_wp2_with fail
  go_ret
  exact ⟨rfl, rfl⟩
theorem sBoxOf_yes (r : ByteArray) (p : Nat) (hr : Valid 4 r) (hp : p < 16) (w : World) :
    Calls Try.prog 23 #[.string r, .int .i64 p] w fun e w' => e = .returned (.int .i64 (boxN (dv r) p : Nat)) ∧ w = w' := by
  have HR := hid hr
  clear hr
  go_enter Try.func23, Try.ntmps23
  go_wp2_with fail
  refine (sReady_yes r p HR.out hp _).mono ?_
  rintro e w1 ⟨rfl, rfl⟩
  go_wp2_with fail
  refine (l2Box_any r p HR.out hp _).mono ?_
  rintro e w1 ⟨rfl, rfl⟩
  go_wp2_with fail
  go_ret
  exact ⟨rfl, rfl⟩
theorem sBoxOf_no (r : ByteArray) (p : Int) (hs : r.size ≤ 1048576) (h : ¬ Valid 4 r ∨ condI p = false) (w : World) :
    Calls Try.prog 23 #[.string r, .int .i64 p] w fun e w' => e = .returned (.int .i64 (-1)) ∧ w = w' := by
  have HH := hid h
  clear h
  go_enter Try.func23, Try.ntmps23
  go_wp2_with fail
  refine (sReady_no r p hs HH.out _).mono ?_
  rintro e w1 ⟨rfl, rfl⟩
  go_wp2_with fail
  go_ret
  exact ⟨rfl, rfl⟩
theorem sDomainOf_yes (r : ByteArray) (hr : Valid 4 r) (w : World) :
    Calls Try.prog 25 #[.string r] w fun e w' => e = .returned (.int .i64 (diaN (dv r) 15 : Nat)) ∧ w = w' := by
  have HR := hid hr
  clear hr
  go_enter Try.func25, Try.ntmps25
  go_wp2_with fail
  refine (sDiamondOf_yes r 15 HR.out (by omega) _).mono ?_
  rintro e w1 ⟨rfl, rfl⟩
  go_wp2_with fail
  go_ret
  exact ⟨rfl, rfl⟩
theorem sDomainOf_no (r : ByteArray) (hs : r.size ≤ 1048576) (h : ¬ Valid 4 r) (w : World) :
    Calls Try.prog 25 #[.string r] w fun e w' => e = .returned (.int .i64 (-1)) ∧ w = w' := by
  have HH := hid h
  clear h
  go_enter Try.func25, Try.ntmps25
  go_wp2_with fail
  refine (sDiamondOf_no r 15 hs (.inl HH.out) _).mono ?_
  rintro e w1 ⟨rfl, rfl⟩
  go_wp2_with fail
  go_ret
  exact ⟨rfl, rfl⟩
def oneTo (f : Nat → Nat) : Nat → Bool
  | 0 => true
  | k + 1 => oneTo f k && decide (ones (f k) = 1)
set_option maxHeartbeats 400000 in
theorem sIsFunction_yes (r : ByteArray) (hr : Valid 4 r) (w : World) :
    Calls Try.prog 19 #[.string r] w fun e w' => e = .returned (.bool (oneTo (dv r) 4)) ∧ w = w' := by
  have HR := hid hr
  clear hr
  go_enter Try.func19, Try.ntmps19
  go_wp2_with fail
  go_loop [3] (fun u => ∃ s : Nat, s ≤ 4 ∧ u = .int .i64 s ∧ oneTo (dv r) s = true) (fun u => 4 - (intOf u).toNat)
  case atStart => exact ⟨0, by omega, rfl, rfl⟩
  case round =>
    obtain ⟨s, hs, rfl, ho⟩ := hrel
    have HO := hid ho
    clear ho
    by_cases h0 : s < 4
    · have h0' : (s : Int) < 4 := by omega
      have b1 := dv_lt r s
      by_cases h1 : ones (dv r s) = 1
      · have x1 : (((ones (dv r s) : Nat) : Int) == 1) = true := by simp; omega
        have x2 : (((ones (dv r s) : Nat) : Int) != 1) = false := by simp; omega
        have key := hid (show oneTo (dv r) (s + 1) = true by simp only [oneTo]; rw [HO.out]; simp [h1])
        clear h1
        go_wp2_with fail
        refine (sRelValid_yes r HR.out _).mono ?_
        rintro e w1 ⟨rfl, rfl⟩
        go_wp2_with fail
        refine (l2To_any r s HR.out h0 _).mono ?_
        rintro e w1 ⟨rfl, rfl⟩
        go_wp2_with fail
        refine (l1Ones_any _ b1 _).mono ?_
        rintro e w1 ⟨rfl, rfl⟩
        go_wp2_with fail
        go_round
        case rel => exact ⟨s + 1, by omega, by go_num, key.out⟩
        case measure => simp [intOf]; omega
      · have x1 : (((ones (dv r s) : Nat) : Int) == 1) = false := by simp; omega
        have x2 : (((ones (dv r s) : Nat) : Int) != 1) = true := by simp; omega
        have key := hid (show oneTo (dv r) 4 = false by
          have h2 : oneTo (dv r) (s + 1) = false := by simp only [oneTo]; simp [h1]
          have h3 : s = 0 ∨ s = 1 ∨ s = 2 ∨ s = 3 := by omega
          rcases h3 with rfl | rfl | rfl | rfl <;> simp_all [oneTo])
        clear h1
        go_wp2_with fail
        refine (sRelValid_yes r HR.out _).mono ?_
        rintro e w1 ⟨rfl, rfl⟩
        go_wp2_with fail
        refine (l2To_any r s HR.out h0 _).mono ?_
        rintro e w1 ⟨rfl, rfl⟩
        go_wp2_with fail
        refine (l1Ones_any _ b1 _).mono ?_
        rintro e w1 ⟨rfl, rfl⟩
        go_wp2_with fail
        go_ret
        exact ⟨by rw [key.out]; rfl, rfl⟩
    · obtain rfl : s = 4 := by omega
      go_wp2_with fail
      refine (sRelValid_yes r HR.out _).mono ?_
      rintro e w1 ⟨rfl, rfl⟩
      go_wp2_with fail
      refine (sRelValid_yes r HR.out _).mono ?_
      rintro e w1 ⟨rfl, rfl⟩
      go_wp2_with fail
      go_ret
      exact ⟨by rw [HO.out]; rfl, rfl⟩
theorem sIsFunction_no (r : ByteArray) (hs : r.size ≤ 1048576) (h : ¬ Valid 4 r) (w : World) :
    Calls Try.prog 19 #[.string r] w fun e w' => e = .returned (.bool false) ∧ w = w' := by
  have HH := hid h
  clear h
  go_enter Try.func19, Try.ntmps19
  go_wp2_with fail
  refine wp_loop_once ?_
  go_wp2_with fail
  refine (sRelValid_no r hs HH.out _).mono ?_
  rintro e w1 ⟨rfl, rfl⟩
  go_wp2_with fail
  refine (sRelValid_no r hs HH.out _).mono ?_
  rintro e w1 ⟨rfl, rfl⟩
  go_wp2_with fail
  go_ret
  exact ⟨rfl, rfl⟩
def sumTo (f : Nat → Nat) : Nat → Nat
  | 0 => 0
  | k + 1 => sumTo f k + ones (f k)
theorem sumTo_le (f : Nat → Nat) (k : Nat) : sumTo f k ≤ 4 * k := by
  induction k with
  | zero => simp [sumTo]
  | succ k ih => simp only [sumTo]; have := ones_le (f k); omega
set_option maxHeartbeats 400000 in
theorem sCountPairs_yes (r : ByteArray) (hr : Valid 4 r) (w : World) :
    Calls Try.prog 27 #[.string r] w fun e w' => e = .returned (.int .i64 (sumTo (dv r) 4 : Nat)) ∧ w = w' := by
  have HR := hid hr
  clear hr
  go_enter Try.func27, Try.ntmps27
  go_wp2_with fail
  refine (sRelValid_yes r HR.out _).mono ?_
  rintro e w1 ⟨rfl, rfl⟩
  go_wp2_with fail
  go_loop [3, 4] (fun v u => ∃ s : Nat, s ≤ 4 ∧ u = .int .i64 s ∧ v = .int .i64 (sumTo (dv r) s : Nat)) (fun _ u => 4 - (intOf u).toNat)
  case atStart => exact ⟨0, by omega, rfl, rfl⟩
  case round =>
    obtain ⟨s, hs, rfl, rfl⟩ := hrel
    by_cases h0 : s < 4
    · have h0' : (s : Int) < 4 := by omega
      have b1 := dv_lt r s
      have b2 := ones_le (dv r s)
      have b3 := sumTo_le (dv r) s
      go_wp2_with fail
      refine (l2To_any r s HR.out h0 _).mono ?_
      rintro e w1 ⟨rfl, rfl⟩
      go_wp2_with fail
      refine (l1Ones_any _ b1 _).mono ?_
      rintro e w1 ⟨rfl, rfl⟩
      go_wp2_with fail
      go_round
      case rel => exact ⟨s + 1, by omega, by go_num, by simp only [sumTo]; go_num⟩
      case measure => simp [intOf]; omega
    · obtain rfl : s = 4 := by omega
      go_wp2_with fail
      go_ret
      exact ⟨rfl, rfl⟩
theorem sCountPairs_no (r : ByteArray) (hs : r.size ≤ 1048576) (h : ¬ Valid 4 r) (w : World) :
    Calls Try.prog 27 #[.string r] w fun e w' => e = .returned (.int .i64 (-1)) ∧ w = w' := by
  have HH := hid h
  clear h
  go_enter Try.func27, Try.ntmps27
  go_wp2_with fail
  refine (sRelValid_no r hs HH.out _).mono ?_
  rintro e w1 ⟨rfl, rfl⟩
  go_wp2_with fail
  go_ret
  exact ⟨rfl, rfl⟩
set_option maxHeartbeats 1000000 in
theorem l3Monotone_any (t : ByteArray) (hv : Valid 16 t) (w : World) (R : Ending → World → Prop)
    (hyes : Mono (dv t) → R (.returned (.bool true)) w) (hno : ¬ Mono (dv t) → R (.returned (.bool false)) w) :
    Calls Try.prog 52 #[.string t] w R := by
  have HV := hid hv
  have HY := hid hyes
  have HN := hid hno
  clear hv hyes hno
  go_enter Try.func52, Try.ntmps52
  go_wp2_with fail
  go_loop [3, 4] (fun u _ => ∃ p : Nat, p ≤ 16 ∧ u = .int .i64 p ∧ MonoTo (dv t) p 0) (fun u _ => 16 - (intOf u).toNat)
  case atStart => exact ⟨0, by omega, rfl, MonoTo.start _⟩
  case round =>
    obtain ⟨p, hp, rfl, hm⟩ := hrel
    by_cases hlt : p < 16
    · have hl1 : (p : Int) < 16 := by omega
      go_wp2_with fail
      go_loop [4] (fun u => ∃ q : Nat, q ≤ 16 ∧ u = .int .i64 q ∧ MonoTo (dv t) p q) (fun u => 16 - (intOf u).toNat)
      case atStart => exact ⟨0, by omega, rfl, hm⟩
      case round =>
        obtain ⟨q, hq, rfl, hm2⟩ := hrel
        clear hm
        by_cases hlt2 : q < 16
        · have hl2 : (q : Int) < 16 := by omega
          have b1 : p < 65536 := by omega
          have b2 : q < 65536 := by omega
          have b3 : dv t p < 65536 := by have := dv_lt t p; omega
          have b4 : dv t q < 65536 := by have := dv_lt t q; omega
          cases g1 : sub p q
          · have G1 := hid g1
            go_wp2_with fail
            go_round
            case rel => exact ⟨q + 1, by omega, by go_num, hm2.step (fun h => by rw [G1.out] at h; exact absurd h (by decide))⟩
            case measure => simp [intOf]; omega
          · cases g2 : sub (dv t p) (dv t q)
            · have G1 := hid g1
              have G2 := hid g2
              go_wp2_with fail
              refine (l3Value_any t p HV.out hlt _).mono ?_
              rintro e w1 ⟨rfl, rfl⟩
              go_wp2_with fail
              refine (l3Value_any t q HV.out hlt2 _).mono ?_
              rintro e w1 ⟨rfl, rfl⟩
              go_wp2_with fail
              refine HN.out (fun hv => ?_)
              have := hv p hlt q hlt2 G1.out
              rw [G2.out] at this
              exact absurd this (by decide)
            · have G2 := hid g2
              go_wp2_with fail
              refine (l3Value_any t p HV.out hlt _).mono ?_
              rintro e w1 ⟨rfl, rfl⟩
              go_wp2_with fail
              refine (l3Value_any t q HV.out hlt2 _).mono ?_
              rintro e w1 ⟨rfl, rfl⟩
              go_wp2_with fail
              go_round
              case rel => exact ⟨q + 1, by omega, by go_num, hm2.step (fun _ => G2.out)⟩
              case measure => simp [intOf]; omega
        · obtain rfl : q = 16 := by omega
          go_wp2_with fail
          go_round
          case rel => exact ⟨p + 1, by omega, by go_num, hm2.next⟩
          case measure => simp [intOf]; omega
    · obtain rfl : p = 16 := by omega
      go_wp2_with fail
      exact HY.out hm.mono
theorem sMonotone_yes (t : ByteArray) (hv : TValid t) (w : World) :
    Calls Try.prog 29 #[.string t] w fun e w' => e = .returned (.bool true) ∧ w = w' := by
  have HV := hid hv
  clear hv
  go_enter Try.func29, Try.ntmps29
  go_wp2_with fail
  refine (l2Digits_yes t 16 (by omega) HV.out.1 _).mono ?_
  rintro e w1 ⟨rfl, rfl⟩
  go_wp2_with fail
  refine (l3Monotone_any t HV.out.1 _ (fun e w' => e = .returned (.bool true) ∧ w = w') (fun _ => ⟨rfl, rfl⟩) (fun h => absurd HV.out.2 h)).mono ?_
  rintro e w1 ⟨rfl, rfl⟩
  go_wp2_with fail
  go_ret
  exact ⟨rfl, rfl⟩
theorem sMonotone_no (t : ByteArray) (hs : t.size ≤ 1048576) (hv : ¬ TValid t) (w : World) :
    Calls Try.prog 29 #[.string t] w fun e w' => e = .returned (.bool false) ∧ w = w' := by
  by_cases h1 : Valid 16 t
  · have H1 := hid h1
    have HN := hid (fun h : Mono (dv t) => hv ⟨h1, h⟩)
    clear hv h1
    go_enter Try.func29, Try.ntmps29
    go_wp2_with fail
    refine (l2Digits_yes t 16 (by omega) H1.out _).mono ?_
    rintro e w1 ⟨rfl, rfl⟩
    go_wp2_with fail
    refine (l3Monotone_any t H1.out _ (fun e w' => e = .returned (.bool false) ∧ w = w') (fun h => (HN.out h).elim) (fun _ => ⟨rfl, rfl⟩)).mono ?_
    rintro e w1 ⟨rfl, rfl⟩
    go_wp2_with fail
    go_ret
    exact ⟨rfl, rfl⟩
  · have H1 := hid h1
    clear hv h1
    go_enter Try.func29, Try.ntmps29
    go_wp2_with fail
    refine (l2Digits_no t 16 hs H1.out _).mono ?_
    rintro e w1 ⟨rfl, rfl⟩
    go_wp2_with fail
    go_ret
    exact ⟨rfl, rfl⟩
theorem sTransValid_yes (t : ByteArray) (hv : TValid t) (w : World) :
    Calls Try.prog 31 #[.string t] w fun e w' => e = .returned (.bool true) ∧ w = w' := by
  have HV := hid hv
  clear hv
  go_enter Try.func31, Try.ntmps31
  go_wp2_with fail
  refine (sMonotone_yes t HV.out _).mono ?_
  rintro e w1 ⟨rfl, rfl⟩
  go_wp2_with fail
  go_ret
  exact ⟨rfl, rfl⟩
theorem sTransValid_no (t : ByteArray) (hs : t.size ≤ 1048576) (hv : ¬ TValid t) (w : World) :
    Calls Try.prog 31 #[.string t] w fun e w' => e = .returned (.bool false) ∧ w = w' := by
  have HV := hid hv
  clear hv
  go_enter Try.func31, Try.ntmps31
  go_wp2_with fail
  refine (sMonotone_no t hs HV.out _).mono ?_
  rintro e w1 ⟨rfl, rfl⟩
  go_wp2_with fail
  go_ret
  exact ⟨rfl, rfl⟩
theorem sApply_yes (t : ByteArray) (p : Nat) (hv : TValid t) (hp : p < 16) (w : World) :
    Calls Try.prog 33 #[.string t, .int .i64 p] w fun e w' => e = .returned (.int .i64 (dv t p : Nat)) ∧ w = w' := by
  have HV := hid hv
  clear hv
  go_enter Try.func33, Try.ntmps33
  go_wp2_with fail
  refine (sTransValid_yes t HV.out _).mono ?_
  rintro e w1 ⟨rfl, rfl⟩
  go_wp2_with (first | (go_at_call 54; refine (scv_yes _ hp _).mono ?_; rintro e w' ⟨rfl, rfl⟩) | fail)
  refine (l3Value_any t p HV.out.1 hp _).mono ?_
  rintro e w1 ⟨rfl, rfl⟩
  go_wp2_with fail
  go_ret
  exact ⟨rfl, rfl⟩
theorem sApply_no (t : ByteArray) (p : Int) (hs : t.size ≤ 1048576) (h : ¬ TValid t ∨ condI p = false) (w : World) :
    Calls Try.prog 33 #[.string t, .int .i64 p] w fun e w' => e = .returned (.int .i64 (-1)) ∧ w = w' := by
  by_cases hv : TValid t
  · have hp : condI p = false := h.resolve_left (fun x => x hv)
    have HV := hid hv
    clear hv h
    go_enter Try.func33, Try.ntmps33
    go_wp2_with fail
    refine (sTransValid_yes t HV.out _).mono ?_
    rintro e w1 ⟨rfl, rfl⟩
    go_wp2_with (first | (go_at_call 54; refine (sCond_all _ _).mono ?_; rintro e w' ⟨rfl, rfl⟩) | fail)
    go_ret
    exact ⟨rfl, rfl⟩
  · have HV := hid hv
    clear hv h
    go_enter Try.func33, Try.ntmps33
    go_wp2_with fail
    refine (sTransValid_no t hs HV.out _).mono ?_
    rintro e w1 ⟨rfl, rfl⟩
    go_wp2_with fail
    go_ret
    exact ⟨rfl, rfl⟩
theorem sIsStrict_yes (t : ByteArray) (hv : TValid t) (w : World) :
    Calls Try.prog 35 #[.string t] w fun e w' => e = .returned (.bool (((dv t 0 : Nat) : Int) == 0)) ∧ w = w' := by
  have HV := hid hv
  clear hv
  go_enter Try.func35, Try.ntmps35
  go_wp2_with fail
  refine (sTransValid_yes t HV.out _).mono ?_
  rintro e w1 ⟨rfl, rfl⟩
  go_wp2_with fail
  refine (l3Value_any t 0 HV.out.1 (by omega) _).mono ?_
  rintro e w1 ⟨rfl, rfl⟩
  go_wp2_with fail
  go_ret
  exact ⟨rfl, rfl⟩
theorem sIsStrict_no (t : ByteArray) (hs : t.size ≤ 1048576) (hv : ¬ TValid t) (w : World) :
    Calls Try.prog 35 #[.string t] w fun e w' => e = .returned (.bool false) ∧ w = w' := by
  have HV := hid hv
  clear hv
  go_enter Try.func35, Try.ntmps35
  go_wp2_with fail
  refine (sTransValid_no t hs HV.out _).mono ?_
  rintro e w1 ⟨rfl, rfl⟩
  go_wp2_with fail
  go_ret
  exact ⟨rfl, rfl⟩
theorem sIsTerm_yes (t : ByteArray) (hv : TValid t) (w : World) :
    Calls Try.prog 37 #[.string t] w fun e w' => e = .returned (.bool (((dv t 15 : Nat) : Int) == 15)) ∧ w = w' := by
  have HV := hid hv
  clear hv
  go_enter Try.func37, Try.ntmps37
  go_wp2_with fail
  refine (sTransValid_yes t HV.out _).mono ?_
  rintro e w1 ⟨rfl, rfl⟩
  go_wp2_with fail
  refine (l3Value_any t 15 HV.out.1 (by omega) _).mono ?_
  rintro e w1 ⟨rfl, rfl⟩
  go_wp2_with fail
  go_ret
  exact ⟨rfl, rfl⟩
theorem sIsTerm_no (t : ByteArray) (hs : t.size ≤ 1048576) (hv : ¬ TValid t) (w : World) :
    Calls Try.prog 37 #[.string t] w fun e w' => e = .returned (.bool false) ∧ w = w' := by
  have HV := hid hv
  clear hv
  go_enter Try.func37, Try.ntmps37
  go_wp2_with fail
  refine (sTransValid_no t hs HV.out _).mono ?_
  rintro e w1 ⟨rfl, rfl⟩
  go_wp2_with fail
  go_ret
  exact ⟨rfl, rfl⟩
end Go.Proofs.Ytgbokgeegoolaaa
