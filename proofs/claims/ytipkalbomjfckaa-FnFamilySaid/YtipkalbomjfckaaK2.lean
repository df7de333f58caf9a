/-
  Proved here: what the reference's functions of relations and transformers (DiamondOf, BoxOf, DomainOf, IsFunction, CountPairs, MonotoneTable, ApplyTrans and their like) return, for all arguments.
-/
import Derived.Test.YtipkalbomjfckaaK1
import Derived.Test.YtipkalbomjfckaaH3
namespace Go.Proofs.Ytipkalbomjfckaa
open Go.RowKit
set_option maxHeartbeats 1000000 in
theorem l3Monotone_any (t : ByteArray) (hv : Valid 16 t) (w : World) (R : Ending → World → Prop)
    (hyes : Mono (dv t) → R (.returned (.bool true)) w) (hno : ¬ Mono (dv t) → R (.returned (.bool false)) w) :
    Calls Try.prog 97 #[.string t] w R := by
  have HV := hid hv
  have HY := hid hyes
  have HN := hid hno
  clear hv hyes hno
  go_enter Try.func97, Try.ntmps97
  go_wp2_with fail
  go_loop [3, 4] (fun u _ => ∃ p : Nat, p ≤ 16 ∧ u = .int .i64 p ∧ MonoTo (dv t) p 0) (fun u _ => 16 - (intOf u).toNat)
  case atStart => exact ⟨0, by omega, rfl, MonoTo.start _⟩
  case round =>
    obtain ⟨p, hp, rfl, hm⟩ := hrel
    by_cases hlt : p < 16
    · have hl1 : (p : Int) < 16 := by omega
      go_wp2_with fail
      go_loop [4] (fun u => ∃ q : Nat, q ≤ 16 ∧ u = .int .i64 q ∧ MonoTo (dv t) p q) (fun u => 16 - (intOf u).toNat)
      case atStart => exact ⟨0, by omega, rfl, hm⟩
      case round =>
        obtain ⟨q, hq, rfl, hm2⟩ := hrel
        clear hm
        by_cases hlt2 : q < 16
        · have hl2 : (q : Int) < 16 := by omega
          have b1 : p < 65536 := by omega
          have b2 : q < 65536 := by omega
          have b3 : dv t p < 65536 := by have := dv_lt t p; omega
          have b4 : dv t q < 65536 := by have := dv_lt t q; omega
          cases g1 : sub p q
          · have G1 := hid g1
            go_wp2_with fail
            go_round
            case rel => exact ⟨q + 1, by omega, by go_num, hm2.step (fun h => by rw [G1.out] at h; exact absurd h (by decide))⟩
            case measure => simp [intOf]; omega
          · cases g2 : sub (dv t p) (dv t q)
            · have G1 := hid g1
              have G2 := hid g2
              go_wp2_with fail
              refine (l3Value_any t p HV.out hlt _).mono ?_
              rintro e w1 ⟨rfl, rfl⟩
              go_wp2_with fail
              refine (l3Value_any t q HV.out hlt2 _).mono ?_
              rintro e w1 ⟨rfl, rfl⟩
              go_wp2_with fail
              refine HN.out (fun hv => ?_)
              have := hv p hlt q hlt2 G1.out
              rw [G2.out] at this
              exact absurd this (by decide)
            · have G2 := hid g2
              go_wp2_with fail
              refine (l3Value_any t p HV.out hlt _).mono ?_
              rintro e w1 ⟨rfl, rfl⟩
              go_wp2_with fail
              refine (l3Value_any t q HV.out hlt2 _).mono ?_
              rintro e w1 ⟨rfl, rfl⟩
              go_wp2_with fail
              go_round
              case rel => exact ⟨q + 1, by omega, by go_num, hm2.step (fun _ => G2.out)⟩
              case measure => simp [intOf]; omega
        · obtain rfl : q = 16 := by omega
          go_wp2_with fail
          go_round
          case rel => exact ⟨p + 1, by omega, by go_num, hm2.next⟩
          case measure => simp [intOf]; omega
    · obtain rfl : p = 16 := by omega
      go_wp2_with fail
      exact HY.out hm.mono
theorem sMonotone_yes (t : ByteArray) (hv : TValid t) (w : World) :
    Calls Try.prog 44 #[.string t] w fun e w' => e = .returned (.bool true) ∧ w = w' := by
  have HV := hid hv
  clear hv
  go_enter Try.func44, Try.ntmps44
  go_wp2_with fail
  refine (l2Digits_yes t 16 (by omega) HV.out.1 _).mono ?_
  rintro e w1 ⟨rfl, rfl⟩
  go_wp2_with fail
  refine (l3Monotone_any t HV.out.1 _ (fun e w' => e = .returned (.bool true) ∧ w = w') (fun _ => ⟨rfl, rfl⟩) (fun h => absurd HV.out.2 h)).mono ?_
  rintro e w1 ⟨rfl, rfl⟩
  go_wp2_with fail
  go_ret
  exact ⟨rfl, rfl⟩
theorem sMonotone_no (t : ByteArray) (hs : t.size ≤ 1048576) (hv : ¬ TValid t) (w : World) :
    Calls Try.prog 44 #[.string t] w fun e w' => e = .returned (.bool false) ∧ w = w' := by
  by_cases h1 : Valid 16 t
  · have H1 := hid h1
    have HN := hid (fun h : Mono (dv t) => hv ⟨h1, h⟩)
    clear hv h1
    go_enter Try.func44, Try.ntmps44
    go_wp2_with fail
    refine (l2Digits_yes t 16 (by omega) H1.out _).mono ?_
    rintro e w1 ⟨rfl, rfl⟩
    go_wp2_with fail
    refine (l3Monotone_any t H1.out _ (fun e w' => e = .returned (.bool false) ∧ w = w') (fun h => (HN.out h).elim) (fun _ => ⟨rfl, rfl⟩)).mono ?_
    rintro e w1 ⟨rfl, rfl⟩
    go_wp2_with fail
    go_ret
    exact ⟨rfl, rfl⟩
  · have H1 := hid h1
    clear hv h1
    go_enter Try.func44, Try.ntmps44
    go_wp2_with fail
    refine (l2Digits_no t 16 hs H1.out _).mono ?_
    rintro e w1 ⟨rfl, rfl⟩
    go_wp2_with fail
    go_ret
    exact ⟨rfl, rfl⟩
theorem sTransValid_yes (t : ByteArray) (hv : TValid t) (w : World) :
    Calls Try.prog 42 #[.string t] w fun e w' => e = .returned (.bool true) ∧ w = w' := by
  have HV := hid hv
  clear hv
  go_enter Try.func42, Try.ntmps42
  go_wp2_with fail
  refine (sMonotone_yes t HV.out _).mono ?_
  rintro e w1 ⟨rfl, rfl⟩
  go_wp2_with fail
  go_ret
  exact ⟨rfl, rfl⟩
theorem sTransValid_no (t : ByteArray) (hs : t.size ≤ 1048576) (hv : ¬ TValid t) (w : World) :
    Calls Try.prog 42 #[.string t] w fun e w' => e = .returned (.bool false) ∧ w = w' := by
  have HV := hid hv
  clear hv
  go_enter Try.func42, Try.ntmps42
  go_wp2_with fail
  refine (sMonotone_no t hs HV.out _).mono ?_
  rintro e w1 ⟨rfl, rfl⟩
  go_wp2_with fail
  go_ret
  exact ⟨rfl, rfl⟩
end Go.Proofs.Ytipkalbomjfckaa
