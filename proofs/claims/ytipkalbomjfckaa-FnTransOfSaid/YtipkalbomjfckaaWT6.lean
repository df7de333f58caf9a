/-
  The walk of the law FnTransOf: it returns true, for all slices of bytes.
-/
import Derived.Test.YtipkalbomjfckaaD5
import Derived.Test.YtipkalbomjfckaaT1
import Derived.Test.YtipkalbomjfckaaK9
import Derived.Deep.CutRange
import Derived.Deep.RegionWith
import Derived.BigRegion
namespace Go.Proofs.Ytipkalbomjfckaa
open Go.RowKit
theorem IntsAt.grew {w w' : World} {b off n : Nat} {z : Nat → Int} (h : IntsAt w b off n z) (g : Grew w w') : IntsAt w' b off n z := fun i hi => cell_later2 g (h i hi)
set_option maxRecDepth 100000 in
set_option maxHeartbeats 4000000 in
theorem wFnTransOf (a0 : Option Addr) (len0 cap0 : Nat) (z0 : List Int) (w : World) (w0 : IsRow .u8 w a0 len0 cap0 z0) :
    Calls Try.prog 4 #[.slice a0 len0 cap0] w fun e w' => e = .returned (.bool true) ∧ Grew w w' := by
  have W0 := hid w0
  clear w0
  by_cases hl : 1048576 < len0
  · have hl' : (1048576 : Int) < (len0 : Int) := by omega
    go_enter Try.func4, Try.ntmps4
    go_wp2_with fail
    go_ret
    exact ⟨rfl, Grew.refl _⟩
  · have hl' : ¬ (1048576 : Int) < (len0 : Int) := by omega
    go_enter Try.func4, Try.ntmps4
    go_wp2_with fail
    refine (DrawTransOf_any a0 len0 cap0 z0 w W0.out (by omega)).mono ?_
    rintro e w2 ⟨b, n, cp, z, hn5, hcp, rfl, hg, hz⟩
    replace hg := hid hg
    by_cases h4 : n = 4
    · subst h4
      by_cases hf : FamsOk z
      · have HF := hid hf
        have HZ := hid hz
        have HTV := hid (tv_tab (fun i => (z i).toNat))
        have HFM := hid (fun s hs => fam_tab (fun i => (z i).toNat) s hs)
        clear hf hz
        go_wp2_with fail
        refine (iTransOf_yes b 0 cp (fun i => (z i).toNat) _ (HZ.out.nat HF.out) HF.out.nat).mono ?_
        rintro e w3 ⟨rfl, hn⟩
        replace hg := hid (hg.out.trans hn)
        replace HZ := hid (HZ.out.grew hn)
        clear hn
        go_wp2_with fail
        refine (sTransOf_yes b 0 cp (fun i => (z i).toNat) _ (HZ.out.nat HF.out) HF.out.nat).mono ?_
        rintro e w4 ⟨rfl, rfl⟩
        generalize text (tabF (fun i => (z i).toNat)) 16 = T at *
        go_wp2_with fail
        go_loopw [8] (fun u wr => ∃ s : Nat, s ≤ 4 ∧ u = .int .i64 s ∧ Grew w3 wr) (fun u _ => 4 - (intOf u).toNat)
        case atStart => exact ⟨0, by omega, rfl, Grew.refl _⟩
        case round =>
          obtain ⟨s, hs, rfl, hg2⟩ := hrel
          have HG2 := hid hg2
          clear hg2
          by_cases hlt : s < 4
          · have hl1 : (s : Int) < 4 := by omega
            have e1 := HFM.out s hlt
            have f1 := famI_nat (HF.out s hlt)
            have e2 : upI (z s) = ((upN (z s).toNat : Nat) : Int) := by rw [f1.1]; exact upI_yes _ f1.2
            have c1 : wr.cell? ⟨b, s, none⟩ = some (.int .i64 (z s)) := cell_later2 HG2.out (by have := HZ.out s hlt; rwa [Nat.zero_add] at this)
            clear f1
            go_upto_region 11 with fail
            go_cut [56] from 44 to 56 (fun v wx => v = .bool false ∧ Grew w3 wx)
            case first =>
              go_region_with (first
                | (go_at_call 16; refine (iFamilyOf_yes _ s HTV.out hlt _).mono ?_; rintro e w5 ⟨rfl, hn⟩; have c2 := cell_later2 ((Grew.drew _).trans hn) c1; replace HG2 := hid (HG2.out.trans ((Grew.drew _).trans hn)); clear hn)
                | (go_at_call 17; refine (iUp_all _ _).mono ?_; rintro e w6 ⟨rfl, hn2⟩; replace HG2 := hid (HG2.out.trans hn2); clear hn2))
              all_goals (go_wp2_with fail; go_meet)
              all_goals (case rel => exact ⟨rfl, HG2.out⟩)
            case rest =>
              obtain ⟨rfl, hg2⟩ := hcut
              replace HG2 := hid hg2
              clear hg2 c1
              go_wp2_with fail
              go_roundw
              case rel => exact ⟨s + 1, by omega, by go_num, HG2.out⟩
              case measure => simp [intOf]; omega
          · obtain rfl : s = 4 := by omega
            go_wp2_with fail
            refine (iTransValid_yes _ HTV.out _).mono ?_
            rintro e w5 ⟨rfl, hn⟩
            go_wp2_with fail
            go_ret
            exact ⟨rfl, hg.out.trans (HG2.out.trans hn)⟩
      · have HF := hid hf
        have HZ := hid hz
        clear hf hz
        go_wp2_with fail
        refine (iTransOf_no b 0 cp z _ HZ.out HF.out).mono ?_
        rintro e w3 ⟨rfl, hn⟩
        replace hg := hid (hg.out.trans hn)
        replace HZ := hid (HZ.out.grew hn)
        clear hn
        go_wp2_with fail
        refine (sTransOf_no b 0 cp z _ HZ.out HF.out).mono ?_
        rintro e w4 ⟨rfl, rfl⟩
        go_wp2_with fail
        go_ret
        exact ⟨rfl, hg.out⟩
    · clear hz
      go_wp2_with fail
      refine (iTransOf_len _ _ _ _ h4).mono ?_
      rintro e w3 ⟨rfl, hn⟩
      replace hg := hid (hg.out.trans hn)
      clear hn
      go_wp2_with fail
      refine (sTransOf_len _ _ _ _ h4).mono ?_
      rintro e w4 ⟨rfl, rfl⟩
      go_wp2_with fail
      go_ret
      exact ⟨rfl, hg.out⟩
end Go.Proofs.Ytipkalbomjfckaa
