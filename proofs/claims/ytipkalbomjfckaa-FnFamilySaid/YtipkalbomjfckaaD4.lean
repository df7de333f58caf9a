/-
  Proved here: that the reference's Draw functions of chapter 3 return some texts or numbers, for every slice of bytes, and write to new memory alone.
-/
import Derived.Test.YtipkalbomjfckaaD3
namespace Go.Proofs.Ytipkalbomjfckaa
open Go.RowKit
def DrawnS (w : World) (e : Ending) (w' : World) : Prop := ∃ s : ByteArray, s.size ≤ 1048576 ∧ e = .returned (.string s) ∧ Grew w w'
def DrawnSS (w : World) (e : Ending) (w' : World) : Prop := ∃ s t : ByteArray, s.size ≤ 1048576 ∧ t.size ≤ 1048576 ∧ e = .returned (.tuple #[.string s, .string t]) ∧ Grew w w'
def DrawnSI (w : World) (e : Ending) (w' : World) : Prop := ∃ (s : ByteArray) (v : Int), s.size ≤ 1048576 ∧ e = .returned (.tuple #[.string s, .int .i64 v]) ∧ Grew w w'
def DrawnI (w : World) (e : Ending) (w' : World) : Prop := ∃ v : Int, e = .returned (.int .i64 v) ∧ Grew w w'
def SomeSS (B m : Nat) (w : World) (e : Ending) (w' : World) : Prop := ∃ s t : ByteArray, s.size ≤ 1048576 ∧ t.size ≤ 1048576 ∧ e = .returned (.tuple #[.string s, .string t]) ∧ Only B w w' ∧ Rdy w' B m
set_option maxHeartbeats 400000 in
theorem l3Open_any (B m : Nat) (w : World) (h : Rdy w B (m + 28)) :
    Calls Try.prog 78 #[.pointer (some ⟨B, 0, none⟩)] w (SomeS B m w) := by
  have H := hid h
  clear h
  go_enter Try.func78, Try.ntmps78
  go_wp2_with fail
  refine (l3Some_any B (m + 3) w H.out).mono ?_
  rintro e w1 ⟨t, hv, rfl, ho, hr⟩
  have HS := hid hv.1
  have HO := hid ho
  have HR := hid hr
  clear hv ho hr
  go_wp2_with fail
  refine (l3Bad_any B m t HS.out w1 HR.out).mono ?_
  rintro e w2 ⟨s, hs, rfl, ho2, hr2⟩
  have HO2 := hid (HO.out.trans ho2)
  have HR2 := hid hr2
  clear ho2 hr2
  go_wp2_with fail
  go_ret
  exact ⟨s, hs, rfl, HO2.out, HR2.out⟩
set_option maxHeartbeats 1000000 in
theorem l3Pair_any (B m : Nat) (w : World) (h : Rdy w B (m + 57)) :
    Calls Try.prog 71 #[.pointer (some ⟨B, 0, none⟩)] w (SomeSS B m w) := by
  have H := hid h
  clear h
  go_enter Try.func71, Try.ntmps71
  go_wp2_with fail
  refine (l3Open_any B (m + 29) w H.out).mono ?_
  rintro e w1 ⟨t, ht, rfl, ho, hr⟩
  have HO := hid ho
  have HR := hid hr
  clear ho hr
  go_wp2_with fail
  refine (l3Some_any B (m + 4) w1 HR.out).mono ?_
  rintro e w2 ⟨u, hu, rfl, ho2, hr2⟩
  have HU := hid hu
  have HO2 := hid (HO.out.trans ho2)
  have HR2 := hid hr2
  clear hu ho2 hr2
  by_cases hv : TValid t
  · have HV := hid hv
    clear hv
    go_wp2_with fail
    refine (sTransValid_yes t HV.out _).mono ?_
    rintro e w3 ⟨rfl, rfl⟩
    go_wp2_with fail
    refine (pick_any 3 B (m + 3) _ (by omega) (by omega) HR2.out).mono ?_
    rintro e w4 ⟨k, hk, rfl, ho4, hr4⟩
    have HO4 := hid (HO2.out.trans ho4)
    have HR4 := hid hr4
    clear ho4 hr4
    by_cases k0 : k = 0
    · have x0 : ((k : Int) == 0) = true := by simp; omega
      clear k0 hk
      go_wp2_with fail
      refine (l3Join_any t u HV.out.1 HU.out _).mono ?_
      rintro e w5 ⟨rfl, rfl⟩
      go_wp2_with fail
      refine (l3Bad_any B m _ (text_size _ _) _ HR4.out).mono ?_
      rintro e w6 ⟨s, hs, rfl, ho6, hr6⟩
      have HO6 := hid (HO4.out.trans ho6)
      have HR6 := hid hr6
      clear ho6 hr6
      go_wp2_with fail
      go_ret2
      exact ⟨t, s, ht, hs, rfl, HO6.out, HR6.out⟩
    · have x0 : ((k : Int) == 0) = false := by simp; omega
      clear k0 hk
      go_wp2_with fail
      refine (l3Bad_any B m _ HU.out.1 _ HR4.out).mono ?_
      rintro e w6 ⟨s, hs, rfl, ho6, hr6⟩
      have HO6 := hid (HO4.out.trans ho6)
      have HR6 := hid hr6
      clear ho6 hr6
      go_wp2_with fail
      go_ret2
      exact ⟨t, s, ht, hs, rfl, HO6.out, HR6.out⟩
  · have HV := hid hv
    clear hv
    go_wp2_with fail
    refine (sTransValid_no t ht HV.out _).mono ?_
    rintro e w3 ⟨rfl, rfl⟩
    go_wp2_with fail
    refine (l3Bad_any B m _ HU.out.1 _ (HR2.out.less (by omega))).mono ?_
    rintro e w6 ⟨s, hs, rfl, ho6, hr6⟩
    have HO6 := hid (HO2.out.trans ho6)
    have HR6 := hid hr6
    clear ho6 hr6
    go_wp2_with fail
    go_ret2
    exact ⟨t, s, ht, hs, rfl, HO6.out, HR6.out⟩
set_option maxHeartbeats 1000000 in
theorem DrawMeetTrans_any (a : Option Addr) (len cap : Nat) (zs : List Int) (w : World) (h : IsRow .u8 w a len cap zs) (hl : len ≤ 1048576) :
    Calls Try.prog 19 #[.slice a len cap] w (DrawnSS w) := by
  have H := hid h
  clear h
  go_enter Try.func19, Try.ntmps19
  go_wp2_with fail
  refine (open_any a len cap zs w H.out hl).mono ?_
  rintro e w1 ⟨rfl, hg, hr⟩
  have HG := hid hg
  have HR := hid hr
  clear hg hr
  go_wp2_with fail
  refine (l3Pair_any w.heap.size 999943 w1 HR.out).mono ?_
  rintro e w2 ⟨s, t, hs, ht, rfl, ho, _⟩
  have HO := hid ho
  clear ho
  go_wp2_with fail
  go_ret2
  exact ⟨s, t, hs, ht, rfl, Only.grew HG.out (Nat.le_refl _) HO.out⟩
set_option maxHeartbeats 1000000 in
theorem DrawThenTrans_any (a : Option Addr) (len cap : Nat) (zs : List Int) (w : World) (h : IsRow .u8 w a len cap zs) (hl : len ≤ 1048576) :
    Calls Try.prog 48 #[.slice a len cap] w (DrawnSS w) := by
  have H := hid h
  clear h
  go_enter Try.func48, Try.ntmps48
  go_wp2_with fail
  refine (open_any a len cap zs w H.out hl).mono ?_
  rintro e w1 ⟨rfl, hg, hr⟩
  have HG := hid hg
  have HR := hid hr
  clear hg hr
  go_wp2_with fail
  refine (l3Pair_any w.heap.size 999943 w1 HR.out).mono ?_
  rintro e w2 ⟨s, t, hs, ht, rfl, ho, _⟩
  have HO := hid ho
  clear ho
  go_wp2_with fail
  go_ret2
  exact ⟨s, t, hs, ht, rfl, Only.grew HG.out (Nat.le_refl _) HO.out⟩
set_option maxHeartbeats 1000000 in
theorem DrawRefinesTrans_any (a : Option Addr) (len cap : Nat) (zs : List Int) (w : World) (h : IsRow .u8 w a len cap zs) (hl : len ≤ 1048576) :
    Calls Try.prog 34 #[.slice a len cap] w (DrawnSS w) := by
  have H := hid h
  clear h
  go_enter Try.func34, Try.ntmps34
  go_wp2_with fail
  refine (open_any a len cap zs w H.out hl).mono ?_
  rintro e w1 ⟨rfl, hg, hr⟩
  have HG := hid hg
  have HR := hid hr
  clear hg hr
  go_wp2_with fail
  refine (l3Pair_any w.heap.size 999943 w1 HR.out).mono ?_
  rintro e w2 ⟨s, t, hs, ht, rfl, ho, _⟩
  have HO := hid ho
  clear ho
  go_wp2_with fail
  go_ret2
  exact ⟨s, t, hs, ht, rfl, Only.grew HG.out (Nat.le_refl _) HO.out⟩
set_option maxHeartbeats 1000000 in
theorem DrawDualTrans_any (a : Option Addr) (len cap : Nat) (zs : List Int) (w : World) (h : IsRow .u8 w a len cap zs) (hl : len ≤ 1048576) :
    Calls Try.prog 24 #[.slice a len cap] w (DrawnS w) := by
  have H := hid h
  clear h
  go_enter Try.func24, Try.ntmps24
  go_wp2_with fail
  refine (open_any a len cap zs w H.out hl).mono ?_
  rintro e w1 ⟨rfl, hg, hr⟩
  have HG := hid hg
  have HR := hid hr
  clear hg hr
  go_wp2_with fail
  refine (l3Open_any w.heap.size 999972 w1 HR.out).mono ?_
  rintro e w2 ⟨s, hs, rfl, ho, _⟩
  have HO := hid ho
  clear ho
  go_wp2_with fail
  go_ret
  exact ⟨s, hs, rfl, Only.grew HG.out (Nat.le_refl _) HO.out⟩
set_option maxHeartbeats 1000000 in
theorem DrawAssertTrans_any (a : Option Addr) (len cap : Nat) (zs : List Int) (w : World) (h : IsRow .u8 w a len cap zs) (hl : len ≤ 1048576) :
    Calls Try.prog 29 #[.slice a len cap] w (DrawnI w) := by
  have H := hid h
  clear h
  go_enter Try.func29, Try.ntmps29
  go_wp2_with fail
  refine (open_any a len cap zs w H.out hl).mono ?_
  rintro e w1 ⟨rfl, hg, hr⟩
  have HG := hid hg
  have HR := hid hr
  clear hg hr
  go_wp2_with fail
  refine (l1Some_any w.heap.size 999998 w1 HR.out).mono ?_
  rintro e w2 ⟨v, rfl, ho, _⟩
  have HO := hid ho
  clear ho
  go_wp2_with fail
  go_ret
  exact ⟨v, rfl, Only.grew HG.out (Nat.le_refl _) HO.out⟩
set_option maxHeartbeats 1000000 in
theorem DrawFamilyOf_any (a : Option Addr) (len cap : Nat) (zs : List Int) (w : World) (h : IsRow .u8 w a len cap zs) (hl : len ≤ 1048576) :
    Calls Try.prog 37 #[.slice a len cap] w (DrawnSI w) := by
  have H := hid h
  clear h
  go_enter Try.func37, Try.ntmps37
  go_wp2_with fail
  refine (open_any a len cap zs w H.out hl).mono ?_
  rintro e w1 ⟨rfl, hg, hr⟩
  have HG := hid hg
  have HR := hid hr
  clear hg hr
  go_wp2_with fail
  refine (l3Open_any w.heap.size 999972 w1 HR.out).mono ?_
  rintro e w2 ⟨s, hs, rfl, ho, hr⟩
  have HO := hid ho
  have HR2 := hid hr
  clear ho hr
  go_wp2_with fail
  refine (l1Spot_any w.heap.size 999970 w2 HR2.out).mono ?_
  rintro e w3 ⟨v, rfl, ho3, _⟩
  have HO3 := hid (HO.out.trans ho3)
  clear ho3
  go_wp2_with fail
  go_ret2
  exact ⟨s, v, hs, rfl, Only.grew HG.out (Nat.le_refl _) HO3.out⟩
set_option maxHeartbeats 1000000 in
theorem DrawMonotoneTable_any (a : Option Addr) (len cap : Nat) (zs : List Int) (w : World) (h : IsRow .u8 w a len cap zs) (hl : len ≤ 1048576) :
    Calls Try.prog 41 #[.slice a len cap] w (DrawnS w) := by
  have H := hid h
  clear h
  go_enter Try.func41, Try.ntmps41
  go_wp2_with fail
  refine (open_any a len cap zs w H.out hl).mono ?_
  rintro e w1 ⟨rfl, hg, hr⟩
  have HG := hid hg
  have HR := hid hr
  clear hg hr
  go_wp2_with fail
  refine (l3Some_any w.heap.size 999975 w1 HR.out).mono ?_
  rintro e w2 ⟨t, ht, rfl, ho, hr⟩
  have hts := ht.1
  have HO := hid ho
  have HR2 := hid hr
  clear ht ho hr
  go_wp2_with fail
  refine (pick_any 16 w.heap.size 999974 w2 (by omega) (by omega) HR2.out).mono ?_
  rintro e w3 ⟨i, hi, rfl, ho3, hr3⟩
  have HO3 := hid (HO.out.trans ho3)
  have HR3 := hid hr3
  clear ho3 hr3
  go_wp2_with fail
  refine (pick_any 2 w.heap.size 999973 w3 (by omega) (by omega) HR3.out).mono ?_
  rintro e w4 ⟨k, hk, rfl, ho4, hr4⟩
  have HO4 := hid (HO3.out.trans ho4)
  have HR4 := hid hr4
  clear ho4 hr4
  by_cases k0 : k = 0
  · have x0 : ((k : Int) == 0) = true := by simp; omega
    clear k0 hk
    go_wp2_with fail
    go_ret
    exact ⟨t, by omega, rfl, Only.grew HG.out (Nat.le_refl _) HO4.out⟩
  · have x0 : ((k : Int) == 0) = false := by simp; omega
    clear k0 hk
    have z2 := cut_low t i hts hi
    have z3 := cut_high t i hts hi
    have z4 : IntKind.i64.wrap ((i : Int) + 1) = (i : Int) + 1 := IntWalk.i64_in _ (by omega)
    go_wp2_with fail
    go_region_with (first
      | (go_at_call 95; refine (pick_any 16 w.heap.size 999972 _ (by omega) (by omega) (by first | exact HR4.out | exact HR4.out.grew (Grew.drew _))).mono ?_; rintro e w5 ⟨d, hd, rfl, ho5, hr5⟩; have a1 := add_ok (t.extract 0 i) (dig d) (by simp; omega) (by rw [dig_size]; omega); have a2 := add_ok (t.extract 0 i ++ dig d) (t.extract (i + 1) 16) (by simp only [ByteArray.size_append, ByteArray.size_extract, dig_size]; omega) (by simp; omega))
      | (go_at_call 57; refine (l2Digit_any _ (by assumption) _).mono ?_; rintro e w6 ⟨rfl, rfl⟩))
    all_goals
      have HO5 := hid ho5
      clear ho5 hr5
      go_wp2_with fail
      go_ret
      refine ⟨_, ?_, rfl, ?_⟩
      · simp only [ByteArray.size_append, ByteArray.size_extract, dig_size]; omega
      · first
          | exact Only.grew HG.out (Nat.le_refl _) (HO4.out.trans HO5.out)
          | exact Only.grew HG.out (Nat.le_refl _) (HO4.out.trans ((Only.of_grew (Grew.drew _)).trans HO5.out))
          | exact Only.grew HG.out (Nat.le_refl _) (HO4.out.trans (HO5.out.trans (Only.of_grew (Grew.drew _))))
end Go.Proofs.Ytipkalbomjfckaa
