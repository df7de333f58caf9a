/-
  Proved here: what the reference's makers of transformers (l3Then, l3Meet, l3Join, l3Dual, l3Assert, l3Angel and the exported functions over them) return, for all arguments.
-/
import Derived.Test.YtipkalbomjfckaaK2
namespace Go.Proofs.Ytipkalbomjfckaa
open Go.RowKit
def thenF (f g : Nat → Nat) : Nat → Nat := fun p => f (g p)
def meetF (f g : Nat → Nat) : Nat → Nat := fun p => andN (f p) (g p)
def joinF (f g : Nat → Nat) : Nat → Nat := fun p => orN (f p) (g p)
def dualF (f : Nat → Nat) : Nat → Nat := fun p => diff 15 (f (diff 15 p))
def assertF (p : Nat) : Nat → Nat := fun q => andN p q
def assumeF (p : Nat) : Nat → Nat := fun q => orN q (diff 15 p)
def angelF (f : Nat → Nat) : Nat → Nat := fun p => diaN f p
def demonF (f : Nat → Nat) : Nat → Nat := fun p => boxN f p
def famF (f : Nat → Nat) (s : Nat) : Nat := setOf (fun p => has (f p) s) 16
/-- The numbers of a table are conditions. -/
def Small (f : Nat → Nat) : Prop := ∀ i, i < 16 → f i < 16
theorem small_dv (t : ByteArray) : Small (dv t) := fun i _ => dv_lt t i
theorem diff15_lt (q : Nat) : diff 15 q < 16 := Nat.lt_of_le_of_lt Nat.and_le_left (by omega)
theorem small_then {f g : Nat → Nat} (hf : Small f) (hg : Small g) : Small (thenF f g) := fun i hi => hf _ (hg i hi)
theorem small_meet {f g : Nat → Nat} (hf : Small f) : Small (meetF f g) := fun i hi => and16 _ _ (hf i hi)
theorem orN_16 (p q : Nat) (hp : p < 16) (hq : q < 16) : orN p q < 16 := Nat.or_lt_two_pow (n := 4) hp hq
theorem small_join {f g : Nat → Nat} (hf : Small f) (hg : Small g) : Small (joinF f g) := fun i hi => orN_16 _ _ (hf i hi) (hg i hi)
theorem small_dual (f : Nat → Nat) : Small (dualF f) := fun _ _ => diff15_lt _
theorem small_assert (p : Nat) (hp : p < 16) : Small (assertF p) := fun _ _ => and16 _ _ hp
theorem small_assume (p : Nat) : Small (assumeF p) := fun _ hi => orN_16 _ _ hi (diff15_lt p)
theorem small_angel (f : Nat → Nat) : Small (angelF f) := fun _ _ => diaN_lt _ _
theorem small_demon (f : Nat → Nat) : Small (demonF f) := fun _ _ => boxN_lt _ _
theorem valid_small {f : Nat → Nat} (h : Small f) : Valid 16 (text f 16) := valid_text f 16 h
theorem dv_small {f : Nat → Nat} (h : Small f) (i : Nat) (hi : i < 16) : dv (text f 16) i = f i := dv_text f 16 i h hi
theorem not15 : ∀ p : Nat, p < 16 → ∀ q : Nat, q < 16 → diff 15 (andN p (diff 15 q)) = orN q (diff 15 p) := by decide +kernel
theorem dual_assert (p : Nat) (hp : p < 16) : text (dualF (dv (text (assertF p) 16))) 16 = text (assumeF p) 16 :=
  text_congr _ _ _ fun i hi => by
    unfold dualF
    rw [dv_small (small_assert p hp) _ (diff15_lt i)]
    exact not15 p hp i hi
theorem dual_angel (f : Nat → Nat) (hf : ∀ i, i < 4 → f i < 16) : text (dualF (dv (text (angelF f) 16))) 16 = text (demonF f) 16 :=
  text_congr _ _ _ fun i hi => by
    unfold dualF
    rw [dv_small (small_angel f) _ (diff15_lt i)]
    exact box_dia f i hf hi
set_option maxHeartbeats 400000 in
theorem l3Then_any (t u : ByteArray) (ht : Valid 16 t) (hu : Valid 16 u) (w : World) :
    Calls Try.prog 99 #[.string t, .string u] w fun e w' => e = .returned (.string (text (thenF (dv t) (dv u)) 16)) ∧ w = w' := by
  have HT := hid ht
  have HU := hid hu
  clear ht hu
  go_enter Try.func99, Try.ntmps99
  go_wp2_with fail
  go_loop [5, 6] (fun v x => ∃ s : Nat, s ≤ 16 ∧ x = .int .i64 s ∧ v = .string (text (thenF (dv t) (dv u)) s)) (fun _ x => 16 - (intOf x).toNat)
  case atStart => exact ⟨0, by omega, rfl, rfl⟩
  case round =>
    obtain ⟨s, hs, rfl, rfl⟩ := hrel
    by_cases h0 : s < 16
    · have h0' : (s : Int) < 16 := by omega
      have h1 : s < 65536 := by omega
      have hd := small_then (small_dv t) (small_dv u) s h0
      go_wp2_with fail
      refine (l3Value_any u s HU.out h0 _).mono ?_
      rintro e w1 ⟨rfl, rfl⟩
      go_wp2_with fail
      refine (l3Value_any t (dv u s) HT.out (dv_lt u s) _).mono ?_
      rintro e w1 ⟨rfl, rfl⟩
      go_wp2_with fail
      refine (l2Digit_any _ hd _).mono ?_
      rintro e w1 ⟨rfl, rfl⟩
      go_wp2_with fail
      go_round
      case rel => exact ⟨s + 1, by omega, by go_num, by rw [← text_succ]; try rfl⟩
      case measure => simp [intOf]; omega
    · obtain rfl : s = 16 := by omega
      go_wp2_with fail
      go_ret
      exact ⟨rfl, rfl⟩
set_option maxHeartbeats 400000 in
theorem l3Meet_any (t u : ByteArray) (ht : Valid 16 t) (hu : Valid 16 u) (w : World) :
    Calls Try.prog 75 #[.string t, .string u] w fun e w' => e = .returned (.string (text (meetF (dv t) (dv u)) 16)) ∧ w = w' := by
  have HT := hid ht
  have HU := hid hu
  clear ht hu
  go_enter Try.func75, Try.ntmps75
  go_wp2_with fail
  go_loop [5, 6] (fun v x => ∃ s : Nat, s ≤ 16 ∧ x = .int .i64 s ∧ v = .string (text (meetF (dv t) (dv u)) s)) (fun _ x => 16 - (intOf x).toNat)
  case atStart => exact ⟨0, by omega, rfl, rfl⟩
  case round =>
    obtain ⟨s, hs, rfl, rfl⟩ := hrel
    by_cases h0 : s < 16
    · have h0' : (s : Int) < 16 := by omega
      have h1 : s < 65536 := by omega
      have b1 : dv t s < 65536 := by have := dv_lt t s; omega
      have b2 : dv u s < 65536 := by have := dv_lt u s; omega
      have hd := small_meet (g := dv u) (small_dv t) s h0
      go_wp2_with fail
      refine (l3Value_any t s HT.out h0 _).mono ?_
      rintro e w1 ⟨rfl, rfl⟩
      go_wp2_with fail
      refine (l3Value_any u s HU.out h0 _).mono ?_
      rintro e w1 ⟨rfl, rfl⟩
      go_wp2_with fail
      refine (l2Digit_any _ hd _).mono ?_
      rintro e w1 ⟨rfl, rfl⟩
      go_wp2_with fail
      go_round
      case rel => exact ⟨s + 1, by omega, by go_num, by rw [← text_succ]; try rfl⟩
      case measure => simp [intOf]; omega
    · obtain rfl : s = 16 := by omega
      go_wp2_with fail
      go_ret
      exact ⟨rfl, rfl⟩
set_option maxHeartbeats 400000 in
theorem l3Join_any (t u : ByteArray) (ht : Valid 16 t) (hu : Valid 16 u) (w : World) :
    Calls Try.prog 77 #[.string t, .string u] w fun e w' => e = .returned (.string (text (joinF (dv t) (dv u)) 16)) ∧ w = w' := by
  have HT := hid ht
  have HU := hid hu
  clear ht hu
  go_enter Try.func77, Try.ntmps77
  go_wp2_with fail
  go_loop [5, 6] (fun v x => ∃ s : Nat, s ≤ 16 ∧ x = .int .i64 s ∧ v = .string (text (joinF (dv t) (dv u)) s)) (fun _ x => 16 - (intOf x).toNat)
  case atStart => exact ⟨0, by omega, rfl, rfl⟩
  case round =>
    obtain ⟨s, hs, rfl, rfl⟩ := hrel
    by_cases h0 : s < 16
    · have h0' : (s : Int) < 16 := by omega
      have h1 : s < 65536 := by omega
      have b1 : dv t s < 65536 := by have := dv_lt t s; omega
      have b2 : dv u s < 65536 := by have := dv_lt u s; omega
      have hd := small_join (small_dv t) (small_dv u) s h0
      go_wp2_with fail
      refine (l3Value_any t s HT.out h0 _).mono ?_
      rintro e w1 ⟨rfl, rfl⟩
      go_wp2_with fail
      refine (l3Value_any u s HU.out h0 _).mono ?_
      rintro e w1 ⟨rfl, rfl⟩
      go_wp2_with fail
      refine (l2Digit_any _ hd _).mono ?_
      rintro e w1 ⟨rfl, rfl⟩
      go_wp2_with fail
      go_round
      case rel => exact ⟨s + 1, by omega, by go_num, by rw [← text_succ]; try rfl⟩
      case measure => simp [intOf]; omega
    · obtain rfl : s = 16 := by omega
      go_wp2_with fail
      go_ret
      exact ⟨rfl, rfl⟩
set_option maxHeartbeats 400000 in
theorem l3Dual_any (t : ByteArray) (ht : Valid 16 t) (w : World) :
    Calls Try.prog 86 #[.string t] w fun e w' => e = .returned (.string (text (dualF (dv t)) 16)) ∧ w = w' := by
  have HT := hid ht
  clear ht
  go_enter Try.func86, Try.ntmps86
  go_wp2_with fail
  go_loop [3, 4] (fun v x => ∃ s : Nat, s ≤ 16 ∧ x = .int .i64 s ∧ v = .string (text (dualF (dv t)) s)) (fun _ x => 16 - (intOf x).toNat)
  case atStart => exact ⟨0, by omega, rfl, rfl⟩
  case round =>
    obtain ⟨s, hs, rfl, rfl⟩ := hrel
    by_cases h0 : s < 16
    · have h0' : (s : Int) < 16 := by omega
      have h1 : s < 65536 := by omega
      have n1 := not_i64 s h0
      unfold notN at n1
      have n2 := not_i64 (dv t (diff 15 s)) (dv_lt _ _)
      unfold notN at n2
      have hd := small_dual (dv t) s h0
      go_wp2_with fail
      refine (l3Value_any t (diff 15 s) HT.out (diff15_lt s) _).mono ?_
      rintro e w1 ⟨rfl, rfl⟩
      go_wp2_with fail
      refine (l2Digit_any _ hd _).mono ?_
      rintro e w1 ⟨rfl, rfl⟩
      go_wp2_with fail
      go_round
      case rel => exact ⟨s + 1, by omega, by go_num, by rw [← text_succ]; try rfl⟩
      case measure => simp [intOf]; omega
    · obtain rfl : s = 16 := by omega
      go_wp2_with fail
      go_ret
      exact ⟨rfl, rfl⟩
set_option maxHeartbeats 400000 in
theorem l3Angel_any (r : ByteArray) (hr : Valid 4 r) (w : World) :
    Calls Try.prog 116 #[.string r] w fun e w' => e = .returned (.string (text (angelF (dv r)) 16)) ∧ w = w' := by
  have HR := hid hr
  clear hr
  go_enter Try.func116, Try.ntmps116
  go_wp2_with fail
  go_loop [3, 4] (fun v x => ∃ s : Nat, s ≤ 16 ∧ x = .int .i64 s ∧ v = .string (text (angelF (dv r)) s)) (fun _ x => 16 - (intOf x).toNat)
  case atStart => exact ⟨0, by omega, rfl, rfl⟩
  case round =>
    obtain ⟨s, hs, rfl, rfl⟩ := hrel
    by_cases h0 : s < 16
    · have h0' : (s : Int) < 16 := by omega
      have h1 : s < 65536 := by omega
      have hd := small_angel (dv r) s h0
      go_wp2_with fail
      refine (l2Diamond_any r s HR.out h0 _).mono ?_
      rintro e w1 ⟨rfl, rfl⟩
      go_wp2_with fail
      refine (l2Digit_any _ hd _).mono ?_
      rintro e w1 ⟨rfl, rfl⟩
      go_wp2_with fail
      go_round
      case rel => exact ⟨s + 1, by omega, by go_num, by rw [← text_succ]; try rfl⟩
      case measure => simp [intOf]; omega
    · obtain rfl : s = 16 := by omega
      go_wp2_with fail
      go_ret
      exact ⟨rfl, rfl⟩
set_option maxHeartbeats 400000 in
theorem sBoth3_yes (r q : ByteArray) (hr : TValid r) (hq : TValid q) (w : World) :
    Calls Try.prog 74 #[.string r, .string q] w fun e w' => e = .returned (.bool true) ∧ w = w' := by
  have HR := hid hr
  have HQ := hid hq
  clear hr hq
  go_enter Try.func74, Try.ntmps74
  go_wp2_with fail
  refine (sTransValid_yes r HR.out _).mono ?_
  rintro e w1 ⟨rfl, rfl⟩
  go_wp2_with fail
  refine (sTransValid_yes q HQ.out _).mono ?_
  rintro e w1 ⟨rfl, rfl⟩
  go_wp2_with fail
  go_ret
  exact ⟨rfl, rfl⟩
set_option maxHeartbeats 400000 in
theorem sBoth3_no (r q : ByteArray) (h1 : r.size ≤ 1048576) (h2 : q.size ≤ 1048576) (h : ¬ (TValid r ∧ TValid q)) (w : World) :
    Calls Try.prog 74 #[.string r, .string q] w fun e w' => e = .returned (.bool false) ∧ w = w' := by
  by_cases hr : TValid r
  · have hq : ¬ TValid q := fun hq => h ⟨hr, hq⟩
    have HR := hid hr
    have HQ := hid hq
    clear hr hq h
    go_enter Try.func74, Try.ntmps74
    go_wp2_with fail
    refine (sTransValid_yes r HR.out _).mono ?_
    rintro e w1 ⟨rfl, rfl⟩
    go_wp2_with fail
    refine (sTransValid_no q h2 HQ.out _).mono ?_
    rintro e w1 ⟨rfl, rfl⟩
    go_wp2_with fail
    go_ret
    exact ⟨rfl, rfl⟩
  · have HR := hid hr
    clear hr h
    go_enter Try.func74, Try.ntmps74
    go_wp2_with fail
    refine (sTransValid_no r h1 HR.out _).mono ?_
    rintro e w1 ⟨rfl, rfl⟩
    go_wp2_with fail
    go_ret
    exact ⟨rfl, rfl⟩
theorem sThenT_yes (t u : ByteArray) (ht : TValid t) (hu : TValid u) (w : World) :
    Calls Try.prog 50 #[.string t, .string u] w fun e w' => e = .returned (.tuple #[.string (text (thenF (dv t) (dv u)) 16), .bool true]) ∧ w = w' := by
  have HT := hid ht
  have HU := hid hu
  clear ht hu
  go_enter Try.func50, Try.ntmps50
  go_wp2_with fail
  refine (sBoth3_yes t u HT.out HU.out _).mono ?_
  rintro e w1 ⟨rfl, rfl⟩
  go_wp2_with fail
  refine (l3Then_any t u HT.out.1 HU.out.1 _).mono ?_
  rintro e w1 ⟨rfl, rfl⟩
  go_wp2_with fail
  go_ret2
  exact ⟨rfl, rfl⟩
theorem sThenT_no (t u : ByteArray) (h1 : t.size ≤ 1048576) (h2 : u.size ≤ 1048576) (h : ¬ (TValid t ∧ TValid u)) (w : World) :
    Calls Try.prog 50 #[.string t, .string u] w fun e w' => e = .returned (.tuple #[.string ByteArray.empty, .bool false]) ∧ w = w' := by
  have HH := hid h
  clear h
  go_enter Try.func50, Try.ntmps50
  go_wp2_with fail
  refine (sBoth3_no t u h1 h2 HH.out _).mono ?_
  rintro e w1 ⟨rfl, rfl⟩
  go_wp2_with fail
  go_ret2
  exact ⟨rfl, rfl⟩
theorem sMeetT_yes (t u : ByteArray) (ht : TValid t) (hu : TValid u) (w : World) :
    Calls Try.prog 21 #[.string t, .string u] w fun e w' => e = .returned (.tuple #[.string (text (meetF (dv t) (dv u)) 16), .bool true]) ∧ w = w' := by
  have HT := hid ht
  have HU := hid hu
  clear ht hu
  go_enter Try.func21, Try.ntmps21
  go_wp2_with fail
  refine (sBoth3_yes t u HT.out HU.out _).mono ?_
  rintro e w1 ⟨rfl, rfl⟩
  go_wp2_with fail
  refine (l3Meet_any t u HT.out.1 HU.out.1 _).mono ?_
  rintro e w1 ⟨rfl, rfl⟩
  go_wp2_with fail
  go_ret2
  exact ⟨rfl, rfl⟩
theorem sMeetT_no (t u : ByteArray) (h1 : t.size ≤ 1048576) (h2 : u.size ≤ 1048576) (h : ¬ (TValid t ∧ TValid u)) (w : World) :
    Calls Try.prog 21 #[.string t, .string u] w fun e w' => e = .returned (.tuple #[.string ByteArray.empty, .bool false]) ∧ w = w' := by
  have HH := hid h
  clear h
  go_enter Try.func21, Try.ntmps21
  go_wp2_with fail
  refine (sBoth3_no t u h1 h2 HH.out _).mono ?_
  rintro e w1 ⟨rfl, rfl⟩
  go_wp2_with fail
  go_ret2
  exact ⟨rfl, rfl⟩
theorem sJoinT_yes (t u : ByteArray) (ht : TValid t) (hu : TValid u) (w : World) :
    Calls Try.prog 23 #[.string t, .string u] w fun e w' => e = .returned (.tuple #[.string (text (joinF (dv t) (dv u)) 16), .bool true]) ∧ w = w' := by
  have HT := hid ht
  have HU := hid hu
  clear ht hu
  go_enter Try.func23, Try.ntmps23
  go_wp2_with fail
  refine (sBoth3_yes t u HT.out HU.out _).mono ?_
  rintro e w1 ⟨rfl, rfl⟩
  go_wp2_with fail
  refine (l3Join_any t u HT.out.1 HU.out.1 _).mono ?_
  rintro e w1 ⟨rfl, rfl⟩
  go_wp2_with fail
  go_ret2
  exact ⟨rfl, rfl⟩
theorem sJoinT_no (t u : ByteArray) (h1 : t.size ≤ 1048576) (h2 : u.size ≤ 1048576) (h : ¬ (TValid t ∧ TValid u)) (w : World) :
    Calls Try.prog 23 #[.string t, .string u] w fun e w' => e = .returned (.tuple #[.string ByteArray.empty, .bool false]) ∧ w = w' := by
  have HH := hid h
  clear h
  go_enter Try.func23, Try.ntmps23
  go_wp2_with fail
  refine (sBoth3_no t u h1 h2 HH.out _).mono ?_
  rintro e w1 ⟨rfl, rfl⟩
  go_wp2_with fail
  go_ret2
  exact ⟨rfl, rfl⟩
theorem sDualT_yes (t : ByteArray) (ht : TValid t) (w : World) :
    Calls Try.prog 52 #[.string t] w fun e w' => e = .returned (.tuple #[.string (text (dualF (dv t)) 16), .bool true]) ∧ w = w' := by
  have HT := hid ht
  clear ht
  go_enter Try.func52, Try.ntmps52
  go_wp2_with fail
  refine (sTransValid_yes t HT.out _).mono ?_
  rintro e w1 ⟨rfl, rfl⟩
  go_wp2_with fail
  refine (l3Dual_any t HT.out.1 _).mono ?_
  rintro e w1 ⟨rfl, rfl⟩
  go_wp2_with fail
  go_ret2
  exact ⟨rfl, rfl⟩
theorem sDualT_no (t : ByteArray) (h1 : t.size ≤ 1048576) (h : ¬ TValid t) (w : World) :
    Calls Try.prog 52 #[.string t] w fun e w' => e = .returned (.tuple #[.string ByteArray.empty, .bool false]) ∧ w = w' := by
  have HH := hid h
  clear h
  go_enter Try.func52, Try.ntmps52
  go_wp2_with fail
  refine (sTransValid_no t h1 HH.out _).mono ?_
  rintro e w1 ⟨rfl, rfl⟩
  go_wp2_with fail
  go_ret2
  exact ⟨rfl, rfl⟩
theorem sAssumeT_yes (p : Nat) (hp : p < 16) (w : World) :
    Calls Try.prog 33 #[.int .i64 p] w fun e w' => e = .returned (.tuple #[.string (text (assumeF p) 16), .bool true]) ∧ w = w' := by
  go_enter Try.func33, Try.ntmps33
  go_wp2_with (first | (go_at_call 83; refine (scv_yes _ hp _).mono ?_; rintro e w' ⟨rfl, rfl⟩) | fail)
  refine (l3Assert_any p hp _).mono ?_
  rintro e w1 ⟨rfl, rfl⟩
  go_wp2_with fail
  refine (l3Dual_any _ (valid_small (small_assert p hp)) _).mono ?_
  rintro e w1 ⟨rfl, rfl⟩
  go_wp2_with fail
  go_ret2
  exact ⟨by rw [dual_assert p hp]; rfl, rfl⟩
theorem sAssumeT_no (p : Int) (hp : p < 0 ∨ 15 < p) (w : World) :
    Calls Try.prog 33 #[.int .i64 p] w fun e w' => e = .returned (.tuple #[.string ByteArray.empty, .bool false]) ∧ w = w' := by
  have HN := hid hp
  clear hp
  go_enter Try.func33, Try.ntmps33
  go_wp2_with (first | (go_at_call 83; refine (scv_no _ HN.out _).mono ?_; rintro e w' ⟨rfl, rfl⟩) | fail)
  go_ret2
  exact ⟨rfl, rfl⟩
set_option maxHeartbeats 400000 in
theorem sFamilyOf_yes (t : ByteArray) (s : Nat) (ht : TValid t) (hs : s < 4) (w : World) :
    Calls Try.prog 38 #[.string t, .int .i64 s] w fun e w' => e = .returned (.int .i64 (famF (dv t) s : Nat)) ∧ w = w' := by
  have HT := hid ht
  clear ht
  go_enter Try.func38, Try.ntmps38
  go_wp2_with fail
  refine (sTransValid_yes t HT.out _).mono ?_
  rintro e w1 ⟨rfl, rfl⟩
  go_wp2_with (first | (go_at_call 88; refine (sst_yes _ hs _).mono ?_; rintro e w' ⟨rfl, rfl⟩) | fail)
  go_loop [5, 6] (fun v u => ∃ p : Nat, p ≤ 16 ∧ u = .int .i64 p ∧ v = .int .i64 (setOf (fun p => has (dv t p) s) p : Nat)) (fun _ u => 16 - (intOf u).toNat)
  case atStart => exact ⟨0, by omega, rfl, rfl⟩
  case round =>
    obtain ⟨p, hp, rfl, rfl⟩ := hrel
    by_cases h0 : p < 16
    · have h0' : (p : Int) < 16 := by omega
      have b3 := setOf_lt65536 (fun p => has (dv t p) s) p (by omega)
      cases hm : has (dv t p) s
      · have key := hid (setOf_no (fun p => has (dv t p) s) p hm)
        go_wp2_with fail
        refine (l3Value_any t p HT.out.1 h0 _).mono ?_
        rintro e w1 ⟨rfl, rfl⟩
        go_wp2_with (first | (go_at_call 55; refine (l1Has_any _ s (by omega) _).mono ?_; rintro e w' ⟨rfl, rfl⟩) | fail)
        go_round
        case rel => exact ⟨p + 1, by omega, by go_num, by rw [key.out]⟩
        case measure => simp [intOf]; omega
      · have key := hid (setOf_yes (fun p => has (dv t p) s) p hm)
        go_wp2_with fail
        refine (l3Value_any t p HT.out.1 h0 _).mono ?_
        rintro e w1 ⟨rfl, rfl⟩
        go_wp2_with (first | (go_at_call 55; refine (l1Has_any _ s (by omega) _).mono ?_; rintro e w' ⟨rfl, rfl⟩) | fail)
        go_round
        case rel => exact ⟨p + 1, by omega, by go_num, by rw [key.out]⟩
        case measure => simp [intOf]; omega
    · obtain rfl : p = 16 := by omega
      go_wp2_with fail
      go_ret
      exact ⟨rfl, rfl⟩
theorem stateI_or (s : Int) (h : stateI s = false) : s < 0 ∨ 3 < s := by
  unfold stateI at h
  by_cases h1 : 0 ≤ s
  · by_cases h2 : s ≤ 3
    · simp [h1, h2] at h
    · omega
  · omega
theorem sFamilyOf_no (t : ByteArray) (s : Int) (h1 : t.size ≤ 1048576) (h : ¬ TValid t ∨ stateI s = false) (w : World) :
    Calls Try.prog 38 #[.string t, .int .i64 s] w fun e w' => e = .returned (.int .i64 (-1)) ∧ w = w' := by
  by_cases ht : TValid t
  · have hp := stateI_or s (h.resolve_left (fun x => x ht))
    have HP := hid hp
    have HT := hid ht
    clear ht h hp
    go_enter Try.func38, Try.ntmps38
    go_wp2_with fail
    refine (sTransValid_yes t HT.out _).mono ?_
    rintro e w1 ⟨rfl, rfl⟩
    go_wp2_with (first | (go_at_call 88; refine (sst_no _ HP.out _).mono ?_; rintro e w' ⟨rfl, rfl⟩) | fail)
    go_ret
    exact ⟨rfl, rfl⟩
  · have HT := hid ht
    clear ht h
    go_enter Try.func38, Try.ntmps38
    go_wp2_with fail
    refine (sTransValid_no t h1 HT.out _).mono ?_
    rintro e w1 ⟨rfl, rfl⟩
    go_wp2_with fail
    go_ret
    exact ⟨rfl, rfl⟩
end Go.Proofs.Ytipkalbomjfckaa
