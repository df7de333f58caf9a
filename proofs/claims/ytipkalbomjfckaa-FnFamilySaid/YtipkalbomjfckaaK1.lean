/-
  Proved here: what the reference's functions of relations return, for every text.
-/
import Derived.Test.YtipkalbomjfckaaH1
import Derived.Test.YtipkalbomjfckaaC1
import Derived.Test.YtipkalbomjfckaaI1
namespace Go.Proofs.Ytipkalbomjfckaa
open Go.RowKit
def diaN (f : Nat → Nat) (p : Nat) : Nat := setOf (fun s => meets (f s) p) 4
def boxN (f : Nat → Nat) (p : Nat) : Nat := setOf (fun s => sub (f s) p) 4
theorem diaN_lt (f : Nat → Nat) (p : Nat) : diaN f p < 16 := setOf_lt16 _ 4 (Nat.le_refl _)
theorem boxN_lt (f : Nat → Nat) (p : Nat) : boxN f p < 16 := setOf_lt16 _ 4 (Nat.le_refl _)
theorem meets_not4 : ∀ p : Nat, p < 16 → ∀ q : Nat, q < 16 → (!meets p (diff 15 q)) = sub p q := by decide +kernel
theorem box_dia (f : Nat → Nat) (p : Nat) (hf : ∀ i, i < 4 → f i < 16) (hp : p < 16) : diff 15 (diaN f (diff 15 p)) = boxN f p := by
  apply Nat.eq_of_testBit_eq
  intro i
  unfold boxN
  rw [setOf_bit]
  by_cases hi : i < 4
  · have h1 : (diff 15 (diaN f (diff 15 p))).testBit i = !(diaN f (diff 15 p)).testBit i := by
      unfold diff
      rw [Nat.testBit_and, Nat.testBit_xor, testBit_full, show (15 : Nat) = 2 ^ 4 - 1 from rfl, Nat.testBit_two_pow_sub_one]
      have : i < 16 := by omega
      simp [hi, this]
    rw [h1]
    unfold diaN
    rw [setOf_bit, ← meets_not4 _ (hf i hi) p hp]
    simp [hi]
  · have h1 : diff 15 (diaN f (diff 15 p)) < 2 ^ 4 := Nat.lt_of_le_of_lt Nat.and_le_left (by omega)
    rw [Nat.testBit_lt_two_pow (Nat.lt_of_lt_of_le h1 (Nat.pow_le_pow_right (by omega) (by omega)))]
    simp [hi]
theorem or16 (p q : Nat) (hp : p < 16) (hq : q < 16) : orN p q < 16 := Nat.or_lt_two_pow (n := 4) hp hq
def allSub (f g : Nat → Nat) (n : Nat) : Bool := (List.range n).all (fun s => sub (f s) (g s))
theorem allSub_iff (f g : Nat → Nat) (n : Nat) : allSub f g n = true ↔ ∀ i, i < n → sub (f i) (g i) = true := by
  unfold allSub; simp
theorem sub_orN : ∀ p : Nat, p < 16 → ∀ q : Nat, q < 16 → (orN p q == q) = sub p q := by decide +kernel
theorem or_text (r q : ByteArray) (n : Nat) (hq : Valid n q) : ((text (fun s => orN (dv r s) (dv q s)) n).toList == q.toList) = allSub (dv r) (dv q) n := by
  have ho : ∀ i, i < n → orN (dv r i) (dv q i) < 16 := fun i _ => Nat.or_lt_two_pow (n := 4) (dv_lt r i) (dv_lt q i)
  rw [Bool.eq_iff_iff, allSub_iff]
  constructor
  · intro h i hi
    have e1 : text (fun s => orN (dv r s) (dv q s)) n = q := by
      have := beq_iff_eq.1 h
      rw [ByteArray.toList_eq, ByteArray.toList_eq] at this
      apply ByteArray.ext
      exact Array.toList_inj.1 this
    have e2 : orN (dv r i) (dv q i) = dv q i := by
      have := dv_text (fun s => orN (dv r s) (dv q s)) n i ho hi
      rw [e1] at this
      exact this.symm
    rw [← sub_orN _ (dv_lt r i) _ (dv_lt q i)]
    simpa using e2
  · intro h
    have e1 : text (fun s => orN (dv r s) (dv q s)) n = q := by
      rw [text_congr _ (dv q) n (fun i hi => ?_), text_dv hq]
      have := h i hi
      rw [← sub_orN _ (dv_lt r i) _ (dv_lt q i)] at this
      simpa using this
    rw [e1]; simp
theorem allSub_no {f g : Nat → Nat} {n i : Nat} (hi : i < n) (h : sub (f i) (g i) = false) : allSub f g n = false := by
  cases ha : allSub f g n
  · rfl
  · have := (allSub_iff f g n).1 ha i hi
    rw [h] at this
    exact absurd this (by decide)
set_option maxHeartbeats 400000 in
theorem l2Digits_yes (s : ByteArray) (n : Nat) (hn : n ≤ 1048576) (hv : Valid n s) (w : World) :
    Calls Try.prog 96 #[.string s, .int .i64 n] w fun e w' => e = .returned (.bool true) ∧ w = w' := by
  have hsz : (s.size : Int) = (n : Int) := by rw [hv.1]
  have HV := hid hv
  clear hv
  go_enter Try.func96, Try.ntmps96
  go_wp2_with fail
  go_loop [5] (fun u => ∃ k : Nat, k ≤ n ∧ u = .int .i64 k) (fun u => n - (intOf u).toNat)
  case atStart => exact ⟨0, by omega, rfl⟩
  case round =>
    obtain ⟨k, hk, rfl⟩ := hrel
    by_cases hlt : k < n
    · have hl1 : (k : Int) < (n : Int) := by omega
      have hd := dv_eq HV.out k hlt
      have hp : ¬ ((dv s k : Nat) : Int) < 0 := by omega
      go_wp2_with (first | (go_at_call 115; refine (l2Hex_any _ _).mono ?_; rintro e w' ⟨rfl, rfl⟩) | fail)
      go_round
      case rel => exact ⟨k + 1, by omega, by go_num⟩
      case measure => simp [intOf]; omega
    · obtain rfl : k = n := by omega
      go_wp2_with fail
      go_ret
      exact ⟨rfl, rfl⟩
set_option maxHeartbeats 400000 in
theorem l2Digits_no (s : ByteArray) (n : Nat) (hs : s.size ≤ 1048576) (hv : ¬ Valid n s) (w : World) :
    Calls Try.prog 96 #[.string s, .int .i64 n] w fun e w' => e = .returned (.bool false) ∧ w = w' := by
  have HV := hid hv
  clear hv
  go_enter Try.func96, Try.ntmps96
  go_wp2_with fail
  go_loop [5] (fun u => ∃ k : Nat, k ≤ s.size ∧ u = .int .i64 k ∧ ∀ i, i < k → 0 ≤ hexI (byteAt s i)) (fun u => s.size - (intOf u).toNat)
  case atStart => exact ⟨0, by omega, rfl, fun i hi => by omega⟩
  case round =>
    obtain ⟨k, hk, rfl, hh⟩ := hrel
    have HH := hid hh
    clear hh
    by_cases hlt : k < s.size
    · have hl1 : (k : Int) < (s.size : Int) := by omega
      rcases dv_or s k with hx | hx
      · have HX := hid hx
        have hp : ¬ ((dv s k : Nat) : Int) < 0 := by omega
        go_wp2_with (first | (go_at_call 115; refine (l2Hex_any _ _).mono ?_; rintro e w' ⟨rfl, rfl⟩) | fail)
        go_round
        case rel =>
          refine ⟨k + 1, by omega, by go_num, fun i hi => ?_⟩
          by_cases e : i = k
          · subst e; rw [HX.out]; omega
          · exact HH.out i (by omega)
        case measure => simp [intOf]; omega
      · go_wp2_with (first | (go_at_call 115; refine (l2Hex_any _ _).mono ?_; rintro e w' ⟨rfl, rfl⟩) | fail)
        go_ret
        exact ⟨rfl, rfl⟩
    · have hks : k = s.size := by omega
      have hne : s.size ≠ n := fun e => HV.out ⟨e, fun i hi => HH.out i (by omega)⟩
      have x1 : ((s.size : Int) == (n : Int)) = false := by simp; omega
      have x2 : ¬ (k : Int) < (s.size : Int) := by omega
      clear hne hks
      go_wp2_with fail
      go_ret
      exact ⟨rfl, rfl⟩
theorem l2To_any (r : ByteArray) (s : Nat) (hv : Valid 4 r) (hs : s < 4) (w : World) :
    Calls Try.prog 126 #[.string r, .int .i64 s] w fun e w' => e = .returned (.int .i64 (dv r s : Nat)) ∧ w = w' := by
  have hsz : (r.size : Int) = 4 := by rw [hv.1]; rfl
  have hl : (s : Int) < 4 := by omega
  have hd := dv_eq hv s hs
  clear hv
  go_enter Try.func126, Try.ntmps126
  go_wp2_with (first | (go_at_call 115; refine (l2Hex_any _ _).mono ?_; rintro e w' ⟨rfl, rfl⟩) | fail)
  go_ret
  exact ⟨rfl, rfl⟩
theorem l3Value_any (t : ByteArray) (p : Nat) (hv : Valid 16 t) (hs : p < 16) (w : World) :
    Calls Try.prog 89 #[.string t, .int .i64 p] w fun e w' => e = .returned (.int .i64 (dv t p : Nat)) ∧ w = w' := by
  have hsz : (t.size : Int) = 16 := by rw [hv.1]; rfl
  have hl : (p : Int) < 16 := by omega
  have hd := dv_eq hv p hs
  clear hv
  go_enter Try.func89, Try.ntmps89
  go_wp2_with (first | (go_at_call 115; refine (l2Hex_any _ _).mono ?_; rintro e w' ⟨rfl, rfl⟩) | fail)
  go_ret
  exact ⟨rfl, rfl⟩
set_option maxHeartbeats 400000 in
theorem l2Diamond_any (r : ByteArray) (p : Nat) (hr : Valid 4 r) (hp : p < 16) (w : World) :
    Calls Try.prog 124 #[.string r, .int .i64 p] w fun e w' => e = .returned (.int .i64 (diaN (dv r) p : Nat)) ∧ w = w' := by
  have HR := hid hr
  clear hr
  go_enter Try.func124, Try.ntmps124
  go_wp2_with fail
  go_loop [5, 6] (fun v u => ∃ s : Nat, s ≤ 4 ∧ u = .int .i64 s ∧ v = .int .i64 (setOf (fun s => meets (dv r s) p) s : Nat)) (fun _ u => 4 - (intOf u).toNat)
  case atStart => exact ⟨0, by omega, rfl, rfl⟩
  case round =>
    obtain ⟨s, hs, rfl, rfl⟩ := hrel
    by_cases h0 : s < 4
    · have h0' : (s : Int) < 4 := by omega
      have h1 : s < 16 := by omega
      have b1 : dv r s < 65536 := by have := dv_lt r s; omega
      have b2 : p < 65536 := by omega
      have b3 := setOf_lt65536 (fun s => meets (dv r s) p) s (by omega)
      cases hm : meets (dv r s) p
      · have key := hid (setOf_no (fun s => meets (dv r s) p) s hm)
        go_wp2_with fail
        refine (l2To_any r s HR.out h0 _).mono ?_
        rintro e w1 ⟨rfl, rfl⟩
        go_wp2_with fail
        go_round
        case rel => exact ⟨s + 1, by omega, by go_num, by rw [key.out]⟩
        case measure => simp [intOf]; omega
      · have key := hid (setOf_yes (fun s => meets (dv r s) p) s hm)
        go_wp2_with fail
        refine (l2To_any r s HR.out h0 _).mono ?_
        rintro e w1 ⟨rfl, rfl⟩
        go_wp2_with fail
        go_round
        case rel => exact ⟨s + 1, by omega, by go_num, by rw [key.out]⟩
        case measure => simp [intOf]; omega
    · obtain rfl : s = 4 := by omega
      go_wp2_with fail
      go_ret
      exact ⟨rfl, rfl⟩
end Go.Proofs.Ytipkalbomjfckaa
