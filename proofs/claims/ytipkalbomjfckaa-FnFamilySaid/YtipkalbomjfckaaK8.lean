/-
  Proved here: what the reference's TransOf returns, for all slices of numbers.
-/
import Derived.Test.YtipkalbomjfckaaK5
import Derived.Test.YtipkalbomjfckaaS1
namespace Go.Proofs.Ytipkalbomjfckaa
open Go.RowKit
/-- The table that families make. -/
def tabF (z : Nat → Nat) : Nat → Nat := fun p => setOf (fun s => has (upN (z s)) p) 4
theorem small_tab (z : Nat → Nat) : Small (tabF z) := fun _ _ => setOf_lt16 _ 4 (Nat.le_refl _)
/-- The slice holds these numbers. -/
def IntsAt (w : World) (b off n : Nat) (z : Nat → Int) : Prop := ∀ i, i < n → w.cell? ⟨b, off + i, none⟩ = some (.int .i64 (z i))
def FamsOk (z : Nat → Int) : Prop := ∀ i, i < 4 → famI (z i) = true
theorem famI_nat {v : Int} (h : famI v = true) : v = (v.toNat : Int) ∧ v.toNat < 65536 := by
  rcases famOr v with ⟨n, hn, rfl⟩ | h2
  · exact ⟨by omega, by omega⟩
  · rw [famI_no v h2] at h; exact absurd h (by decide)
theorem tab_congr (z y : Nat → Nat) (h : ∀ i, i < 4 → z i = y i) : tabF z = tabF y := by
  funext p; simp only [tabF, setOf, h 0 (by omega), h 1 (by omega), h 2 (by omega), h 3 (by omega)]
theorem FamsOk.nat {z : Nat → Int} (h : FamsOk z) : ∀ i, i < 4 → (z i).toNat < 65536 := fun i hi => (famI_nat (h i hi)).2
theorem IntsAt.nat {w : World} {b off : Nat} {z : Nat → Int} (h : IntsAt w b off 4 z) (hz : FamsOk z) : IntsAt w b off 4 (fun i => ((z i).toNat : Nat)) := fun i hi => by
  show _ = some (Value.int .i64 ((z i).toNat : Int))
  rw [← (famI_nat (hz i hi)).1]; exact h i hi
set_option maxHeartbeats 1000000 in
theorem sTransOf_yes (b off cap : Nat) (z : Nat → Nat) (w : World) (hc : IntsAt w b off 4 (fun i => (z i : Nat))) (hz : ∀ i, i < 4 → z i < 65536) :
    Calls Try.prog 11 #[.slice (some ⟨b, off, none⟩) 4 cap] w fun e w' => e = .returned (.tuple #[.string (text (tabF z) 16), .bool true]) ∧ w = w' := by
  have HC := hid hc
  have HZ := hid hz
  clear hc hz
  go_enter Try.func11, Try.ntmps11
  go_wp2_with fail
  go_loop [4] (fun u => ∃ s : Nat, s ≤ 4 ∧ u = .int .i64 s) (fun u => 4 - (intOf u).toNat)
  case atStart => exact ⟨0, by omega, rfl⟩
  case round =>
    obtain ⟨s, hs, rfl⟩ := hrel
    by_cases h0 : s < 4
    · have h0' : (s : Int) < 4 := by omega
      have hf := famI_yes (z s) (HZ.out s h0)
      have c1 : w.cell? ⟨b, off + s, none⟩ = some (.int .i64 (z s : Nat)) := HC.out s h0
      go_wp2_with (first | (go_at_call 54; refine (sFam_all _ _).mono ?_; rintro e w' ⟨rfl, rfl⟩) | fail)
      go_round
      case rel => exact ⟨s + 1, by omega, by go_num⟩
      case measure => simp [intOf]; omega
    · obtain rfl : s = 4 := by omega
      go_wp2_with fail
      go_loop [5, 6, 7, 8] (fun v u _ _ => ∃ p : Nat, p ≤ 16 ∧ u = .int .i64 p ∧ v = .string (text (tabF z) p)) (fun _ u _ _ => 16 - (intOf u).toNat)
      case atStart => exact ⟨0, by omega, rfl, rfl⟩
      case round =>
        obtain ⟨p, hp, rfl, rfl⟩ := hrel
        by_cases h1 : p < 16
        · have h1' : (p : Int) < 16 := by omega
          have h1s : p < 65536 := by omega
          go_wp2_with fail
          go_loop [7, 8] (fun v u => ∃ s : Nat, s ≤ 4 ∧ u = .int .i64 s ∧ v = .int .i64 (setOf (fun s => has (upN (z s)) p) s : Nat)) (fun _ u => 4 - (intOf u).toNat)
          case atStart => exact ⟨0, by omega, rfl, rfl⟩
          case round =>
            obtain ⟨s, hs, rfl, rfl⟩ := hrel
            by_cases h2 : s < 4
            · have h2' : (s : Int) < 4 := by omega
              have hs16 : s < 16 := by omega
              have b3 := setOf_lt65536 (fun s => has (upN (z s)) p) s (by omega)
              have c1 : w.cell? ⟨b, off + s, none⟩ = some (.int .i64 (z s : Nat)) := HC.out s h2
              cases hm : has (upN (z s)) p
              · have key := hid (setOf_no (fun s => has (upN (z s)) p) s hm)
                go_wp2_with (first | (go_at_call 56; refine (l1Up_any (z s) _).mono ?_; rintro e w' ⟨rfl, rfl⟩) | (go_at_call 55; refine (l1Has_any _ p h1 _).mono ?_; rintro e w' ⟨rfl, rfl⟩) | fail)
                go_round
                case rel => exact ⟨s + 1, by omega, by go_num, by rw [key.out]⟩
                case measure => simp [intOf]; omega
              · have key := hid (setOf_yes (fun s => has (upN (z s)) p) s hm)
                go_wp2_with (first | (go_at_call 56; refine (l1Up_any (z s) _).mono ?_; rintro e w' ⟨rfl, rfl⟩) | (go_at_call 55; refine (l1Has_any _ p h1 _).mono ?_; rintro e w' ⟨rfl, rfl⟩) | fail)
                go_round
                case rel => exact ⟨s + 1, by omega, by go_num, by rw [key.out]⟩
                case measure => simp [intOf]; omega
            · obtain rfl : s = 4 := by omega
              have hd : setOf (fun s => has (upN (z s)) p) 4 < 16 := setOf_lt16 _ 4 (Nat.le_refl _)
              go_wp2_with fail
              refine (l2Digit_any _ hd _).mono ?_
              rintro e w1 ⟨rfl, rfl⟩
              go_wp2_with fail
              go_round
              case rel => exact ⟨p + 1, by omega, by go_num, by rw [← text_succ]; rfl⟩
              case measure => simp [intOf]; omega
        · obtain rfl : p = 16 := by omega
          go_wp2_with fail
          go_ret2
          exact ⟨rfl, rfl⟩
theorem sTransOf_len (a : Option Addr) (len cap : Nat) (w : World) (h : len ≠ 4) :
    Calls Try.prog 11 #[.slice a len cap] w fun e w' => e = .returned (.tuple #[.string ByteArray.empty, .bool false]) ∧ w = w' := by
  have x0 : ((len : Int) != 4) = true := by simp; omega
  have x1 : ((len : Int) == 4) = false := by simp; omega
  clear h
  go_enter Try.func11, Try.ntmps11
  go_wp2_with fail
  go_ret2
  exact ⟨rfl, rfl⟩
set_option maxHeartbeats 400000 in
theorem sTransOf_no (b off cap : Nat) (z : Nat → Int) (w : World) (hc : IntsAt w b off 4 z) (hz : ¬ FamsOk z) :
    Calls Try.prog 11 #[.slice (some ⟨b, off, none⟩) 4 cap] w fun e w' => e = .returned (.tuple #[.string ByteArray.empty, .bool false]) ∧ w = w' := by
  have HC := hid hc
  have HZ := hid hz
  clear hc hz
  go_enter Try.func11, Try.ntmps11
  go_wp2_with fail
  go_loop [4] (fun u => ∃ s : Nat, s ≤ 4 ∧ u = .int .i64 s ∧ ∀ i, i < s → famI (z i) = true) (fun u => 4 - (intOf u).toNat)
  case atStart => exact ⟨0, by omega, rfl, fun i hi => by omega⟩
  case round =>
    obtain ⟨s, hs, rfl, ha⟩ := hrel
    have HA := hid ha
    clear ha
    by_cases h0 : s < 4
    · have h0' : (s : Int) < 4 := by omega
      have c1 := HC.out s h0
      cases hf : famI (z s)
      · go_wp2_with (first | (go_at_call 54; refine (sFam_all _ _).mono ?_; rintro e w' ⟨rfl, rfl⟩) | fail)
        go_ret2
        exact ⟨rfl, rfl⟩
      · have HF := hid hf
        go_wp2_with (first | (go_at_call 54; refine (sFam_all _ _).mono ?_; rintro e w' ⟨rfl, rfl⟩) | fail)
        go_round
        case rel =>
          refine ⟨s + 1, by omega, by go_num, fun i hi => ?_⟩
          by_cases e : i = s
          · subst e; exact HF.out
          · exact HA.out i (by omega)
        case measure => simp [intOf]; omega
    · obtain rfl : s = 4 := by omega
      exact absurd HA.out HZ.out
end Go.Proofs.Ytipkalbomjfckaa
