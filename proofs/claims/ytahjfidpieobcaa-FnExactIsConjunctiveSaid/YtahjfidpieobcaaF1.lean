/-
  Proved here: what the program's functions of families (family, some, CloseUp, LeastOf, DualFamily) return, for every number.
-/
import Derived.Test.YtahjfidpieobcaaC0
namespace Go.Proofs.Ytahjfidpieobcaa
open Go.RowKit
/-- Some condition below k of a family is so. -/
def anyTo (f : Nat) (F : Nat → Bool) : Nat → Bool
  | 0 => false
  | k + 1 => anyTo f F k || (has f k && F k)
def anyOf (f : Nat) (F : Nat → Bool) : Bool := anyTo f F 16
theorem anyTo_iff (f : Nat) (F : Nat → Bool) (k : Nat) : anyTo f F k = true ↔ ∃ i, i < k ∧ has f i = true ∧ F i = true := by
  induction k with
  | zero => simp [anyTo]
  | succ k ih =>
    simp only [anyTo, Bool.or_eq_true, Bool.and_eq_true, ih]
    constructor
    · rintro (⟨i, h, h2⟩ | h)
      · exact ⟨i, by omega, h2⟩
      · exact ⟨k, by omega, h⟩
    · rintro ⟨i, h, h2⟩
      by_cases e : i = k
      · subst e; exact .inr h2
      · exact .inl ⟨i, by omega, h2⟩
theorem anyOf_true {f : Nat} {F : Nat → Bool} {k : Nat} (hk : k < 16) (h1 : has f k = true) (h2 : F k = true) : anyOf f F = true :=
  (anyTo_iff f F 16).2 ⟨k, hk, h1, h2⟩
def upN (f : Nat) : Nat := setOf (fun q => anyOf f (fun p => sub p q)) 16
def leastN (f : Nat) : Nat := setOf (fun q => has f q && !anyOf f (fun p => !decide (p = q) && sub p q)) 16
def dualN (f : Nat) : Nat := setOf (fun q => !anyOf f (fun p => !meets p q)) 16
set_option maxHeartbeats 400000 in
theorem family_any (n : Nat) (caps : Array Value) (F : Nat → Bool) (w : World) (hn : ∀ a w, (callFunc n a).run Try.prog w = .ok (.enter n a) w)
   (hf : ∀ p, p < 16 → ∀ w', Grew w w' → Calls Try.prog n (#[.int .i64 p] ++ caps) w' fun e w'' => e = .returned (.bool (F p)) ∧ Grew w' w'') :
    Calls Try.prog 80 #[.func (.func n) #[] caps] w fun e w' => e = .returned (.int .i64 (setOf F 16 : Nat)) ∧ Grew w w' := by
  have HF := hid hf
  clear hf
  go_enter Try.func80, Try.ntmps80
  go_wp2_with fail
  go_loopw [3, 4, 5] (fun v _ u wr => ∃ k : Nat, k ≤ 16 ∧ u = .int .i64 k ∧ v = .int .i64 (setOf F k : Nat) ∧ Grew w wr) (fun _ _ u _ => 16 - (intOf u).toNat)
  case atStart => exact ⟨0, by omega, rfl, rfl, Grew.refl _⟩
  case round =>
   obtain ⟨k, hk, rfl, rfl, hg⟩ := hrel
   by_cases hlt : k < 16
   · have hl1 : (k : Int) < 16 := by omega
     have hl4 := setOf_lt65536 F k (by omega)
     go_wp2_with fail
     refine (HF.out k hlt _ hg).mono ?_
     rintro e w1 ⟨rfl, hb1⟩
     have hg1 := hg.trans hb1
     clear hb1 hg
     cases hF : F k
     · have hF' := hid hF
       clear hF
       go_wp2_with fail
       go_roundw
       case rel => exact ⟨k + 1, by omega, by go_num, by rw [setOf_no _ _ hF'], hg1⟩
       case measure => simp [intOf]; omega
     · have hF' := hid hF
       clear hF
       go_wp2_with fail
       go_roundw
       case rel => exact ⟨k + 1, by omega, by go_num, by rw [setOf_yes _ _ hF'], hg1⟩
       case measure => simp [intOf]; omega
   · obtain rfl : k = 16 := by omega
     go_wp2_with fail
     go_ret
     exact ⟨rfl, hg⟩
end Go.Proofs.Ytahjfidpieobcaa
