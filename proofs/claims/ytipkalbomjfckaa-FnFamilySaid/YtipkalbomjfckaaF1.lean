/-
  Proved here: what the program's functions of families (family, some, CloseUp, LeastOf, DualFamily) return, for every number.
-/
import Derived.Test.YtipkalbomjfckaaC0
namespace Go.Proofs.Ytipkalbomjfckaa
open Go.RowKit
/-- Some condition below k of a family is so. -/
def anyTo (f : Nat) (F : Nat → Bool) : Nat → Bool
  | 0 => false
  | k + 1 => anyTo f F k || (has f k && F k)
def anyOf (f : Nat) (F : Nat → Bool) : Bool := anyTo f F 16
theorem anyTo_iff (f : Nat) (F : Nat → Bool) (k : Nat) : anyTo f F k = true ↔ ∃ i, i < k ∧ has f i = true ∧ F i = true := by
  induction k with
  | zero => simp [anyTo]
  | succ k ih =>
    simp only [anyTo, Bool.or_eq_true, Bool.and_eq_true, ih]
    constructor
    · rintro (⟨i, h, h2⟩ | h)
      · exact ⟨i, by omega, h2⟩
      · exact ⟨k, by omega, h⟩
    · rintro ⟨i, h, h2⟩
      by_cases e : i = k
      · subst e; exact .inr h2
      · exact .inl ⟨i, by omega, h2⟩
theorem anyOf_true {f : Nat} {F : Nat → Bool} {k : Nat} (hk : k < 16) (h1 : has f k = true) (h2 : F k = true) : anyOf f F = true :=
  (anyTo_iff f F 16).2 ⟨k, hk, h1, h2⟩
def upN (f : Nat) : Nat := setOf (fun q => anyOf f (fun p => sub p q)) 16
def leastN (f : Nat) : Nat := setOf (fun q => has f q && !anyOf f (fun p => !decide (p = q) && sub p q)) 16
def dualN (f : Nat) : Nat := setOf (fun q => !anyOf f (fun p => !meets p q)) 16
set_option maxHeartbeats 400000 in
theorem family_any (n : Nat) (caps : Array Value) (F : Nat → Bool) (w : World) (hn : ∀ a w, (callFunc n a).run Try.prog w = .ok (.enter n a) w)
   (hf : ∀ p, p < 16 → ∀ w', Grew w w' → Calls Try.prog n (#[.int .i64 p] ++ caps) w' fun e w'' => e = .returned (.bool (F p)) ∧ Grew w' w'') :
    Calls Try.prog 67 #[.func (.func n) #[] caps] w fun e w' => e = .returned (.int .i64 (setOf F 16 : Nat)) ∧ Grew w w' := by
  have HF := hid hf
  clear hf
  go_enter Try.func67, Try.ntmps67
  go_wp2_with fail
  go_loopw [3, 4, 5] (fun v _ u wr => ∃ k : Nat, k ≤ 16 ∧ u = .int .i64 k ∧ v = .int .i64 (setOf F k : Nat) ∧ Grew w wr) (fun _ _ u _ => 16 - (intOf u).toNat)
  case atStart => exact ⟨0, by omega, rfl, rfl, Grew.refl _⟩
  case round =>
   obtain ⟨k, hk, rfl, rfl, hg⟩ := hrel
   by_cases hlt : k < 16
   · have hl1 : (k : Int) < 16 := by omega
     have hl4 := setOf_lt65536 F k (by omega)
     go_wp2_with fail
     refine (HF.out k hlt _ hg).mono ?_
     rintro e w1 ⟨rfl, hb1⟩
     have hg1 := hg.trans hb1
     clear hb1 hg
     cases hF : F k
     · have hF' := hid hF
       clear hF
       go_wp2_with fail
       go_roundw
       case rel => exact ⟨k + 1, by omega, by go_num, by rw [setOf_no _ _ hF'], hg1⟩
       case measure => simp [intOf]; omega
     · have hF' := hid hF
       clear hF
       go_wp2_with fail
       go_roundw
       case rel => exact ⟨k + 1, by omega, by go_num, by rw [setOf_yes _ _ hF'], hg1⟩
       case measure => simp [intOf]; omega
   · obtain rfl : k = 16 := by omega
     go_wp2_with fail
     go_ret
     exact ⟨rfl, hg⟩
set_option maxHeartbeats 400000 in
theorem some_any (f n : Nat) (caps : Array Value) (F : Nat → Bool) (w : World) (hn : ∀ a w, (callFunc n a).run Try.prog w = .ok (.enter n a) w)
   (hf : ∀ p, p < 16 → ∀ w', Grew w w' → Calls Try.prog n (#[.int .i64 p] ++ caps) w' fun e w'' => e = .returned (.bool (F p)) ∧ Grew w' w'') :
    Calls Try.prog 69 #[.int .i64 f, .func (.func n) #[] caps] w fun e w' => e = .returned (.bool (anyOf f F)) ∧ Grew w w' := by
  have HF := hid hf
  clear hf
  go_enter Try.func69, Try.ntmps69
  go_wp2_with fail
  go_loopw [5, 6] (fun _ u wr => ∃ k : Nat, k ≤ 16 ∧ u = .int .i64 k ∧ anyTo f F k = false ∧ Grew w wr) (fun _ u _ => 16 - (intOf u).toNat)
  case atStart => exact ⟨0, by omega, rfl, rfl, Grew.refl _⟩
  case round =>
   obtain ⟨k, hk, rfl, ha, hg⟩ := hrel
   have HA := hid ha
   clear ha
   by_cases hlt : k < 16
   · have hl1 : (k : Int) < 16 := by omega
     cases hh : has f k
     · go_wp2_with fail
       go_roundw
       case rel => exact ⟨k + 1, by omega, by go_num, by simp only [anyTo]; rw [HA.out, hh]; rfl, hg⟩
       case measure => simp [intOf]; omega
     · go_wp2_with fail
       refine (HF.out k hlt _ hg).mono ?_
       rintro e w1 ⟨rfl, hb1⟩
       have hg1 := hg.trans hb1
       clear hb1 hg
       cases hF : F k
       · have hF' := hid hF
         clear hF
         go_wp2_with fail
         go_roundw
         case rel => exact ⟨k + 1, by omega, by go_num, by simp only [anyTo]; rw [HA.out, hF'.out]; simp, hg1⟩
         case measure => simp [intOf]; omega
       · have hF' := hid hF
         have hh' := hid hh
         clear hF
         go_wp2_with fail
         go_ret
         exact ⟨by rw [anyOf_true hlt hh'.out hF'.out]; rfl, hg1⟩
   · obtain rfl : k = 16 := by omega
     go_wp2_with fail
     go_ret
     exact ⟨by unfold anyOf; rw [HA.out]; rfl, hg⟩
theorem enter_CloseUp1 : ∀ a w, (callFunc 68 a).run Try.prog w = .ok (.enter 68 a) w := fun _ _ => by kernel_rfl
theorem enter_CloseUp11 : ∀ a w, (callFunc 70 a).run Try.prog w = .ok (.enter 70 a) w := fun _ _ => by kernel_rfl
theorem closeUp11_any (b p q : Nat) (w : World) (hp : p < 65536) (hq : q < 65536) (hc : w.cell? ⟨b, 0, none⟩ = some (.int .i64 q)) :
    Calls Try.prog 70 (#[.int .i64 p] ++ #[.pointer (some ⟨b, 0, none⟩)]) w fun e w' => e = .returned (.bool (sub p q)) ∧ Grew w w' := by
  go_enter Try.func70, Try.ntmps70
  go_wp2
  go_ret
  exact ⟨rfl, Grew.refl _⟩
theorem closeUp1_any (b f q : Nat) (w : World) (hq : q < 65536) (hc : w.cell? ⟨b, 0, none⟩ = some (.int .i64 f)) :
    Calls Try.prog 68 (#[.int .i64 q] ++ #[.pointer (some ⟨b, 0, none⟩)]) w fun e w' => e = .returned (.bool (anyOf f (fun p => sub p q))) ∧ Grew w w' := by
  have hlt := block_lt_of_cell hc
  go_enter Try.func68, Try.ntmps68
  go_wp2_with fail
  refine (some_any f _ #[.pointer (some ⟨w.heap.size, 0, none⟩)] (fun p => sub p q) _ enter_CloseUp11 (fun p hp w' hb => closeUp11_any _ p q w' (by omega) hq (cell_later2 hb (cell_alloc_one _ _ _ _)))).mono ?_
  rintro e w1 ⟨rfl, hb⟩
  go_wp2_with fail
  go_ret
  exact ⟨rfl, (Grew.alloc _ _).trans hb⟩
theorem closeUp_yes (f : Nat) (hf : f < 65536) (w : World) :
    Calls Try.prog 17 #[.int .i64 f] w fun e w' => e = .returned (.int .i64 (upN f : Nat)) ∧ Grew w w' := by
  go_enter Try.func17, Try.ntmps17
  go_wp2_with (first | (go_at_call 58; refine (ifv_yes _ hf _).mono ?_; rintro e w' ⟨rfl, rfl⟩) | fail)
  refine (family_any _ #[.pointer (some ⟨w.heap.size, 0, none⟩)] (fun q => anyOf f (fun p => sub p q)) _ enter_CloseUp1 (fun q hq w' hb => closeUp1_any _ f q w' (by omega) (cell_later2 hb (cell_alloc_one _ _ _ _)))).mono ?_
  rintro e w1 ⟨rfl, hb⟩
  go_wp2_with fail
  go_ret
  exact ⟨rfl, (Grew.alloc _ _).trans hb⟩
theorem closeUp_no (f : Int) (hf : f < 0 ∨ 65535 < f) (w : World) :
    Calls Try.prog 17 #[.int .i64 f] w fun e w' => e = .returned (.int .i64 (-1)) ∧ Grew w w' := by
  have HN := hid hf
  clear hf
  go_enter Try.func17, Try.ntmps17
  go_wp2_with (first | (go_at_call 58; refine (ifv_no _ HN.out _).mono ?_; rintro e w' ⟨rfl, rfl⟩) | fail)
  go_ret
  exact ⟨rfl, Grew.alloc _ _⟩
theorem enter_LeastOf1 : ∀ a w, (callFunc 90 a).run Try.prog w = .ok (.enter 90 a) w := fun _ _ => by kernel_rfl
theorem enter_LeastOf11 : ∀ a w, (callFunc 91 a).run Try.prog w = .ok (.enter 91 a) w := fun _ _ => by kernel_rfl
theorem leastOf11_any (b p q : Nat) (w : World) (hp : p < 65536) (hq : q < 65536) (hc : w.cell? ⟨b, 0, none⟩ = some (.int .i64 q)) :
    Calls Try.prog 91 (#[.int .i64 p] ++ #[.pointer (some ⟨b, 0, none⟩)]) w fun e w' => e = .returned (.bool (!decide (p = q) && sub p q)) ∧ Grew w w' := by
  by_cases h : p = q
  · subst h
    go_enter Try.func91, Try.ntmps91
    go_wp2
    go_ret
    exact ⟨by simp, Grew.refl _⟩
  · have h' : ((p : Int) == (q : Int)) = false := by simp; omega
    have h'' : ((p : Int) != (q : Int)) = true := by simp; omega
    go_enter Try.func91, Try.ntmps91
    go_wp2
    go_ret
    exact ⟨by simp [h], Grew.refl _⟩
theorem leastOf1_any (b f q : Nat) (w : World) (hq : q < 16) (hc : w.cell? ⟨b, 0, none⟩ = some (.int .i64 f)) :
    Calls Try.prog 90 (#[.int .i64 q] ++ #[.pointer (some ⟨b, 0, none⟩)]) w fun e w' => e = .returned (.bool (has f q && !anyOf f (fun p => !decide (p = q) && sub p q))) ∧ Grew w w' := by
  have hlt := block_lt_of_cell hc
  cases hh : has f q
  · go_enter Try.func90, Try.ntmps90
    go_wp2_with fail
    go_ret
    exact ⟨rfl, Grew.alloc _ _⟩
  · go_enter Try.func90, Try.ntmps90
    go_wp2_with fail
    refine (some_any f _ #[.pointer (some ⟨w.heap.size, 0, none⟩)] (fun p => !decide (p = q) && sub p q) _ enter_LeastOf11 (fun p hp w' hb => leastOf11_any _ p q w' (by omega) (by omega) (cell_later2 hb (cell_alloc_one _ _ _ _)))).mono ?_
    rintro e w1 ⟨rfl, hb⟩
    go_wp2_with fail
    go_ret
    exact ⟨rfl, (Grew.alloc _ _).trans hb⟩
theorem leastOf_yes (f : Nat) (hf : f < 65536) (w : World) :
    Calls Try.prog 39 #[.int .i64 f] w fun e w' => e = .returned (.int .i64 (leastN f : Nat)) ∧ Grew w w' := by
  go_enter Try.func39, Try.ntmps39
  go_wp2_with (first | (go_at_call 58; refine (ifv_yes _ hf _).mono ?_; rintro e w' ⟨rfl, rfl⟩) | fail)
  refine (family_any _ #[.pointer (some ⟨w.heap.size, 0, none⟩)] (fun q => has f q && !anyOf f (fun p => !decide (p = q) && sub p q)) _ enter_LeastOf1 (fun q hq w' hb => leastOf1_any _ f q w' hq (cell_later2 hb (cell_alloc_one _ _ _ _)))).mono ?_
  rintro e w1 ⟨rfl, hb⟩
  go_wp2_with fail
  go_ret
  exact ⟨rfl, (Grew.alloc _ _).trans hb⟩
theorem leastOf_no (f : Int) (hf : f < 0 ∨ 65535 < f) (w : World) :
    Calls Try.prog 39 #[.int .i64 f] w fun e w' => e = .returned (.int .i64 (-1)) ∧ Grew w w' := by
  have HN := hid hf
  clear hf
  go_enter Try.func39, Try.ntmps39
  go_wp2_with (first | (go_at_call 58; refine (ifv_no _ HN.out _).mono ?_; rintro e w' ⟨rfl, rfl⟩) | fail)
  go_ret
  exact ⟨rfl, Grew.alloc _ _⟩
theorem enter_DualFamily1 : ∀ a w, (callFunc 92 a).run Try.prog w = .ok (.enter 92 a) w := fun _ _ => by kernel_rfl
theorem enter_DualFamily11 : ∀ a w, (callFunc 93 a).run Try.prog w = .ok (.enter 93 a) w := fun _ _ => by kernel_rfl
theorem dualFamily11_any (b p q : Nat) (w : World) (hp : p < 65536) (hq : q < 65536) (hc : w.cell? ⟨b, 0, none⟩ = some (.int .i64 q)) :
    Calls Try.prog 93 (#[.int .i64 p] ++ #[.pointer (some ⟨b, 0, none⟩)]) w fun e w' => e = .returned (.bool (!meets p q)) ∧ Grew w w' := by
  go_enter Try.func93, Try.ntmps93
  go_wp2
  go_ret
  exact ⟨rfl, Grew.refl _⟩
theorem dualFamily1_any (b f q : Nat) (w : World) (hq : q < 65536) (hc : w.cell? ⟨b, 0, none⟩ = some (.int .i64 f)) :
    Calls Try.prog 92 (#[.int .i64 q] ++ #[.pointer (some ⟨b, 0, none⟩)]) w fun e w' => e = .returned (.bool (!anyOf f (fun p => !meets p q))) ∧ Grew w w' := by
  have hlt := block_lt_of_cell hc
  go_enter Try.func92, Try.ntmps92
  go_wp2_with fail
  refine (some_any f _ #[.pointer (some ⟨w.heap.size, 0, none⟩)] (fun p => !meets p q) _ enter_DualFamily11 (fun p hp w' hb => dualFamily11_any _ p q w' (by omega) hq (cell_later2 hb (cell_alloc_one _ _ _ _)))).mono ?_
  rintro e w1 ⟨rfl, hb⟩
  go_wp2_with fail
  go_ret
  exact ⟨rfl, (Grew.alloc _ _).trans hb⟩
theorem dualFamily_yes (f : Nat) (hf : f < 65536) (w : World) :
    Calls Try.prog 40 #[.int .i64 f] w fun e w' => e = .returned (.int .i64 (dualN f : Nat)) ∧ Grew w w' := by
  go_enter Try.func40, Try.ntmps40
  go_wp2_with (first | (go_at_call 58; refine (ifv_yes _ hf _).mono ?_; rintro e w' ⟨rfl, rfl⟩) | fail)
  refine (family_any _ #[.pointer (some ⟨w.heap.size, 0, none⟩)] (fun q => !anyOf f (fun p => !meets p q)) _ enter_DualFamily1 (fun q hq w' hb => dualFamily1_any _ f q w' (by omega) (cell_later2 hb (cell_alloc_one _ _ _ _)))).mono ?_
  rintro e w1 ⟨rfl, hb⟩
  go_wp2_with fail
  go_ret
  exact ⟨rfl, (Grew.alloc _ _).trans hb⟩
theorem dualFamily_no (f : Int) (hf : f < 0 ∨ 65535 < f) (w : World) :
    Calls Try.prog 40 #[.int .i64 f] w fun e w' => e = .returned (.int .i64 (-1)) ∧ Grew w w' := by
  have HN := hid hf
  clear hf
  go_enter Try.func40, Try.ntmps40
  go_wp2_with (first | (go_at_call 58; refine (ifv_no _ HN.out _).mono ?_; rintro e w' ⟨rfl, rfl⟩) | fail)
  go_ret
  exact ⟨rfl, Grew.alloc _ _⟩
end Go.Proofs.Ytipkalbomjfckaa
