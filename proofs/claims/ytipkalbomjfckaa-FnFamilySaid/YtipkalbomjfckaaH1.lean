/-
  Proved here: what the digits' values are, in the program and in the reference, for every byte; when a text has so many digits.
-/
import Derived.Test.YtipkalbomjfckaaC2
namespace Go.Proofs.Ytipkalbomjfckaa
open Go.RowKit
def hexs : ByteArray := ⟨#[48, 49, 50, 51, 52, 53, 54, 55, 56, 57, 97, 98, 99, 100, 101, 102]⟩
/-- The value of a digit, -1 for another byte. -/
def hexI (b : UInt8) : Int := firstIdx hexs b
def byteAt (s : ByteArray) (i : Nat) : UInt8 := s.data.getD i 0
def dv (s : ByteArray) (i : Nat) : Nat := (hexI (byteAt s i)).toNat
def Valid (n : Nat) (s : ByteArray) : Prop := s.size = n ∧ ∀ i, i < s.size → 0 ≤ hexI (byteAt s i)
theorem get_byteAt (s : ByteArray) (k : Nat) (h : k < s.size) : s[k]'h = byteAt s k := by
  unfold byteAt
  rw [Array.getD_eq_getD_getElem?, Array.getElem?_eq_getElem (show k < s.data.size from h)]
  rfl
theorem hexI_some {b : UInt8} {k : Nat} (hk : k < 16) (hb : ∀ i, i < k → byteAt hexs i ≠ b) (h : byteAt hexs k = b) : hexI b = (k : Int) := by
  unfold hexI firstIdx
  have e : (List.range hexs.size).find? (fun i => hexs[i]! == b) = some k := by
    rw [List.find?_range_eq_some]
    have e1 : ∀ i, hexs[i]! = byteAt hexs i := fun i => by
      unfold byteAt
      simp only [getElem!_def]
      rw [Array.getD_eq_getD_getElem?]
      rfl
    refine ⟨by rw [e1, h]; simp, by simpa [hexs, ByteArray.size] using hk, fun j hj => by rw [e1]; simpa using hb j hj⟩
  rw [e]
theorem hexI_none {b : UInt8} (hb : ∀ i, i < 16 → byteAt hexs i ≠ b) : hexI b = -1 := by
  unfold hexI firstIdx
  have e : (List.range hexs.size).find? (fun i => hexs[i]! == b) = none := by
    rw [List.find?_eq_none]
    intro x hx
    have e1 : ∀ i, hexs[i]! = byteAt hexs i := fun i => by
      unfold byteAt
      simp only [getElem!_def]
      rw [Array.getD_eq_getD_getElem?]
      rfl
    rw [e1]
    have := hb x (by simpa [hexs, ByteArray.size] using hx)
    simpa using this
  rw [e]
theorem hex_bytes : ∀ n : Nat, n < 16 → byteAt hexs n = hexB n := by decide
theorem hexB_ne : ∀ n : Nat, n < 16 → ∀ i : Nat, i < n → hexB i ≠ hexB n := by decide
theorem hexI_hexB (n : Nat) (hn : n < 16) : hexI (hexB n) = (n : Int) :=
  hexI_some hn (fun i hi => by rw [hex_bytes i (by omega)]; exact hexB_ne n hn i hi) (hex_bytes n hn)
theorem hexI_cases (b : UInt8) : (∃ n : Nat, n < 16 ∧ hexI b = (n : Int) ∧ b = hexB n) ∨ hexI b = -1 := by
  by_cases h : ∃ n, n < 16 ∧ b = hexB n
  · obtain ⟨n, hn, rfl⟩ := h
    exact .inl ⟨n, hn, hexI_hexB n hn, rfl⟩
  · exact .inr (hexI_none fun i hi e => h ⟨i, hi, by rw [← e, hex_bytes i hi]⟩)
theorem dv_lt (s : ByteArray) (i : Nat) : dv s i < 16 := by
  unfold dv
  rcases hexI_cases (byteAt s i) with ⟨n, hn, h, _⟩ | h
  · rw [h]; omega
  · rw [h]; decide
theorem dv_or (s : ByteArray) (i : Nat) : hexI (byteAt s i) = ((dv s i : Nat) : Int) ∨ hexI (byteAt s i) = -1 := by
  rcases hexI_cases (byteAt s i) with ⟨n, hn, h, _⟩ | h
  · refine .inl ?_
    unfold dv; rw [h]; simp
  · exact .inr h
theorem dv_eq {n : Nat} {s : ByteArray} (h : Valid n s) (i : Nat) (hi : i < n) : hexI (byteAt s i) = ((dv s i : Nat) : Int) := by
  have := h.2 i (by rw [h.1]; exact hi)
  unfold dv; omega
theorem byteAt_text (f : Nat → Nat) (n k : Nat) (hk : k < n) : byteAt (text f n) k = hexB (f k) := by
  unfold byteAt text
  simp [Array.getD_eq_getD_getElem?, hk]
theorem valid_text (f : Nat → Nat) (n : Nat) (hf : ∀ i, i < n → f i < 16) : Valid n (text f n) :=
  ⟨text_size f n, fun i hi => by rw [text_size] at hi; rw [byteAt_text f n i hi, hexI_hexB _ (hf i hi)]; omega⟩
theorem dv_text (f : Nat → Nat) (n k : Nat) (hf : ∀ i, i < n → f i < 16) (hk : k < n) : dv (text f n) k = f k := by
  unfold dv; rw [byteAt_text f n k hk, hexI_hexB _ (hf k hk)]; simp
theorem text_dv {n : Nat} {s : ByteArray} (h : Valid n s) : text (dv s) n = s := by
  apply ByteArray.ext
  apply Array.ext_getElem?
  intro i
  by_cases hi : i < n
  · have h1 : (text (dv s) n).data[i]? = some (byteAt (text (dv s) n) i) := by
      unfold byteAt
      rw [Array.getD_eq_getD_getElem?, Array.getElem?_eq_getElem (by show i < (text (dv s) n).size; rw [text_size]; exact hi)]
      rfl
    have h2 : s.data[i]? = some (byteAt s i) := by
      unfold byteAt
      rw [Array.getD_eq_getD_getElem?, Array.getElem?_eq_getElem (by show i < s.size; rw [h.1]; exact hi)]
      rfl
    rw [h1, h2, byteAt_text _ _ _ hi]
    rcases hexI_cases (byteAt s i) with ⟨m, hm, e, e2⟩ | e
    · have : dv s i = m := by unfold dv; rw [e]; simp
      rw [this, ← e2]
    · have := h.2 i (by rw [h.1]; exact hi)
      rw [e] at this
      exact absurd this (by decide)
  · rw [Array.getElem?_eq_none (by show (text (dv s) n).size ≤ i; rw [text_size]; omega), Array.getElem?_eq_none (by show s.size ≤ i; rw [h.1]; omega)]
theorem text_inj {f g : Nat → Nat} {n : Nat} (hf : ∀ i, i < n → f i < 16) (hg : ∀ i, i < n → g i < 16) (h : text f n = text g n) (i : Nat) (hi : i < n) : f i = g i := by
  rw [← dv_text f n i hf hi, ← dv_text g n i hg hi, h]
attribute [go_sem] get_byteAt
set_option maxHeartbeats 400000 in
theorem l14Find_any (b : UInt8) (w : World) :
    Calls Try.prog 123 #[.string hexs, .int .u8 (b.toNat : Int)] w fun e w' => e = .returned (.int .i64 (hexI b)) ∧ w = w' := by
  have hsz : hexs.size = 16 := rfl
  go_enter Try.func123, Try.ntmps123
  go_wp2_with fail
  go_loop [5] (fun u => ∃ k : Nat, k ≤ 16 ∧ u = .int .i64 k ∧ ∀ i, i < k → byteAt hexs i ≠ b) (fun u => 16 - (intOf u).toNat)
  case atStart => exact ⟨0, by omega, rfl, fun i hi => by omega⟩
  case round =>
    obtain ⟨k, hk, rfl, hb⟩ := hrel
    have HB := hid hb
    clear hb
    by_cases hlt : k < 16
    · have hl1 : (k : Int) < 16 := by omega
      by_cases he : byteAt hexs k = b
      · have x1 : (((byteAt hexs k).toNat : Int) == (b.toNat : Int)) = true := by rw [he]; simp
        have HE := hid he
        clear he
        go_wp2_with fail
        go_ret
        exact ⟨by rw [hexI_some hlt HB.out HE.out]; rfl, rfl⟩
      · have x1 : (((byteAt hexs k).toNat : Int) == (b.toNat : Int)) = false := by
          simp only [beq_eq_false_iff_ne, ne_eq]
          intro e
          exact he (UInt8.toNat_inj.1 (by omega))
        have HE := hid he
        clear he
        go_wp2_with fail
        go_round
        case rel =>
          refine ⟨k + 1, by omega, by go_num, fun i hi => ?_⟩
          by_cases e : i = k
          · subst e; exact HE.out
          · exact HB.out i (by omega)
        case measure => simp [intOf]; omega
    · obtain rfl : k = 16 := by omega
      go_wp2_with fail
      go_ret
      exact ⟨by rw [hexI_none HB.out]; rfl, rfl⟩
theorem l2Hex_any (b : UInt8) (w : World) :
    Calls Try.prog 115 #[.int .u8 (b.toNat : Int)] w fun e w' => e = .returned (.int .i64 (hexI b)) ∧ w = w' := by
  go_enter Try.func115, Try.ntmps115
  go_wp2_with fail
  refine (l14Find_any b _).mono ?_
  rintro e w1 ⟨rfl, rfl⟩
  go_wp2_with fail
  go_ret
  exact ⟨rfl, rfl⟩
theorem run_index_byte (b : UInt8) (w : World) : (callFunc 127 #[.string { data := #[48, 49, 50, 51, 52, 53, 54, 55, 56, 57, 97, 98, 99, 100, 101, 102] }, .int .u8 (b.toNat : Int)]).run Try.prog w = .ok (.value (.int .i64 (hexI b))) w := by
  rw [run_callFunc_extern Try.func127 (by kernel_rfl) (by kernel_rfl) (by kernel_rfl) (e := Extern.BytealgIndexByte.indexByte) (by kernel_rfl), run_indexByte_string]
  have : ((b.toNat : Int)).toNat.toUInt8 = b := by simp
  rw [this]
  rfl
theorem digitOf_any (b : UInt8) (w : World) :
    Calls Try.prog 108 #[.int .u8 (b.toNat : Int)] w fun e w' => e = .returned (.int .i64 (hexI b)) ∧ w = w' := by
  have hx := run_index_byte b
  go_enter Try.func108, Try.ntmps108
  go_wp2
  go_ret
  exact ⟨rfl, rfl⟩
end Go.Proofs.Ytipkalbomjfckaa
