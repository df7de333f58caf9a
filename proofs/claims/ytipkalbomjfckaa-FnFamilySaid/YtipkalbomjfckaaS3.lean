/-
  Proved here: what FormatCondition and ParseCondition return in the program and in the reference, for every argument.
-/
import Derived.Test.YtipkalbomjfckaaC1
import Derived.Test.YtipkalbomjfckaaS1
namespace Go.Proofs.Ytipkalbomjfckaa
open Go.RowKit
/-- The states below k of a condition, as digits. -/
def fmtTo (p : Nat) : Nat → ByteArray
  | 0 => ByteArray.empty
  | k + 1 => if has p k then fmtTo p k ++ dig k else fmtTo p k
def fmt (p : Nat) : ByteArray := if p = 0 then ⟨#[45]⟩ else fmtTo p 4
theorem fmtTo_size (p k : Nat) : (fmtTo p k).size = onesTo p k := by
  induction k with
  | zero => rfl
  | succ k ih =>
    simp only [fmtTo, onesTo, has01]
    cases has p k
    · simpa using ih
    · simp [ByteArray.size_append, ih, dig_size]
theorem fmtTo_le (p k : Nat) : (fmtTo p k).size ≤ k := by rw [fmtTo_size]; exact onesTo_le p k
theorem ones_pos : ∀ p : Nat, p < 16 → p ≠ 0 → onesTo p 4 ≠ 0 := by decide
theorem fmtTo_some (p : Nat) (hp : p < 16) (h0 : p ≠ 0) : (fmtTo p 4).toList.isEmpty = false := by
  have h := fmtTo_size p 4
  have h1 := ones_pos p hp h0
  rw [ByteArray.toList_eq]
  cases hl : (fmtTo p 4).data.toList with
  | nil =>
    exfalso
    apply h1
    rw [← h, show (fmtTo p 4).size = (fmtTo p 4).data.toList.length from rfl, hl]
    rfl
  | cons a b => rfl
theorem fmtTo_none : fmtTo 0 4 = ByteArray.empty := by decide
theorem fmtTo_yes (p k : Nat) (h : has p k = true) : fmtTo p (k + 1) = fmtTo p k ++ dig k := by simp [fmtTo, h]
theorem fmtTo_no (p k : Nat) (h : has p k = false) : fmtTo p (k + 1) = fmtTo p k := by simp [fmtTo, h]
theorem run_add_small {P : Program} (w : World) (a b : ByteArray) (ha : a.size ≤ 65536) (hb : b.size ≤ 65536) : (Op.stringOp .add a b).run P w = .ok (.string (a ++ b)) w :=
  run_string_add_sum w _ _ (by omega)
theorem encode_digit : ∀ k : Nat, k < 4 → Utf8.encode (48 + (k : Int)) = dig k := by decide
end Go.Proofs.Ytipkalbomjfckaa
