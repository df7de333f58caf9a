/-
  Plain words and rules for the walks of this seat: bits of small numbers, arrays of numbers in memory, texts of digits. Nothing of the program is in here.
-/
import Derived.WalkKit
import Derived.WalkSpells
import Derived.WalkLawsBesides
import Derived.ChangeKeysEq
namespace Go.Proofs.Ytipkalbomjfckaa
open Go.RowKit

theorem hid {p : Prop} (h : p) : Hid p := h

/-- Of what was in memory nothing has turned. -/
def Grew (w w' : World) : Prop := Below w.heap.size w w'
theorem Grew.refl (w : World) : Grew w w := Below.refl _ _
theorem Grew.trans {a b c : World} (h : Grew a b) (k : Grew b c) : Grew a c := Below.trans h (Below.mono k h.size)
theorem Grew.alloc (w : World) (o : Obj) : Grew w (w.alloc o) := (Below.refl _ _).alloc (Nat.le_refl _) _
theorem Grew.drew (w : World) : Grew w w.drew := (Below.refl _ _).drew
theorem Grew.below {B : Nat} {a b c : World} (h : Below B a b) (hB : B ≤ b.heap.size) (k : Grew b c) : Below B a c := Below.trans h (Below.mono k hB)
theorem below_drawn {B : Nat} {a w : World} (h : Below B a w) (n : Nat) : Below B a (w.drewN n) := h.trans ⟨rfl, rfl, rfl, Nat.le_refl _, fun _ _ => rfl⟩
/-- A cell of an older block, in a later world. -/
theorem cell_later2 {w w1 : World} {b o : Nat} {v : Value} (hb : Grew w w1) (h : w.cell? ⟨b, o, none⟩ = some v) : w1.cell? ⟨b, o, none⟩ = some v := by
  rw [Below.cell hb (block_lt_of_cell h)]; exact h
theorem heap_later {w w1 : World} {b : Nat} {o : Obj} (hb : Grew w w1) (h : w.heap[b]? = some o) : w1.heap[b]? = some o := by
  rw [hb.block _ (Array.getElem?_eq_some_iff.1 h).1]; exact h
theorem cell_alloc_one (w : World) (v : Value) (t : TypeId) (fr : Nat × Nat) : (w.alloc (.cells #[v] t fr)).cell? ⟨w.heap.size, 0, none⟩ = some v := by
  rw [cell_of_row _ _ _ _ _ _ (heap_alloc_new w _)]; rfl

/-- Where a number lies. -/
theorem part (a b c : Int) (h : c = b + 1) : (a < 0 ∧ decide (0 ≤ a) = false) ∨ (0 ≤ a ∧ b < a ∧ decide (a ≤ b) = false ∧ decide (a < c) = false) ∨ (0 ≤ a ∧ a ≤ b ∧ a < c) := by
  subst h
  by_cases h0 : 0 ≤ a
  · by_cases h1 : a ≤ b
    · exact .inr (.inr ⟨h0, h1, by omega⟩)
    · exact .inr (.inl ⟨h0, by omega, by simpa using h1, by simp; omega⟩)
  · exact .inl ⟨by omega, by simpa using h0⟩

/-- A number is a condition, or is none. -/
theorem condOr (a : Int) : (∃ n : Nat, n < 16 ∧ a = (n : Int)) ∨ (a < 0 ∨ 15 < a) := by
  by_cases h : 0 ≤ a ∧ a ≤ 15
  · exact .inl ⟨a.toNat, by omega, by omega⟩
  · exact .inr (by omega)
theorem famOr (a : Int) : (∃ n : Nat, n < 65536 ∧ a = (n : Int)) ∨ (a < 0 ∨ 65535 < a) := by
  by_cases h : 0 ≤ a ∧ a ≤ 65535
  · exact .inl ⟨a.toNat, by omega, by omega⟩
  · exact .inr (by omega)
theorem stateOr (a : Int) : (∃ n : Nat, n < 4 ∧ a = (n : Int)) ∨ (a < 0 ∨ 3 < a) := by
  by_cases h : 0 ≤ a ∧ a ≤ 3
  · exact .inl ⟨a.toNat, by omega, by omega⟩
  · exact .inr (by omega)

/-! ### Small numbers as sets -/
/-- The digit with the value of 2 to the power of i. -/
def has (p i : Nat) : Bool := p.testBit i
def has01 (p i : Nat) : Nat := (has p i).toNat
/-- What is in p and not in q. -/
def diff (p q : Nat) : Nat := p &&& (65535 ^^^ q)
/-- All of p is in q. -/
def sub (p q : Nat) : Bool := diff p q == 0
def meets (p q : Nat) : Bool := !(p &&& q == 0)

def pow2 (i : Nat) : Nat := 2 ^ i
def shr (p i : Nat) : Nat := p >>> i
def andN (p q : Nat) : Nat := p &&& q
def orN (p q : Nat) : Nat := p ||| q

theorem wraps_i64 (n : Int) (h₀ : 0 ≤ n) (h₁ : n < 2 ^ 16) : IntKind.i64.wrap n = n := IntWalk.i64_in _ (by omega)
theorem pow2_lt (s : Nat) (hs : s < 16) : pow2 s < 65536 := Nat.pow_lt_pow_right (by omega) hs
theorem shr_i64 (p s : Nat) : (p : Int) / (2 : Int) ^ s = ((shr p s : Nat) : Int) := by
  unfold shr; rw [Nat.shiftRight_eq_div_pow]; simp
theorem shl_i64 (s : Nat) (hs : s < 16) : IntKind.i64.wrap ((2 : Int) ^ s) = ((pow2 s : Nat) : Int) := by
  have h := pow2_lt s hs
  have e : (2 : Int) ^ s = ((pow2 s : Nat) : Int) := by simp [pow2]
  rw [e]
  exact wraps_i64 _ (by omega) (by omega)
theorem shl_u64 (s : Nat) (hs : s < 16) : wrap64 ((2 : Int) ^ s) = ((pow2 s : Nat) : Int) := by
  rw [← IntWalk.i64_left]; exact shl_i64 s hs
theorem and_i64 (a b : Nat) (ha : a < 65536) (hb : b < 65536) : bits .and .i64 (a : Int) (b : Int) = ((andN a b : Nat) : Int) :=
  (bits_nat .i64 16 (by decide) wraps_i64 a b ha hb).1
theorem or_i64 (a b : Nat) (ha : a < 65536) (hb : b < 65536) : bits .or .i64 (a : Int) (b : Int) = ((orN a b : Nat) : Int) :=
  (bits_nat .i64 16 (by decide) wraps_i64 a b ha hb).2
theorem has_lt {a i : Nat} (ha : a < 65536) (hi : 16 ≤ i) : a.testBit i = false :=
  Nat.testBit_lt_two_pow (Nat.lt_of_lt_of_le (show a < 2 ^ 16 from ha) (Nat.pow_le_pow_right (by omega) hi))
theorem diff_lt (a b : Nat) (ha : a < 65536) : diff a b < 65536 := Nat.lt_of_le_of_lt Nat.and_le_left ha
theorem testBit_full (i : Nat) : (65535 : Nat).testBit i = decide (i < 16) := Nat.testBit_two_pow_sub_one 16 i
theorem andNot_i64 (a b : Nat) (ha : a < 65536) (hb : b < 65536) : bits .andNot .i64 (a : Int) (b : Int) = ((diff a b : Nat) : Int) := by
  have ea : a % 2 ^ IntKind.i64.bits = a := Nat.mod_eq_of_lt (Nat.lt_of_lt_of_le ha (by decide))
  have eb : b % 2 ^ IntKind.i64.bits = b := Nat.mod_eq_of_lt (Nat.lt_of_lt_of_le hb (by decide))
  have key : a &&& (2 ^ IntKind.i64.bits - 1 - b) = diff a b := by
    apply Nat.eq_of_testBit_eq
    intro i
    have e : 2 ^ IntKind.i64.bits - 1 - b = 2 ^ 64 - (b + 1) := by
      have : IntKind.i64.bits = 64 := rfl
      rw [this]; omega
    rw [e]
    unfold diff
    simp only [Nat.testBit_and, Nat.testBit_xor]
    rw [Nat.testBit_two_pow_sub_succ (by omega), testBit_full]
    by_cases hi : 16 ≤ i
    · simp [has_lt ha hi]
    · have h1 : i < 64 := by omega
      have h2 : i < 16 := by omega
      simp [h1, h2]
  have h := diff_lt a b ha
  simp only [bits, BitVec.ofInt_natCast, BitVec.toNat_and, BitVec.toNat_not, BitVec.toNat_ofNat, ea, eb]
  rw [key]
  exact wraps_i64 _ (by omega) (by omega)
theorem and1_i64 (a : Nat) : bits .and .i64 (a : Int) 1 = ((a % 2 : Nat) : Int) := by
  have h : a % 2 < 2 := Nat.mod_lt _ (by omega)
  have key : a % 2 ^ IntKind.i64.bits &&& 1 = a % 2 := by
    have : IntKind.i64.bits = 64 := rfl
    rw [this, Nat.and_one_is_mod]; omega
  have e1 : (1 : Int) = ((1 : Nat) : Int) := rfl
  rw [e1]
  simp only [bits, BitVec.ofInt_natCast, BitVec.toNat_and, BitVec.toNat_ofNat]
  rw [show (1 : Nat) % 2 ^ IntKind.i64.bits = 1 from rfl, key]
  exact wraps_i64 _ (by omega) (by omega)
theorem shr_mod (p i : Nat) : (p >>> i) % 2 = has01 p i := by
  unfold has01 has
  rw [Nat.testBit_eq_decide_div_mod_eq, Nat.shiftRight_eq_div_pow]
  have : p / 2 ^ i % 2 < 2 := Nat.mod_lt _ (by omega)
  by_cases h : p / 2 ^ i % 2 = 1
  · simp [h]
  · simp [h]; omega
theorem bit_i64 (p s : Nat) : bits .and .i64 ((shr p s : Nat) : Int) 1 = ((has01 p s : Nat) : Int) := by
  unfold shr; rw [and1_i64, shr_mod]
theorem has01_eq (p s : Nat) : (((has01 p s : Nat) : Int) == 1) = has p s := by
  unfold has01; cases has p s <;> rfl
theorem diff_eq (p q : Nat) : (((diff p q : Nat) : Int) == 0) = sub p q := by
  unfold sub; rw [Bool.eq_iff_iff]; simp
theorem diff_ne (p q : Nat) : (((diff p q : Nat) : Int) != 0) = !sub p q := by
  rw [bne, diff_eq]
theorem and_eq0 (p q : Nat) : (((andN p q : Nat) : Int) == 0) = !meets p q := by
  unfold meets andN; rw [Bool.eq_iff_iff]; simp
theorem and_ne0 (p q : Nat) : (((andN p q : Nat) : Int) != 0) = meets p q := by
  rw [bne, and_eq0]; simp
theorem andN_lt (a b : Nat) (ha : a < 65536) : andN a b < 65536 := Nat.lt_of_le_of_lt Nat.and_le_left ha
theorem orN_lt (a b : Nat) (ha : a < 65536) (hb : b < 65536) : orN a b < 65536 := Nat.or_lt_two_pow (n := 16) ha hb
attribute [go_sem] shr_i64 shl_i64 shl_u64 and_i64 or_i64 andNot_i64 bit_i64 has01_eq diff_eq diff_ne and_eq0 and_ne0 pow2_lt diff_lt andN_lt orN_lt

/-! ### Families of bits, made bit by bit -/
/-- The number of which the digits below k are as F says. -/
def setOf (F : Nat → Bool) : Nat → Nat
  | 0 => 0
  | k + 1 => if F k then orN (setOf F k) (pow2 k) else setOf F k
theorem setOf_bit (F : Nat → Bool) (k i : Nat) : (setOf F k).testBit i = (decide (i < k) && F i) := by
  induction k with
  | zero => simp [setOf]
  | succ k ih =>
    unfold setOf
    by_cases hk : F k
    · simp only [hk, if_true, orN, pow2, Nat.testBit_or, ih, Nat.testBit_two_pow]
      by_cases e : k = i
      · subst e; simp [hk]
      · have : (decide (i < k + 1)) = decide (i < k) := by simp; omega
        simp [this, e]
    · simp only [hk]
      by_cases e : k = i
      · subst e; simp [hk, ih]
      · have : (decide (i < k + 1)) = decide (i < k) := by simp; omega
        simp [this, ih]
theorem setOf_lt (F : Nat → Bool) (k n : Nat) (h : k ≤ n) : setOf F k < 2 ^ n := by
  apply Nat.lt_pow_two_of_testBit
  intro i hi
  rw [setOf_bit]
  have : ¬ i < k := by omega
  simp [this]
theorem setOf_lt16 (F : Nat → Bool) (k : Nat) (h : k ≤ 4) : setOf F k < 16 := setOf_lt F k 4 h
theorem setOf_lt65536 (F : Nat → Bool) (k : Nat) (h : k ≤ 16) : setOf F k < 65536 := setOf_lt F k 16 h
theorem setOf_yes (F : Nat → Bool) (k : Nat) (h : F k = true) : setOf F (k + 1) = orN (setOf F k) (pow2 k) := by simp [setOf, h]
theorem setOf_no (F : Nat → Bool) (k : Nat) (h : F k = false) : setOf F (k + 1) = setOf F k := by simp [setOf, h]

/-! ### Arrays of numbers -/
def arrV (n : Nat) (f : Nat → Nat) : Array Value := ((List.range n).map fun i => Value.int .i64 ((f i : Nat) : Int)).toArray
theorem arrV_size (n : Nat) (f : Nat → Nat) : (arrV n f).size = n := by simp [arrV]
theorem arrV_get (n : Nat) (f : Nat → Nat) (k : Nat) (h : k < n) : (arrV n f)[k]? = some (.int .i64 ((f k : Nat) : Int)) := by
  simp [arrV, h]
theorem arrV_set (n : Nat) (f : Nat → Nat) (k v : Nat) : (arrV n f).setIfInBounds k (.int .i64 ((v : Nat) : Int)) = arrV n (fun i => if i = k then v else f i) := by
  apply Array.ext_getElem?
  intro i
  by_cases hi : i < n
  · rw [Array.getElem?_setIfInBounds, arrV_get _ _ _ hi, arrV_get _ _ _ hi]
    by_cases e : k = i
    · subst e; simp [arrV_size, hi]
    · have e' : i ≠ k := fun h => e h.symm
      rw [if_neg e, if_neg e']
  · rw [Array.getElem?_eq_none (by simp [arrV_size]; omega), Array.getElem?_eq_none (by simp [arrV_size]; omega)]
theorem arrV_congr (n : Nat) (f g : Nat → Nat) (h : ∀ i, i < n → f i = g i) : arrV n f = arrV n g := by
  apply Array.ext_getElem?
  intro i
  by_cases hi : i < n
  · rw [arrV_get _ _ _ hi, arrV_get _ _ _ hi, h i hi]
  · rw [Array.getElem?_eq_none (by simp [arrV_size]; omega), Array.getElem?_eq_none (by simp [arrV_size]; omega)]
/-- The numbers of a table that is being made: those below k are done. -/
def mkAt (F : Nat → Nat) (k : Nat) : Nat → Nat := fun i => if i < k then F i else 0
theorem mkAt_next (F : Nat → Nat) (k : Nat) : (fun i => if i = k then F k else mkAt F k i) = mkAt F (k + 1) := by
  funext i; unfold mkAt
  by_cases e : i = k
  · subst e; simp
  · by_cases h : i < k
    · rw [if_neg e, if_pos h, if_pos (by omega)]
    · rw [if_neg e, if_neg h, if_neg (by omega)]
theorem mkAt_start (F : Nat → Nat) : mkAt F 0 = fun _ => 0 := by funext i; simp [mkAt]
theorem mkAt_end (n : Nat) (F : Nat → Nat) : arrV n (mkAt F n) = arrV n F := arrV_congr _ _ _ fun i hi => by unfold mkAt; rw [if_pos hi]
theorem arrV_one (n : Nat) (f : Nat → Nat) : (arrV n f).all (·.oneCell') = true := by
  rw [Array.all_eq_true_iff_forall_mem]
  intro x hx
  simp [arrV] at hx
  obtain ⟨a, _, rfl⟩ := hx
  rfl
theorem cell_arrV {w : World} {g n : Nat} {f : Nat → Nat} {t : TypeId} (hg : w.heap[g]? = some (.cells (arrV n f) t (0, 0))) (k : Nat) (h : k < n) :
    w.cell? ⟨g, k, none⟩ = some (.int .i64 ((f k : Nat) : Int)) := by
  rw [cell_of_row w g k _ t _ hg, arrV_get _ _ _ h]
theorem set_arrV {w : World} {g n : Nat} {f : Nat → Nat} {t : TypeId} (hg : w.heap[g]? = some (.cells (arrV n f) t (0, 0))) (k v : Nat) :
    (w.setCell ⟨g, k, none⟩ (.int .i64 ((v : Nat) : Int))).heap[g]? = some (.cells (arrV n (fun i => if i = k then v else f i)) t (0, 0)) := by
  rw [heap_setCell_same w g k _ t _ hg, arrV_set]
theorem zeros4 : (#[.int .i64 0, .int .i64 0, .int .i64 0, .int .i64 0] : Array Value) = arrV 4 (fun _ => 0) := rfl
theorem zeros16 : (#[.int .i64 0, .int .i64 0, .int .i64 0, .int .i64 0, .int .i64 0, .int .i64 0, .int .i64 0, .int .i64 0, .int .i64 0, .int .i64 0, .int .i64 0, .int .i64 0, .int .i64 0, .int .i64 0, .int .i64 0, .int .i64 0] : Array Value) = arrV 16 (fun _ => 0) := rfl

theorem results_row_tmp {P : Program} {fn : Func} {p u : Tmp} {ty : TypeId} (h : fn.results = #[.cell p ty, .tmp u]) (tmps : Array Value) (w : World) (g : Nat) (t : TypeId) (cs : Array Value) (fr : Nat × Nat) (d : TypeDesc)
    (hp : tmps.getD p undef = .pointer (some ⟨g, 0, none⟩)) (hg : w.heap[g]? = some (.cells cs t fr))
    (hu : P.underlying ty = some d) (hd : (match d with | .struct _ | .array _ _ => true | _ => false) = true) (hi : (P.info? ty).map (·.size) = some cs.size) :
    (results fn tmps).run P w = .ok (.tuple #[.agg cs, tmps.getD u undef]) w := by
  rw [results_cell_tmp h, hp]
  simp [asAddr, run_loadVar_row w g t ty cs fr d hg hu hd hi]
theorem run_index_arr {P : Program} (t e : TypeId) (n : Nat) (f : Nat → Nat) (k : Nat) (w : World) (hu : P.underlying t = some (.array n e)) (he : P.plainKey e = true)
    (hs : (P.info? e).map (·.size) = some 1) (hk : k < n) : (Instr.index t (.agg (arrV n f)) (.int .i64 (k : Int))).run P w = .ok (.int .i64 ((f k : Nat) : Int)) w := by
  cases hq : P.info? e with
  | none => simp [hq] at hs
  | some i =>
    have h1 : i.size = 1 := by simpa [hq] using hs
    have hp := run_part_plain (P := P) w he (arrV_get n f k hk)
    have hb : (0 : Int) ≤ (k : Int) ∧ (k : Int) < (n : Int) := ⟨by omega, by omega⟩
    simp [Instr.index, asIntOf, run_underlying hu, Sem.run_bind, sizeOf, typeInfo, hq, h1, hk, hp]

/-! ### Texts of digits -/
/-- The byte of a digit. -/
def hexB (n : Nat) : UInt8 := if n < 10 then (48 + n).toUInt8 else (87 + n).toUInt8
def dig (n : Nat) : ByteArray := ⟨#[hexB n]⟩
/-- The text of the digits f 0, f 1, .. f (n - 1). -/
def text (f : Nat → Nat) (n : Nat) : ByteArray := ⟨((List.range n).map fun i => hexB (f i)).toArray⟩
theorem text_size (f : Nat → Nat) (n : Nat) : (text f n).size = n := by simp [text, ByteArray.size]
theorem text_zero (f : Nat → Nat) : text f 0 = ByteArray.empty := rfl
theorem text_succ (f : Nat → Nat) (n : Nat) : text f n ++ dig (f n) = text f (n + 1) := by
  apply ByteArray.ext
  rw [ByteArray.data_append]
  simp [text, dig, List.range_succ]
theorem dig_size (n : Nat) : (dig n).size = 1 := rfl
theorem text_add {P : Program} (w : World) (f : Nat → Nat) (n m : Nat) (h : n < 65536) : (Op.stringOp .add (text f n) (dig m)).run P w = .ok (.string (text f n ++ dig m)) w :=
  run_string_add_sum w _ _ (by rw [text_size, dig_size]; omega)
attribute [go_sem] text_size dig_size
attribute [go_sem] text_add
theorem text_congr (f g : Nat → Nat) (n : Nat) (h : ∀ i, i < n → f i = g i) : text f n = text g n := by
  unfold text
  congr 2
  apply List.map_congr_left
  intro i hi
  rw [h i (by simpa using hi)]
theorem digits_slice : ∀ n : Nat, n < 16 → (ByteArray.mk #[48, 49, 50, 51, 52, 53, 54, 55, 56, 57, 97, 98, 99, 100, 101, 102]).extract n (n + 1) = dig n := by decide
end Go.Proofs.Ytipkalbomjfckaa
