/-
  Proved here: what FormatCondition and ParseCondition return in the program and in the reference, for every argument.
-/
import Derived.Test.YtiofgfllagajkaaC1
import Derived.Test.YtiofgfllagajkaaS1
namespace Go.Proofs.Ytiofgfllagajkaa
open Go.RowKit
/-- The states below k of a condition, as digits. -/
def fmtTo (p : Nat) : Nat → ByteArray
  | 0 => ByteArray.empty
  | k + 1 => if has p k then fmtTo p k ++ dig k else fmtTo p k
def fmt (p : Nat) : ByteArray := if p = 0 then ⟨#[45]⟩ else fmtTo p 4
theorem fmtTo_size (p k : Nat) : (fmtTo p k).size = onesTo p k := by
  induction k with
  | zero => rfl
  | succ k ih =>
    simp only [fmtTo, onesTo, has01]
    cases has p k
    · simpa using ih
    · simp [ByteArray.size_append, ih, dig_size]
theorem fmtTo_le (p k : Nat) : (fmtTo p k).size ≤ k := by rw [fmtTo_size]; exact onesTo_le p k
theorem ones_pos : ∀ p : Nat, p < 16 → p ≠ 0 → onesTo p 4 ≠ 0 := by decide
theorem fmtTo_some (p : Nat) (hp : p < 16) (h0 : p ≠ 0) : (fmtTo p 4).toList.isEmpty = false := by
  have h := fmtTo_size p 4
  have h1 := ones_pos p hp h0
  rw [ByteArray.toList_eq]
  cases hl : (fmtTo p 4).data.toList with
  | nil =>
    exfalso
    apply h1
    rw [← h, show (fmtTo p 4).size = (fmtTo p 4).data.toList.length from rfl, hl]
    rfl
  | cons a b => rfl
theorem fmtTo_none : fmtTo 0 4 = ByteArray.empty := by decide
theorem fmtTo_yes (p k : Nat) (h : has p k = true) : fmtTo p (k + 1) = fmtTo p k ++ dig k := by simp [fmtTo, h]
theorem fmtTo_no (p k : Nat) (h : has p k = false) : fmtTo p (k + 1) = fmtTo p k := by simp [fmtTo, h]
theorem run_add_small {P : Program} (w : World) (a b : ByteArray) (ha : a.size ≤ 65536) (hb : b.size ≤ 65536) : (Op.stringOp .add a b).run P w = .ok (.string (a ++ b)) w :=
  run_string_add_sum w _ _ (by omega)
theorem encode_digit : ∀ k : Nat, k < 4 → Utf8.encode (48 + (k : Int)) = dig k := by decide
theorem conv_one (w : World) (b : UInt8) (n : Int) (h : (b.toNat : Int) = n) : (convert 28 9 (.slice (some ⟨w.heap.size, 0, none⟩) 1 1)).run Try.prog (w.alloc (.cells #[.int .u8 n] 5)) = .ok (.string ⟨#[b]⟩) (w.alloc (.cells #[.int .u8 n] 5)) := by
  subst h
  exact run_convert_bytes_back _ _ _ _ ⟨w.heap.size, 0, none⟩ 1 [b] Try.underlying28 Try.underlying5 Try.underlying9 (fun j hj => by
    obtain rfl : j = 0 := by simp at hj; omega
    exact cell_alloc_one _ _ _ _)
set_option maxHeartbeats 400000 in
theorem l14Dec_any (n : Nat) (hn : n < 4) (w : World) :
    Calls Try.prog 59 #[.int .i64 n] w fun e w' => e = .returned (.string (dig n)) ∧ Grew w w' := by
  have h4 : n = 0 ∨ n = 1 ∨ n = 2 ∨ n = 3 := by omega
  have c0 := conv_one w 48 48 rfl
  have c1 := conv_one w 49 49 rfl
  have c2 := conv_one w 50 50 rfl
  have c3 := conv_one w 51 51 rfl
  rcases h4 with rfl | rfl | rfl | rfl
  all_goals
    go_enter Try.func59, Try.ntmps59
    go_wp2_with fail
    refine wp_loop_once ?_
    go_wp2_with fail
    go_ret
    exact ⟨rfl, Grew.alloc _ _⟩
set_option maxHeartbeats 400000 in
theorem formatCondition_yes (p : Nat) (hp : p < 16) (w : World) :
    Calls Try.prog 21 #[.int .i64 p] w fun e w' => e = .returned (.string (fmt p)) ∧ w = w' := by
  go_enter Try.func21, Try.ntmps21
  go_wp2_with (first | (go_at_call 27; refine (icv_yes _ hp _).mono ?_; rintro e w' ⟨rfl, rfl⟩) | fail)
  go_loop [3, 4, 8] (fun v _ u => ∃ k : Nat, k ≤ 4 ∧ u = .int .i64 k ∧ v = .string (fmtTo p k)) (fun _ _ u => 4 - (intOf u).toNat)
  case atStart => exact ⟨0, by omega, rfl, rfl⟩
  case round =>
    obtain ⟨k, hk, rfl, rfl⟩ := hrel
    by_cases hlt : k < 4
    · have hl1 : (k : Int) < 4 := by omega
      cases hh : has p k
      · have key := fmtTo_no p k hh
        have KEY := hid key
        clear key
        go_wp2_with fail
        go_round
        case rel => exact ⟨k + 1, by omega, by go_num, by rw [KEY.out]⟩
        case measure => simp [intOf]; omega
      · have key := fmtTo_yes p k hh
        have KEY := hid key
        have hu := encode_digit k hlt
        have hadd : ∀ w, (Op.stringOp .add (fmtTo p k) (dig k)).run Try.prog w = .ok (.string (fmtTo p k ++ dig k)) w :=
          fun w => run_add_small w _ _ (by have := fmtTo_le p k; omega) (by rw [dig_size]; omega)
        clear key
        go_wp2_with fail
        go_round
        case rel => exact ⟨k + 1, by omega, by go_num, by rw [KEY.out]⟩
        case measure => simp [intOf]; omega
    · obtain rfl : k = 4 := by omega
      by_cases h0 : p = 0
      · subst h0
        rw [fmtTo_none]
        go_wp2_with fail
        go_ret
        exact ⟨rfl, rfl⟩
      · have hs := fmtTo_some p hp h0
        have H0 := hid h0
        clear h0
        go_wp2_with fail
        go_ret
        exact ⟨by unfold fmt; rw [if_neg H0.out]; rfl, rfl⟩
theorem formatCondition_no (p : Int) (hp : p < 0 ∨ 15 < p) (w : World) :
    Calls Try.prog 21 #[.int .i64 p] w fun e w' => e = .returned (.string ByteArray.empty) ∧ w = w' := by
  have HN := hid hp
  clear hp
  go_enter Try.func21, Try.ntmps21
  go_wp2_with (first | (go_at_call 27; refine (icv_no _ HN.out _).mono ?_; rintro e w' ⟨rfl, rfl⟩) | fail)
  go_ret
  exact ⟨rfl, rfl⟩
set_option maxHeartbeats 400000 in
theorem sFormatCondition_yes (p : Nat) (hp : p < 16) (w : World) :
    Calls Try.prog 20 #[.int .i64 p] w fun e w' => e = .returned (.string (fmt p)) ∧ Grew w w' := by
  go_enter Try.func20, Try.ntmps20
  go_wp2_with (first | (go_at_call 58; refine (scv_yes _ hp _).mono ?_; rintro e w' ⟨rfl, rfl⟩) | fail)
  go_loopw [3, 4] (fun v u wr => ∃ k : Nat, k ≤ 4 ∧ u = .int .i64 k ∧ v = .string (fmtTo p k) ∧ Grew w wr) (fun _ u _ => 4 - (intOf u).toNat)
  case atStart => exact ⟨0, by omega, rfl, rfl, Grew.refl _⟩
  case round =>
    obtain ⟨k, hk, rfl, rfl, hg⟩ := hrel
    by_cases hlt : k < 4
    · have hl1 : (k : Int) < 4 := by omega
      cases hh : has p k
      · have key := fmtTo_no p k hh
        have KEY := hid key
        clear key
        go_wp2_with (first | (go_at_call 47; refine (l1Has_any p k (by omega) _).mono ?_; rintro e w' ⟨rfl, rfl⟩) | fail)
        go_roundw
        case rel => exact ⟨k + 1, by omega, by go_num, by rw [KEY.out], hg⟩
        case measure => simp [intOf]; omega
      · have key := fmtTo_yes p k hh
        have KEY := hid key
        have hadd : ∀ w, (Op.stringOp .add (fmtTo p k) (dig k)).run Try.prog w = .ok (.string (fmtTo p k ++ dig k)) w :=
          fun w => run_add_small w _ _ (by have := fmtTo_le p k; omega) (by rw [dig_size]; omega)
        clear key
        go_wp2_with (first | (go_at_call 47; refine (l1Has_any p k (by omega) _).mono ?_; rintro e w' ⟨rfl, rfl⟩) | fail)
        refine (l14Dec_any k hlt _).mono ?_
        rintro e w1 ⟨rfl, hb⟩
        go_wp2_with fail
        go_roundw
        case rel => exact ⟨k + 1, by omega, by go_num, by rw [KEY.out], hg.trans hb⟩
        case measure => simp [intOf]; omega
    · obtain rfl : k = 4 := by omega
      by_cases h0 : p = 0
      · subst h0
        rw [fmtTo_none]
        go_wp2_with fail
        go_ret
        exact ⟨rfl, hg⟩
      · have hs := fmtTo_some p hp h0
        have H0 := hid h0
        clear h0
        go_wp2_with fail
        go_ret
        exact ⟨by unfold fmt; rw [if_neg H0.out]; rfl, hg⟩
theorem sFormatCondition_no (p : Int) (hp : p < 0 ∨ 15 < p) (w : World) :
    Calls Try.prog 20 #[.int .i64 p] w fun e w' => e = .returned (.string ByteArray.empty) ∧ Grew w w' := by
  have HN := hid hp
  clear hp
  go_enter Try.func20, Try.ntmps20
  go_wp2_with (first | (go_at_call 58; refine (scv_no _ HN.out _).mono ?_; rintro e w' ⟨rfl, rfl⟩) | fail)
  go_ret
  exact ⟨rfl, Grew.refl _⟩
def parseN (s : ByteArray) : Option Nat := (List.range 16).find? (fun p => (fmt p).toList == s.toList)
theorem parseN_some {s : ByteArray} {p : Nat} (hp : p < 16) (hb : ∀ i, i < p → ((fmt i).toList == s.toList) = false) (h : ((fmt p).toList == s.toList) = true) : parseN s = some p := by
  unfold parseN
  rw [List.find?_range_eq_some]
  exact ⟨h, by simpa using hp, fun j hj => by rw [hb j hj]; rfl⟩
theorem parseN_none {s : ByteArray} (hb : ∀ i, i < 16 → ((fmt i).toList == s.toList) = false) : parseN s = none := by
  unfold parseN
  rw [List.find?_eq_none]
  intro x hx
  rw [hb x (by simpa using hx)]
  simp
def parseV (s : ByteArray) : Value := .tuple #[.int .i64 (((parseN s).getD 0 : Nat) : Int), .bool (parseN s).isSome]
set_option maxHeartbeats 400000 in
theorem parseCondition_any (s : ByteArray) (w : World) :
    Calls Try.prog 23 #[.string s] w fun e w' => e = .returned (parseV s) ∧ w = w' := by
  go_enter Try.func23, Try.ntmps23
  go_wp2_with fail
  go_loop [4, 5] (fun _ u => ∃ k : Nat, k ≤ 16 ∧ u = .int .i64 k ∧ ∀ i, i < k → ((fmt i).toList == s.toList) = false) (fun _ u => 16 - (intOf u).toNat)
  case atStart => exact ⟨0, by omega, rfl, fun i hi => by omega⟩
  case round =>
    obtain ⟨k, hk, rfl, hb⟩ := hrel
    have HB := hid hb
    clear hb
    by_cases hlt : k < 16
    · have hl1 : (k : Int) < 16 := by omega
      cases hs : (fmt k).toList == s.toList
      · go_wp2_with (first | (go_at_call 21; refine (formatCondition_yes k hlt _).mono ?_; rintro e w' ⟨rfl, rfl⟩) | fail)
        go_round
        case rel =>
          refine ⟨k + 1, by omega, by go_num, fun i hi => ?_⟩
          by_cases e : i = k
          · subst e; exact hs
          · exact HB.out i (by omega)
        case measure => simp [intOf]; omega
      · have HS := hid hs
        go_wp2_with (first | (go_at_call 21; refine (formatCondition_yes k hlt _).mono ?_; rintro e w' ⟨rfl, rfl⟩) | fail)
        go_ret2
        exact ⟨by unfold parseV; rw [parseN_some hlt HB.out HS.out]; rfl, rfl⟩
    · obtain rfl : k = 16 := by omega
      go_wp2_with fail
      go_ret2
      exact ⟨by unfold parseV; rw [parseN_none HB.out]; rfl, rfl⟩
set_option maxHeartbeats 400000 in
theorem sParseCondition_any (s : ByteArray) (w : World) :
    Calls Try.prog 22 #[.string s] w fun e w' => e = .returned (parseV s) ∧ Grew w w' := by
  go_enter Try.func22, Try.ntmps22
  go_wp2_with fail
  go_loopw [4] (fun u wr => ∃ k : Nat, k ≤ 16 ∧ u = .int .i64 k ∧ (∀ i, i < k → ((fmt i).toList == s.toList) = false) ∧ Grew w wr) (fun u _ => 16 - (intOf u).toNat)
  case atStart => exact ⟨0, by omega, rfl, fun i hi => by omega, Grew.refl _⟩
  case round =>
    obtain ⟨k, hk, rfl, hb, hg⟩ := hrel
    have HB := hid hb
    clear hb
    by_cases hlt : k < 16
    · have hl1 : (k : Int) < 16 := by omega
      cases hs : (fmt k).toList == s.toList
      · go_wp2_with fail
        refine (sFormatCondition_yes k hlt _).mono ?_
        rintro e w1 ⟨rfl, hg1⟩
        go_wp2_with fail
        go_roundw
        case rel =>
          refine ⟨k + 1, by omega, by go_num, fun i hi => ?_, hg.trans hg1⟩
          by_cases e : i = k
          · subst e; exact hs
          · exact HB.out i (by omega)
        case measure => simp [intOf]; omega
      · have HS := hid hs
        go_wp2_with fail
        refine (sFormatCondition_yes k hlt _).mono ?_
        rintro e w1 ⟨rfl, hg1⟩
        go_wp2_with fail
        go_ret2
        exact ⟨by unfold parseV; rw [parseN_some hlt HB.out HS.out]; rfl, hg.trans hg1⟩
    · obtain rfl : k = 16 := by omega
      go_wp2_with fail
      go_ret2
      exact ⟨by unfold parseV; rw [parseN_none HB.out]; rfl, hg⟩
end Go.Proofs.Ytiofgfllagajkaa
