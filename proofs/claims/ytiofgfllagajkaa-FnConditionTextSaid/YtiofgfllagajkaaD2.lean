/-
  Proved here: that the reference's Draw functions of chapter 1 return some numbers or texts, for every slice of bytes, and write to new memory alone.
-/
import Derived.Test.YtiofgfllagajkaaD1
import Derived.Test.YtiofgfllagajkaaS3
namespace Go.Proofs.Ytiofgfllagajkaa
open Go.RowKit
def GotInt (w : World) (e : Ending) (w' : World) : Prop := ∃ v : Int, e = .returned (.int .i64 v) ∧ Grew w w'
def GotInts (w : World) (e : Ending) (w' : World) : Prop := ∃ u v : Int, e = .returned (.tuple #[.int .i64 u, .int .i64 v]) ∧ Grew w w'
def GotStr (w : World) (e : Ending) (w' : World) : Prop := ∃ s : ByteArray, s.size ≤ 1000 ∧ e = .returned (.string s) ∧ Grew w w'
set_option maxHeartbeats 400000 in
theorem DrawDualFamily_any (a : Option Addr) (len cap : Nat) (zs : List Int) (w : World) (h : IsRow .u8 w a len cap zs) (hl : len ≤ 1048576) :
    Calls Try.prog 43 #[.slice a len cap] w (GotInt w) := by
  have H := hid h
  clear h
  go_enter Try.func43, Try.ntmps43
  go_wp2_with fail
  refine (open_any a len cap zs w H.out hl).mono ?_
  rintro e w1 ⟨rfl, hg, hr⟩
  have HG := hid hg
  have HR := hid hr
  clear hg hr
  go_wp2_with fail
  refine (l1Family_any w.heap.size 999992 w1 HR.out).mono ?_
  rintro e w2 ⟨v, rfl, ho, _⟩
  have HO := hid ho
  clear ho
  go_wp2_with fail
  go_ret
  exact ⟨v, rfl, Only.grew HG.out (Nat.le_refl _) HO.out⟩
set_option maxHeartbeats 400000 in
theorem DrawCloseUp_any (a : Option Addr) (len cap : Nat) (zs : List Int) (w : World) (h : IsRow .u8 w a len cap zs) (hl : len ≤ 1048576) :
    Calls Try.prog 44 #[.slice a len cap] w (GotInt w) := by
  have H := hid h
  clear h
  go_enter Try.func44, Try.ntmps44
  go_wp2_with fail
  refine (open_any a len cap zs w H.out hl).mono ?_
  rintro e w1 ⟨rfl, hg, hr⟩
  have HG := hid hg
  have HR := hid hr
  clear hg hr
  go_wp2_with fail
  refine (l1Family_any w.heap.size 999992 w1 HR.out).mono ?_
  rintro e w2 ⟨v, rfl, ho, _⟩
  have HO := hid ho
  clear ho
  go_wp2_with fail
  go_ret
  exact ⟨v, rfl, Only.grew HG.out (Nat.le_refl _) HO.out⟩
set_option maxHeartbeats 400000 in
theorem DrawFormatCondition_any (a : Option Addr) (len cap : Nat) (zs : List Int) (w : World) (h : IsRow .u8 w a len cap zs) (hl : len ≤ 1048576) :
    Calls Try.prog 45 #[.slice a len cap] w (GotInt w) := by
  have H := hid h
  clear h
  go_enter Try.func45, Try.ntmps45
  go_wp2_with fail
  refine (open_any a len cap zs w H.out hl).mono ?_
  rintro e w1 ⟨rfl, hg, hr⟩
  have HG := hid hg
  have HR := hid hr
  clear hg hr
  go_wp2_with fail
  refine (l1Some_any w.heap.size 999998 w1 HR.out).mono ?_
  rintro e w2 ⟨v, rfl, ho, _⟩
  have HO := hid ho
  clear ho
  go_wp2_with fail
  go_ret
  exact ⟨v, rfl, Only.grew HG.out (Nat.le_refl _) HO.out⟩
set_option maxHeartbeats 400000 in
theorem DrawHasState_any (a : Option Addr) (len cap : Nat) (zs : List Int) (w : World) (h : IsRow .u8 w a len cap zs) (hl : len ≤ 1048576) :
    Calls Try.prog 24 #[.slice a len cap] w (GotInts w) := by
  have H := hid h
  clear h
  go_enter Try.func24, Try.ntmps24
  go_wp2_with fail
  refine (open_any a len cap zs w H.out hl).mono ?_
  rintro e w1 ⟨rfl, hg, hr⟩
  have HG := hid hg
  have HR := hid hr
  clear hg hr
  go_wp2_with fail
  refine (l1Some_any w.heap.size 999998 w1 HR.out).mono ?_
  rintro e w2 ⟨v, rfl, ho, hr2⟩
  have HO := hid ho
  have HR2 := hid hr2
  clear ho hr2
  go_wp2_with fail
  refine (l1Spot_any w.heap.size 999996 w2 HR2.out).mono ?_
  rintro e w3 ⟨u, rfl, ho2, _⟩
  have HO2 := hid ho2
  clear ho2
  go_wp2_with fail
  go_ret2
  exact ⟨v, u, rfl, Only.grew HG.out (Nat.le_refl _) (HO.out.trans HO2.out)⟩
set_option maxHeartbeats 400000 in
theorem DrawInFamily_any (a : Option Addr) (len cap : Nat) (zs : List Int) (w : World) (h : IsRow .u8 w a len cap zs) (hl : len ≤ 1048576) :
    Calls Try.prog 38 #[.slice a len cap] w (GotInts w) := by
  have H := hid h
  clear h
  go_enter Try.func38, Try.ntmps38
  go_wp2_with fail
  refine (open_any a len cap zs w H.out hl).mono ?_
  rintro e w1 ⟨rfl, hg, hr⟩
  have HG := hid hg
  have HR := hid hr
  clear hg hr
  go_wp2_with fail
  refine (l1Family_any w.heap.size 999992 w1 HR.out).mono ?_
  rintro e w2 ⟨v, rfl, ho, hr2⟩
  have HO := hid ho
  have HR2 := hid hr2
  clear ho hr2
  go_wp2_with fail
  refine (l1Some_any w.heap.size 999990 w2 HR2.out).mono ?_
  rintro e w3 ⟨u, rfl, ho2, _⟩
  have HO2 := hid ho2
  clear ho2
  go_wp2_with fail
  go_ret2
  exact ⟨v, u, rfl, Only.grew HG.out (Nat.le_refl _) (HO.out.trans HO2.out)⟩
set_option maxHeartbeats 400000 in
theorem DrawImplies_any (a : Option Addr) (len cap : Nat) (zs : List Int) (w : World) (h : IsRow .u8 w a len cap zs) (hl : len ≤ 1048576) :
    Calls Try.prog 29 #[.slice a len cap] w (GotInts w) := by
  have H := hid h
  clear h
  go_enter Try.func29, Try.ntmps29
  go_wp2_with fail
  refine (open_any a len cap zs w H.out hl).mono ?_
  rintro e w1 ⟨rfl, hg, hr⟩
  have HG := hid hg
  have HR := hid hr
  clear hg hr
  go_wp2_with fail
  refine (l1Two_any w.heap.size 999995 w1 HR.out).mono ?_
  rintro e w2 ⟨u, v, rfl, ho, _⟩
  have HO := hid ho
  clear ho
  go_wp2_with fail
  go_ret2
  exact ⟨u, v, rfl, Only.grew HG.out (Nat.le_refl _) HO.out⟩
def tails : List ByteArray := [⟨#[]⟩, ⟨#[48]⟩, ⟨#[51]⟩, ⟨#[45]⟩, ⟨#[52]⟩, ⟨#[32]⟩]
theorem tails_size (s : ByteArray) (h : s ∈ tails) : s.size ≤ 1 := by
  unfold tails at h
  simp only [List.mem_cons, List.not_mem_nil, or_false] at h
  rcases h with rfl | rfl | rfl | rfl | rfl | rfl <;> decide
theorem fmt_size (p : Nat) (_hp : p < 16) : (fmt p).size ≤ 4 := by
  unfold fmt
  split
  · decide
  · exact fmtTo_le p 4
set_option maxHeartbeats 400000 in
theorem DrawParseCondition_any (a : Option Addr) (len cap : Nat) (zs : List Int) (w : World) (h : IsRow .u8 w a len cap zs) (hl : len ≤ 1048576) :
    Calls Try.prog 46 #[.slice a len cap] w (GotStr w) := by
  have H := hid h
  clear h
  go_enter Try.func46, Try.ntmps46
  go_wp2_with fail
  refine (open_any a len cap zs w H.out hl).mono ?_
  rintro e w1 ⟨rfl, hg, hr⟩
  have HG := hid hg
  have HR := hid hr
  clear hg hr
  go_wp2_with fail
  refine (pick_any 16 w.heap.size 999999 w1 (by omega) (by omega) HR.out).mono ?_
  rintro e w2 ⟨k, hk, rfl, ho, hr2⟩
  have HO := hid ho
  have HR2 := hid hr2
  clear ho hr2
  go_wp2_with fail
  refine (sFormatCondition_yes k hk w2).mono ?_
  rintro e w3 ⟨rfl, hg3⟩
  have HR3 := hid (HR2.out.grew hg3)
  have HO3 := hid (HO.out.trans (Only.of_grew hg3))
  have hsz := fmt_size k hk
  clear hg3
  go_wp2_with fail
  refine (pick_any 2 w.heap.size 999998 w3 (by omega) (by omega) HR3.out).mono ?_
  rintro e w4 ⟨k4, hk4, rfl, ho, hr4⟩
  have HO4 := hid (HO3.out.trans ho)
  have HR4 := hid hr4
  clear ho hr4
  by_cases h0 : k4 = 0
  · subst h0
    go_wp2_with fail
    go_ret
    exact ⟨fmt k, by omega, rfl, Only.grew HG.out (Nat.le_refl _) HO4.out⟩
  · have h0' : ((k4 : Int) == 0) = false := by simp; omega
    clear h0
    go_wp2_with fail
    refine (of_any tails w4.heap.size w.heap.size 999997 _ (by have := HR4.out.lt; omega) (by decide) (by decide) (fun i hi => list_cellsS w4 tails _ i hi) (HR4.out.grew (Grew.alloc _ _))).mono ?_
    rintro e w5 ⟨s, hs, rfl, ho5, _⟩
    have HO5 := hid (HO4.out.trans ((Only.of_grew (Grew.alloc _ _)).trans ho5))
    have hs1 := tails_size s hs
    have hadd : ∀ w, (Op.stringOp .add (fmt k) s).run Try.prog w = .ok (.string (fmt k ++ s)) w := fun w => run_add_small w _ _ (by omega) (by omega)
    clear ho5 hs
    go_wp2_with fail
    go_ret
    exact ⟨_, by rw [ByteArray.size_append]; omega, rfl, Only.grew HG.out (Nat.le_refl _) HO5.out⟩
end Go.Proofs.Ytiofgfllagajkaa
