/-
  Proved here: that the reference's generators of conditions, states and families return some numbers, and write to their own memory alone.
-/
import Derived.Test.YtipkalbomjfckaaRd
import Derived.Test.YtipkalbomjfckaaI1
import Derived.Test.YtipkalbomjfckaaS1
namespace Go.Proofs.Ytipkalbomjfckaa
open Go.RowKit
def SomeInt (B m : Nat) (w : World) (e : Ending) (w' : World) : Prop := ∃ v : Int, e = .returned (.int .i64 v) ∧ Only B w w' ∧ Rdy w' B m
theorem Picked.some {n B m : Nat} {w : World} {e : Ending} {w' : World} (h : Picked n B m w e w') : SomeInt B m w e w' := by
  obtain ⟨k, _, h1, h2, h3⟩ := h
  exact ⟨_, h1, h2, h3⟩
theorem list_cells (w : World) (l : List Int) (t : TypeId) (i : Nat) (hi : i < l.length) : (w.alloc (.cells (l.map (Value.int .i64)).toArray t)).cell? ⟨w.heap.size, i, none⟩ = some (.int .i64 (l.getD i 0)) := by
  rw [cell_of_row _ _ _ _ _ _ (heap_alloc_new w _)]
  simp [hi]
theorem list_cellsS (w : World) (l : List ByteArray) (t : TypeId) (i : Nat) (hi : i < l.length) : (w.alloc (.cells (l.map Value.string).toArray t)).cell? ⟨w.heap.size, i, none⟩ = some (.string (l.getD i ByteArray.empty)) := by
  rw [cell_of_row _ _ _ _ _ _ (heap_alloc_new w _)]
  simp [hi]
set_option maxHeartbeats 400000 in
theorem l1Some_any (B m : Nat) (w : World) (h : Rdy w B (m + 2)) :
    Calls Try.prog 80 #[.pointer (some ⟨B, 0, none⟩)] w (SomeInt B m w) := by
  have H := hid h
  clear h
  go_enter Try.func80, Try.ntmps80
  go_wp2_with fail
  refine (pick_any 24 B (m + 1) w (by omega) (by omega) H.out).mono ?_
  rintro e w1 ⟨k, hk, rfl, ho, hr⟩
  have HO := hid ho
  have HR := hid hr
  clear ho hr
  by_cases h0 : k = 0
  · subst h0
    go_wp2_with fail
    refine (num_any [-1, 16, 9223372036854775807] w1.heap.size B m _ (by have := HR.out.lt; omega) (by decide) (by decide) (fun i hi => list_cells w1 [-1, 16, 9223372036854775807] _ i hi) (HR.out.grew (Grew.alloc _ _))).mono ?_
    rintro e w2 ⟨v, _, rfl, ho2, hr2⟩
    have HO2 := hid ho2
    have HR2 := hid hr2
    clear ho2 hr2
    go_wp2_with fail
    go_ret
    exact ⟨v, rfl, HO.out.trans ((Only.of_grew (Grew.alloc _ _)).trans HO2.out), HR2.out⟩
  · have h0' : ((k : Int) == 0) = false := by simp; omega
    clear h0
    go_wp2_with fail
    refine (pick_any 16 B m w1 (by omega) (by omega) (HR.out.less (by omega))).mono ?_
    rintro e w2 ⟨k2, hk2, rfl, ho2, hr2⟩
    have HO2 := hid ho2
    have HR2 := hid hr2
    clear ho2 hr2
    go_wp2_with fail
    go_ret
    exact ⟨_, rfl, HO.out.trans HO2.out, HR2.out⟩
set_option maxHeartbeats 400000 in
theorem l1Spot_any (B m : Nat) (w : World) (h : Rdy w B (m + 2)) :
    Calls Try.prog 87 #[.pointer (some ⟨B, 0, none⟩)] w (SomeInt B m w) := by
  have H := hid h
  clear h
  go_enter Try.func87, Try.ntmps87
  go_wp2_with fail
  refine (pick_any 24 B (m + 1) w (by omega) (by omega) H.out).mono ?_
  rintro e w1 ⟨k, hk, rfl, ho, hr⟩
  have HO := hid ho
  have HR := hid hr
  clear ho hr
  by_cases h0 : k = 0
  · subst h0
    go_wp2_with fail
    refine (num_any [-1, 4, 9223372036854775807] w1.heap.size B m _ (by have := HR.out.lt; omega) (by decide) (by decide) (fun i hi => list_cells w1 [-1, 4, 9223372036854775807] _ i hi) (HR.out.grew (Grew.alloc _ _))).mono ?_
    rintro e w2 ⟨v, _, rfl, ho2, hr2⟩
    have HO2 := hid ho2
    have HR2 := hid hr2
    clear ho2 hr2
    go_wp2_with fail
    go_ret
    exact ⟨v, rfl, HO.out.trans ((Only.of_grew (Grew.alloc _ _)).trans HO2.out), HR2.out⟩
  · have h0' : ((k : Int) == 0) = false := by simp; omega
    clear h0
    go_wp2_with fail
    refine (pick_any 4 B m w1 (by omega) (by omega) (HR.out.less (by omega))).mono ?_
    rintro e w2 ⟨k2, hk2, rfl, ho2, hr2⟩
    have HO2 := hid ho2
    have HR2 := hid hr2
    clear ho2 hr2
    go_wp2_with fail
    go_ret
    exact ⟨_, rfl, HO.out.trans HO2.out, HR2.out⟩
set_option maxHeartbeats 400000 in
theorem l1Family_any (B m : Nat) (w : World) (h : Rdy w B (m + 8)) :
    Calls Try.prog 63 #[.pointer (some ⟨B, 0, none⟩)] w (SomeInt B m w) := by
  have H := hid h
  clear h
  go_enter Try.func63, Try.ntmps63
  go_wp2_with fail
  refine (pick_any 24 B (m + 7) w (by omega) (by omega) H.out).mono ?_
  rintro e w1 ⟨k, hk, rfl, ho, hr⟩
  have HO := hid ho
  have HR := hid hr
  clear ho hr
  by_cases h0 : k = 0
  · subst h0
    go_wp2_with fail
    refine (num_any [-1, 65536, 0, 65535] w1.heap.size B m _ (by have := HR.out.lt; omega) (by decide) (by decide) (fun i hi => list_cells w1 [-1, 65536, 0, 65535] _ i hi) ((HR.out.less (by omega)).grew (Grew.alloc _ _))).mono ?_
    rintro e w2 ⟨v, _, rfl, ho2, hr2⟩
    have HO2 := hid ho2
    have HR2 := hid hr2
    clear ho2 hr2
    go_wp2_with fail
    go_ret
    exact ⟨v, rfl, HO.out.trans ((Only.of_grew (Grew.alloc _ _)).trans HO2.out), HR2.out⟩
  · have h0' : ((k : Int) == 0) = false := by simp; omega
    clear h0
    go_wp2_with fail
    refine (pick_any 5 B (m + 6) w1 (by omega) (by omega) (HR.out.less (by omega))).mono ?_
    rintro e w2 ⟨k2, hk2, rfl, ho2, hr2⟩
    have HO2 := hid (HO.out.trans ho2)
    have HR2 := hid hr2
    clear ho2 hr2
    go_wp2_with fail
    go_loopw [3, 4] (fun v u wr => ∃ j f : Nat, j ≤ 4 ∧ f < 65536 ∧ u = .int .i64 j ∧ v = .int .i64 f ∧ Only B w wr ∧ Rdy wr B (m + 2 + j)) (fun _ u _ => (intOf u).toNat)
    case atStart => exact ⟨k2, 0, by omega, by omega, rfl, rfl, HO2.out, HR2.out.less (by omega)⟩
    case round =>
      obtain ⟨j, f, hj, hf, rfl, rfl, ho3, hr3⟩ := hrel
      have HO3 := hid ho3
      have HR3 := hid hr3
      clear ho3 hr3
      by_cases hj0 : 0 < j
      · have hj1 : (0 : Int) < (j : Int) := by omega
        go_wp2_with fail
        refine (pick_any 16 B (m + 2 + (j - 1)) wr (by omega) (by omega) (HR3.out.less (by omega))).mono ?_
        rintro e w4 ⟨k4, hk4, rfl, ho4, hr4⟩
        have HO4 := hid (HO3.out.trans ho4)
        have HR4 := hid hr4
        have b4 := pow2_lt k4 hk4
        have b5 := orN_lt f (pow2 k4) hf b4
        clear ho4 hr4
        go_wp2_with fail
        go_roundw
        case rel => exact ⟨j - 1, _, by omega, b5, by congr 1; omega, rfl, HO4.out, HR4.out⟩
        case measure => simp [intOf]; omega
      · obtain rfl : j = 0 := by omega
        go_wp2_with fail
        refine (pick_any 3 B m wr (by omega) (by omega) (HR3.out.less (by omega))).mono ?_
        rintro e w4 ⟨k4, hk4, rfl, ho4, hr4⟩
        have HO4 := hid (HO3.out.trans ho4)
        have HR4 := hid hr4
        clear ho4 hr4
        by_cases h0 : k4 = 0
        · subst h0
          go_wp2_with fail
          refine (l1Up_any f _).mono ?_
          rintro e w5 ⟨rfl, rfl⟩
          go_wp2_with fail
          go_ret
          exact ⟨_, rfl, HO4.out, HR4.out⟩
        · have h0' : ((k4 : Int) == 0) = false := by simp; omega
          clear h0
          go_wp2_with fail
          go_ret
          exact ⟨_, rfl, HO4.out, HR4.out⟩
end Go.Proofs.Ytipkalbomjfckaa
