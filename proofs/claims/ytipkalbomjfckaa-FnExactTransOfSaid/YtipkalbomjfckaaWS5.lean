/-
  The walk of the exact law of TransOf: it returns true, for every slice of numbers.
-/
import Derived.Test.YtipkalbomjfckaaK9
import Derived.Test.YtipkalbomjfckaaRd
import Derived.OwnWalk
namespace Go.Proofs.Ytipkalbomjfckaa
open Go.RowKit
theorem info_int5 : (Try.prog.info? 3).map (fun i => (i.zero, i.size, i.bytes)) = some (some (.int .i64 0), 1, 8) := by kernel_rfl
/-- Where the numbers of a slice lie. -/
def SrcI (w : World) (a : Option Addr) (len : Nat) (z : Nat → Int) : Prop := len = 0 ∨ ∃ b off, a = some ⟨b, off, none⟩ ∧ IntsAt w b off len z
theorem srcI_of_row {w : World} {a : Option Addr} {len cap : Nat} {zs : List Int} (h : IsRow .i64 w a len cap zs) : SrcI w a len (fun i => zs.getD i 0) := by
  rcases h with ⟨_, h, _, _⟩ | ⟨x, rfl, hl, hm, hz, hc, hw⟩
  · exact .inl h
  · by_cases h0 : len = 0
    · exact .inl h0
    · obtain ⟨b, off, spot⟩ := x
      have hc0 := hc 0 (by omega)
      have hspot : spot = none := by simpa [Addr.add] using World.cell?_spot hc0
      subst hspot
      refine .inr ⟨b, off, rfl, fun i hi => ?_⟩
      have := hc i (by omega)
      unfold Addr.add at this
      split at this
      · subst_vars; simpa using this
      · exact this
theorem IntsAt.grew {w w' : World} {b off n : Nat} {z : Nat → Int} (h : IntsAt w b off n z) (g : Grew w w') : IntsAt w' b off n z := fun i hi => cell_later2 g (h i hi)
theorem SrcI.grew {w w' : World} {a : Option Addr} {n : Nat} {z : Nat → Int} (h : SrcI w a n z) (g : Grew w w') : SrcI w' a n z := by
  rcases h with h | ⟨b, off, h1, h2⟩
  · exact .inl h
  · exact .inr ⟨b, off, h1, h2.grew g⟩
def Copied (w : World) (len k : Nat) (z : Nat → Int) (wr : World) : Prop :=
  Grew w wr ∧ ∃ cur : Array Value, wr.heap[w.heap.size]? = some (.cells cur 3 (0, 0)) ∧ cur.size = len ∧ ∀ i, i < k → cur[i]? = some (.int .i64 (z i))
theorem Copied.set {w wr : World} {len k : Nat} {z : Nat → Int} (h : Copied w len k z wr) (hk : k < len) : Copied w len (k + 1) z (wr.setCell ⟨w.heap.size, k, none⟩ (.int .i64 (z k))) := by
  obtain ⟨h1, cur, h2, h3, h4⟩ := h
  refine ⟨Below.setCell h1 (by simp) _, cur.setIfInBounds k (.int .i64 (z k)), heap_setCell_same _ _ _ _ _ _ h2, by simpa using h3, fun i hi => ?_⟩
  by_cases e : i = k
  · subst e; simp [h3, hk]
  · rw [Array.getElem?_setIfInBounds_ne (by omega)]; exact h4 i (by omega)
theorem Copied.free {w wr : World} {len k i : Nat} {z : Nat → Int} (h : Copied w len k z wr) : wr.frozen? ⟨w.heap.size, i, none⟩ = false := by
  obtain ⟨h1, cur, h2, h3, h4⟩ := h
  exact frozen_of_row _ _ _ _ _ h2
theorem Copied.some {w wr : World} {len k i : Nat} {z : Nat → Int} (h : Copied w len k z wr) (hi : i < len) : ∃ v, wr.cell? ⟨w.heap.size, i, none⟩ = some v := by
  obtain ⟨h1, cur, h2, h3, h4⟩ := h
  exact ⟨cur[i], by rw [cell_of_row _ _ _ _ _ _ h2, Array.getElem?_eq_getElem]⟩
theorem Copied.ints {w wr : World} {len : Nat} {z : Nat → Int} (h : Copied w len len z wr) : IntsAt wr w.heap.size 0 len z := fun i hi => by
  obtain ⟨h1, cur, h2, h3, h4⟩ := h
  rw [Nat.zero_add, cell_of_row _ _ _ _ _ _ h2]; exact h4 i hi
set_option maxHeartbeats 1000000 in
theorem toIntS_any (a : Option Addr) (len cap : Nat) (z : Nat → Int) (w : World) (hl : len ≤ 1048576) (h : SrcI w a len z) :
    Calls Try.prog 12 #[.slice a len cap] w fun e w' => e = .returned (.slice (some ⟨w.heap.size, 0, none⟩) len len) ∧ Grew w w' ∧ IntsAt w' w.heap.size 0 len z := by
  have H := hid h
  obtain ⟨i0, hi, hz0, hz1, hz2⟩ := info_parts info_int5
  clear h
  go_enter Try.func12, Try.ntmps12
  go_wp2_with (first | (refine wpList_make_full _ rfl _ _ 22 rfl 0 3 i0 (.int .i64 0) 1 Try.underlying22 hi hz0 hz1 .i64 .i64 _ _ len rfl rfl rfl rfl (by rw [hz2]; omega) (by unfold maxLen; omega) (Nat.zero_le _) ?_) | fail)
  intro w1 hown hgrow
  have hcop : Copied w len 0 z w1 := by
    refine ⟨⟨hgrow.os, hgrow.tape, hgrow.output, hgrow.size, fun k hk => hgrow.block k hk (by simp)⟩, ?_⟩
    rcases hown.2 with ⟨h1, _⟩ | ⟨g, c, cur, h1, _, h2, _, _, h3, _⟩
    · simp at h1
    · simp at h1
      obtain ⟨rfl, rfl⟩ := h1
      exact ⟨cur, h2, by simpa using h3, fun i hi => by omega⟩
  have HCop := hid hcop
  clear hown hgrow hcop
  go_wp2_with fail
  go_loopw [4] (fun u wr => ∃ k : Nat, k ≤ len ∧ u = .int .i64 k ∧ Copied w len k z wr) (fun u _ => len - (intOf u).toNat)
  case atStart => exact ⟨0, by omega, rfl, HCop.out⟩
  case round =>
    obtain ⟨k, hk, rfl, hc⟩ := hrel
    have HC := hid hc
    clear hc
    by_cases h0 : k < len
    · have h0' : (k : Int) < (len : Int) := by omega
      rcases H.out with h | ⟨b, off, rfl, hin⟩
      · omega
      · have c1 := cell_later2 HC.out.1 (hin k h0)
        obtain ⟨v, c2⟩ := HC.out.some h0
        have c3 := HC.out.free (i := k)
        clear hin
        go_wp2_with fail
        go_roundw
        case rel => exact ⟨k + 1, by omega, by go_num, HC.out.set h0⟩
        case measure => simp [intOf]; omega
    · obtain rfl : k = len := by omega
      go_wp2_with fail
      go_ret
      exact ⟨rfl, HC.out.1, HC.out.ints⟩
set_option maxHeartbeats 1000000 in
theorem eqIntS_any (b1 b2 len c1 c2 : Nat) (z : Nat → Int) (w : World) (hl : len ≤ 1048576) (h1 : IntsAt w b1 0 len z) (h2 : IntsAt w b2 0 len z) :
    Calls Try.prog 14 #[.slice (some ⟨b1, 0, none⟩) len c1, .slice (some ⟨b2, 0, none⟩) len c2] w fun e w' => e = .returned (.bool true) ∧ Grew w w' := by
  have H1 := hid h1
  have H2 := hid h2
  clear h1 h2
  go_enter Try.func14, Try.ntmps14
  go_wp2_with fail
  go_loopw [5] (fun u wr => ∃ k : Nat, k ≤ len ∧ u = .int .i64 k ∧ Grew w wr) (fun u _ => len - (intOf u).toNat)
  case atStart => exact ⟨0, by omega, rfl, Grew.refl _⟩
  case round =>
    obtain ⟨k, hk, rfl, hg⟩ := hrel
    have HG := hid hg
    clear hg
    by_cases h0 : k < len
    · have h0' : (k : Int) < (len : Int) := by omega
      have k1 := cell_later2 HG.out (H1.out k h0)
      have k2 := cell_later2 HG.out (H2.out k h0)
      rw [Nat.zero_add] at k1 k2
      go_wp2_with fail
      go_quiet (fail)
      go_wp2_with fail
      go_roundw
      case rel => exact ⟨k + 1, by omega, by go_num, HG.out.trans (Grew.drawn _ _)⟩
      case measure => simp [intOf]; omega
    · obtain rfl : k = len := by omega
      go_wp2_with fail
      go_ret
      exact ⟨rfl, HG.out⟩
set_option maxHeartbeats 1000000 in
theorem transOf_law (a0 : Option Addr) (len0 cap0 : Nat) (z : Nat → Int) (w : World) (hl : len0 ≤ 1048576) (h : SrcI w a0 len0 z) (r : ByteArray) (ok : Bool)
    (hs : ∀ b w, IntsAt w b 0 len0 z → Calls Try.prog 11 #[.slice (some ⟨b, 0, none⟩) len0 len0] w fun e w' => e = .returned (.tuple #[.string r, .bool ok]) ∧ w = w')
    (hi : ∀ b w, IntsAt w b 0 len0 z → Calls Try.prog 13 #[.slice (some ⟨b, 0, none⟩) len0 len0] w fun e w' => e = .returned (.tuple #[.string r, .bool ok]) ∧ Grew w w') :
    Calls Try.prog 3 #[.slice a0 len0 cap0] w fun e w' => e = .returned (.bool true) ∧ Grew w w' := by
  have hl' : ¬ (1048576 : Int) < (len0 : Int) := by omega
  have H := hid h
  have HS := hid hs
  have HI := hid hi
  clear h hs hi
  go_enter Try.func3, Try.ntmps3
  go_wp2_with fail
  refine (toIntS_any a0 len0 cap0 z w hl H.out).mono ?_
  rintro e w1 ⟨rfl, hg1, hi1⟩
  have HG1 := hid hg1
  have HI1 := hid hi1
  clear hg1 hi1
  go_wp2_with fail
  refine (HS.out _ _ HI1.out).mono ?_
  rintro e w2 ⟨rfl, rfl⟩
  go_wp2_with fail
  refine (toIntS_any a0 len0 cap0 z w1 hl (H.out.grew HG1.out)).mono ?_
  rintro e w3 ⟨rfl, hg3, hi3⟩
  have HG3 := hid (HG1.out.trans hg3)
  have HI3 := hid hi3
  clear hg3 hi3
  go_wp2_with fail
  refine (HI.out _ _ HI3.out).mono ?_
  rintro e w4 ⟨rfl, hg4⟩
  have HG4 := hid (HG3.out.trans hg4)
  have HI4 := hid (HI3.out.grew hg4)
  clear hg4
  go_wp2_with fail
  refine (toIntS_any a0 len0 cap0 z w4 hl (H.out.grew HG4.out)).mono ?_
  rintro e w5 ⟨rfl, hg5, hi5⟩
  have HG5 := hid (HG4.out.trans hg5)
  have HI5 := hid (HI4.out.grew hg5)
  have HI6 := hid hi5
  clear hg5 hi5
  go_wp2_with fail
  refine (eqIntS_any _ _ len0 len0 len0 z w5 hl HI5.out HI6.out).mono ?_
  rintro e w6 ⟨rfl, hg6⟩
  have HG6 := hid (HG5.out.trans hg6)
  clear hg6
  go_wp2_with fail
  go_ret
  exact ⟨rfl, HG6.out⟩
set_option maxHeartbeats 1000000 in
theorem wFnExactTransOf (a0 : Option Addr) (len0 cap0 : Nat) (z0 : List Int) (w : World) (w0 : IsRow .i64 w a0 len0 cap0 z0) :
    Calls Try.prog 3 #[.slice a0 len0 cap0] w fun e w' => e = .returned (.bool true) ∧ Grew w w' := by
  by_cases hl : 1048576 < len0
  · have hl' : (1048576 : Int) < (len0 : Int) := by omega
    clear w0
    go_enter Try.func3, Try.ntmps3
    go_wp2_with fail
    go_ret
    exact ⟨rfl, Grew.refl _⟩
  · have hs := srcI_of_row w0
    by_cases h4 : len0 = 4
    · subst h4
      by_cases hf : FamsOk (fun i => z0.getD i 0)
      · exact transOf_law a0 4 cap0 _ w (by omega) hs _ _ (fun b w h => sTransOf_yes b 0 4 _ w (h.nat hf) hf.nat) (fun b w h => iTransOf_yes b 0 4 _ w (h.nat hf) hf.nat)
      · exact transOf_law a0 4 cap0 _ w (by omega) hs _ _ (fun b w h => sTransOf_no b 0 4 _ w h hf) (fun b w h => iTransOf_no b 0 4 _ w h hf)
    · exact transOf_law a0 len0 cap0 _ w (by omega) hs _ _ (fun b w _ => sTransOf_len _ _ _ w h4) (fun b w _ => iTransOf_len _ _ _ w h4)
end Go.Proofs.Ytipkalbomjfckaa
