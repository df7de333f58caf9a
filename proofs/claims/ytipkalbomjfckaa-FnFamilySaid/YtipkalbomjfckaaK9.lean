/-
  Proved here: what the program's TransOf returns, for all slices of numbers.
-/
import Derived.Test.YtipkalbomjfckaaK8
import Derived.Test.YtipkalbomjfckaaK3
import Derived.Test.YtipkalbomjfckaaC3
import Derived.Test.YtipkalbomjfckaaF1
import Derived.Laws.Cover3
namespace Go.Proofs.Ytipkalbomjfckaa
open Go.RowKit
theorem info_arr4 : (Try.prog.info? 55).map (·.size) = some 4 := by kernel_rfl
theorem info_arr4V (f : Nat → Nat) : (Try.prog.info? 55).map (·.size) = some (arrV 4 f).size := by rw [arrV_size]; exact info_arr4
theorem index_arr4 (f : Nat → Nat) (k : Nat) (w : World) (hk : k < 4) : (Instr.index 55 (.agg (arrV 4 f)) (.int .i64 (k : Int))).run Try.prog w = .ok (.int .i64 ((f k : Nat) : Int)) w :=
  run_index_arr _ 3 4 f k w Try.underlying55 (by kernel_rfl) (by kernel_rfl) hk
attribute [go_sem] index_arr4
def upAt (z : Nat → Nat) (k : Nat) : Nat → Nat := fun i => if i < k then upN (z i) else z i
theorem upAt_next (z : Nat → Nat) (k : Nat) : (fun i => if i = k then upN (z k) else upAt z k i) = upAt z (k + 1) := by
  funext i
  unfold upAt
  by_cases e : i = k
  · subst e; simp
  · by_cases h : i < k
    · simp [e, h, Nat.lt_succ_of_lt h]
    · have : ¬ i < k + 1 := by omega
      simp [e, h, this]
theorem upAt_start (z : Nat → Nat) : upAt z 0 = z := by funext i; simp [upAt]
theorem upAt_end (z : Nat → Nat) : arrV 4 (upAt z 4) = arrV 4 (fun i => upN (z i)) := arrV_congr _ _ _ fun i hi => by unfold upAt; rw [if_pos hi]
theorem upN_lt9 (f : Nat) : upN f < 65536 := setOf_lt65536 _ 16 (Nat.le_refl _)
def UpRow (w : World) (z : Nat → Nat) (k : Nat) (wr : World) : Prop :=
  Below w.heap.size w wr ∧ wr.heap[w.heap.size]? = some (.cells (arrV 4 (upAt z k)) 55 (0, 0)) ∧ wr.heap[w.heap.size + 1]? = some (.cells (arrV 16 (fun _ => 0)) 53 (0, 0))
theorem UpRow.start (w : World) (z : Nat → Nat) : UpRow w z 0 ((w.alloc (.cells (arrV 4 z) 55 (0, 0))).alloc (.cells (arrV 16 (fun _ => 0)) 53 (0, 0))) :=
  ⟨((Below.refl _ _).alloc (Nat.le_refl _) _).alloc (by simp) _, by rw [upAt_start]; exact heap_alloc2_old _ _ _, heap_alloc2_new _ _ _⟩
theorem UpRow.call {w wr w1 : World} {z : Nat → Nat} {k : Nat} (h : UpRow w z k wr) (hb : Grew wr w1) : UpRow w z k w1 := by
  obtain ⟨h1, h2, h3⟩ := h
  have l2 := (Array.getElem?_eq_some_iff.1 h2).1
  exact ⟨h1.trans (Below.mono hb (by omega)), heap_later hb h2, heap_later hb h3⟩
theorem UpRow.free {w wr : World} {z : Nat → Nat} {k : Nat} (h : UpRow w z k wr) : wr.frozen? ⟨w.heap.size, k, none⟩ = false := frozen_of_row _ _ _ _ _ h.2.1
theorem UpRow.cell {w wr : World} {z : Nat → Nat} {k : Nat} (h : UpRow w z k wr) (hk : k < 4) : wr.cell? ⟨w.heap.size, k, none⟩ = some (.int .i64 (upAt z k k : Nat)) := cell_arrV h.2.1 k hk
theorem UpRow.set {w wr : World} {z : Nat → Nat} {k : Nat} (h : UpRow w z k wr) : UpRow w z (k + 1) (wr.setCell ⟨w.heap.size, k, none⟩ (.int .i64 (upN (z k) : Nat))) := by
  obtain ⟨h1, h2, h3⟩ := h
  refine ⟨h1.setCell (by simp) _, ?_, ?_⟩
  · rw [set_arrV h2, upAt_next]
  · rw [heap_setCell_other _ _ _ _ (by simp)]; exact h3
theorem enter_transOf1 : ∀ a w, (callFunc 104 a).run Try.prog w = .ok (.enter 104 a) w := fun _ _ => by kernel_rfl
theorem enter_transOf11 : ∀ a w, (callFunc 106 a).run Try.prog w = .ok (.enter 106 a) w := fun _ _ => by kernel_rfl
set_option maxHeartbeats 400000 in
theorem transOf11_any (b c s q : Nat) (f : Nat → Nat) (w : World) (hs : s < 4) (_hf : f s < 65536) (hq : q < 16) (hb : w.cell? ⟨b, s, none⟩ = some (.int .i64 (f s : Nat))) (hc : w.cell? ⟨c, 0, none⟩ = some (.int .i64 q)) :
    Calls Try.prog 106 (#[.int .i64 s] ++ #[.pointer (some ⟨b, 0, none⟩), .pointer (some ⟨c, 0, none⟩)]) w fun e w' => e = .returned (.bool (has (f s) q)) ∧ Grew w w' := by
  have hl : (s : Int) < 4 := by omega
  go_enter Try.func106, Try.ntmps106
  go_wp2_with fail
  go_quiet (fail)
  go_wp2_with fail
  go_ret
  exact ⟨rfl, Grew.drawn _ _⟩
set_option maxHeartbeats 400000 in
theorem transOf1_any (b q : Nat) (f : Nat → Nat) (hf : ∀ s, s < 4 → f s < 65536) (w : World) (hq : q < 16) (hb : w.heap[b]? = some (.cells (arrV 4 f) 55 (0, 0))) :
    Calls Try.prog 104 (#[.int .i64 q] ++ #[.pointer (some ⟨b, 0, none⟩)]) w fun e w' => e = .returned (.int .i64 (setOf (fun s => has (f s) q) 4 : Nat)) ∧ Grew w w' := by
  have HF := hid hf
  have HB := hid hb
  clear hf hb
  go_enter Try.func104, Try.ntmps104
  go_wp2_with fail
  refine (states_any _ #[.pointer (some ⟨b, 0, none⟩), .pointer (some ⟨w.heap.size, 0, none⟩)] (fun s => has (f s) q) _ enter_transOf11
    (fun s hs w' hb => transOf11_any _ _ s q f w' hs (HF.out s hs) hq (cell_later2 hb (cell_arrV (heap_later (Grew.alloc _ _) HB.out) s hs)) (cell_later2 hb (cell_alloc_one _ _ _ _)))).mono ?_
  rintro e w1 ⟨rfl, hb⟩
  go_wp2_with fail
  go_ret
  exact ⟨rfl, (Grew.alloc _ _).trans hb⟩
set_option maxHeartbeats 1000000 in
theorem transOf_any (z : Nat → Nat) (hz : ∀ i, i < 4 → z i < 65536) (w : World) :
    Calls Try.prog 59 #[.agg (arrV 4 z)] w fun e w' => e = .returned (.agg (arrV 16 (tabF z))) ∧ Grew w w' := by
  have HZ := hid hz
  clear hz
  go_enter Try.func59, Try.ntmps59
  go_wp2_with (first | (refine wpList_load_row rfl 55 _ rfl (w.heap.size) rfl _ _ _ _ (heap_alloc2_old _ _ _) Try.underlying55 rfl (info_arr4V _) ?_) | fail)
  go_loopw [3, 4, 6] (fun _ _ u wr => ∃ k : Nat, k ≤ 4 ∧ u = .int .i64 k ∧ UpRow w z k wr) (fun _ _ u _ => 4 - (intOf u).toNat)
  case atStart => exact ⟨0, by omega, rfl, UpRow.start w z⟩
  case round =>
   obtain ⟨k, hk, rfl, hm⟩ := hrel
   have HM := hid hm
   clear hm
   by_cases hlt : k < 4
   · have hl1 : (k : Int) < 4 := by omega
     go_wp2_with fail
     refine (closeUp_yes (z k) (HZ.out k hlt) _).mono ?_
     rintro e w1 ⟨rfl, hb1⟩
     have hm3 := HM.out.call hb1
     have HM3 := hid hm3
     have hc1 := hm3.cell hlt
     have hc2 := hm3.free
     clear hb1 hm3
     go_wp2_with fail
     go_roundw
     case rel => exact ⟨k + 1, by omega, by go_num, HM3.out.set⟩
     case measure => simp [intOf]; omega
   · obtain rfl : k = 4 := by omega
     go_wp2_with fail
     have hx : wr.heap[w.heap.size]? = some (.cells (arrV 4 (fun i => upN (z i))) 55 (0, 0)) := by rw [← upAt_end]; exact HM.out.2.1
     have HX := hid hx
     clear hx
     refine (makeTrans_any _ #[.pointer (some ⟨w.heap.size, 0, none⟩)] (tabF z) _ enter_transOf1 (fun q hq w' hb => transOf1_any _ q (fun i => upN (z i)) (fun s _ => upN_lt9 _) w' hq (heap_later hb HX.out))).mono ?_
     rintro e w1 ⟨rfl, hb⟩
     have HM3 := hid (HM.out.call hb)
     clear hb
     go_wp2_with (first | (refine wpList_store_row rfl 53 _ _ rfl (w.heap.size + 1) (arrV 16 (tabF z)) rfl rfl 53 (arrV 16 (fun _ => 0)) HM3.out.2.2 (info_transV _) (by simp only [arrV_size]) (arrV_one _ _) ?_) | fail)
     refine bodyPost_ret (results_cell_row rfl _ _ (w.heap.size + 1) 53 (arrV 16 (tabF z)) (0, 0) _ rfl (setRow_heap _ _ _ _ _ _ HM3.out.2.2) Try.underlying53 rfl (info_transV _)) rfl ?_
     exact ⟨rfl, below_setRow HM3.out.1 (by omega) _⟩
theorem IntsAt.cells4 {w : World} {b off : Nat} {z : Nat → Int} (h : IntsAt w b off 4 z) :
    w.cell? ⟨b, off, none⟩ = some (.int .i64 (z 0)) ∧ w.cell? ⟨b, off + 1, none⟩ = some (.int .i64 (z 1)) ∧ w.cell? ⟨b, off + 2, none⟩ = some (.int .i64 (z 2)) ∧ w.cell? ⟨b, off + 3, none⟩ = some (.int .i64 (z 3)) :=
  ⟨h 0 (by omega), h 1 (by omega), h 2 (by omega), h 3 (by omega)⟩
set_option maxHeartbeats 1000000 in
theorem iTransOf_yes (b off cap : Nat) (z : Nat → Nat) (w : World) (hc : IntsAt w b off 4 (fun i => (z i : Nat))) (hz : ∀ i, i < 4 → z i < 65536) :
    Calls Try.prog 13 #[.slice (some ⟨b, off, none⟩) 4 cap] w fun e w' => e = .returned (.tuple #[.string (text (tabF z) 16), .bool true]) ∧ Grew w w' := by
  have HC := hid hc
  have HZ := hid hz
  clear hc hz
  go_enter Try.func13, Try.ntmps13
  go_wp2_with fail
  go_loop [5, 11] (fun _ u => ∃ s : Nat, s ≤ 4 ∧ u = .int .i64 s) (fun _ u => 4 - (intOf u).toNat)
  case atStart => exact ⟨0, by omega, rfl⟩
  case round =>
    obtain ⟨s, hs, rfl⟩ := hrel
    by_cases h0 : s < 4
    · have h0' : (s : Int) < 4 := by omega
      have hf := famI_yes (z s) (HZ.out s h0)
      have c1 : w.cell? ⟨b, off + s, none⟩ = some (.int .i64 (z s : Nat)) := HC.out s h0
      go_wp2_with (first | (go_at_call 58; refine (iFam_all _ _).mono ?_; rintro e w' ⟨rfl, rfl⟩) | fail)
      go_round
      case rel => exact ⟨s + 1, by omega, by go_num⟩
      case measure => simp [intOf]; omega
    · obtain rfl : s = 4 := by omega
      obtain ⟨k0, k1, k2, k3⟩ := HC.out.cells4
      have hat : ∀ w, (Instr.arrayAt 55 (.slice (some ⟨b, off, none⟩) 4 cap)).run Try.prog w = .ok (.pointer (some ⟨b, off, none⟩)) w := fun w => run_arrayAt w 55 _ 4 _ 4 cap Try.underlying55 (by omega)
      go_wp2_with fail
      refine (transOf_any z HZ.out _).mono ?_
      rintro e w1 ⟨rfl, hg⟩
      have HG := hid hg
      clear hg k0 k1 k2 k3
      go_wp2_with fail
      refine (transText_any _ (small_tab z) _).mono ?_
      rintro e w2 ⟨rfl, hg2⟩
      go_wp2_with fail
      go_ret2
      exact ⟨rfl, HG.out.trans hg2⟩
theorem iTransOf_len (a : Option Addr) (len cap : Nat) (w : World) (h : len ≠ 4) :
    Calls Try.prog 13 #[.slice a len cap] w fun e w' => e = .returned (.tuple #[.string ByteArray.empty, .bool false]) ∧ Grew w w' := by
  have x0 : ((len : Int) != 4) = true := by simp; omega
  have x1 : ((len : Int) == 4) = false := by simp; omega
  clear h
  go_enter Try.func13, Try.ntmps13
  go_wp2_with fail
  go_ret2
  exact ⟨rfl, Grew.refl _⟩
set_option maxHeartbeats 400000 in
theorem iTransOf_no (b off cap : Nat) (z : Nat → Int) (w : World) (hc : IntsAt w b off 4 z) (hz : ¬ FamsOk z) :
    Calls Try.prog 13 #[.slice (some ⟨b, off, none⟩) 4 cap] w fun e w' => e = .returned (.tuple #[.string ByteArray.empty, .bool false]) ∧ Grew w w' := by
  have HC := hid hc
  have HZ := hid hz
  clear hc hz
  go_enter Try.func13, Try.ntmps13
  go_wp2_with fail
  go_loop [5, 11] (fun _ u => ∃ s : Nat, s ≤ 4 ∧ u = .int .i64 s ∧ ∀ i, i < s → famI (z i) = true) (fun _ u => 4 - (intOf u).toNat)
  case atStart => exact ⟨0, by omega, rfl, fun i hi => by omega⟩
  case round =>
    obtain ⟨s, hs, rfl, ha⟩ := hrel
    have HA := hid ha
    clear ha
    by_cases h0 : s < 4
    · have h0' : (s : Int) < 4 := by omega
      have c1 := HC.out s h0
      cases hf : famI (z s)
      · go_wp2_with (first | (go_at_call 58; refine (iFam_all _ _).mono ?_; rintro e w' ⟨rfl, rfl⟩) | fail)
        go_ret2
        exact ⟨rfl, Grew.refl _⟩
      · have HF := hid hf
        go_wp2_with (first | (go_at_call 58; refine (iFam_all _ _).mono ?_; rintro e w' ⟨rfl, rfl⟩) | fail)
        go_round
        case rel =>
          refine ⟨s + 1, by omega, by go_num, fun i hi => ?_⟩
          by_cases e : i = s
          · subst e; exact HF.out
          · exact HA.out i (by omega)
        case measure => simp [intOf]; omega
    · obtain rfl : s = 4 := by omega
      exact absurd HA.out HZ.out
end Go.Proofs.Ytipkalbomjfckaa
