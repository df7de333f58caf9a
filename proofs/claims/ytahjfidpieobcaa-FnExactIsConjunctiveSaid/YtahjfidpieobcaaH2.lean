/-
  Proved here: what readRel returns, for every text, and when a text has so many digits in the reference.
-/
import Derived.Test.YtahjfidpieobcaaH1
namespace Go.Proofs.Ytahjfidpieobcaa
open Go.RowKit
theorem not_valid_at {n : Nat} {s : ByteArray} (h : ¬ Valid n s) (hs : s.size = n) (hk : ∀ i, i < n → 0 ≤ hexI (byteAt s i)) : False :=
  h ⟨hs, fun i hi => hk i (by rw [← hs]; exact hi)⟩
def RdRel (w : World) (s : ByteArray) (k : Nat) (wr : World) : Prop :=
  Below w.heap.size w wr ∧ wr.heap[w.heap.size + 1]? = some (.cells (arrV 4 (mkAt (dv s) k)) 46 (0, 0)) ∧ wr.heap[w.heap.size]? = some (.cells (arrV 4 (fun _ => 0)) 46 (0, 0))
theorem RdRel.start (w : World) (s : ByteArray) : RdRel w s 0 ((w.alloc (.cells (arrV 4 (fun _ => 0)) 46 (0, 0))).alloc (.cells (arrV 4 (fun _ => 0)) 46 (0, 0))) :=
  ⟨((Below.refl _ _).alloc (Nat.le_refl _) _).alloc (by simp) _, by rw [mkAt_start]; exact heap_alloc2_new _ _ _, heap_alloc2_old _ _ _⟩
theorem RdRel.set {w wr : World} {s : ByteArray} {k : Nat} (h : RdRel w s k wr) : RdRel w s (k + 1) (wr.setCell ⟨w.heap.size + 1, k, none⟩ (.int .i64 (dv s k : Nat))) := by
  obtain ⟨h1, h2, h3⟩ := h
  refine ⟨h1.setCell (by simp) _, ?_, ?_⟩
  · rw [set_arrV h2, mkAt_next]
  · rw [heap_setCell_other _ _ _ _ (by simp)]; exact h3
set_option maxHeartbeats 400000 in
theorem readRel_yes (s : ByteArray) (hv : Valid 4 s) (w : World) :
    Calls Try.prog 57 #[.string s] w fun e w' => e = .returned (.tuple #[.agg (arrV 4 (dv s)), .bool true]) ∧ Grew w w' := by
  have hsz : (s.size : Int) = 4 := by rw [hv.1]; rfl
  have HV := hid hv
  clear hv
  go_enter Try.func57, Try.ntmps57
  go_wp2_with fail
  go_loopw [5, 11] (fun _ u wr => ∃ k : Nat, k ≤ 4 ∧ u = .int .i64 k ∧ RdRel w s k wr) (fun _ u _ => 4 - (intOf u).toNat)
  case atStart => exact ⟨0, by omega, rfl, RdRel.start w s⟩
  case round =>
    obtain ⟨k, hk, rfl, hm⟩ := hrel
    by_cases hlt : k < 4
    · have hl1 : (k : Int) < 4 := by omega
      have hd := dv_eq HV.out k hlt
      have hc1 := cell_arrV hm.2.1 k hlt
      have hc2 : wr.frozen? ⟨w.heap.size + 1, k, none⟩ = false := frozen_of_row _ _ _ _ _ hm.2.1
      have hp : ¬ ((dv s k : Nat) : Int) < 0 := by omega
      have hc3 := cell_arrV hm.set.2.1 k hlt
      have e3 : mkAt (dv s) (k + 1) k = dv s k := by unfold mkAt; rw [if_pos (by omega)]
      rw [e3] at hc3
      clear e3
      go_wp2_with (first | (go_at_call 77; refine (digitOf_any _ _).mono ?_; rintro e w' ⟨rfl, rfl⟩) | fail)
      go_roundw
      case rel => exact ⟨k + 1, by omega, by go_num, hm.set⟩
      case measure => simp [intOf]; omega
    · obtain rfl : k = 4 := by omega
      have H1 := hid hm.1
      have H2 := hid hm.2.1
      have H3 := hid hm.2.2
      clear hm
      go_wp2_with (first | (refine wpList_load_row rfl 46 _ rfl (w.heap.size + 1) rfl _ _ _ _ H2.out Try.underlying46 rfl (info_relV _) ?_) | (refine wpList_store_row rfl 46 _ _ rfl (w.heap.size) (arrV 4 (mkAt (dv s) 4)) rfl rfl 46 (arrV 4 (fun _ => 0)) H3.out (info_relV _) (by simp only [arrV_size]) (arrV_one _ _) ?_))
      refine bodyPost_ret (results_row_tmp rfl _ _ (w.heap.size) 46 (arrV 4 (mkAt (dv s) 4)) (0, 0) _ rfl (setRow_heap _ _ _ _ _ _ H3.out) Try.underlying46 rfl (info_relV _)) rfl ?_
      exact ⟨by rw [mkAt_end]; rfl, below_setRow H1.out (Nat.le_refl _) _⟩
set_option maxHeartbeats 400000 in
theorem readRel_no (s : ByteArray) (hv : ¬ Valid 4 s) (w : World) :
    Calls Try.prog 57 #[.string s] w fun e w' => e = .returned (.tuple #[.agg (arrV 4 (fun _ => 0)), .bool false]) ∧ Grew w w' := by
  have HV := hid hv
  clear hv
  by_cases hsz : s.size = 4
  · have HS := hid hsz
    have hsz2 : (s.size : Int) = 4 := by rw [hsz]; rfl
    clear hsz
    go_enter Try.func57, Try.ntmps57
    go_wp2_with fail
    go_loopw [5, 11] (fun _ u wr => ∃ k : Nat, k ≤ 4 ∧ u = .int .i64 k ∧ RdRel w s k wr ∧ ∀ i, i < k → 0 ≤ hexI (byteAt s i)) (fun _ u _ => 4 - (intOf u).toNat)
    case atStart => exact ⟨0, by omega, rfl, RdRel.start w s, fun i hi => by omega⟩
    case round =>
      obtain ⟨k, hk, rfl, hm, hh⟩ := hrel
      have HH := hid hh
      clear hh
      by_cases hlt : k < 4
      · have hl1 : (k : Int) < 4 := by omega
        have hc1 := cell_arrV hm.2.1 k hlt
        have hc2 : wr.frozen? ⟨w.heap.size + 1, k, none⟩ = false := frozen_of_row _ _ _ _ _ hm.2.1
        rcases dv_or s k with hx | hx
        · have hp : ¬ ((dv s k : Nat) : Int) < 0 := by omega
          have hc3 := cell_arrV hm.set.2.1 k hlt
          have e3 : mkAt (dv s) (k + 1) k = dv s k := by unfold mkAt; rw [if_pos (by omega)]
          rw [e3] at hc3
          clear e3
          have HX := hid hx
          go_wp2_with (first | (go_at_call 77; refine (digitOf_any _ _).mono ?_; rintro e w' ⟨rfl, rfl⟩) | fail)
          go_roundw
          case rel =>
            refine ⟨k + 1, by omega, by go_num, hm.set, fun i hi => ?_⟩
            by_cases e : i = k
            · subst e; rw [HX.out]; omega
            · exact HH.out i (by omega)
          case measure => simp [intOf]; omega
        · have H1 := hid hm.1
          have H3 := hid hm.2.2
          have hc3 : (wr.setCell ⟨w.heap.size + 1, k, none⟩ (.int .i64 (-1))).cell? ⟨w.heap.size + 1, k, none⟩ = some (.int .i64 (-1)) := by
            rw [cell_of_row _ _ _ _ _ _ (heap_setCell_same wr (w.heap.size + 1) k _ _ _ hm.2.1)]
            simp [arrV_size, hlt]
          have H4 : Hid ((wr.setCell ⟨w.heap.size + 1, k, none⟩ (.int .i64 (-1))).heap[w.heap.size]? = some (.cells (arrV 4 (fun _ => 0)) 46 (0, 0))) := hid (by
            rw [heap_setCell_other _ _ _ _ (by simp)]; exact H3.out)
          clear hm
          go_wp2_with (first | (go_at_call 77; refine (digitOf_any _ _).mono ?_; rintro e w' ⟨rfl, rfl⟩) | (refine wpList_store_row rfl 46 _ _ rfl (w.heap.size) (arrV 4 (fun _ => 0)) rfl rfl 46 (arrV 4 (fun _ => 0)) H4.out (info_relV _) (by simp only [arrV_size]) (arrV_one _ _) ?_))
          refine bodyPost_ret (results_row_tmp rfl _ _ (w.heap.size) 46 (arrV 4 (fun _ => 0)) (0, 0) _ rfl (setRow_heap _ _ _ _ _ _ H4.out) Try.underlying46 rfl (info_relV _)) rfl ?_
          exact ⟨rfl, below_setRow (H1.out.setCell (by simp) _) (Nat.le_refl _) _⟩
      · obtain rfl : k = 4 := by omega
        exact (not_valid_at HV.out HS.out HH.out).elim
  · have hsz3 : ((s.size : Int) == 4) = false := by simp; omega
    have hsz4 : ((s.size : Int) != 4) = true := by simp; omega
    clear hsz
    go_enter Try.func57, Try.ntmps57
    go_wp2_with fail
    refine bodyPost_ret (results_row_tmp rfl _ _ (w.heap.size) 46 (arrV 4 (fun _ => 0)) (0, 0) _ rfl (heap_alloc2_old _ _ _) Try.underlying46 rfl (info_relV _)) rfl ?_
    exact ⟨rfl, ((Below.refl _ _).alloc (Nat.le_refl _) _).alloc (by simp) _⟩
end Go.Proofs.Ytahjfidpieobcaa
