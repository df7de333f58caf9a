/-
  Proved here: what the program's WithinRel, IsFunction and CountPairs return, for all texts.
-/
import Derived.Test.YtgbokgeegoolaaaK3
namespace Go.Proofs.Ytgbokgeegoolaaa
open Go.RowKit
theorem allSub_no {f g : Nat → Nat} {n i : Nat} (hi : i < n) (h : sub (f i) (g i) = false) : allSub f g n = false := by
  cases ha : allSub f g n
  · rfl
  · have := (allSub_iff f g n).1 ha i hi
    rw [h] at this
    exact absurd this (by decide)
set_option maxRecDepth 100000 in
set_option maxHeartbeats 1000000 in
theorem within_core (r q : ByteArray) (f g : Nat → Nat) (b1 b2 : Bool) (hf : ∀ i, i < 4 → f i < 16) (hg : ∀ i, i < 4 → g i < 16)
    (h1 : ∀ w, Calls Try.prog 40 #[.string r] w fun e w' => e = .returned (.tuple #[.agg (arrV 4 f), .bool b1]) ∧ Grew w w')
    (h2 : ∀ w, Calls Try.prog 40 #[.string q] w fun e w' => e = .returned (.tuple #[.agg (arrV 4 g), .bool b2]) ∧ Grew w w') (w : World) :
    Calls Try.prog 18 #[.string r, .string q] w fun e w' => e = .returned (.bool (allSub f g 4 && (b1 && b2))) ∧ Grew w w' := by
  have H1 := hid h1
  have H2 := hid h2
  have HF := hid hf
  have HG := hid hg
  clear h1 h2 hf hg
  go_enter Try.func18, Try.ntmps18
  go_wp2_with fail
  refine (H1.out _).mono ?_
  rintro e w1 ⟨rfl, hg1⟩
  have HG1 := hid hg1
  clear hg1
  go_wp2_with (first | (refine wpList_store_row rfl 28 _ _ rfl (w1.heap.size) (arrV 4 f) rfl rfl 28 (arrV 4 (fun _ => 0)) (heap_alloc_new _ _) (info_relV _) (by simp only [arrV_size]) (arrV_one _ _) ?_) | fail)
  refine (H2.out _).mono ?_
  rintro e w2 ⟨rfl, hg2⟩
  have hx := heap_later hg2 (setRow_heap _ _ _ (arrV 4 f) _ _ (heap_alloc_new w1 (.cells (#[.int .i64 0, .int .i64 0, .int .i64 0, .int .i64 0] : Array Value) 28 (0, 0))))
  have HG2 := hid ((HG1.out.trans (Grew.row _ _ _)).trans hg2)
  have HX := hid hx
  clear hg2 hx
  go_wp2_with (first | (refine wpList_store_row rfl 28 _ _ rfl (w2.heap.size) (arrV 4 g) rfl rfl 28 (arrV 4 (fun _ => 0)) (heap_alloc_new _ _) (info_relV _) (by simp only [arrV_size]) (arrV_one _ _) ?_) | fail)
  go_loopw [9, 20] (fun _ u wr => ∃ s : Nat, s ≤ 4 ∧ u = .int .i64 s ∧ (∀ i, i < s → sub (f i) (g i) = true) ∧ Grew w wr ∧
      wr.heap[w1.heap.size]? = some (.cells (arrV 4 f) 28 (0, 0)) ∧ wr.heap[w2.heap.size]? = some (.cells (arrV 4 g) 28 (0, 0))) (fun _ u _ => 4 - (intOf u).toNat)
  case atStart =>
    have k1 := Grew.row w2 (.cells (#[.int .i64 0, .int .i64 0, .int .i64 0, .int .i64 0] : Array Value) 28 (0, 0)) (arrV 4 g)
    exact ⟨0, by omega, rfl, fun i hi => by omega, HG2.out.trans k1, heap_later k1 HX.out, setRow_heap _ _ _ _ _ _ (heap_alloc_new _ _)⟩
  case round =>
    obtain ⟨s, hs, rfl, ha, hgr, hx, hy⟩ := hrel
    have HA := hid ha
    have HGR := hid hgr
    have HX2 := hid hx
    have HY2 := hid hy
    clear ha hgr hx hy
    by_cases h0 : s < 4
    · have h0' : (s : Int) < 4 := by omega
      have c1 := cell_arrV HX2.out s h0
      have c2 := cell_arrV HY2.out s h0
      have b1' : f s < 65536 := by have := HF.out s h0; omega
      have b2' : g s < 65536 := by have := HG.out s h0; omega
      have a2 := andNot_i64 (f s) (g s) b1' b2'
      have a4 := diff_ne (f s) (g s)
      cases g2 : sub (f s) (g s)
      · rw [g2] at a4
        have G2 := hid g2
        clear g2
        go_wp2_with fail
        go_quiet (fail)
        go_wp2_with fail
        go_ret
        exact ⟨by rw [allSub_no h0 G2.out]; rfl, HGR.out.trans (Grew.drawn _ _)⟩
      · rw [g2] at a4
        have G2 := hid g2
        clear g2
        go_wp2_with fail
        go_quiet (fail)
        go_wp2_with fail
        go_roundw
        case rel =>
          refine ⟨s + 1, by omega, by go_num, fun i hi => ?_, HGR.out.trans (Grew.drawn _ _), HX2.out, HY2.out⟩
          by_cases e : i = s
          · subst e; exact G2.out
          · exact HA.out i (by omega)
        case measure => simp [intOf]; omega
    · obtain rfl : s = 4 := by omega
      have key := hid ((allSub_iff f g 4).2 HA.out)
      cases b1
      · go_wp2_with fail
        go_ret
        exact ⟨by rw [key.out]; rfl, HGR.out⟩
      · go_wp2_with fail
        go_ret
        exact ⟨by rw [key.out]; rfl, HGR.out⟩
theorem iWithinRel_yes (r q : ByteArray) (hr : Valid 4 r) (hq : Valid 4 q) (w : World) :
    Calls Try.prog 18 #[.string r, .string q] w fun e w' => e = .returned (.bool (allSub (dv r) (dv q) 4)) ∧ Grew w w' := by
  have := within_core r q (dv r) (dv q) true true (fun i _ => dv_lt r i) (fun i _ => dv_lt q i) (readRel_yes r hr) (readRel_yes q hq) w
  simpa using this
theorem iWithinRel_no (r q : ByteArray) (h : ¬ (Valid 4 r ∧ Valid 4 q)) (w : World) :
    Calls Try.prog 18 #[.string r, .string q] w fun e w' => e = .returned (.bool false) ∧ Grew w w' := by
  by_cases hr : Valid 4 r
  · have hq : ¬ Valid 4 q := fun hq => h ⟨hr, hq⟩
    have := within_core r q (dv r) (fun _ => 0) true false (fun i _ => dv_lt r i) (fun i _ => by omega) (readRel_yes r hr) (readRel_no q hq) w
    simpa using this
  · by_cases hq : Valid 4 q
    · have := within_core r q (fun _ => 0) (dv q) false true (fun i _ => by omega) (fun i _ => dv_lt q i) (readRel_no r hr) (readRel_yes q hq) w
      simpa using this
    · have := within_core r q (fun _ => 0) (fun _ => 0) false false (fun i _ => by omega) (fun i _ => by omega) (readRel_no r hr) (readRel_no q hq) w
      simpa using this
set_option maxHeartbeats 1000000 in
theorem isFunction_core (r : ByteArray) (f : Nat → Nat) (b1 : Bool) (hf : ∀ i, i < 4 → f i < 16)
    (h1 : ∀ w, Calls Try.prog 40 #[.string r] w fun e w' => e = .returned (.tuple #[.agg (arrV 4 f), .bool b1]) ∧ Grew w w') (w : World) :
    Calls Try.prog 20 #[.string r] w fun e w' => e = .returned (.bool (b1 && oneTo f 4)) ∧ Grew w w' := by
  have H1 := hid h1
  have HF := hid hf
  clear h1 hf
  go_enter Try.func20, Try.ntmps20
  go_wp2_with fail
  refine (H1.out _).mono ?_
  rintro e w1 ⟨rfl, hg1⟩
  have HG1 := hid hg1
  clear hg1
  go_wp2_with (first | (refine wpList_store_row rfl 28 _ _ rfl (w1.heap.size) (arrV 4 f) rfl rfl 28 (arrV 4 (fun _ => 0)) (heap_alloc_new _ _) (info_relV _) (by simp only [arrV_size]) (arrV_one _ _) ?_) | (refine wpList_load_row rfl 28 _ rfl (w1.heap.size) rfl _ _ _ _ (setRow_heap _ _ _ _ _ _ (heap_alloc_new _ _)) Try.underlying28 rfl (info_relV _) ?_))
  go_loop [4, 6, 13] (fun v _ u => ∃ (s : Nat) (b : Bool), s ≤ 4 ∧ u = .int .i64 s ∧ v = .bool b ∧ b = (b1 && oneTo f s)) (fun _ _ u => 4 - (intOf u).toNat)
  case atStart => exact ⟨0, b1, by omega, rfl, rfl, by simp [oneTo]⟩
  case round =>
    obtain ⟨s, b, hs, rfl, rfl, hb⟩ := hrel
    have HB := hid hb
    clear hb
    by_cases h0 : s < 4
    · have h0' : (s : Int) < 4 := by omega
      have b3 := HF.out s h0
      cases b
      · have key := hid (show false = (b1 && oneTo f (s + 1)) by
          have := HB.out
          simp only [oneTo]
          cases b1
          · rfl
          · simp only [Bool.true_and] at this ⊢
            rw [← this]; rfl)
        go_wp2_with fail
        go_round
        case rel => exact ⟨s + 1, false, by omega, by go_num, rfl, key.out⟩
        case measure => simp [intOf]; omega
      · have key := hid (show decide (ones (f s) = 1) = (b1 && oneTo f (s + 1)) by
          have := HB.out
          simp only [oneTo]
          cases b1
          · simp at this
          · simp only [Bool.true_and] at this ⊢
            rw [← this]; rfl)
        have x1 : (((ones (f s) : Nat) : Int) == 1) = decide (ones (f s) = 1) := by rw [Bool.eq_iff_iff]; simp; omega
        go_wp2_with fail
        refine (countStates_yes (f s) b3 _).mono ?_
        rintro e w' ⟨rfl, rfl⟩
        go_wp2_with fail
        go_round
        case rel => exact ⟨s + 1, _, by omega, by go_num, rfl, key.out⟩
        case measure => simp [intOf]; omega
    · obtain rfl : s = 4 := by omega
      go_wp2_with fail
      go_ret
      exact ⟨by rw [← HB.out]; rfl, HG1.out.trans (Grew.row _ _ _)⟩
theorem iIsFunction_yes (r : ByteArray) (hr : Valid 4 r) (w : World) :
    Calls Try.prog 20 #[.string r] w fun e w' => e = .returned (.bool (oneTo (dv r) 4)) ∧ Grew w w' := by
  have := isFunction_core r (dv r) true (fun i _ => dv_lt r i) (readRel_yes r hr) w
  simpa using this
theorem iIsFunction_no (r : ByteArray) (hr : ¬ Valid 4 r) (w : World) :
    Calls Try.prog 20 #[.string r] w fun e w' => e = .returned (.bool false) ∧ Grew w w' := by
  have := isFunction_core r (fun _ => 0) false (fun i _ => by omega) (readRel_no r hr) w
  simpa using this
set_option maxHeartbeats 1000000 in
theorem iCountPairs_yes (r : ByteArray) (hr : Valid 4 r) (w : World) :
    Calls Try.prog 28 #[.string r] w fun e w' => e = .returned (.int .i64 (sumTo (dv r) 4 : Nat)) ∧ Grew w w' := by
  have HR := hid hr
  clear hr
  go_enter Try.func28, Try.ntmps28
  go_wp2_with fail
  refine (readRel_yes r HR.out _).mono ?_
  rintro e w1 ⟨rfl, hg1⟩
  have HG1 := hid hg1
  clear hg1
  go_wp2_with (first | (refine wpList_store_row rfl 28 _ _ rfl (w1.heap.size) (arrV 4 (dv r)) rfl rfl 28 (arrV 4 (fun _ => 0)) (heap_alloc_new _ _) (info_relV _) (by simp only [arrV_size]) (arrV_one _ _) ?_) | (refine wpList_load_row rfl 28 _ rfl (w1.heap.size) rfl _ _ _ _ (setRow_heap _ _ _ _ _ _ (heap_alloc_new _ _)) Try.underlying28 rfl (info_relV _) ?_))
  go_loop [5, 7, 16] (fun v _ u => ∃ s : Nat, s ≤ 4 ∧ u = .int .i64 s ∧ v = .int .i64 (sumTo (dv r) s : Nat)) (fun _ _ u => 4 - (intOf u).toNat)
  case atStart => exact ⟨0, by omega, rfl, rfl⟩
  case round =>
    obtain ⟨s, hs, rfl, rfl⟩ := hrel
    by_cases h0 : s < 4
    · have h0' : (s : Int) < 4 := by omega
      have b1 := dv_lt r s
      have b2 := ones_le (dv r s)
      have b3 := sumTo_le (dv r) s
      go_wp2_with fail
      refine (countStates_yes _ b1 _).mono ?_
      rintro e w' ⟨rfl, rfl⟩
      go_wp2_with fail
      go_round
      case rel => exact ⟨s + 1, by omega, by go_num, by simp only [sumTo]; go_num⟩
      case measure => simp [intOf]; omega
    · obtain rfl : s = 4 := by omega
      go_wp2_with fail
      go_ret
      exact ⟨rfl, HG1.out.trans (Grew.row _ _ _)⟩
theorem iCountPairs_no (r : ByteArray) (hr : ¬ Valid 4 r) (w : World) :
    Calls Try.prog 28 #[.string r] w fun e w' => e = .returned (.int .i64 (-1)) ∧ Grew w w' := by
  have HR := hid hr
  clear hr
  go_enter Try.func28, Try.ntmps28
  go_wp2_with fail
  refine (readRel_no r HR.out _).mono ?_
  rintro e w1 ⟨rfl, hg1⟩
  have HG1 := hid hg1
  clear hg1
  go_wp2_with (first | (refine wpList_store_row rfl 28 _ _ rfl (w1.heap.size) (arrV 4 (fun _ => 0)) rfl rfl 28 (arrV 4 (fun _ => 0)) (heap_alloc_new _ _) (info_relV _) (by simp only [arrV_size]) (arrV_one _ _) ?_) | fail)
  go_ret
  exact ⟨rfl, HG1.out.trans (Grew.row _ _ _)⟩
end Go.Proofs.Ytgbokgeegoolaaa
