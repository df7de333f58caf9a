/-
  Proved here: what the program's functions of relations and transformers (DiamondOf, BoxOf, DomainOf, IsFunction, CountPairs, WithinRel, MonotoneTable, ApplyTrans and their like) return, for all arguments.
-/
import Derived.Test.YtahjfidpieobcaaK2
namespace Go.Proofs.Ytahjfidpieobcaa
open Go.RowKit
set_option maxHeartbeats 400000 in
theorem states_any (n : Nat) (caps : Array Value) (F : Nat → Bool) (w : World) (hn : ∀ a w, (callFunc n a).run Try.prog w = .ok (.enter n a) w)
   (hf : ∀ p, p < 4 → ∀ w', Grew w w' → Calls Try.prog n (#[.int .i64 p] ++ caps) w' fun e w'' => e = .returned (.bool (F p)) ∧ Grew w' w'') :
    Calls Try.prog 97 #[.func (.func n) #[] caps] w fun e w' => e = .returned (.int .i64 (setOf F 4 : Nat)) ∧ Grew w w' := by
  have HF := hid hf
  clear hf
  go_enter Try.func97, Try.ntmps97
  go_wp2_with fail
  go_loopw [3, 4, 5] (fun v _ u wr => ∃ k : Nat, k ≤ 4 ∧ u = .int .i64 k ∧ v = .int .i64 (setOf F k : Nat) ∧ Grew w wr) (fun _ _ u _ => 4 - (intOf u).toNat)
  case atStart => exact ⟨0, by omega, rfl, rfl, Grew.refl _⟩
  case round =>
   obtain ⟨k, hk, rfl, rfl, hg⟩ := hrel
   by_cases hlt : k < 4
   · have hl1 : (k : Int) < 4 := by omega
     have hl2 : k < 16 := by omega
     have hl4 := setOf_lt65536 F k (by omega)
     go_wp2_with fail
     refine (HF.out k hlt _ hg).mono ?_
     rintro e w1 ⟨rfl, hb1⟩
     have hg1 := hg.trans hb1
     clear hb1 hg
     cases hF : F k
     · have hF' := hid hF
       clear hF
       go_wp2_with fail
       go_roundw
       case rel => exact ⟨k + 1, by omega, by go_num, by rw [setOf_no _ _ hF'], hg1⟩
       case measure => simp [intOf]; omega
     · have hF' := hid hF
       clear hF
       go_wp2_with fail
       go_roundw
       case rel => exact ⟨k + 1, by omega, by go_num, by rw [setOf_yes _ _ hF'], hg1⟩
       case measure => simp [intOf]; omega
   · obtain rfl : k = 4 := by omega
     go_wp2_with fail
     go_ret
     exact ⟨rfl, hg⟩
theorem enter_diamond : ∀ a w, (callFunc 84 a).run Try.prog w = .ok (.enter 84 a) w := fun _ _ => by kernel_rfl
theorem enter_diamond1 : ∀ a w, (callFunc 98 a).run Try.prog w = .ok (.enter 98 a) w := fun _ _ => by kernel_rfl
set_option maxHeartbeats 400000 in
theorem diamond1_any (b c s p : Nat) (f : Nat → Nat) (w : World) (hs : s < 4) (hf : f s < 65536) (hp : p < 65536) (hb : w.cell? ⟨b, s, none⟩ = some (.int .i64 (f s : Nat))) (hc : w.cell? ⟨c, 0, none⟩ = some (.int .i64 p)) :
    Calls Try.prog 98 (#[.int .i64 s] ++ #[.pointer (some ⟨b, 0, none⟩), .pointer (some ⟨c, 0, none⟩)]) w fun e w' => e = .returned (.bool (meets (f s) p)) ∧ Grew w w' := by
  have hl : (s : Int) < 4 := by omega
  go_enter Try.func98, Try.ntmps98
  go_wp2_with fail
  go_quiet (fail)
  go_wp2_with fail
  go_ret
  exact ⟨rfl, Grew.drawn _ _⟩
set_option maxHeartbeats 400000 in
theorem diamond_any (f : Nat → Nat) (hf : ∀ i, i < 4 → f i < 16) (p : Nat) (hp : p < 16) (w : World) :
    Calls Try.prog 84 #[.agg (arrV 4 f), .int .i64 p] w fun e w' => e = .returned (.int .i64 (diaN f p : Nat)) ∧ Grew w w' := by
  have HF := hid hf
  clear hf
  go_enter Try.func84, Try.ntmps84
  go_wp2_with fail
  refine (states_any _ #[.pointer (some ⟨w.heap.size, 0, none⟩), .pointer (some ⟨w.heap.size + 1, 0, none⟩)] (fun s => meets (f s) p) _ enter_diamond1
    (fun s hs w' hb => diamond1_any _ _ s p f w' hs (by have := HF.out s hs; omega) (by omega) (cell_later2 hb (cell_arrV (heap_alloc2_old _ _ _) s hs)) (cell_later2 hb ?_))).mono ?_
  · rw [cell_of_row _ _ _ _ _ _ (heap_alloc2_new _ _ _)]; rfl
  rintro e w1 ⟨rfl, hb⟩
  go_wp2_with fail
  go_ret
  exact ⟨rfl, ((Grew.alloc _ _).trans (Grew.alloc _ _)).trans hb⟩
theorem enter_box : ∀ a w, (callFunc 85 a).run Try.prog w = .ok (.enter 85 a) w := fun _ _ => by kernel_rfl
theorem enter_box1 : ∀ a w, (callFunc 99 a).run Try.prog w = .ok (.enter 99 a) w := fun _ _ => by kernel_rfl
set_option maxHeartbeats 400000 in
theorem box1_any (b c s p : Nat) (f : Nat → Nat) (w : World) (hs : s < 4) (hf : f s < 65536) (hp : p < 65536) (hb : w.cell? ⟨b, s, none⟩ = some (.int .i64 (f s : Nat))) (hc : w.cell? ⟨c, 0, none⟩ = some (.int .i64 p)) :
    Calls Try.prog 99 (#[.int .i64 s] ++ #[.pointer (some ⟨b, 0, none⟩), .pointer (some ⟨c, 0, none⟩)]) w fun e w' => e = .returned (.bool (sub (f s) p)) ∧ Grew w w' := by
  have hl : (s : Int) < 4 := by omega
  go_enter Try.func99, Try.ntmps99
  go_wp2_with fail
  go_quiet (fail)
  go_wp2_with fail
  go_ret
  exact ⟨rfl, Grew.drawn _ _⟩
set_option maxHeartbeats 400000 in
theorem box_any (f : Nat → Nat) (hf : ∀ i, i < 4 → f i < 16) (p : Nat) (hp : p < 16) (w : World) :
    Calls Try.prog 85 #[.agg (arrV 4 f), .int .i64 p] w fun e w' => e = .returned (.int .i64 (boxN f p : Nat)) ∧ Grew w w' := by
  have HF := hid hf
  clear hf
  go_enter Try.func85, Try.ntmps85
  go_wp2_with fail
  refine (states_any _ #[.pointer (some ⟨w.heap.size, 0, none⟩), .pointer (some ⟨w.heap.size + 1, 0, none⟩)] (fun s => sub (f s) p) _ enter_box1
    (fun s hs w' hb => box1_any _ _ s p f w' hs (by have := HF.out s hs; omega) (by omega) (cell_later2 hb (cell_arrV (heap_alloc2_old _ _ _) s hs)) (cell_later2 hb ?_))).mono ?_
  · rw [cell_of_row _ _ _ _ _ _ (heap_alloc2_new _ _ _)]; rfl
  rintro e w1 ⟨rfl, hb⟩
  go_wp2_with fail
  go_ret
  exact ⟨rfl, ((Grew.alloc _ _).trans (Grew.alloc _ _)).trans hb⟩
set_option maxHeartbeats 400000 in
theorem iApply_yes (t : ByteArray) (p : Nat) (hv : TValid t) (hp : p < 16) (w : World) :
    Calls Try.prog 69 #[.string t, .int .i64 p] w fun e w' => e = .returned (.int .i64 (dv t p : Nat)) ∧ Grew w w' := by
  have HV := hid hv
  have hl : (p : Int) < 16 := by omega
  clear hv
  go_enter Try.func69, Try.ntmps69
  go_wp2_with fail
  refine (readTrans_yes t HV.out _).mono ?_
  rintro e w1 ⟨rfl, hg⟩
  have HG := hid hg
  clear hg
  have hc := cell_arrV (setRow_heap _ _ _ (arrV 16 (dv t)) _ _ (heap_alloc_new w1 (.cells (#[.int .i64 0, .int .i64 0, .int .i64 0, .int .i64 0, .int .i64 0, .int .i64 0, .int .i64 0, .int .i64 0, .int .i64 0, .int .i64 0, .int .i64 0, .int .i64 0, .int .i64 0, .int .i64 0, .int .i64 0, .int .i64 0] : Array Value) 35 (0, 0)))) p hp
  go_wp2_with (first | (refine wpList_store_row rfl 35 _ _ rfl (w1.heap.size) (arrV 16 (dv t)) rfl rfl 35 (arrV 16 (fun _ => 0)) (heap_alloc_new _ _) (info_transV _) (by simp only [arrV_size]) (arrV_one _ _) ?_) | (go_at_call 42; refine (icv_yes _ hp _).mono ?_; rintro e w' ⟨rfl, rfl⟩))
  go_ret
  exact ⟨rfl, HG.out.trans (Grew.row _ _ _)⟩
set_option maxHeartbeats 400000 in
theorem iApply_no (t : ByteArray) (p : Int) (h : ¬ TValid t ∨ condI p = false) (w : World) :
    Calls Try.prog 69 #[.string t, .int .i64 p] w fun e w' => e = .returned (.int .i64 (-1)) ∧ Grew w w' := by
  by_cases hv : TValid t
  · have hp : condI p = false := h.resolve_left (fun x => x hv)
    have HV := hid hv
    clear hv h
    go_enter Try.func69, Try.ntmps69
    go_wp2_with fail
    refine (readTrans_yes t HV.out _).mono ?_
    rintro e w1 ⟨rfl, hg⟩
    have HG := hid hg
    clear hg
    go_wp2_with (first | (refine wpList_store_row rfl 35 _ _ rfl (w1.heap.size) (arrV 16 (dv t)) rfl rfl 35 (arrV 16 (fun _ => 0)) (heap_alloc_new _ _) (info_transV _) (by simp only [arrV_size]) (arrV_one _ _) ?_) | (go_at_call 42; refine (iCond_all _ _).mono ?_; rintro e w' ⟨rfl, rfl⟩))
    go_ret
    exact ⟨rfl, HG.out.trans (Grew.row _ _ _)⟩
  · have HV := hid hv
    clear hv h
    go_enter Try.func69, Try.ntmps69
    go_wp2_with fail
    refine (readTrans_no t HV.out _).mono ?_
    rintro e w1 ⟨rfl, hg⟩
    have HG := hid hg
    clear hg
    go_wp2_with (first | (refine wpList_store_row rfl 35 _ _ rfl (w1.heap.size) (arrV 16 (fun _ => 0)) rfl rfl 35 (arrV 16 (fun _ => 0)) (heap_alloc_new _ _) (info_transV _) (by simp only [arrV_size]) (arrV_one _ _) ?_) | fail)
    go_ret
    exact ⟨rfl, HG.out.trans (Grew.row _ _ _)⟩
end Go.Proofs.Ytahjfidpieobcaa
