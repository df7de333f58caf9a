/-
  Proved here: what the program's functions of relations and transformers (DiamondOf, BoxOf, DomainOf, IsFunction, CountPairs, WithinRel, MonotoneTable, ApplyTrans and their like) return, for all arguments.
-/
import Derived.Test.YtipkalbomjfckaaK2
namespace Go.Proofs.Ytipkalbomjfckaa
open Go.RowKit
set_option maxHeartbeats 400000 in
theorem states_any (n : Nat) (caps : Array Value) (F : Nat → Bool) (w : World) (hn : ∀ a w, (callFunc n a).run Try.prog w = .ok (.enter n a) w)
   (hf : ∀ p, p < 4 → ∀ w', Grew w w' → Calls Try.prog n (#[.int .i64 p] ++ caps) w' fun e w'' => e = .returned (.bool (F p)) ∧ Grew w' w'') :
    Calls Try.prog 105 #[.func (.func n) #[] caps] w fun e w' => e = .returned (.int .i64 (setOf F 4 : Nat)) ∧ Grew w w' := by
  have HF := hid hf
  clear hf
  go_enter Try.func105, Try.ntmps105
  go_wp2_with fail
  go_loopw [3, 4, 5] (fun v _ u wr => ∃ k : Nat, k ≤ 4 ∧ u = .int .i64 k ∧ v = .int .i64 (setOf F k : Nat) ∧ Grew w wr) (fun _ _ u _ => 4 - (intOf u).toNat)
  case atStart => exact ⟨0, by omega, rfl, rfl, Grew.refl _⟩
  case round =>
   obtain ⟨k, hk, rfl, rfl, hg⟩ := hrel
   by_cases hlt : k < 4
   · have hl1 : (k : Int) < 4 := by omega
     have hl2 : k < 16 := by omega
     have hl4 := setOf_lt65536 F k (by omega)
     go_wp2_with fail
     refine (HF.out k hlt _ hg).mono ?_
     rintro e w1 ⟨rfl, hb1⟩
     have hg1 := hg.trans hb1
     clear hb1 hg
     cases hF : F k
     · have hF' := hid hF
       clear hF
       go_wp2_with fail
       go_roundw
       case rel => exact ⟨k + 1, by omega, by go_num, by rw [setOf_no _ _ hF'], hg1⟩
       case measure => simp [intOf]; omega
     · have hF' := hid hF
       clear hF
       go_wp2_with fail
       go_roundw
       case rel => exact ⟨k + 1, by omega, by go_num, by rw [setOf_yes _ _ hF'], hg1⟩
       case measure => simp [intOf]; omega
   · obtain rfl : k = 4 := by omega
     go_wp2_with fail
     go_ret
     exact ⟨rfl, hg⟩
theorem iTransValid_yes (t : ByteArray) (hv : TValid t) (w : World) :
    Calls Try.prog 18 #[.string t] w fun e w' => e = .returned (.bool true) ∧ Grew w w' := by
  have HV := hid hv
  clear hv
  go_enter Try.func18, Try.ntmps18
  go_wp2_with fail
  refine (readTrans_yes t HV.out _).mono ?_
  rintro e w1 ⟨rfl, hg⟩
  have HG := hid hg
  clear hg
  go_wp2_with (first | (refine wpList_store_row rfl 53 _ _ rfl (w1.heap.size) (arrV 16 (dv t)) rfl rfl 53 (arrV 16 (fun _ => 0)) (heap_alloc_new _ _) (info_transV _) (by simp only [arrV_size]) (arrV_one _ _) ?_) | fail)
  go_ret
  exact ⟨rfl, HG.out.trans (Grew.row _ _ _)⟩
theorem iTransValid_no (t : ByteArray) (hv : ¬ TValid t) (w : World) :
    Calls Try.prog 18 #[.string t] w fun e w' => e = .returned (.bool false) ∧ Grew w w' := by
  have HV := hid hv
  clear hv
  go_enter Try.func18, Try.ntmps18
  go_wp2_with fail
  refine (readTrans_no t HV.out _).mono ?_
  rintro e w1 ⟨rfl, hg⟩
  have HG := hid hg
  clear hg
  go_wp2_with (first | (refine wpList_store_row rfl 53 _ _ rfl (w1.heap.size) (arrV 16 (fun _ => 0)) rfl rfl 53 (arrV 16 (fun _ => 0)) (heap_alloc_new _ _) (info_transV _) (by simp only [arrV_size]) (arrV_one _ _) ?_) | fail)
  go_ret
  exact ⟨rfl, HG.out.trans (Grew.row _ _ _)⟩
theorem iMonotone_yes (t : ByteArray) (hv : TValid t) (w : World) :
    Calls Try.prog 43 #[.string t] w fun e w' => e = .returned (.bool true) ∧ Grew w w' := by
  have HV := hid hv
  clear hv
  go_enter Try.func43, Try.ntmps43
  go_wp2_with fail
  refine (iTransValid_yes t HV.out _).mono ?_
  rintro e w1 ⟨rfl, hg⟩
  go_wp2_with fail
  go_ret
  exact ⟨rfl, hg⟩
theorem iMonotone_no (t : ByteArray) (hv : ¬ TValid t) (w : World) :
    Calls Try.prog 43 #[.string t] w fun e w' => e = .returned (.bool false) ∧ Grew w w' := by
  have HV := hid hv
  clear hv
  go_enter Try.func43, Try.ntmps43
  go_wp2_with fail
  refine (iTransValid_no t HV.out _).mono ?_
  rintro e w1 ⟨rfl, hg⟩
  go_wp2_with fail
  go_ret
  exact ⟨rfl, hg⟩
set_option maxHeartbeats 400000 in
theorem iApply_yes (t : ByteArray) (p : Nat) (hv : TValid t) (hp : p < 16) (w : World) :
    Calls Try.prog 45 #[.string t, .int .i64 p] w fun e w' => e = .returned (.int .i64 (dv t p : Nat)) ∧ Grew w w' := by
  have HV := hid hv
  have hl : (p : Int) < 16 := by omega
  clear hv
  go_enter Try.func45, Try.ntmps45
  go_wp2_with fail
  refine (readTrans_yes t HV.out _).mono ?_
  rintro e w1 ⟨rfl, hg⟩
  have HG := hid hg
  clear hg
  have hc := cell_arrV (setRow_heap _ _ _ (arrV 16 (dv t)) _ _ (heap_alloc_new w1 (.cells (#[.int .i64 0, .int .i64 0, .int .i64 0, .int .i64 0, .int .i64 0, .int .i64 0, .int .i64 0, .int .i64 0, .int .i64 0, .int .i64 0, .int .i64 0, .int .i64 0, .int .i64 0, .int .i64 0, .int .i64 0, .int .i64 0] : Array Value) 53 (0, 0)))) p hp
  go_wp2_with (first | (refine wpList_store_row rfl 53 _ _ rfl (w1.heap.size) (arrV 16 (dv t)) rfl rfl 53 (arrV 16 (fun _ => 0)) (heap_alloc_new _ _) (info_transV _) (by simp only [arrV_size]) (arrV_one _ _) ?_) | (go_at_call 81; refine (icv_yes _ hp _).mono ?_; rintro e w' ⟨rfl, rfl⟩))
  go_ret
  exact ⟨rfl, HG.out.trans (Grew.row _ _ _)⟩
set_option maxHeartbeats 400000 in
theorem iApply_no (t : ByteArray) (p : Int) (h : ¬ TValid t ∨ condI p = false) (w : World) :
    Calls Try.prog 45 #[.string t, .int .i64 p] w fun e w' => e = .returned (.int .i64 (-1)) ∧ Grew w w' := by
  by_cases hv : TValid t
  · have hp : condI p = false := h.resolve_left (fun x => x hv)
    have HV := hid hv
    clear hv h
    go_enter Try.func45, Try.ntmps45
    go_wp2_with fail
    refine (readTrans_yes t HV.out _).mono ?_
    rintro e w1 ⟨rfl, hg⟩
    have HG := hid hg
    clear hg
    go_wp2_with (first | (refine wpList_store_row rfl 53 _ _ rfl (w1.heap.size) (arrV 16 (dv t)) rfl rfl 53 (arrV 16 (fun _ => 0)) (heap_alloc_new _ _) (info_transV _) (by simp only [arrV_size]) (arrV_one _ _) ?_) | (go_at_call 81; refine (iCond_all _ _).mono ?_; rintro e w' ⟨rfl, rfl⟩))
    go_ret
    exact ⟨rfl, HG.out.trans (Grew.row _ _ _)⟩
  · have HV := hid hv
    clear hv h
    go_enter Try.func45, Try.ntmps45
    go_wp2_with fail
    refine (readTrans_no t HV.out _).mono ?_
    rintro e w1 ⟨rfl, hg⟩
    have HG := hid hg
    clear hg
    go_wp2_with (first | (refine wpList_store_row rfl 53 _ _ rfl (w1.heap.size) (arrV 16 (fun _ => 0)) rfl rfl 53 (arrV 16 (fun _ => 0)) (heap_alloc_new _ _) (info_transV _) (by simp only [arrV_size]) (arrV_one _ _) ?_) | fail)
    go_ret
    exact ⟨rfl, HG.out.trans (Grew.row _ _ _)⟩
end Go.Proofs.Ytipkalbomjfckaa
