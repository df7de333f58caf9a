/-
  Proved here: what the program's functions of relations and transformers (DiamondOf, BoxOf, DomainOf, IsFunction, CountPairs, WithinRel, MonotoneTable, ApplyTrans and their like) return, for all arguments.
-/
import Derived.Test.YtgbokgeegoolaaaK2
namespace Go.Proofs.Ytgbokgeegoolaaa
open Go.RowKit
set_option maxHeartbeats 400000 in
theorem states_any (n : Nat) (caps : Array Value) (F : Nat → Bool) (w : World) (hn : ∀ a w, (callFunc n a).run Try.prog w = .ok (.enter n a) w)
   (hf : ∀ p, p < 4 → ∀ w', Grew w w' → Calls Try.prog n (#[.int .i64 p] ++ caps) w' fun e w'' => e = .returned (.bool (F p)) ∧ Grew w' w'') :
    Calls Try.prog 60 #[.func (.func n) #[] caps] w fun e w' => e = .returned (.int .i64 (setOf F 4 : Nat)) ∧ Grew w w' := by
  have HF := hid hf
  clear hf
  go_enter Try.func60, Try.ntmps60
  go_wp2_with fail
  go_loopw [3, 4, 5] (fun v _ u wr => ∃ k : Nat, k ≤ 4 ∧ u = .int .i64 k ∧ v = .int .i64 (setOf F k : Nat) ∧ Grew w wr) (fun _ _ u _ => 4 - (intOf u).toNat)
  case atStart => exact ⟨0, by omega, rfl, rfl, Grew.refl _⟩
  case round =>
   obtain ⟨k, hk, rfl, rfl, hg⟩ := hrel
   by_cases hlt : k < 4
   · have hl1 : (k : Int) < 4 := by omega
     have hl2 : k < 16 := by omega
     have hl4 := setOf_lt65536 F k (by omega)
     go_wp2_with fail
     refine (HF.out k hlt _ hg).mono ?_
     rintro e w1 ⟨rfl, hb1⟩
     have hg1 := hg.trans hb1
     clear hb1 hg
     cases hF : F k
     · have hF' := hid hF
       clear hF
       go_wp2_with fail
       go_roundw
       case rel => exact ⟨k + 1, by omega, by go_num, by rw [setOf_no _ _ hF'], hg1⟩
       case measure => simp [intOf]; omega
     · have hF' := hid hF
       clear hF
       go_wp2_with fail
       go_roundw
       case rel => exact ⟨k + 1, by omega, by go_num, by rw [setOf_yes _ _ hF'], hg1⟩
       case measure => simp [intOf]; omega
   · obtain rfl : k = 4 := by omega
     go_wp2_with fail
     go_ret
     exact ⟨rfl, hg⟩
theorem enter_diamond : ∀ a w, (callFunc 49 a).run Try.prog w = .ok (.enter 49 a) w := fun _ _ => by kernel_rfl
theorem enter_diamond1 : ∀ a w, (callFunc 61 a).run Try.prog w = .ok (.enter 61 a) w := fun _ _ => by kernel_rfl
set_option maxHeartbeats 400000 in
theorem diamond1_any (b c s p : Nat) (f : Nat → Nat) (w : World) (hs : s < 4) (hf : f s < 65536) (hp : p < 65536) (hb : w.cell? ⟨b, s, none⟩ = some (.int .i64 (f s : Nat))) (hc : w.cell? ⟨c, 0, none⟩ = some (.int .i64 p)) :
    Calls Try.prog 61 (#[.int .i64 s] ++ #[.pointer (some ⟨b, 0, none⟩), .pointer (some ⟨c, 0, none⟩)]) w fun e w' => e = .returned (.bool (meets (f s) p)) ∧ Grew w w' := by
  have hl : (s : Int) < 4 := by omega
  go_enter Try.func61, Try.ntmps61
  go_wp2_with fail
  go_quiet (fail)
  go_wp2_with fail
  go_ret
  exact ⟨rfl, Grew.drawn _ _⟩
set_option maxHeartbeats 400000 in
theorem diamond_any (f : Nat → Nat) (hf : ∀ i, i < 4 → f i < 16) (p : Nat) (hp : p < 16) (w : World) :
    Calls Try.prog 49 #[.agg (arrV 4 f), .int .i64 p] w fun e w' => e = .returned (.int .i64 (diaN f p : Nat)) ∧ Grew w w' := by
  have HF := hid hf
  clear hf
  go_enter Try.func49, Try.ntmps49
  go_wp2_with fail
  refine (states_any _ #[.pointer (some ⟨w.heap.size, 0, none⟩), .pointer (some ⟨w.heap.size + 1, 0, none⟩)] (fun s => meets (f s) p) _ enter_diamond1
    (fun s hs w' hb => diamond1_any _ _ s p f w' hs (by have := HF.out s hs; omega) (by omega) (cell_later2 hb (cell_arrV (heap_alloc2_old _ _ _) s hs)) (cell_later2 hb ?_))).mono ?_
  · rw [cell_of_row _ _ _ _ _ _ (heap_alloc2_new _ _ _)]; rfl
  rintro e w1 ⟨rfl, hb⟩
  go_wp2_with fail
  go_ret
  exact ⟨rfl, ((Grew.alloc _ _).trans (Grew.alloc _ _)).trans hb⟩
theorem enter_box : ∀ a w, (callFunc 51 a).run Try.prog w = .ok (.enter 51 a) w := fun _ _ => by kernel_rfl
theorem enter_box1 : ∀ a w, (callFunc 62 a).run Try.prog w = .ok (.enter 62 a) w := fun _ _ => by kernel_rfl
set_option maxHeartbeats 400000 in
theorem box1_any (b c s p : Nat) (f : Nat → Nat) (w : World) (hs : s < 4) (hf : f s < 65536) (hp : p < 65536) (hb : w.cell? ⟨b, s, none⟩ = some (.int .i64 (f s : Nat))) (hc : w.cell? ⟨c, 0, none⟩ = some (.int .i64 p)) :
    Calls Try.prog 62 (#[.int .i64 s] ++ #[.pointer (some ⟨b, 0, none⟩), .pointer (some ⟨c, 0, none⟩)]) w fun e w' => e = .returned (.bool (sub (f s) p)) ∧ Grew w w' := by
  have hl : (s : Int) < 4 := by omega
  go_enter Try.func62, Try.ntmps62
  go_wp2_with fail
  go_quiet (fail)
  go_wp2_with fail
  go_ret
  exact ⟨rfl, Grew.drawn _ _⟩
set_option maxHeartbeats 400000 in
theorem box_any (f : Nat → Nat) (hf : ∀ i, i < 4 → f i < 16) (p : Nat) (hp : p < 16) (w : World) :
    Calls Try.prog 51 #[.agg (arrV 4 f), .int .i64 p] w fun e w' => e = .returned (.int .i64 (boxN f p : Nat)) ∧ Grew w w' := by
  have HF := hid hf
  clear hf
  go_enter Try.func51, Try.ntmps51
  go_wp2_with fail
  refine (states_any _ #[.pointer (some ⟨w.heap.size, 0, none⟩), .pointer (some ⟨w.heap.size + 1, 0, none⟩)] (fun s => sub (f s) p) _ enter_box1
    (fun s hs w' hb => box1_any _ _ s p f w' hs (by have := HF.out s hs; omega) (by omega) (cell_later2 hb (cell_arrV (heap_alloc2_old _ _ _) s hs)) (cell_later2 hb ?_))).mono ?_
  · rw [cell_of_row _ _ _ _ _ _ (heap_alloc2_new _ _ _)]; rfl
  rintro e w1 ⟨rfl, hb⟩
  go_wp2_with fail
  go_ret
  exact ⟨rfl, ((Grew.alloc _ _).trans (Grew.alloc _ _)).trans hb⟩
set_option maxHeartbeats 400000 in
theorem asked_yes (r : ByteArray) (p n v : Nat) (hr : Valid 4 r) (hp : p < 16) (w : World) (hn : ∀ a w, (callFunc n a).run Try.prog w = .ok (.enter n a) w)
    (hf : ∀ w', Calls Try.prog n #[.agg (arrV 4 (dv r)), .int .i64 p] w' fun e w'' => e = .returned (.int .i64 (v : Nat)) ∧ Grew w' w'') :
    Calls Try.prog 48 #[.string r, .int .i64 p, .func (.func n) #[] #[]] w fun e w' => e = .returned (.int .i64 (v : Nat)) ∧ Grew w w' := by
  have HF := hid hf
  clear hf
  go_enter Try.func48, Try.ntmps48
  go_wp2_with fail
  refine (readRel_yes r hr _).mono ?_
  rintro e w1 ⟨rfl, hg⟩
  have HG := hid hg
  clear hg hr
  go_wp2_with (first | (refine wpList_store_row rfl 28 _ _ rfl (w1.heap.size) (arrV 4 (dv r)) rfl rfl 28 (arrV 4 (fun _ => 0)) (heap_alloc_new _ _) (info_relV _) (by simp only [arrV_size]) (arrV_one _ _) ?_) | (go_at_call 56; refine (icv_yes _ hp _).mono ?_; rintro e w' ⟨rfl, rfl⟩) | (refine wpList_load_row rfl 28 _ rfl (w1.heap.size) rfl _ _ _ _ (setRow_heap _ _ _ _ _ _ (heap_alloc_new _ _)) Try.underlying28 rfl (info_relV _) ?_))
  refine (HF.out _).mono ?_
  rintro e w2 ⟨rfl, hg2⟩
  go_wp2_with fail
  go_ret
  exact ⟨rfl, HG.out.trans ((Grew.row _ _ _).trans hg2)⟩
set_option maxHeartbeats 400000 in
theorem asked_no (r : ByteArray) (p : Int) (fv : Value) (h : ¬ Valid 4 r ∨ condI p = false) (w : World) :
    Calls Try.prog 48 #[.string r, .int .i64 p, fv] w fun e w' => e = .returned (.int .i64 (-1)) ∧ Grew w w' := by
  by_cases hr : Valid 4 r
  · have hp : condI p = false := h.resolve_left (fun x => x hr)
    clear h
    go_enter Try.func48, Try.ntmps48
    go_wp2_with fail
    refine (readRel_yes r hr _).mono ?_
    rintro e w1 ⟨rfl, hg⟩
    have HG := hid hg
    clear hg hr
    go_wp2_with (first | (refine wpList_store_row rfl 28 _ _ rfl (w1.heap.size) (arrV 4 (dv r)) rfl rfl 28 (arrV 4 (fun _ => 0)) (heap_alloc_new _ _) (info_relV _) (by simp only [arrV_size]) (arrV_one _ _) ?_) | (go_at_call 56; refine (iCond_all _ _).mono ?_; rintro e w' ⟨rfl, rfl⟩))
    go_ret
    exact ⟨rfl, HG.out.trans (Grew.row _ _ _)⟩
  · clear h
    go_enter Try.func48, Try.ntmps48
    go_wp2_with fail
    refine (readRel_no r hr _).mono ?_
    rintro e w1 ⟨rfl, hg⟩
    have HG := hid hg
    clear hg hr
    go_wp2_with (first | (refine wpList_store_row rfl 28 _ _ rfl (w1.heap.size) (arrV 4 (fun _ => 0)) rfl rfl 28 (arrV 4 (fun _ => 0)) (heap_alloc_new _ _) (info_relV _) (by simp only [arrV_size]) (arrV_one _ _) ?_) | fail)
    go_ret
    exact ⟨rfl, HG.out.trans (Grew.row _ _ _)⟩
theorem iDiamondOf_yes (r : ByteArray) (p : Nat) (hr : Valid 4 r) (hp : p < 16) (w : World) :
    Calls Try.prog 22 #[.string r, .int .i64 p] w fun e w' => e = .returned (.int .i64 (diaN (dv r) p : Nat)) ∧ Grew w w' := by
  have HR := hid hr
  clear hr
  go_enter Try.func22, Try.ntmps22
  go_wp2_with fail
  refine (asked_yes r p _ (diaN (dv r) p) HR.out hp _ enter_diamond (fun w' => diamond_any (dv r) (fun i _ => dv_lt r i) p hp w')).mono ?_
  rintro e w1 ⟨rfl, hg⟩
  go_wp2_with fail
  go_ret
  exact ⟨rfl, hg⟩
theorem iDiamondOf_no (r : ByteArray) (p : Int) (h : ¬ Valid 4 r ∨ condI p = false) (w : World) :
    Calls Try.prog 22 #[.string r, .int .i64 p] w fun e w' => e = .returned (.int .i64 (-1)) ∧ Grew w w' := by
  have HH := hid h
  clear h
  go_enter Try.func22, Try.ntmps22
  go_wp2_with fail
  refine (asked_no r p _ HH.out _).mono ?_
  rintro e w1 ⟨rfl, hg⟩
  go_wp2_with fail
  go_ret
  exact ⟨rfl, hg⟩
theorem iBoxOf_yes (r : ByteArray) (p : Nat) (hr : Valid 4 r) (hp : p < 16) (w : World) :
    Calls Try.prog 24 #[.string r, .int .i64 p] w fun e w' => e = .returned (.int .i64 (boxN (dv r) p : Nat)) ∧ Grew w w' := by
  have HR := hid hr
  clear hr
  go_enter Try.func24, Try.ntmps24
  go_wp2_with fail
  refine (asked_yes r p _ (boxN (dv r) p) HR.out hp _ enter_box (fun w' => box_any (dv r) (fun i _ => dv_lt r i) p hp w')).mono ?_
  rintro e w1 ⟨rfl, hg⟩
  go_wp2_with fail
  go_ret
  exact ⟨rfl, hg⟩
theorem iBoxOf_no (r : ByteArray) (p : Int) (h : ¬ Valid 4 r ∨ condI p = false) (w : World) :
    Calls Try.prog 24 #[.string r, .int .i64 p] w fun e w' => e = .returned (.int .i64 (-1)) ∧ Grew w w' := by
  have HH := hid h
  clear h
  go_enter Try.func24, Try.ntmps24
  go_wp2_with fail
  refine (asked_no r p _ HH.out _).mono ?_
  rintro e w1 ⟨rfl, hg⟩
  go_wp2_with fail
  go_ret
  exact ⟨rfl, hg⟩
theorem iDomainOf_yes (r : ByteArray) (hr : Valid 4 r) (w : World) :
    Calls Try.prog 26 #[.string r] w fun e w' => e = .returned (.int .i64 (diaN (dv r) 15 : Nat)) ∧ Grew w w' := by
  have HR := hid hr
  clear hr
  go_enter Try.func26, Try.ntmps26
  go_wp2_with fail
  refine (asked_yes r 15 _ (diaN (dv r) 15) HR.out (by omega) _ enter_diamond (fun w' => diamond_any (dv r) (fun i _ => dv_lt r i) 15 (by omega) w')).mono ?_
  rintro e w1 ⟨rfl, hg⟩
  go_wp2_with fail
  go_ret
  exact ⟨rfl, hg⟩
theorem iDomainOf_no (r : ByteArray) (h : ¬ Valid 4 r) (w : World) :
    Calls Try.prog 26 #[.string r] w fun e w' => e = .returned (.int .i64 (-1)) ∧ Grew w w' := by
  have HH := hid h
  clear h
  go_enter Try.func26, Try.ntmps26
  go_wp2_with fail
  refine (asked_no r 15 _ (.inl HH.out) _).mono ?_
  rintro e w1 ⟨rfl, hg⟩
  go_wp2_with fail
  go_ret
  exact ⟨rfl, hg⟩
theorem iRelValid_yes (r : ByteArray) (hr : Valid 4 r) (w : World) :
    Calls Try.prog 16 #[.string r] w fun e w' => e = .returned (.bool true) ∧ Grew w w' := by
  go_enter Try.func16, Try.ntmps16
  go_wp2_with fail
  refine (readRel_yes r hr _).mono ?_
  rintro e w1 ⟨rfl, hg⟩
  have HG := hid hg
  clear hg hr
  go_wp2_with (first | (refine wpList_store_row rfl 28 _ _ rfl (w1.heap.size) (arrV 4 (dv r)) rfl rfl 28 (arrV 4 (fun _ => 0)) (heap_alloc_new _ _) (info_relV _) (by simp only [arrV_size]) (arrV_one _ _) ?_) | fail)
  go_ret
  exact ⟨rfl, HG.out.trans (Grew.row _ _ _)⟩
theorem iRelValid_no (r : ByteArray) (hr : ¬ Valid 4 r) (w : World) :
    Calls Try.prog 16 #[.string r] w fun e w' => e = .returned (.bool false) ∧ Grew w w' := by
  go_enter Try.func16, Try.ntmps16
  go_wp2_with fail
  refine (readRel_no r hr _).mono ?_
  rintro e w1 ⟨rfl, hg⟩
  have HG := hid hg
  clear hg hr
  go_wp2_with (first | (refine wpList_store_row rfl 28 _ _ rfl (w1.heap.size) (arrV 4 (fun _ => 0)) rfl rfl 28 (arrV 4 (fun _ => 0)) (heap_alloc_new _ _) (info_relV _) (by simp only [arrV_size]) (arrV_one _ _) ?_) | fail)
  go_ret
  exact ⟨rfl, HG.out.trans (Grew.row _ _ _)⟩
theorem iTransValid_yes (t : ByteArray) (hv : TValid t) (w : World) :
    Calls Try.prog 32 #[.string t] w fun e w' => e = .returned (.bool true) ∧ Grew w w' := by
  have HV := hid hv
  clear hv
  go_enter Try.func32, Try.ntmps32
  go_wp2_with fail
  refine (readTrans_yes t HV.out _).mono ?_
  rintro e w1 ⟨rfl, hg⟩
  have HG := hid hg
  clear hg
  go_wp2_with (first | (refine wpList_store_row rfl 36 _ _ rfl (w1.heap.size) (arrV 16 (dv t)) rfl rfl 36 (arrV 16 (fun _ => 0)) (heap_alloc_new _ _) (info_transV _) (by simp only [arrV_size]) (arrV_one _ _) ?_) | fail)
  go_ret
  exact ⟨rfl, HG.out.trans (Grew.row _ _ _)⟩
theorem iTransValid_no (t : ByteArray) (hv : ¬ TValid t) (w : World) :
    Calls Try.prog 32 #[.string t] w fun e w' => e = .returned (.bool false) ∧ Grew w w' := by
  have HV := hid hv
  clear hv
  go_enter Try.func32, Try.ntmps32
  go_wp2_with fail
  refine (readTrans_no t HV.out _).mono ?_
  rintro e w1 ⟨rfl, hg⟩
  have HG := hid hg
  clear hg
  go_wp2_with (first | (refine wpList_store_row rfl 36 _ _ rfl (w1.heap.size) (arrV 16 (fun _ => 0)) rfl rfl 36 (arrV 16 (fun _ => 0)) (heap_alloc_new _ _) (info_transV _) (by simp only [arrV_size]) (arrV_one _ _) ?_) | fail)
  go_ret
  exact ⟨rfl, HG.out.trans (Grew.row _ _ _)⟩
theorem iMonotone_yes (t : ByteArray) (hv : TValid t) (w : World) :
    Calls Try.prog 30 #[.string t] w fun e w' => e = .returned (.bool true) ∧ Grew w w' := by
  have HV := hid hv
  clear hv
  go_enter Try.func30, Try.ntmps30
  go_wp2_with fail
  refine (iTransValid_yes t HV.out _).mono ?_
  rintro e w1 ⟨rfl, hg⟩
  go_wp2_with fail
  go_ret
  exact ⟨rfl, hg⟩
theorem iMonotone_no (t : ByteArray) (hv : ¬ TValid t) (w : World) :
    Calls Try.prog 30 #[.string t] w fun e w' => e = .returned (.bool false) ∧ Grew w w' := by
  have HV := hid hv
  clear hv
  go_enter Try.func30, Try.ntmps30
  go_wp2_with fail
  refine (iTransValid_no t HV.out _).mono ?_
  rintro e w1 ⟨rfl, hg⟩
  go_wp2_with fail
  go_ret
  exact ⟨rfl, hg⟩
set_option maxHeartbeats 400000 in
theorem iApply_yes (t : ByteArray) (p : Nat) (hv : TValid t) (hp : p < 16) (w : World) :
    Calls Try.prog 34 #[.string t, .int .i64 p] w fun e w' => e = .returned (.int .i64 (dv t p : Nat)) ∧ Grew w w' := by
  have HV := hid hv
  have hl : (p : Int) < 16 := by omega
  clear hv
  go_enter Try.func34, Try.ntmps34
  go_wp2_with fail
  refine (readTrans_yes t HV.out _).mono ?_
  rintro e w1 ⟨rfl, hg⟩
  have HG := hid hg
  clear hg
  have hc := cell_arrV (setRow_heap _ _ _ (arrV 16 (dv t)) _ _ (heap_alloc_new w1 (.cells (#[.int .i64 0, .int .i64 0, .int .i64 0, .int .i64 0, .int .i64 0, .int .i64 0, .int .i64 0, .int .i64 0, .int .i64 0, .int .i64 0, .int .i64 0, .int .i64 0, .int .i64 0, .int .i64 0, .int .i64 0, .int .i64 0] : Array Value) 36 (0, 0)))) p hp
  go_wp2_with (first | (refine wpList_store_row rfl 36 _ _ rfl (w1.heap.size) (arrV 16 (dv t)) rfl rfl 36 (arrV 16 (fun _ => 0)) (heap_alloc_new _ _) (info_transV _) (by simp only [arrV_size]) (arrV_one _ _) ?_) | (go_at_call 56; refine (icv_yes _ hp _).mono ?_; rintro e w' ⟨rfl, rfl⟩))
  go_ret
  exact ⟨rfl, HG.out.trans (Grew.row _ _ _)⟩
set_option maxHeartbeats 400000 in
theorem iApply_no (t : ByteArray) (p : Int) (h : ¬ TValid t ∨ condI p = false) (w : World) :
    Calls Try.prog 34 #[.string t, .int .i64 p] w fun e w' => e = .returned (.int .i64 (-1)) ∧ Grew w w' := by
  by_cases hv : TValid t
  · have hp : condI p = false := h.resolve_left (fun x => x hv)
    have HV := hid hv
    clear hv h
    go_enter Try.func34, Try.ntmps34
    go_wp2_with fail
    refine (readTrans_yes t HV.out _).mono ?_
    rintro e w1 ⟨rfl, hg⟩
    have HG := hid hg
    clear hg
    go_wp2_with (first | (refine wpList_store_row rfl 36 _ _ rfl (w1.heap.size) (arrV 16 (dv t)) rfl rfl 36 (arrV 16 (fun _ => 0)) (heap_alloc_new _ _) (info_transV _) (by simp only [arrV_size]) (arrV_one _ _) ?_) | (go_at_call 56; refine (iCond_all _ _).mono ?_; rintro e w' ⟨rfl, rfl⟩))
    go_ret
    exact ⟨rfl, HG.out.trans (Grew.row _ _ _)⟩
  · have HV := hid hv
    clear hv h
    go_enter Try.func34, Try.ntmps34
    go_wp2_with fail
    refine (readTrans_no t HV.out _).mono ?_
    rintro e w1 ⟨rfl, hg⟩
    have HG := hid hg
    clear hg
    go_wp2_with (first | (refine wpList_store_row rfl 36 _ _ rfl (w1.heap.size) (arrV 16 (fun _ => 0)) rfl rfl 36 (arrV 16 (fun _ => 0)) (heap_alloc_new _ _) (info_transV _) (by simp only [arrV_size]) (arrV_one _ _) ?_) | fail)
    go_ret
    exact ⟨rfl, HG.out.trans (Grew.row _ _ _)⟩
theorem iIsStrict_yes (t : ByteArray) (hv : TValid t) (w : World) :
    Calls Try.prog 36 #[.string t] w fun e w' => e = .returned (.bool (((dv t 0 : Nat) : Int) == 0)) ∧ Grew w w' := by
  have HV := hid hv
  clear hv
  go_enter Try.func36, Try.ntmps36
  go_wp2_with fail
  refine (iApply_yes t 0 HV.out (by omega) _).mono ?_
  rintro e w1 ⟨rfl, hg⟩
  go_wp2_with fail
  go_ret
  exact ⟨rfl, hg⟩
theorem iIsStrict_no (t : ByteArray) (hv : ¬ TValid t) (w : World) :
    Calls Try.prog 36 #[.string t] w fun e w' => e = .returned (.bool false) ∧ Grew w w' := by
  have HV := hid hv
  clear hv
  go_enter Try.func36, Try.ntmps36
  go_wp2_with fail
  refine (iApply_no t 0 (.inl HV.out) _).mono ?_
  rintro e w1 ⟨rfl, hg⟩
  go_wp2_with fail
  go_ret
  exact ⟨rfl, hg⟩
theorem iIsTerm_yes (t : ByteArray) (hv : TValid t) (w : World) :
    Calls Try.prog 38 #[.string t] w fun e w' => e = .returned (.bool (((dv t 15 : Nat) : Int) == 15)) ∧ Grew w w' := by
  have HV := hid hv
  clear hv
  go_enter Try.func38, Try.ntmps38
  go_wp2_with fail
  refine (iApply_yes t 15 HV.out (by omega) _).mono ?_
  rintro e w1 ⟨rfl, hg⟩
  go_wp2_with fail
  go_ret
  exact ⟨rfl, hg⟩
theorem iIsTerm_no (t : ByteArray) (hv : ¬ TValid t) (w : World) :
    Calls Try.prog 38 #[.string t] w fun e w' => e = .returned (.bool false) ∧ Grew w w' := by
  have HV := hid hv
  clear hv
  go_enter Try.func38, Try.ntmps38
  go_wp2_with fail
  refine (iApply_no t 15 (.inl HV.out) _).mono ?_
  rintro e w1 ⟨rfl, hg⟩
  go_wp2_with fail
  go_ret
  exact ⟨rfl, hg⟩
end Go.Proofs.Ytgbokgeegoolaaa
