/-
  Proved here: makeTrans makes the table that its function tells, for every function that returns a small number and writes nothing older.
-/
import Derived.Test.YtipkalbomjfckaaC2
namespace Go.Proofs.Ytipkalbomjfckaa
open Go.RowKit
def MkTr (w : World) (F : Nat → Nat) (k : Nat) (wr : World) : Prop :=
  Below w.heap.size w wr ∧ wr.heap[w.heap.size + 1]? = some (.cells (arrV 16 (mkAt F k)) 53 (0, 0)) ∧ wr.heap[w.heap.size]? = some (.cells (arrV 16 (fun _ => 0)) 53 (0, 0))
theorem MkTr.start (w : World) (F : Nat → Nat) : MkTr w F 0 ((w.alloc (.cells (arrV 16 (fun _ => 0)) 53 (0, 0))).alloc (.cells (arrV 16 (fun _ => 0)) 53 (0, 0))) :=
  ⟨((Below.refl _ _).alloc (Nat.le_refl _) _).alloc (by simp) _, by rw [mkAt_start]; exact heap_alloc2_new _ _ _, heap_alloc2_old _ _ _⟩
theorem MkTr.call {w wr w1 : World} {F : Nat → Nat} {k : Nat} (h : MkTr w F k wr) (hb : Below wr.heap.size wr w1) : MkTr w F k w1 := by
  obtain ⟨h1, h2, h3⟩ := h
  have l2 := (Array.getElem?_eq_some_iff.1 h2).1
  have l3 := (Array.getElem?_eq_some_iff.1 h3).1
  exact ⟨h1.trans (hb.mono (by omega)), by rw [hb.block _ l2]; exact h2, by rw [hb.block _ l3]; exact h3⟩
theorem MkTr.cell {w wr : World} {F : Nat → Nat} {k : Nat} (h : MkTr w F k wr) (hk : k < 16) : wr.cell? ⟨w.heap.size + 1, k, none⟩ = some (.int .i64 (mkAt F k k : Nat)) := cell_arrV h.2.1 k hk
theorem MkTr.free {w wr : World} {F : Nat → Nat} {k : Nat} (h : MkTr w F k wr) : wr.frozen? ⟨w.heap.size + 1, k, none⟩ = false := frozen_of_row _ _ _ _ _ h.2.1
theorem MkTr.set {w wr : World} {F : Nat → Nat} {k : Nat} (h : MkTr w F k wr) : MkTr w F (k + 1) (wr.setCell ⟨w.heap.size + 1, k, none⟩ (.int .i64 (F k : Nat))) := by
  obtain ⟨h1, h2, h3⟩ := h
  refine ⟨h1.setCell (by simp) _, ?_, ?_⟩
  · rw [set_arrV h2, mkAt_next]
  · rw [heap_setCell_other _ _ _ _ (by simp)]; exact h3
set_option maxHeartbeats 400000 in
theorem makeTrans_any (n : Nat) (caps : Array Value) (F : Nat → Nat) (w : World) (hn : ∀ a w, (callFunc n a).run Try.prog w = .ok (.enter n a) w)
   (hf : ∀ p, p < 16 → ∀ w', Grew w w' → Calls Try.prog n (#[.int .i64 p] ++ caps) w' fun e w'' => e = .returned (.int .i64 (F p : Nat)) ∧ Grew w' w'') :
    Calls Try.prog 103 #[.func (.func n) #[] caps] w fun e w' => e = .returned (.agg (arrV 16 F)) ∧ Grew w w' := by
  have HF := hid hf
  clear hf
  go_enter Try.func103, Try.ntmps103
  go_wp2_with fail
  go_loopw [4, 6] (fun _ u wr => ∃ k : Nat, k ≤ 16 ∧ u = .int .i64 k ∧ MkTr w F k wr) (fun _ u _ => 16 - (intOf u).toNat)
  case atStart => exact ⟨0, by omega, rfl, MkTr.start w F⟩
  case round =>
   obtain ⟨k, hk, rfl, hm⟩ := hrel
   by_cases hlt : k < 16
   · have hl1 : (k : Int) < 16 := by omega
     go_wp2_with fail
     refine (HF.out k hlt _ hm.1).mono ?_
     rintro e w1 ⟨rfl, hb1⟩
     have hm3 := hm.call hb1
     clear hb1 hm
     have hc1 := hm3.cell hlt
     have hc2 := hm3.free
     go_wp2_with fail
     go_roundw
     case rel => exact ⟨k + 1, by omega, by go_num, hm3.set⟩
     case measure => simp [intOf]; omega
   · obtain rfl : k = 16 := by omega
     obtain ⟨h1, h2, h3⟩ := hm
     have H1 := hid h1
     have H2 := hid h2
     have H3 := hid h3
     clear h1 h2 h3
     go_wp2_with (first | (refine wpList_load_row rfl 53 _ rfl (w.heap.size + 1) rfl _ _ _ _ H2.out Try.underlying53 rfl (info_transV _) ?_) | (refine wpList_store_row rfl 53 _ _ rfl w.heap.size (arrV 16 (mkAt F 16)) rfl rfl 53 _ H3.out (info_transV _) (by simp only [arrV_size]) (arrV_one _ _) ?_))
     refine bodyPost_ret (results_cell_row rfl _ _ w.heap.size 53 (arrV 16 (mkAt F 16)) (0, 0) _ rfl (setRow_heap _ _ _ _ _ _ H3.out) Try.underlying53 rfl (info_transV _)) rfl ?_
     exact ⟨by rw [mkAt_end], below_setRow H1.out (Nat.le_refl _) _⟩
end Go.Proofs.Ytipkalbomjfckaa
