/-
  Proved here: makeRel makes the relation that its function tells, for every function that returns a bool and writes nothing older.
-/
import Derived.Test.YtddmefpdigibaaaLib
import Derived.Test.YtddmefpdigibaaaRows
namespace Go.Proofs.Ytddmefpdigibaaa
open Go.RowKit
theorem info_rel : (Try.prog.info? 33).map (·.size) = some 4 := by kernel_rfl
theorem info_relV (f : Nat → Nat) : (Try.prog.info? 33).map (·.size) = some (arrV 4 f).size := by rw [arrV_size]; exact info_rel
theorem index_rel (f : Nat → Nat) (k : Nat) (w : World) (hk : k < 4) : (Instr.index 33 (.agg (arrV 4 f)) (.int .i64 (k : Int))).run Try.prog w = .ok (.int .i64 ((f k : Nat) : Int)) w :=
  run_index_arr _ 3 4 f k w Try.underlying33 (by kernel_rfl) (by kernel_rfl) hk
attribute [go_sem] index_rel
theorem info_trans : (Try.prog.info? 37).map (·.size) = some 16 := by kernel_rfl
theorem info_transV (f : Nat → Nat) : (Try.prog.info? 37).map (·.size) = some (arrV 16 f).size := by rw [arrV_size]; exact info_trans
theorem index_trans (f : Nat → Nat) (k : Nat) (w : World) (hk : k < 16) : (Instr.index 37 (.agg (arrV 16 f)) (.int .i64 (k : Int))).run Try.prog w = .ok (.int .i64 ((f k : Nat) : Int)) w :=
  run_index_arr _ 3 16 f k w Try.underlying37 (by kernel_rfl) (by kernel_rfl) hk
attribute [go_sem] index_trans
theorem below_setRow {B g : Nat} {w0 w : World} (hb : Below B w0 w) (hBg : B ≤ g) (cs : Array Value) : Below B w0 (w.setRow g cs) :=
  hb.trans ⟨rfl, rfl, rfl, by simp, fun k hk => setRow_other _ _ _ _ (by omega)⟩
/-- The cells of a relation that is being made: rows below s are done, row s up to t. -/
def relAt (F : Nat → Nat → Bool) (s t : Nat) : Nat → Nat := fun i => if i < s then setOf (F i) 4 else if i = s then setOf (F s) t else 0
theorem relAt_next (F : Nat → Nat → Bool) (s : Nat) : relAt F s 4 = relAt F (s + 1) 0 := by
  funext i
  unfold relAt
  by_cases h : i < s
  · rw [if_pos h, if_pos (by omega)]
  · rw [if_neg h]
    by_cases e : i = s
    · subst e; rw [if_pos rfl, if_pos (by omega)]
    · rw [if_neg e, if_neg (by omega)]
      split <;> simp [setOf]
theorem relAt_start (F : Nat → Nat → Bool) : relAt F 0 0 = fun _ => 0 := by
  funext i; unfold relAt; simp [setOf]
theorem relAt_end (F : Nat → Nat → Bool) : arrV 4 (relAt F 4 0) = arrV 4 (fun s => setOf (F s) 4) :=
  arrV_congr _ _ _ fun i hi => by unfold relAt; rw [if_pos hi]
theorem relAt_at (F : Nat → Nat → Bool) (s t : Nat) : relAt F s t s = setOf (F s) t := by simp [relAt]
theorem relAt_no (F : Nat → Nat → Bool) (s t : Nat) (h : F s t = false) : relAt F s (t + 1) = relAt F s t := by
  funext i; unfold relAt; rw [setOf_no _ _ h]
theorem relAt_yes (F : Nat → Nat → Bool) (s t : Nat) (h : F s t = true) : (fun i => if i = s then orN (setOf (F s) t) (pow2 t) else relAt F s t i) = relAt F s (t + 1) := by
  funext i; unfold relAt; rw [setOf_yes _ _ h]
  by_cases e : i = s
  · subst e; simp
  · simp [e]
def MkRel (w : World) (F : Nat → Nat → Bool) (s t : Nat) (wr : World) : Prop :=
  Below w.heap.size w wr ∧ wr.heap[w.heap.size + 1]? = some (.cells (arrV 4 (relAt F s t)) 33 (0, 0)) ∧ wr.heap[w.heap.size]? = some (.cells (arrV 4 (fun _ => 0)) 33 (0, 0))
theorem MkRel.start (w : World) (F : Nat → Nat → Bool) : MkRel w F 0 0 ((w.alloc (.cells (arrV 4 (fun _ => 0)) 33 (0, 0))).alloc (.cells (arrV 4 (fun _ => 0)) 33 (0, 0))) :=
  ⟨((Below.refl _ _).alloc (Nat.le_refl _) _).alloc (by simp) _, by rw [relAt_start]; exact heap_alloc2_new _ _ _, heap_alloc2_old _ _ _⟩
theorem MkRel.call {w wr w1 : World} {F : Nat → Nat → Bool} {s t : Nat} (h : MkRel w F s t wr) (hb : Below wr.heap.size wr w1) : MkRel w F s t w1 := by
  obtain ⟨h1, h2, h3⟩ := h
  have l2 := (Array.getElem?_eq_some_iff.1 h2).1
  have l3 := (Array.getElem?_eq_some_iff.1 h3).1
  exact ⟨h1.trans (hb.mono (by omega)), by rw [hb.block _ l2]; exact h2, by rw [hb.block _ l3]; exact h3⟩
theorem MkRel.cell {w wr : World} {F : Nat → Nat → Bool} {s t : Nat} (h : MkRel w F s t wr) (hs : s < 4) : wr.cell? ⟨w.heap.size + 1, s, none⟩ = some (.int .i64 (setOf (F s) t : Nat)) := by
  have := cell_arrV h.2.1 s hs; rwa [relAt_at] at this
theorem MkRel.free {w wr : World} {F : Nat → Nat → Bool} {s t : Nat} (h : MkRel w F s t wr) : wr.frozen? ⟨w.heap.size + 1, s, none⟩ = false := frozen_of_row _ _ _ _ _ h.2.1
theorem MkRel.set {w wr : World} {F : Nat → Nat → Bool} {s t : Nat} (h : MkRel w F s t wr) (hF : F s t = true) :
    MkRel w F s (t + 1) (wr.setCell ⟨w.heap.size + 1, s, none⟩ (.int .i64 (orN (setOf (F s) t) (pow2 t) : Nat))).drew := by
  obtain ⟨h1, h2, h3⟩ := h
  refine ⟨(h1.setCell (by simp) _).drew, ?_, ?_⟩
  · rw [heap_drew, set_arrV h2, relAt_yes _ _ _ hF]
  · rw [heap_drew, heap_setCell_other _ _ _ _ (by simp)]; exact h3
theorem MkRel.pass {w wr : World} {F : Nat → Nat → Bool} {s t : Nat} (h : MkRel w F s t wr) (hF : F s t = false) : MkRel w F s (t + 1) wr := by
  unfold MkRel at *; rw [relAt_no _ _ _ hF]; exact h
theorem MkRel.next {w wr : World} {F : Nat → Nat → Bool} {s : Nat} (h : MkRel w F s 4 wr) : MkRel w F (s + 1) 0 wr := by
  unfold MkRel at *; rw [← relAt_next]; exact h
set_option maxHeartbeats 400000 in
theorem makeRel_any (n : Nat) (caps : Array Value) (F : Nat → Nat → Bool) (w : World) (hn : ∀ a w, (callFunc n a).run Try.prog w = .ok (.enter n a) w)
   (hf : ∀ s t, s < 4 → t < 4 → ∀ w', Grew w w' → Calls Try.prog n (#[.int .i64 s, .int .i64 t] ++ caps) w' fun e w'' => e = .returned (.bool (F s t)) ∧ Grew w' w'') :
    Calls Try.prog 44 #[.func (.func n) #[] caps] w fun e w' => e = .returned (.agg (arrV 4 (fun s => setOf (F s) 4))) ∧ Grew w w' := by
  have HF := hid hf
  clear hf
  go_enter Try.func44, Try.ntmps44
  go_wp2_with fail
  go_loopw [4, 5, 7, 10] (fun _ _ u _ wr => ∃ s : Nat, s ≤ 4 ∧ u = .int .i64 s ∧ MkRel w F s 0 wr) (fun _ _ u _ _ => 4 - (intOf u).toNat)
  case atStart => exact ⟨0, by omega, rfl, MkRel.start w F⟩
  case round =>
   obtain ⟨s, hs, rfl, hm⟩ := hrel
   by_cases hlt : s < 4
   · have hl1 : (s : Int) < 4 := by omega
     go_wp2_with fail
     go_loopw [5, 10] (fun _ u wr => ∃ t : Nat, t ≤ 4 ∧ u = .int .i64 t ∧ MkRel w F s t wr) (fun _ u _ => 4 - (intOf u).toNat)
     case atStart => exact ⟨0, by omega, rfl, hm⟩
     case round =>
       obtain ⟨t, ht, rfl, hm2⟩ := hrel
       by_cases hlt2 : t < 4
       · clear hm
         go_wp2_with fail
         refine (HF.out s t hlt hlt2 _ hm2.1).mono ?_
         rintro e w1 ⟨rfl, hb1⟩
         have hm3 := hm2.call hb1
         clear hb1 hm2
         have hl2 : s < 16 := by omega
         have hl3 : t < 16 := by omega
         have hl4 := setOf_lt65536 (F s) t (by omega)
         have hc1 := hm3.cell hlt
         have hc2 := hm3.free
         cases hF : F s t
         · have hF' := hid hF
           clear hF
           go_wp2_with fail
           go_roundw
           case rel => exact ⟨t + 1, by omega, by go_num, hm3.pass hF'⟩
           case measure => simp [intOf]; omega
         · have hF' := hid hF
           clear hF
           go_wp2_with fail
           go_region
           all_goals
            go_wp2_with fail
            go_roundw
            case rel => exact ⟨t + 1, by omega, by go_num, hm3.set hF'⟩
            case measure => simp [intOf]; omega
       · obtain rfl : t = 4 := by omega
         go_wp2_with fail
         go_roundw
         case rel => exact ⟨s + 1, by omega, by go_num, hm2.next⟩
         case measure => simp [intOf]; omega
   · obtain rfl : s = 4 := by omega
     obtain ⟨h1, h2, h3⟩ := hm
     have H1 := hid h1
     have H2 := hid h2
     have H3 := hid h3
     clear h1 h2 h3
     go_wp2_with (first | (refine wpList_load_row rfl 33 _ rfl (w.heap.size + 1) rfl _ _ _ _ H2.out Try.underlying33 rfl (info_relV _) ?_) | (refine wpList_store_row rfl 33 _ _ rfl w.heap.size (arrV 4 (relAt F 4 0)) rfl rfl 33 _ H3.out (info_relV _) (by rw [arrV_size, arrV_size]) (arrV_one _ _) ?_))
     refine bodyPost_ret (results_cell_row rfl _ _ w.heap.size 33 (arrV 4 (relAt F 4 0)) (0, 0) _ rfl (setRow_heap _ _ _ _ _ _ H3.out) Try.underlying33 rfl (info_relV _)) rfl ?_
     exact ⟨by rw [relAt_end], below_setRow H1.out (Nat.le_refl _) _⟩
end Go.Proofs.Ytddmefpdigibaaa
