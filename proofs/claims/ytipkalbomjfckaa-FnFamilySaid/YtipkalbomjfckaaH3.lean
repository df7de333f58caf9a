/-
  Proved here: what readTrans returns, for every text.
-/
import Derived.Test.YtipkalbomjfckaaH2
import Derived.Deep.QuietTactic
import Derived.BigQuiet
namespace Go.Proofs.Ytipkalbomjfckaa
open Go.RowKit
def Mono (f : Nat → Nat) : Prop := ∀ p, p < 16 → ∀ q, q < 16 → sub p q = true → sub (f p) (f q) = true
def TValid (s : ByteArray) : Prop := Valid 16 s ∧ Mono (dv s)
def MonoTo (f : Nat → Nat) (p q : Nat) : Prop := (∀ i, i < p → ∀ j, j < 16 → sub i j = true → sub (f i) (f j) = true) ∧ ∀ j, j < q → sub p j = true → sub (f p) (f j) = true
theorem MonoTo.start (f : Nat → Nat) : MonoTo f 0 0 := ⟨fun i hi => by omega, fun j hj => by omega⟩
theorem MonoTo.step {f : Nat → Nat} {p q : Nat} (h : MonoTo f p q) (k : sub p q = true → sub (f p) (f q) = true) : MonoTo f p (q + 1) :=
  ⟨h.1, fun j hj hs => by
    by_cases e : j = q
    · subst e; exact k hs
    · exact h.2 j (by omega) hs⟩
theorem MonoTo.next {f : Nat → Nat} {p : Nat} (h : MonoTo f p 16) : MonoTo f (p + 1) 0 :=
  ⟨fun i hi j hj hs => by
    by_cases e : i = p
    · subst e; exact h.2 j hj hs
    · exact h.1 i (by omega) j hj hs, fun j hj => by omega⟩
theorem MonoTo.mono {f : Nat → Nat} {q : Nat} (h : MonoTo f 16 q) : Mono f := fun p hp j hj hs => h.1 p hp j hj hs
def RdTr (w : World) (s : ByteArray) (k : Nat) (wr : World) : Prop :=
  Below w.heap.size w wr ∧ wr.heap[w.heap.size + 1]? = some (.cells (arrV 16 (mkAt (dv s) k)) 53 (0, 0)) ∧ wr.heap[w.heap.size]? = some (.cells (arrV 16 (fun _ => 0)) 53 (0, 0))
theorem RdTr.start (w : World) (s : ByteArray) : RdTr w s 0 ((w.alloc (.cells (arrV 16 (fun _ => 0)) 53 (0, 0))).alloc (.cells (arrV 16 (fun _ => 0)) 53 (0, 0))) :=
  ⟨((Below.refl _ _).alloc (Nat.le_refl _) _).alloc (by simp) _, by rw [mkAt_start]; exact heap_alloc2_new _ _ _, heap_alloc2_old _ _ _⟩
theorem RdTr.set {w wr : World} {s : ByteArray} {k : Nat} (h : RdTr w s k wr) : RdTr w s (k + 1) (wr.setCell ⟨w.heap.size + 1, k, none⟩ (.int .i64 (dv s k : Nat))) := by
  obtain ⟨h1, h2, h3⟩ := h
  refine ⟨h1.setCell (by simp) _, ?_, ?_⟩
  · rw [set_arrV h2, mkAt_next]
  · rw [heap_setCell_other _ _ _ _ (by simp)]; exact h3
theorem RdTr.drewN {w wr : World} {s : ByteArray} {k : Nat} (h : RdTr w s k wr) (n : Nat) : RdTr w s k (wr.drewN n) := by
  obtain ⟨h1, h2, h3⟩ := h
  exact ⟨⟨h1.os, h1.tape, h1.output, h1.size, h1.block⟩, h2, h3⟩
theorem RdTr.at {w wr : World} {s : ByteArray} (h : RdTr w s 16 wr) (k : Nat) (hk : k < 16) : wr.cell? ⟨w.heap.size + 1, k, none⟩ = some (.int .i64 (dv s k : Nat)) := by
  have e : mkAt (dv s) 16 k = dv s k := by unfold mkAt; rw [if_pos hk]
  have := cell_arrV h.2.1 k hk
  rwa [e] at this
set_option maxHeartbeats 1000000 in
theorem readTrans_size (s : ByteArray) (hsz : s.size ≠ 16) (w : World) :
    Calls Try.prog 64 #[.string s] w fun e w' => e = .returned (.tuple #[.agg (arrV 16 (fun _ => 0)), .bool false]) ∧ Grew w w' := by
  have hsz3 : ((s.size : Int) == 16) = false := by simp; omega
  have hsz4 : ((s.size : Int) != 16) = true := by simp; omega
  clear hsz
  go_enter Try.func64, Try.ntmps64
  go_wp2_with fail
  refine bodyPost_ret (results_row_tmp rfl _ _ (w.heap.size) 53 (arrV 16 (fun _ => 0)) (0, 0) _ rfl (heap_alloc2_old _ _ _) Try.underlying53 rfl (info_transV _)) rfl ?_
  exact ⟨rfl, ((Below.refl _ _).alloc (Nat.le_refl _) _).alloc (by simp) _⟩
set_option maxRecDepth 100000 in
set_option maxHeartbeats 2000000 in
theorem readTrans_full (s : ByteArray) (hsz : s.size = 16) (w : World) (R : Ending → World → Prop)
    (hyes : ∀ w', Valid 16 s → Mono (dv s) → Grew w w' → R (.returned (.tuple #[.agg (arrV 16 (dv s)), .bool true])) w')
    (hno : ∀ w', ¬ TValid s → Grew w w' → R (.returned (.tuple #[.agg (arrV 16 (fun _ => 0)), .bool false])) w') :
    Calls Try.prog 64 #[.string s] w R := by
  have HS := hid hsz
  have hsz2 : (s.size : Int) = 16 := by rw [hsz]; rfl
  have HY := hid hyes
  have HN := hid hno
  clear hsz hyes hno
  go_enter Try.func64, Try.ntmps64
  go_wp2_with fail
  go_loopw [5, 13] (fun _ u wr => ∃ k : Nat, k ≤ 16 ∧ u = .int .i64 k ∧ RdTr w s k wr ∧ ∀ i, i < k → 0 ≤ hexI (byteAt s i)) (fun _ u _ => 16 - (intOf u).toNat)
  case atStart => exact ⟨0, by omega, rfl, RdTr.start w s, fun i hi => by omega⟩
  case round =>
    obtain ⟨k, hk, rfl, hm, hh⟩ := hrel
    have HH := hid hh
    clear hh
    by_cases hlt : k < 16
    · have hl1 : (k : Int) < 16 := by omega
      have hc1 := cell_arrV hm.2.1 k hlt
      have hc2 : wr.frozen? ⟨w.heap.size + 1, k, none⟩ = false := frozen_of_row _ _ _ _ _ hm.2.1
      rcases dv_or s k with hx | hx
      · have hp : ¬ ((dv s k : Nat) : Int) < 0 := by omega
        have hc3 := cell_arrV hm.set.2.1 k hlt
        have e3 : mkAt (dv s) (k + 1) k = dv s k := by unfold mkAt; rw [if_pos (by omega)]
        rw [e3] at hc3
        clear e3
        have HX := hid hx
        go_wp2_with (first | (go_at_call 108; refine (digitOf_any _ _).mono ?_; rintro e w' ⟨rfl, rfl⟩) | fail)
        go_roundw
        case rel =>
          refine ⟨k + 1, by omega, by go_num, hm.set, fun i hi => ?_⟩
          by_cases e : i = k
          · subst e; rw [HX.out]; omega
          · exact HH.out i (by omega)
        case measure => simp [intOf]; omega
      · have HX := hid hx
        have H1 := hid hm.1
        have H3 := hid hm.2.2
        have hc3 : (wr.setCell ⟨w.heap.size + 1, k, none⟩ (.int .i64 (-1))).cell? ⟨w.heap.size + 1, k, none⟩ = some (.int .i64 (-1)) := by
          rw [cell_of_row _ _ _ _ _ _ (heap_setCell_same wr (w.heap.size + 1) k _ _ _ hm.2.1)]
          simp [arrV_size, hlt]
        have H4 : Hid ((wr.setCell ⟨w.heap.size + 1, k, none⟩ (.int .i64 (-1))).heap[w.heap.size]? = some (.cells (arrV 16 (fun _ => 0)) 53 (0, 0))) := hid (by
          rw [heap_setCell_other _ _ _ _ (by simp)]; exact H3.out)
        clear hm
        go_wp2_with (first | (go_at_call 108; refine (digitOf_any _ _).mono ?_; rintro e w' ⟨rfl, rfl⟩) | (refine wpList_store_row rfl 53 _ _ rfl (w.heap.size) (arrV 16 (fun _ => 0)) rfl rfl 53 (arrV 16 (fun _ => 0)) H4.out (info_transV _) (by simp only [arrV_size]) (arrV_one _ _) ?_))
        refine bodyPost_ret (results_row_tmp rfl _ _ (w.heap.size) 53 (arrV 16 (fun _ => 0)) (0, 0) _ rfl (setRow_heap _ _ _ _ _ _ H4.out) Try.underlying53 rfl (info_transV _)) rfl ?_
        refine HN.out _ (fun hv => ?_) (below_setRow (H1.out.setCell (by simp) _) (Nat.le_refl _) _)
        have := hv.1.2 k (by rw [HS.out]; exact hlt)
        rw [HX.out] at this
        exact absurd this (by decide)
    · obtain rfl : k = 16 := by omega
      have HV : Hid (Valid 16 s) := hid ⟨HS.out, fun i hi => HH.out i (by rw [← HS.out]; exact hi)⟩
      clear HH
      go_wp2_with fail
      go_loopw [6, 7, 28, 31] (fun _ _ u _ wr2 => ∃ p : Nat, p ≤ 16 ∧ u = .int .i64 p ∧ RdTr w s 16 wr2 ∧ MonoTo (dv s) p 0) (fun _ _ u _ _ => 16 - (intOf u).toNat)
      case atStart => exact ⟨0, by omega, rfl, hm, MonoTo.start _⟩
      case round =>
        obtain ⟨p, hp, rfl, hm2, hmono⟩ := hrel
        by_cases hlt2 : p < 16
        · have hl2 : (p : Int) < 16 := by omega
          clear hm
          go_wp2_with fail
          go_loopw [7, 31] (fun _ u wr3 => ∃ q : Nat, q ≤ 16 ∧ u = .int .i64 q ∧ RdTr w s 16 wr3 ∧ MonoTo (dv s) p q) (fun _ u _ => 16 - (intOf u).toNat)
          case atStart => exact ⟨0, by omega, rfl, hm2, hmono⟩
          case round =>
            obtain ⟨q, hq, rfl, hm3, hmono2⟩ := hrel
            clear hm2 hmono
            by_cases hlt3 : q < 16
            · have hl3 : (q : Int) < 16 := by omega
              have b1 : p < 65536 := by omega
              have b2 : q < 65536 := by omega
              have b3 : dv s p < 65536 := by have := dv_lt s p; omega
              have b4 : dv s q < 65536 := by have := dv_lt s q; omega
              have c1 := hm3.at p hlt2
              have c2 := hm3.at q hlt3
              have a1 := andNot_i64 p q b1 b2
              have a2 := andNot_i64 (dv s p) (dv s q) b3 b4
              have a3 := diff_eq p q
              have a4 := diff_ne (dv s p) (dv s q)
              have HM := hid hmono2
              clear hmono2
              cases g1 : sub p q
              · rw [g1] at a3
                have G1 := hid g1
                clear g1
                go_wp2_with fail
                go_quiet (fail)
                go_wp2_with fail
                go_roundw
                case rel => exact ⟨q + 1, by omega, by go_num, hm3.drewN _, HM.out.step (fun h => by rw [G1.out] at h; exact absurd h (by decide))⟩
                case measure => simp [intOf]; omega
              · rw [g1] at a3
                have G1 := hid g1
                clear g1
                cases g2 : sub (dv s p) (dv s q)
                · rw [g2] at a4
                  have G2 := hid g2
                  have H1 := hid (hm3.1)
                  have H3 := hid hm3.2.2
                  clear g2 hm3
                  go_wp2_with fail
                  go_quiet (fail)
                  go_wp2_with (first | (refine wpList_store_row rfl 53 _ _ rfl (w.heap.size) (arrV 16 (fun _ => 0)) rfl rfl 53 (arrV 16 (fun _ => 0)) (show (World.drewN _ _).heap[w.heap.size]? = _ from H3.out) (info_transV _) (by simp only [arrV_size]) (arrV_one _ _) ?_))
                  refine bodyPost_ret (results_row_tmp rfl _ _ (w.heap.size) 53 (arrV 16 (fun _ => 0)) (0, 0) _ rfl (setRow_heap _ _ _ _ _ _ H3.out) Try.underlying53 rfl (info_transV _)) rfl ?_
                  refine HN.out _ (fun hv => ?_) (below_setRow (below_drawn H1.out _) (Nat.le_refl _) _)
                  have := hv.2 p hlt2 q hlt3 G1.out
                  rw [G2.out] at this
                  exact absurd this (by decide)
                · rw [g2] at a4
                  have G2 := hid g2
                  clear g2
                  go_wp2_with fail
                  go_quiet (fail)
                  go_wp2_with fail
                  go_roundw
                  case rel => exact ⟨q + 1, by omega, by go_num, hm3.drewN _, HM.out.step (fun _ => G2.out)⟩
                  case measure => simp [intOf]; omega
            · obtain rfl : q = 16 := by omega
              go_wp2_with fail
              go_roundw
              case rel => exact ⟨p + 1, by omega, by go_num, hm3, hmono2.next⟩
              case measure => simp [intOf]; omega
        · obtain rfl : p = 16 := by omega
          have H1 := hid hm2.1
          have H2 := hid hm2.2.1
          have H3 := hid hm2.2.2
          have HM := hid hmono.mono
          clear hm hm2 hmono
          go_wp2_with (first | (refine wpList_load_row rfl 53 _ rfl (w.heap.size + 1) rfl _ _ _ _ H2.out Try.underlying53 rfl (info_transV _) ?_) | (refine wpList_store_row rfl 53 _ _ rfl (w.heap.size) (arrV 16 (mkAt (dv s) 16)) rfl rfl 53 (arrV 16 (fun _ => 0)) H3.out (info_transV _) (by simp only [arrV_size]) (arrV_one _ _) ?_))
          refine bodyPost_ret (results_row_tmp rfl _ _ (w.heap.size) 53 (arrV 16 (mkAt (dv s) 16)) (0, 0) _ rfl (setRow_heap _ _ _ _ _ _ H3.out) Try.underlying53 rfl (info_transV _)) rfl ?_
          rw [mkAt_end]
          exact HY.out _ HV.out HM.out (below_setRow H1.out (Nat.le_refl _) _)
theorem readTrans_yes (s : ByteArray) (hv : TValid s) (w : World) :
    Calls Try.prog 64 #[.string s] w fun e w' => e = .returned (.tuple #[.agg (arrV 16 (dv s)), .bool true]) ∧ Grew w w' :=
  readTrans_full s hv.1.1 w _ (fun _ _ _ hg => ⟨rfl, hg⟩) (fun _ h _ => absurd hv h)
theorem readTrans_no (s : ByteArray) (hv : ¬ TValid s) (w : World) :
    Calls Try.prog 64 #[.string s] w fun e w' => e = .returned (.tuple #[.agg (arrV 16 (fun _ => 0)), .bool false]) ∧ Grew w w' := by
  by_cases hsz : s.size = 16
  · exact readTrans_full s hsz w _ (fun _ h1 h2 _ => absurd ⟨h1, h2⟩ hv) (fun _ _ hg => ⟨rfl, hg⟩)
  · exact readTrans_size s hsz w
end Go.Proofs.Ytipkalbomjfckaa
