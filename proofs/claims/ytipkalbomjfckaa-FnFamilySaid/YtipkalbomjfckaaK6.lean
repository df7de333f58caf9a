/-
  Proved here: what the program's makers of transformers (then, meet, join, dual, assume, angel, demon and the exported functions over them) return, for all arguments.
-/
import Derived.Test.YtipkalbomjfckaaK5
import Derived.Test.YtipkalbomjfckaaK3
import Derived.Test.YtipkalbomjfckaaC4
import Derived.Test.YtipkalbomjfckaaF1
namespace Go.Proofs.Ytipkalbomjfckaa
open Go.RowKit
theorem wpList_load_rowG {P : Program} {ops : Array Oper} {rest : List Oper} {o : Oper} {a : Act} {w : World} {Q : Exit → Act → World → Prop} (hw : Region.wanted o (yielded ops a.tmps) = true) (ty : TypeId) (x : Operand) (ho : o.op = .load ty x)
    (g : Nat) (hx : a.eval x = .pointer (some ⟨g, 0, none⟩)) (t : TypeId) (cs : Array Value) (fr : Nat × Nat) (d : TypeDesc) (hg : w.heap[g]? = some (.cells cs t fr))
    (hu : P.underlying ty = some d) (hd : (match d with | .struct _ | .array _ _ => true | _ => false) = true) (hi : (P.info? ty).map (·.size) = some cs.size)
    (h : wpList P ops Q rest (a.put o.dst (.agg cs)) w) : wpList P ops Q (o :: rest) a w :=
  wpList_step fun K hK => by rw [if_pos hw]; exact wp_load_row ty x ho g hx t cs fr d hg hu hd hi (hK _ _ h)
theorem small_zero : Small (fun _ => 0) := fun _ _ => Nat.succ_pos _
theorem heap_alloc3_old (w : World) (a b c : Obj) : (((w.alloc a).alloc b).alloc c).heap[w.heap.size]? = some a :=
  heap_later (Grew.alloc _ c) (heap_alloc2_old w a b)
theorem heap_alloc3_mid (w : World) (a b c : Obj) : (((w.alloc a).alloc b).alloc c).heap[w.heap.size + 1]? = some b :=
  heap_later (Grew.alloc _ c) (heap_alloc2_new w a b)
theorem heap_alloc3_new (w : World) (a b c : Obj) : (((w.alloc a).alloc b).alloc c).heap[w.heap.size + 1 + 1]? = some c := by
  have := heap_alloc2_new (w.alloc a) b c
  simpa using this
theorem enter_then1 : ∀ a w, (callFunc 118 a).run Try.prog w = .ok (.enter 118 a) w := fun _ _ => by kernel_rfl
set_option maxHeartbeats 400000 in
theorem then1_any (b c q : Nat) (f g : Nat → Nat) (_hf : Small f) (hg : Small g) (w : World) (hq : q < 16) (hb : w.heap[b]? = some (.cells (arrV 16 f) 53 (0, 0))) (hc : w.heap[c]? = some (.cells (arrV 16 g) 53 (0, 0))) :
    Calls Try.prog 118 (#[.int .i64 q] ++ #[.pointer (some ⟨b, 0, none⟩), .pointer (some ⟨c, 0, none⟩)]) w fun e w' => e = .returned (.int .i64 ((thenF f g) q : Nat)) ∧ Grew w w' := by
  have hl : (q : Int) < 16 := by omega
  have h1 := hg q hq
  have hl2 : ((g q : Nat) : Int) < 16 := by omega
  have c1 := cell_arrV hc q hq
  have c2 := cell_arrV hb (g q) h1
  clear hg hb hc
  go_enter Try.func118, Try.ntmps118
  go_wp2_with fail


  go_ret
  exact ⟨rfl, Grew.refl _⟩
set_option maxHeartbeats 400000 in
theorem then_any (f g : Nat → Nat) (hf : Small f) (hg : Small g) (w : World) :
    Calls Try.prog 98 #[.agg (arrV 16 f), .agg (arrV 16 g)] w fun e w' => e = .returned (.agg (arrV 16 (thenF f g))) ∧ Grew w w' := by
  have HF := hid hf
  have HG := hid hg
  clear hf hg
  go_enter Try.func98, Try.ntmps98
  go_wp2_with fail
  refine (makeTrans_any _ #[.pointer (some ⟨w.heap.size, 0, none⟩), .pointer (some ⟨w.heap.size + 1, 0, none⟩)] (thenF f g) _ enter_then1 (fun q hq w' hb => then1_any _ _ q f g HF.out HG.out w' hq (heap_later hb (heap_alloc3_old _ _ _ _)) (heap_later hb (heap_alloc3_mid _ _ _ _)))).mono ?_
  rintro e w1 ⟨rfl, hb⟩
  have HR := hid (heap_later hb (heap_alloc3_new _ _ _ _))
  have HB := hid ((((Grew.alloc _ _).trans (Grew.alloc _ _)).trans (Grew.alloc _ _)).trans hb)
  clear hb
  go_wp2_with (first | (refine wpList_store_row rfl 53 _ _ rfl (w.heap.size + 1 + 1) (arrV 16 (thenF f g)) rfl rfl 53 (arrV 16 (fun _ => 0)) HR.out (info_transV _) (by simp only [arrV_size]) (arrV_one _ _) ?_) | fail)
  refine bodyPost_ret (results_cell_row rfl _ _ (w.heap.size + 1 + 1) 53 (arrV 16 (thenF f g)) (0, 0) _ rfl (setRow_heap _ _ _ _ _ _ HR.out) Try.underlying53 rfl (info_transV _)) rfl ?_
  exact ⟨rfl, below_setRow HB.out (by omega) _⟩
theorem enter_meet1 : ∀ a w, (callFunc 111 a).run Try.prog w = .ok (.enter 111 a) w := fun _ _ => by kernel_rfl
set_option maxHeartbeats 400000 in
theorem meet1_any (b c q : Nat) (f g : Nat → Nat) (hf : Small f) (hg : Small g) (w : World) (hq : q < 16) (hb : w.heap[b]? = some (.cells (arrV 16 f) 53 (0, 0))) (hc : w.heap[c]? = some (.cells (arrV 16 g) 53 (0, 0))) :
    Calls Try.prog 111 (#[.int .i64 q] ++ #[.pointer (some ⟨b, 0, none⟩), .pointer (some ⟨c, 0, none⟩)]) w fun e w' => e = .returned (.int .i64 ((meetF f g) q : Nat)) ∧ Grew w w' := by
  have hl : (q : Int) < 16 := by omega
  have b1 : f q < 65536 := by have := hf q hq; omega
  have b2 : g q < 65536 := by have := hg q hq; omega
  have c1 := cell_arrV hb q hq
  have c2 := cell_arrV hc q hq
  clear hf hg hb hc
  go_enter Try.func111, Try.ntmps111
  go_wp2_with fail
  go_quiet (fail)
  go_wp2_with fail
  go_ret
  exact ⟨rfl, Grew.drawn _ _⟩
set_option maxHeartbeats 400000 in
theorem meet_any (f g : Nat → Nat) (hf : Small f) (hg : Small g) (w : World) :
    Calls Try.prog 73 #[.agg (arrV 16 f), .agg (arrV 16 g)] w fun e w' => e = .returned (.agg (arrV 16 (meetF f g))) ∧ Grew w w' := by
  have HF := hid hf
  have HG := hid hg
  clear hf hg
  go_enter Try.func73, Try.ntmps73
  go_wp2_with fail
  refine (makeTrans_any _ #[.pointer (some ⟨w.heap.size, 0, none⟩), .pointer (some ⟨w.heap.size + 1, 0, none⟩)] (meetF f g) _ enter_meet1 (fun q hq w' hb => meet1_any _ _ q f g HF.out HG.out w' hq (heap_later hb (heap_alloc3_old _ _ _ _)) (heap_later hb (heap_alloc3_mid _ _ _ _)))).mono ?_
  rintro e w1 ⟨rfl, hb⟩
  have HR := hid (heap_later hb (heap_alloc3_new _ _ _ _))
  have HB := hid ((((Grew.alloc _ _).trans (Grew.alloc _ _)).trans (Grew.alloc _ _)).trans hb)
  clear hb
  go_wp2_with (first | (refine wpList_store_row rfl 53 _ _ rfl (w.heap.size + 1 + 1) (arrV 16 (meetF f g)) rfl rfl 53 (arrV 16 (fun _ => 0)) HR.out (info_transV _) (by simp only [arrV_size]) (arrV_one _ _) ?_) | fail)
  refine bodyPost_ret (results_cell_row rfl _ _ (w.heap.size + 1 + 1) 53 (arrV 16 (meetF f g)) (0, 0) _ rfl (setRow_heap _ _ _ _ _ _ HR.out) Try.underlying53 rfl (info_transV _)) rfl ?_
  exact ⟨rfl, below_setRow HB.out (by omega) _⟩
theorem enter_join1 : ∀ a w, (callFunc 112 a).run Try.prog w = .ok (.enter 112 a) w := fun _ _ => by kernel_rfl
set_option maxHeartbeats 400000 in
theorem join1_any (b c q : Nat) (f g : Nat → Nat) (hf : Small f) (hg : Small g) (w : World) (hq : q < 16) (hb : w.heap[b]? = some (.cells (arrV 16 f) 53 (0, 0))) (hc : w.heap[c]? = some (.cells (arrV 16 g) 53 (0, 0))) :
    Calls Try.prog 112 (#[.int .i64 q] ++ #[.pointer (some ⟨b, 0, none⟩), .pointer (some ⟨c, 0, none⟩)]) w fun e w' => e = .returned (.int .i64 ((joinF f g) q : Nat)) ∧ Grew w w' := by
  have hl : (q : Int) < 16 := by omega
  have b1 : f q < 65536 := by have := hf q hq; omega
  have b2 : g q < 65536 := by have := hg q hq; omega
  have c1 := cell_arrV hb q hq
  have c2 := cell_arrV hc q hq
  clear hf hg hb hc
  go_enter Try.func112, Try.ntmps112
  go_wp2_with fail
  go_quiet (fail)
  go_wp2_with fail
  go_ret
  exact ⟨rfl, Grew.drawn _ _⟩
set_option maxHeartbeats 400000 in
theorem join_any (f g : Nat → Nat) (hf : Small f) (hg : Small g) (w : World) :
    Calls Try.prog 76 #[.agg (arrV 16 f), .agg (arrV 16 g)] w fun e w' => e = .returned (.agg (arrV 16 (joinF f g))) ∧ Grew w w' := by
  have HF := hid hf
  have HG := hid hg
  clear hf hg
  go_enter Try.func76, Try.ntmps76
  go_wp2_with fail
  refine (makeTrans_any _ #[.pointer (some ⟨w.heap.size, 0, none⟩), .pointer (some ⟨w.heap.size + 1, 0, none⟩)] (joinF f g) _ enter_join1 (fun q hq w' hb => join1_any _ _ q f g HF.out HG.out w' hq (heap_later hb (heap_alloc3_old _ _ _ _)) (heap_later hb (heap_alloc3_mid _ _ _ _)))).mono ?_
  rintro e w1 ⟨rfl, hb⟩
  have HR := hid (heap_later hb (heap_alloc3_new _ _ _ _))
  have HB := hid ((((Grew.alloc _ _).trans (Grew.alloc _ _)).trans (Grew.alloc _ _)).trans hb)
  clear hb
  go_wp2_with (first | (refine wpList_store_row rfl 53 _ _ rfl (w.heap.size + 1 + 1) (arrV 16 (joinF f g)) rfl rfl 53 (arrV 16 (fun _ => 0)) HR.out (info_transV _) (by simp only [arrV_size]) (arrV_one _ _) ?_) | fail)
  refine bodyPost_ret (results_cell_row rfl _ _ (w.heap.size + 1 + 1) 53 (arrV 16 (joinF f g)) (0, 0) _ rfl (setRow_heap _ _ _ _ _ _ HR.out) Try.underlying53 rfl (info_transV _)) rfl ?_
  exact ⟨rfl, below_setRow HB.out (by omega) _⟩
theorem enter_dual1 : ∀ a w, (callFunc 120 a).run Try.prog w = .ok (.enter 120 a) w := fun _ _ => by kernel_rfl
set_option maxHeartbeats 400000 in
theorem dual1_any (b q : Nat) (f : Nat → Nat) (hf : Small f) (w : World) (hq : q < 16) (hb : w.heap[b]? = some (.cells (arrV 16 f) 53 (0, 0))) :
    Calls Try.prog 120 (#[.int .i64 q] ++ #[.pointer (some ⟨b, 0, none⟩)]) w fun e w' => e = .returned (.int .i64 ((dualF f) q : Nat)) ∧ Grew w w' := by
  have n1 := not_i64 q hq
  unfold notN at n1
  have hd := diff15_lt q
  have hl : ((diff 15 q : Nat) : Int) < 16 := by omega
  have n2 := not_i64 (f (diff 15 q)) (hf _ hd)
  unfold notN at n2
  have c1 := cell_arrV hb (diff 15 q) hd
  clear hf hb
  go_enter Try.func120, Try.ntmps120
  go_wp2_with fail


  go_ret
  exact ⟨rfl, Grew.refl _⟩
set_option maxHeartbeats 400000 in
theorem dual_any (f : Nat → Nat) (hf : Small f) (w : World) :
    Calls Try.prog 101 #[.agg (arrV 16 f)] w fun e w' => e = .returned (.agg (arrV 16 (dualF f))) ∧ Grew w w' := by
  have HF := hid hf
  clear hf
  go_enter Try.func101, Try.ntmps101
  go_wp2_with fail
  refine (makeTrans_any _ #[.pointer (some ⟨w.heap.size, 0, none⟩)] (dualF f) _ enter_dual1 (fun q hq w' hb => dual1_any _ q f HF.out w' hq (heap_later hb (heap_alloc2_old _ _ _)))).mono ?_
  rintro e w1 ⟨rfl, hb⟩
  have HR := hid (heap_later hb (heap_alloc2_new _ _ _))
  have HB := hid (((Grew.alloc _ _).trans (Grew.alloc _ _)).trans hb)
  clear hb
  go_wp2_with (first | (refine wpList_store_row rfl 53 _ _ rfl (w.heap.size + 1) (arrV 16 (dualF f)) rfl rfl 53 (arrV 16 (fun _ => 0)) HR.out (info_transV _) (by simp only [arrV_size]) (arrV_one _ _) ?_) | fail)
  refine bodyPost_ret (results_cell_row rfl _ _ (w.heap.size + 1) 53 (arrV 16 (dualF f)) (0, 0) _ rfl (setRow_heap _ _ _ _ _ _ HR.out) Try.underlying53 rfl (info_transV _)) rfl ?_
  exact ⟨rfl, below_setRow HB.out (by omega) _⟩
theorem enter_assume1 : ∀ a w, (callFunc 114 a).run Try.prog w = .ok (.enter 114 a) w := fun _ _ => by kernel_rfl
set_option maxHeartbeats 400000 in
theorem assume1_any (b q p : Nat) (w : World) (hq : q < 65536) (hp : p < 16) (hc : w.cell? ⟨b, 0, none⟩ = some (.int .i64 p)) :
    Calls Try.prog 114 (#[.int .i64 q] ++ #[.pointer (some ⟨b, 0, none⟩)]) w fun e w' => e = .returned (.int .i64 (assumeF p q : Nat)) ∧ Grew w w' := by
  have n1 := not_i64 p hp
  unfold notN at n1
  have hd : diff 15 p < 65536 := by have := diff15_lt p; omega
  go_enter Try.func114, Try.ntmps114
  go_wp2
  go_ret
  exact ⟨rfl, Grew.refl _⟩
set_option maxHeartbeats 400000 in
theorem assume_any (p : Nat) (hp : p < 16) (w : World) :
    Calls Try.prog 85 #[.int .i64 p] w fun e w' => e = .returned (.agg (arrV 16 (assumeF p))) ∧ Grew w w' := by
  go_enter Try.func85, Try.ntmps85
  go_wp2_with fail
  refine (makeTrans_any _ #[.pointer (some ⟨w.heap.size, 0, none⟩)] (assumeF p) _ enter_assume1 (fun q hq w' hb => assume1_any _ q p w' (by omega) hp (cell_later2 hb ?_))).mono ?_
  · go_simp
  rintro e w1 ⟨rfl, hb⟩
  have HR := hid (heap_later hb (heap_alloc2_new _ _ _))
  have HB := hid (((Grew.alloc _ _).trans (Grew.alloc _ _)).trans hb)
  clear hb
  go_wp2_with (first | (refine wpList_store_row rfl 53 _ _ rfl (w.heap.size + 1) (arrV 16 (assumeF p)) rfl rfl 53 (arrV 16 (fun _ => 0)) HR.out (info_transV _) (by simp only [arrV_size]) (arrV_one _ _) ?_) | fail)
  refine bodyPost_ret (results_cell_row rfl _ _ (w.heap.size + 1) 53 (arrV 16 (assumeF p)) (0, 0) _ rfl (setRow_heap _ _ _ _ _ _ HR.out) Try.underlying53 rfl (info_transV _)) rfl ?_
  exact ⟨rfl, below_setRow HB.out (by omega) _⟩
set_option maxHeartbeats 400000 in
theorem iAssumeT_yes (p : Nat) (hp : p < 16) (w : World) :
    Calls Try.prog 32 #[.int .i64 p] w fun e w' => e = .returned (.tuple #[.string (text (assumeF p) 16), .bool true]) ∧ Grew w w' := by
  go_enter Try.func32, Try.ntmps32
  go_wp2_with (first | (go_at_call 81; refine (icv_yes _ hp _).mono ?_; rintro e w' ⟨rfl, rfl⟩) | fail)
  refine (assume_any _ hp _).mono ?_
  rintro e w1 ⟨rfl, hb⟩
  go_wp2_with fail
  refine (transText_any _ (small_assume p) _).mono ?_
  rintro e w2 ⟨rfl, hb2⟩
  go_wp2_with fail
  go_ret2
  exact ⟨rfl, hb.trans hb2⟩
theorem iAssumeT_no (p : Int) (hp : p < 0 ∨ 15 < p) (w : World) :
    Calls Try.prog 32 #[.int .i64 p] w fun e w' => e = .returned (.tuple #[.string ByteArray.empty, .bool false]) ∧ Grew w w' := by
  have HN := hid hp
  clear hp
  go_enter Try.func32, Try.ntmps32
  go_wp2_with (first | (go_at_call 81; refine (icv_no _ HN.out _).mono ?_; rintro e w' ⟨rfl, rfl⟩) | fail)
  go_ret2
  exact ⟨rfl, Grew.refl _⟩
set_option maxHeartbeats 400000 in
/-- A bound method: its value is captured ahead of the argument. -/
theorem makeTransB_any (n : Nat) (v : Value) (F : Nat → Nat) (w : World) (hn : ∀ a w, (callFunc n a).run Try.prog w = .ok (.enter n a) w)
   (hf : ∀ p : Nat, p < 16 → ∀ w', Grew w w' → Calls Try.prog n #[v, .int .i64 p] w' fun e w'' => e = .returned (.int .i64 (F p : Nat)) ∧ Grew w' w'') :
    Calls Try.prog 103 #[.func (.func n) #[v] #[]] w fun e w' => e = .returned (.agg (arrV 16 F)) ∧ Grew w w' := by
  have HF := hid hf
  clear hf
  go_enter Try.func103, Try.ntmps103
  go_wp2_with fail
  go_loopw [4, 6] (fun _ u wr => ∃ k : Nat, k ≤ 16 ∧ u = .int .i64 k ∧ MkTr w F k wr) (fun _ u _ => 16 - (intOf u).toNat)
  case atStart => exact ⟨0, by omega, rfl, MkTr.start w F⟩
  case round =>
   obtain ⟨k, hk, rfl, hm⟩ := hrel
   by_cases hlt : k < 16
   · have hl1 : (k : Int) < 16 := by omega
     go_wp2_with fail
     refine (HF.out k hlt _ hm.1).mono ?_
     rintro e w1 ⟨rfl, hb1⟩
     have hm3 := hm.call hb1
     clear hb1 hm
     have hc1 := hm3.cell hlt
     have hc2 := hm3.free
     go_wp2_with fail
     go_roundw
     case rel => exact ⟨k + 1, by omega, by go_num, hm3.set⟩
     case measure => simp [intOf]; omega
   · obtain rfl : k = 16 := by omega
     obtain ⟨h1, h2, h3⟩ := hm
     have H1 := hid h1
     have H2 := hid h2
     have H3 := hid h3
     clear h1 h2 h3
     go_wp2_with (first | (refine wpList_load_row rfl 53 _ rfl (w.heap.size + 1) rfl _ _ _ _ H2.out Try.underlying53 rfl (info_transV _) ?_) | (refine wpList_store_row rfl 53 _ _ rfl w.heap.size (arrV 16 (mkAt F 16)) rfl rfl 53 _ H3.out (info_transV _) (by simp only [arrV_size]) (arrV_one _ _) ?_))
     refine bodyPost_ret (results_cell_row rfl _ _ w.heap.size 53 (arrV 16 (mkAt F 16)) (0, 0) _ rfl (setRow_heap _ _ _ _ _ _ H3.out) Try.underlying53 rfl (info_transV _)) rfl ?_
     exact ⟨by rw [mkAt_end], below_setRow H1.out (Nat.le_refl _) _⟩
set_option maxRecDepth 100000 in
set_option maxHeartbeats 1000000 in
theorem both_core (r q : ByteArray) (f g F : Nat → Nat) (b1 b2 : Bool) (n : Nat) (caps : Array Value) (hF : Small F) (w : World) (hn : ∀ a w, (callFunc n a).run Try.prog w = .ok (.enter n a) w)
    (h1 : ∀ w, Calls Try.prog 64 #[.string r] w fun e w' => e = .returned (.tuple #[.agg (arrV 16 f), .bool b1]) ∧ Grew w w')
    (h2 : ∀ w, Calls Try.prog 64 #[.string q] w fun e w' => e = .returned (.tuple #[.agg (arrV 16 g), .bool b2]) ∧ Grew w w')
    (hf : b1 = true → b2 = true → ∀ w', Grew w w' → Calls Try.prog n (#[.agg (arrV 16 f), .agg (arrV 16 g)] ++ caps) w' fun e w'' => e = .returned (.agg (arrV 16 F)) ∧ Grew w' w'') :
    Calls Try.prog 72 #[.string r, .string q, .func (.func n) #[] caps] w fun e w' => e = .returned (if b1 && b2 then .tuple #[.string (text F 16), .bool true] else .tuple #[.string ByteArray.empty, .bool false]) ∧ Grew w w' := by
  have H1 := hid h1
  have H2 := hid h2
  have HC := hid hf
  have HF := hid hF
  clear h1 h2 hf hF
  go_enter Try.func72, Try.ntmps72
  go_wp2_with fail
  refine (H1.out _).mono ?_
  rintro e w1 ⟨rfl, hg1⟩
  have HG1 := hid hg1
  clear hg1
  go_wp2_with (first | (refine wpList_store_row rfl 53 _ _ rfl (w1.heap.size) (arrV 16 f) rfl rfl 53 (arrV 16 (fun _ => 0)) (heap_alloc_new _ _) (info_transV _) (by simp only [arrV_size]) (arrV_one _ _) ?_) | fail)
  refine (H2.out _).mono ?_
  rintro e w2 ⟨rfl, hg2⟩
  have hx := heap_later hg2 (setRow_heap _ _ _ (arrV 16 f) _ _ (heap_alloc_new w1 (.cells (#[.int .i64 0, .int .i64 0, .int .i64 0, .int .i64 0, .int .i64 0, .int .i64 0, .int .i64 0, .int .i64 0, .int .i64 0, .int .i64 0, .int .i64 0, .int .i64 0, .int .i64 0, .int .i64 0, .int .i64 0, .int .i64 0] : Array Value) 53 (0, 0))))
  have HG2 := hid ((HG1.out.trans (Grew.row _ _ _)).trans hg2)
  have HX := hid (heap_later (Grew.row w2 (.cells (#[.int .i64 0, .int .i64 0, .int .i64 0, .int .i64 0, .int .i64 0, .int .i64 0, .int .i64 0, .int .i64 0, .int .i64 0, .int .i64 0, .int .i64 0, .int .i64 0, .int .i64 0, .int .i64 0, .int .i64 0, .int .i64 0] : Array Value) 53 (0, 0)) (arrV 16 g)) hx)
  clear hg2 hx
  cases b1
  · go_wp2_with (first | (refine wpList_store_row rfl 53 _ _ rfl (w2.heap.size) (arrV 16 g) rfl rfl 53 (arrV 16 (fun _ => 0)) (heap_alloc_new _ _) (info_transV _) (by simp only [arrV_size]) (arrV_one _ _) ?_) | fail)
    go_ret2
    exact ⟨rfl, HG2.out.trans (Grew.row _ _ _)⟩
  · cases b2
    · go_wp2_with (first | (refine wpList_store_row rfl 53 _ _ rfl (w2.heap.size) (arrV 16 g) rfl rfl 53 (arrV 16 (fun _ => 0)) (heap_alloc_new _ _) (info_transV _) (by simp only [arrV_size]) (arrV_one _ _) ?_) | fail)
      go_ret2
      exact ⟨rfl, HG2.out.trans (Grew.row _ _ _)⟩
    · go_wp2_with (first | (refine wpList_store_row rfl 53 _ _ rfl (w2.heap.size) (arrV 16 g) rfl rfl 53 (arrV 16 (fun _ => 0)) (heap_alloc_new _ _) (info_transV _) (by simp only [arrV_size]) (arrV_one _ _) ?_) | (refine wpList_load_row rfl 53 _ rfl (w1.heap.size) rfl _ _ _ _ HX.out Try.underlying53 rfl (info_transV _) ?_) | (refine wpList_load_row rfl 53 _ rfl (w2.heap.size) rfl _ _ _ _ (setRow_heap _ _ _ _ _ _ (heap_alloc_new _ _)) Try.underlying53 rfl (info_transV _) ?_))
      refine (HC.out (by simp) (by simp) _ (HG2.out.trans (Grew.row _ _ _))).mono ?_
      rintro e w3 ⟨rfl, hg3⟩
      have HG3 := hid ((HG2.out.trans (Grew.row _ _ _)).trans hg3)
      clear hg3
      go_wp2_with fail
      refine (transText_any _ HF.out _).mono ?_
      rintro e w4 ⟨rfl, hg4⟩
      go_wp2_with fail
      go_ret2
      exact ⟨rfl, HG3.out.trans hg4⟩
theorem both_yes (r q : ByteArray) (hr : TValid r) (hq : TValid q) (F : Nat → Nat) (n : Nat) (caps : Array Value) (hF : Small F) (w : World) (hn : ∀ a w, (callFunc n a).run Try.prog w = .ok (.enter n a) w)
    (hf : ∀ w', Grew w w' → Calls Try.prog n (#[.agg (arrV 16 (dv r)), .agg (arrV 16 (dv q))] ++ caps) w' fun e w'' => e = .returned (.agg (arrV 16 F)) ∧ Grew w' w'') :
    Calls Try.prog 72 #[.string r, .string q, .func (.func n) #[] caps] w fun e w' => e = .returned (.tuple #[.string (text F 16), .bool true]) ∧ Grew w w' :=
  both_core r q (dv r) (dv q) F true true n caps hF w hn (readTrans_yes r hr) (readTrans_yes q hq) (fun _ _ => hf)
theorem both_no (r q : ByteArray) (h : ¬ (TValid r ∧ TValid q)) (n : Nat) (caps : Array Value) (w : World) (hn : ∀ a w, (callFunc n a).run Try.prog w = .ok (.enter n a) w) :
    Calls Try.prog 72 #[.string r, .string q, .func (.func n) #[] caps] w fun e w' => e = .returned (.tuple #[.string ByteArray.empty, .bool false]) ∧ Grew w w' := by
  by_cases hr : TValid r
  · have hq : ¬ TValid q := fun hq => h ⟨hr, hq⟩
    exact both_core r q (dv r) (fun _ => 0) (fun _ => 0) true false n caps small_zero w hn (readTrans_yes r hr) (readTrans_no q hq) (fun _ h => absurd h (by decide))
  · by_cases hq : TValid q
    · exact both_core r q (fun _ => 0) (dv q) (fun _ => 0) false true n caps small_zero w hn (readTrans_no r hr) (readTrans_yes q hq) (fun h => absurd h (by decide))
    · exact both_core r q (fun _ => 0) (fun _ => 0) (fun _ => 0) false false n caps small_zero w hn (readTrans_no r hr) (readTrans_no q hq) (fun h => absurd h (by decide))
theorem small_thenT (t u : ByteArray) : Small (thenF (dv t) (dv u)) := small_then (small_dv t) (small_dv u)
theorem small_meetT (t u : ByteArray) : Small (meetF (dv t) (dv u)) := small_meet (g := dv u) (small_dv t)
theorem small_joinT (t u : ByteArray) : Small (joinF (dv t) (dv u)) := small_join (small_dv t) (small_dv u)
theorem enter_then : ∀ a w, (callFunc 98 a).run Try.prog w = .ok (.enter 98 a) w := fun _ _ => by kernel_rfl
set_option maxHeartbeats 400000 in
theorem iThenT_yes (t u : ByteArray) (ht : TValid t) (hu : TValid u) (w : World) :
    Calls Try.prog 49 #[.string t, .string u] w fun e w' => e = .returned (.tuple #[.string (text (thenF (dv t) (dv u)) 16), .bool true]) ∧ Grew w w' := by
  have HT := hid ht
  have HU := hid hu
  clear ht hu
  go_enter Try.func49, Try.ntmps49
  go_wp2_with fail
  refine (both_yes t u HT.out HU.out (thenF (dv t) (dv u)) _ #[] (small_thenT t u) _ enter_then (fun w' _ => then_any (dv t) (dv u) (small_dv t) (small_dv u) w')).mono ?_
  rintro e w1 ⟨rfl, hg⟩
  go_wp2_with fail
  go_ret2
  exact ⟨rfl, hg⟩
theorem iThenT_no (t u : ByteArray) (h : ¬ (TValid t ∧ TValid u)) (w : World) :
    Calls Try.prog 49 #[.string t, .string u] w fun e w' => e = .returned (.tuple #[.string ByteArray.empty, .bool false]) ∧ Grew w w' := by
  have HH := hid h
  clear h
  go_enter Try.func49, Try.ntmps49
  go_wp2_with fail
  refine (both_no t u HH.out _ #[] _ enter_then).mono ?_
  rintro e w1 ⟨rfl, hg⟩
  go_wp2_with fail
  go_ret2
  exact ⟨rfl, hg⟩
theorem enter_meet : ∀ a w, (callFunc 73 a).run Try.prog w = .ok (.enter 73 a) w := fun _ _ => by kernel_rfl
set_option maxHeartbeats 400000 in
theorem iMeetT_yes (t u : ByteArray) (ht : TValid t) (hu : TValid u) (w : World) :
    Calls Try.prog 20 #[.string t, .string u] w fun e w' => e = .returned (.tuple #[.string (text (meetF (dv t) (dv u)) 16), .bool true]) ∧ Grew w w' := by
  have HT := hid ht
  have HU := hid hu
  clear ht hu
  go_enter Try.func20, Try.ntmps20
  go_wp2_with fail
  refine (both_yes t u HT.out HU.out (meetF (dv t) (dv u)) _ #[] (small_meetT t u) _ enter_meet (fun w' _ => meet_any (dv t) (dv u) (small_dv t) (small_dv u) w')).mono ?_
  rintro e w1 ⟨rfl, hg⟩
  go_wp2_with fail
  go_ret2
  exact ⟨rfl, hg⟩
theorem iMeetT_no (t u : ByteArray) (h : ¬ (TValid t ∧ TValid u)) (w : World) :
    Calls Try.prog 20 #[.string t, .string u] w fun e w' => e = .returned (.tuple #[.string ByteArray.empty, .bool false]) ∧ Grew w w' := by
  have HH := hid h
  clear h
  go_enter Try.func20, Try.ntmps20
  go_wp2_with fail
  refine (both_no t u HH.out _ #[] _ enter_meet).mono ?_
  rintro e w1 ⟨rfl, hg⟩
  go_wp2_with fail
  go_ret2
  exact ⟨rfl, hg⟩
theorem enter_join : ∀ a w, (callFunc 76 a).run Try.prog w = .ok (.enter 76 a) w := fun _ _ => by kernel_rfl
set_option maxHeartbeats 400000 in
theorem iJoinT_yes (t u : ByteArray) (ht : TValid t) (hu : TValid u) (w : World) :
    Calls Try.prog 22 #[.string t, .string u] w fun e w' => e = .returned (.tuple #[.string (text (joinF (dv t) (dv u)) 16), .bool true]) ∧ Grew w w' := by
  have HT := hid ht
  have HU := hid hu
  clear ht hu
  go_enter Try.func22, Try.ntmps22
  go_wp2_with fail
  refine (both_yes t u HT.out HU.out (joinF (dv t) (dv u)) _ #[] (small_joinT t u) _ enter_join (fun w' _ => join_any (dv t) (dv u) (small_dv t) (small_dv u) w')).mono ?_
  rintro e w1 ⟨rfl, hg⟩
  go_wp2_with fail
  go_ret2
  exact ⟨rfl, hg⟩
theorem iJoinT_no (t u : ByteArray) (h : ¬ (TValid t ∧ TValid u)) (w : World) :
    Calls Try.prog 22 #[.string t, .string u] w fun e w' => e = .returned (.tuple #[.string ByteArray.empty, .bool false]) ∧ Grew w w' := by
  have HH := hid h
  clear h
  go_enter Try.func22, Try.ntmps22
  go_wp2_with fail
  refine (both_no t u HH.out _ #[] _ enter_join).mono ?_
  rintro e w1 ⟨rfl, hg⟩
  go_wp2_with fail
  go_ret2
  exact ⟨rfl, hg⟩
theorem enter_alone1 : ∀ a w, (callFunc 119 a).run Try.prog w = .ok (.enter 119 a) w := fun _ _ => by kernel_rfl
set_option maxHeartbeats 400000 in
theorem alone1_any (b n : Nat) (f g F : Nat → Nat) (w : World) (hn : ∀ a w, (callFunc n a).run Try.prog w = .ok (.enter n a) w) (hc : w.cell? ⟨b, 0, none⟩ = some (.func (.func n) #[] #[]))
    (hf : ∀ w', Grew w w' → Calls Try.prog n #[.agg (arrV 16 f)] w' fun e w'' => e = .returned (.agg (arrV 16 F)) ∧ Grew w' w'') :
    Calls Try.prog 119 (#[.agg (arrV 16 f), .agg (arrV 16 g)] ++ #[.pointer (some ⟨b, 0, none⟩)]) w fun e w' => e = .returned (.agg (arrV 16 F)) ∧ Grew w w' := by
  have HC := hid hf
  have hc2 := cell_later2 (((Grew.alloc w (.cells (arrV 16 f) 53 (0, 0))).trans (Grew.alloc _ (.cells (arrV 16 g) 53 (0, 0)))).trans (Grew.alloc _ (.cells (#[.int .i64 0, .int .i64 0, .int .i64 0, .int .i64 0, .int .i64 0, .int .i64 0, .int .i64 0, .int .i64 0, .int .i64 0, .int .i64 0, .int .i64 0, .int .i64 0, .int .i64 0, .int .i64 0, .int .i64 0, .int .i64 0] : Array Value) 53 (0, 0)))) hc
  clear hf hc
  go_enter Try.func119, Try.ntmps119
  go_wp2_with (first | (refine wpList_load_row rfl 53 _ rfl (w.heap.size) rfl _ _ _ _ (heap_alloc3_old _ _ _ _) Try.underlying53 rfl (info_transV _) ?_) | fail)
  refine (HC.out _ (((Grew.alloc _ _).trans (Grew.alloc _ _)).trans (Grew.alloc _ _))).mono ?_
  rintro e w1 ⟨rfl, hb⟩
  have HR := hid (heap_later hb (heap_alloc3_new _ _ _ _))
  have HB := hid ((((Grew.alloc _ _).trans (Grew.alloc _ _)).trans (Grew.alloc _ _)).trans hb)
  clear hb
  go_wp2_with (first | (refine wpList_store_row rfl 53 _ _ rfl (w.heap.size + 1 + 1) (arrV 16 F) rfl rfl 53 (arrV 16 (fun _ => 0)) HR.out (info_transV _) (by simp only [arrV_size]) (arrV_one _ _) ?_) | fail)
  refine bodyPost_ret (results_cell_row rfl _ _ (w.heap.size + 1 + 1) 53 (arrV 16 F) (0, 0) _ rfl (setRow_heap _ _ _ _ _ _ HR.out) Try.underlying53 rfl (info_transV _)) rfl ?_
  exact ⟨rfl, below_setRow HB.out (by omega) _⟩
set_option maxHeartbeats 400000 in
theorem alone_yes (t : ByteArray) (ht : TValid t) (F : Nat → Nat) (n : Nat) (hF : Small F) (w : World) (hn : ∀ a w, (callFunc n a).run Try.prog w = .ok (.enter n a) w)
    (hf : ∀ w', Calls Try.prog n #[.agg (arrV 16 (dv t))] w' fun e w'' => e = .returned (.agg (arrV 16 F)) ∧ Grew w' w'') :
    Calls Try.prog 100 #[.string t, .func (.func n) #[] #[]] w fun e w' => e = .returned (.tuple #[.string (text F 16), .bool true]) ∧ Grew w w' := by
  have HT := hid ht
  have HC := hid hf
  have HF := hid hF
  clear ht hf hF
  go_enter Try.func100, Try.ntmps100
  go_wp2_with fail
  refine (both_yes t t HT.out HT.out F _ #[.pointer (some ⟨w.heap.size, 0, none⟩)] HF.out _ enter_alone1 (fun w' hb => alone1_any _ n (dv t) (dv t) F w' hn (cell_later2 hb (cell_alloc_one _ _ _ _)) (fun w' _ => HC.out w'))).mono ?_
  rintro e w1 ⟨rfl, hg⟩
  go_wp2_with fail
  go_ret2
  exact ⟨rfl, (Grew.alloc _ _).trans hg⟩
theorem alone_no (t : ByteArray) (ht : ¬ TValid t) (n : Nat) (w : World) :
    Calls Try.prog 100 #[.string t, .func (.func n) #[] #[]] w fun e w' => e = .returned (.tuple #[.string ByteArray.empty, .bool false]) ∧ Grew w w' := by
  have HT := hid ht
  clear ht
  go_enter Try.func100, Try.ntmps100
  go_wp2_with fail
  refine (both_no t t (fun h => HT.out h.1) _ #[.pointer (some ⟨w.heap.size, 0, none⟩)] _ enter_alone1).mono ?_
  rintro e w1 ⟨rfl, hg⟩
  go_wp2_with fail
  go_ret2
  exact ⟨rfl, (Grew.alloc _ _).trans hg⟩
theorem enter_dual : ∀ a w, (callFunc 101 a).run Try.prog w = .ok (.enter 101 a) w := fun _ _ => by kernel_rfl
theorem iDualT_yes (t : ByteArray) (ht : TValid t) (w : World) :
    Calls Try.prog 51 #[.string t] w fun e w' => e = .returned (.tuple #[.string (text (dualF (dv t)) 16), .bool true]) ∧ Grew w w' := by
  have HT := hid ht
  clear ht
  go_enter Try.func51, Try.ntmps51
  go_wp2_with fail
  refine (alone_yes t HT.out (dualF (dv t)) _ (small_dual _) _ enter_dual (fun w' => dual_any (dv t) (small_dv t) w')).mono ?_
  rintro e w1 ⟨rfl, hg⟩
  go_wp2_with fail
  go_ret2
  exact ⟨rfl, hg⟩
theorem iDualT_no (t : ByteArray) (ht : ¬ TValid t) (w : World) :
    Calls Try.prog 51 #[.string t] w fun e w' => e = .returned (.tuple #[.string ByteArray.empty, .bool false]) ∧ Grew w w' := by
  have HT := hid ht
  clear ht
  go_enter Try.func51, Try.ntmps51
  go_wp2_with fail
  refine (alone_no t HT.out _ _).mono ?_
  rintro e w1 ⟨rfl, hg⟩
  go_wp2_with fail
  go_ret2
  exact ⟨rfl, hg⟩
set_option maxHeartbeats 400000 in
theorem refined_any (f g : Nat → Nat) (hf : Small f) (hg : Small g) (w : World) :
    Calls Try.prog 79 #[.agg (arrV 16 f), .agg (arrV 16 g)] w fun e w' => e = .returned (.bool (allSub f g 16)) ∧ Grew w w' := by
  have HF := hid hf
  have HG := hid hg
  clear hf hg
  go_enter Try.func79, Try.ntmps79
  go_wp2_with fail
  go_loopw [5, 6] (fun _ u wr => ∃ s : Nat, s ≤ 16 ∧ u = .int .i64 s ∧ (∀ i, i < s → sub (f i) (g i) = true) ∧ Grew w wr ∧
      wr.heap[w.heap.size]? = some (.cells (arrV 16 f) 53 (0, 0)) ∧ wr.heap[w.heap.size + 1]? = some (.cells (arrV 16 g) 53 (0, 0))) (fun _ u _ => 16 - (intOf u).toNat)
  case atStart => exact ⟨0, by omega, rfl, fun i hi => by omega, (Grew.alloc _ _).trans (Grew.alloc _ _), heap_alloc2_old _ _ _, heap_alloc2_new _ _ _⟩
  case round =>
    obtain ⟨s, hs, rfl, ha, hgr, hx, hy⟩ := hrel
    have HA := hid ha
    have HGR := hid hgr
    have HX2 := hid hx
    have HY2 := hid hy
    clear ha hgr hx hy
    by_cases h0 : s < 16
    · have h0' : (s : Int) < 16 := by omega
      have c1 := cell_arrV HX2.out s h0
      have c2 := cell_arrV HY2.out s h0
      have b1' : f s < 65536 := by have := HF.out s h0; omega
      have b2' : g s < 65536 := by have := HG.out s h0; omega
      have a2 := andNot_i64 (f s) (g s) b1' b2'
      have a4 := diff_ne (f s) (g s)
      cases g2 : sub (f s) (g s)
      · rw [g2] at a4
        have G2 := hid g2
        clear g2
        go_wp2_with fail
        go_quiet (fail)
        go_wp2_with fail
        go_ret
        exact ⟨by rw [allSub_no h0 G2.out]; rfl, HGR.out.trans (Grew.drawn _ _)⟩
      · rw [g2] at a4
        have G2 := hid g2
        clear g2
        go_wp2_with fail
        go_quiet (fail)
        go_wp2_with fail
        go_roundw
        case rel =>
          refine ⟨s + 1, by omega, by go_num, fun i hi => ?_, HGR.out.trans (Grew.drawn _ _), HX2.out, HY2.out⟩
          by_cases e : i = s
          · subst e; exact G2.out
          · exact HA.out i (by omega)
        case measure => simp [intOf]; omega
    · obtain rfl : s = 16 := by omega
      have key := hid ((allSub_iff f g 16).2 HA.out)
      go_wp2_with fail
      go_ret
      exact ⟨by rw [key.out]; rfl, HGR.out⟩
set_option maxRecDepth 100000 in
set_option maxHeartbeats 1000000 in
theorem refines_core (r q : ByteArray) (f g : Nat → Nat) (b1 b2 : Bool) (hf : Small f) (hg : Small g)
    (h1 : ∀ w, Calls Try.prog 64 #[.string r] w fun e w' => e = .returned (.tuple #[.agg (arrV 16 f), .bool b1]) ∧ Grew w w')
    (h2 : ∀ w, Calls Try.prog 64 #[.string q] w fun e w' => e = .returned (.tuple #[.agg (arrV 16 g), .bool b2]) ∧ Grew w w') (w : World) :
    Calls Try.prog 25 #[.string r, .string q] w fun e w' => e = .returned (.bool (b1 && b2 && allSub f g 16)) ∧ Grew w w' := by
  have H1 := hid h1
  have H2 := hid h2
  have HF := hid hf
  have HG := hid hg
  clear h1 h2 hf hg
  go_enter Try.func25, Try.ntmps25
  go_wp2_with fail
  refine (H1.out _).mono ?_
  rintro e w1 ⟨rfl, hg1⟩
  have HG1 := hid hg1
  clear hg1
  go_wp2_with (first | (refine wpList_store_row rfl 53 _ _ rfl (w1.heap.size) (arrV 16 f) rfl rfl 53 (arrV 16 (fun _ => 0)) (heap_alloc_new _ _) (info_transV _) (by simp only [arrV_size]) (arrV_one _ _) ?_) | fail)
  refine (H2.out _).mono ?_
  rintro e w2 ⟨rfl, hg2⟩
  have hx := heap_later hg2 (setRow_heap _ _ _ (arrV 16 f) _ _ (heap_alloc_new w1 (.cells (#[.int .i64 0, .int .i64 0, .int .i64 0, .int .i64 0, .int .i64 0, .int .i64 0, .int .i64 0, .int .i64 0, .int .i64 0, .int .i64 0, .int .i64 0, .int .i64 0, .int .i64 0, .int .i64 0, .int .i64 0, .int .i64 0] : Array Value) 53 (0, 0))))
  have HG2 := hid ((HG1.out.trans (Grew.row _ _ _)).trans hg2)
  have HX := hid (heap_later (Grew.row w2 (.cells (#[.int .i64 0, .int .i64 0, .int .i64 0, .int .i64 0, .int .i64 0, .int .i64 0, .int .i64 0, .int .i64 0, .int .i64 0, .int .i64 0, .int .i64 0, .int .i64 0, .int .i64 0, .int .i64 0, .int .i64 0, .int .i64 0] : Array Value) 53 (0, 0)) (arrV 16 g)) hx)
  clear hg2 hx
  cases b1
  · go_wp2_with (first | (refine wpList_store_row rfl 53 _ _ rfl (w2.heap.size) (arrV 16 g) rfl rfl 53 (arrV 16 (fun _ => 0)) (heap_alloc_new _ _) (info_transV _) (by simp only [arrV_size]) (arrV_one _ _) ?_) | fail)
    go_ret
    exact ⟨rfl, HG2.out.trans (Grew.row _ _ _)⟩
  · cases b2
    · go_wp2_with (first | (refine wpList_store_row rfl 53 _ _ rfl (w2.heap.size) (arrV 16 g) rfl rfl 53 (arrV 16 (fun _ => 0)) (heap_alloc_new _ _) (info_transV _) (by simp only [arrV_size]) (arrV_one _ _) ?_) | fail)
      go_ret
      exact ⟨rfl, HG2.out.trans (Grew.row _ _ _)⟩
    · go_wp2_with (first | (refine wpList_store_row rfl 53 _ _ rfl (w2.heap.size) (arrV 16 g) rfl rfl 53 (arrV 16 (fun _ => 0)) (heap_alloc_new _ _) (info_transV _) (by simp only [arrV_size]) (arrV_one _ _) ?_) | (refine wpList_load_rowG rfl 53 _ rfl (w1.heap.size) rfl _ _ _ _ HX.out Try.underlying53 rfl (info_transV _) ?_) | (refine wpList_load_rowG rfl 53 _ rfl (w2.heap.size) rfl _ _ _ _ (setRow_heap _ _ _ _ _ _ (heap_alloc_new _ _)) Try.underlying53 rfl (info_transV _) ?_))
      refine (refined_any f g HF.out HG.out _).mono ?_
      rintro e w3 ⟨rfl, hg3⟩
      have HG3 := hid ((HG2.out.trans (Grew.row _ _ _)).trans hg3)
      clear hg3
      go_wp2_with fail
      go_ret
      exact ⟨rfl, HG3.out⟩
theorem iRefines_yes (r q : ByteArray) (hr : TValid r) (hq : TValid q) (w : World) :
    Calls Try.prog 25 #[.string r, .string q] w fun e w' => e = .returned (.bool (allSub (dv r) (dv q) 16)) ∧ Grew w w' := by
  have := refines_core r q (dv r) (dv q) true true (small_dv r) (small_dv q) (readTrans_yes r hr) (readTrans_yes q hq) w
  simpa using this
theorem iRefines_no (r q : ByteArray) (h : ¬ (TValid r ∧ TValid q)) (w : World) :
    Calls Try.prog 25 #[.string r, .string q] w fun e w' => e = .returned (.bool false) ∧ Grew w w' := by
  by_cases hr : TValid r
  · have hq : ¬ TValid q := fun hq => h ⟨hr, hq⟩
    have := refines_core r q (dv r) (fun _ => 0) true false (small_dv r) small_zero (readTrans_yes r hr) (readTrans_no q hq) w
    simpa using this
  · by_cases hq : TValid q
    · have := refines_core r q (fun _ => 0) (dv q) false true small_zero (small_dv q) (readTrans_no r hr) (readTrans_yes q hq) w
      simpa using this
    · have := refines_core r q (fun _ => 0) (fun _ => 0) false false small_zero small_zero (readTrans_no r hr) (readTrans_no q hq) w
      simpa using this
theorem enter_tfamily1 : ∀ a w, (callFunc 109 a).run Try.prog w = .ok (.enter 109 a) w := fun _ _ => by kernel_rfl
set_option maxHeartbeats 400000 in
theorem tfamily1_any (b c q s : Nat) (f : Nat → Nat) (hf : Small f) (w : World) (hq : q < 16) (hs : s < 4) (hb : w.heap[b]? = some (.cells (arrV 16 f) 53 (0, 0))) (hc : w.cell? ⟨c, 0, none⟩ = some (.int .i64 s)) :
    Calls Try.prog 109 (#[.int .i64 q] ++ #[.pointer (some ⟨b, 0, none⟩), .pointer (some ⟨c, 0, none⟩)]) w fun e w' => e = .returned (.bool (has (f q) s)) ∧ Grew w w' := by
  have hl : (q : Int) < 16 := by omega
  have b1 : f q < 65536 := by have := hf q hq; omega
  have b2 : s < 16 := by omega
  have c1 := cell_arrV hb q hq
  clear hf hb
  go_enter Try.func109, Try.ntmps109
  go_wp2_with fail
  go_quiet (fail)
  go_wp2_with fail
  go_ret
  exact ⟨rfl, Grew.drawn _ _⟩
set_option maxHeartbeats 400000 in
theorem tfamily_any (f : Nat → Nat) (hf : Small f) (s : Nat) (hs : s < 4) (w : World) :
    Calls Try.prog 66 #[.agg (arrV 16 f), .int .i64 s] w fun e w' => e = .returned (.int .i64 (famF f s : Nat)) ∧ Grew w w' := by
  have HF := hid hf
  clear hf
  go_enter Try.func66, Try.ntmps66
  go_wp2_with fail
  refine (family_any _ #[.pointer (some ⟨w.heap.size, 0, none⟩), .pointer (some ⟨w.heap.size + 1, 0, none⟩)] (fun q => has (f q) s) _ enter_tfamily1 (fun q hq w' hb => tfamily1_any _ _ q s f HF.out w' hq hs (heap_later hb (heap_alloc2_old _ _ _)) (cell_later2 hb ?_))).mono ?_
  · rw [cell_of_row _ _ _ _ _ _ (heap_alloc2_new _ _ _)]; rfl
  rintro e w1 ⟨rfl, hb⟩
  go_wp2_with fail
  go_ret
  exact ⟨rfl, ((Grew.alloc _ _).trans (Grew.alloc _ _)).trans hb⟩
set_option maxHeartbeats 400000 in
theorem iFamilyOf_yes (t : ByteArray) (s : Nat) (ht : TValid t) (hs : s < 4) (w : World) :
    Calls Try.prog 16 #[.string t, .int .i64 s] w fun e w' => e = .returned (.int .i64 (famF (dv t) s : Nat)) ∧ Grew w w' := by
  have HV := hid ht
  clear ht
  go_enter Try.func16, Try.ntmps16
  go_wp2_with fail
  refine (readTrans_yes t HV.out _).mono ?_
  rintro e w1 ⟨rfl, hg⟩
  have HG := hid hg
  clear hg
  go_wp2_with (first | (refine wpList_store_row rfl 53 _ _ rfl (w1.heap.size) (arrV 16 (dv t)) rfl rfl 53 (arrV 16 (fun _ => 0)) (heap_alloc_new _ _) (info_transV _) (by simp only [arrV_size]) (arrV_one _ _) ?_) | (go_at_call 65; refine (ist_yes _ hs _).mono ?_; rintro e w' ⟨rfl, rfl⟩) | (refine wpList_load_row rfl 53 _ rfl (w1.heap.size) rfl _ _ _ _ (setRow_heap _ _ _ _ _ _ (heap_alloc_new _ _)) Try.underlying53 rfl (info_transV _) ?_))
  refine (tfamily_any (dv t) (small_dv t) s hs _).mono ?_
  rintro e w2 ⟨rfl, hg2⟩
  go_wp2_with fail
  go_ret
  exact ⟨rfl, HG.out.trans ((Grew.row _ _ _).trans hg2)⟩
set_option maxHeartbeats 400000 in
theorem iFamilyOf_no (t : ByteArray) (s : Int) (h : ¬ TValid t ∨ stateI s = false) (w : World) :
    Calls Try.prog 16 #[.string t, .int .i64 s] w fun e w' => e = .returned (.int .i64 (-1)) ∧ Grew w w' := by
  by_cases hv : TValid t
  · have hp := stateI_or s (h.resolve_left (fun x => x hv))
    have HP := hid hp
    have HV := hid hv
    clear hv h hp
    go_enter Try.func16, Try.ntmps16
    go_wp2_with fail
    refine (readTrans_yes t HV.out _).mono ?_
    rintro e w1 ⟨rfl, hg⟩
    have HG := hid hg
    clear hg
    go_wp2_with (first | (refine wpList_store_row rfl 53 _ _ rfl (w1.heap.size) (arrV 16 (dv t)) rfl rfl 53 (arrV 16 (fun _ => 0)) (heap_alloc_new _ _) (info_transV _) (by simp only [arrV_size]) (arrV_one _ _) ?_) | (go_at_call 65; refine (ist_no _ HP.out _).mono ?_; rintro e w' ⟨rfl, rfl⟩) | fail)
    go_ret
    exact ⟨rfl, HG.out.trans (Grew.row _ _ _)⟩
  · have HV := hid hv
    clear hv h
    go_enter Try.func16, Try.ntmps16
    go_wp2_with fail
    refine (readTrans_no t HV.out _).mono ?_
    rintro e w1 ⟨rfl, hg⟩
    have HG := hid hg
    clear hg
    go_wp2_with (first | (refine wpList_store_row rfl 53 _ _ rfl (w1.heap.size) (arrV 16 (fun _ => 0)) rfl rfl 53 (arrV 16 (fun _ => 0)) (heap_alloc_new _ _) (info_transV _) (by simp only [arrV_size]) (arrV_one _ _) ?_) | fail)
    go_ret
    exact ⟨rfl, HG.out.trans (Grew.row _ _ _)⟩
end Go.Proofs.Ytipkalbomjfckaa
