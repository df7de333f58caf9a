/-
  Proved here: that the reference's generators of relations and transformers return some texts of digits, and write to their own memory alone.
-/
import Derived.Test.YtipkalbomjfckaaD1
import Derived.Test.YtipkalbomjfckaaK8
import Derived.Deep.RegionWith
import Derived.BigRegion
namespace Go.Proofs.Ytipkalbomjfckaa
open Go.RowKit
def SomeV (n B m : Nat) (w : World) (e : Ending) (w' : World) : Prop := ∃ s : ByteArray, Valid n s ∧ e = .returned (.string s) ∧ Only B w w' ∧ Rdy w' B m
def SomeS (B m : Nat) (w : World) (e : Ending) (w' : World) : Prop := ∃ s : ByteArray, s.size ≤ 1048576 ∧ e = .returned (.string s) ∧ Only B w w' ∧ Rdy w' B m
theorem text_push (f : Nat → Nat) (s n : Nat) : text f s ++ dig n = text (fun i => if i = s then n else f i) (s + 1) := by
  rw [← text_succ, text_congr f (fun i => if i = s then n else f i) s (fun i hi => by simp [Nat.ne_of_lt hi])]
  simp
theorem push_small (f : Nat → Nat) (s n : Nat) (hn : n < 16) (hf : ∀ i, i < s → f i < 16) : ∀ i, i < s + 1 → (fun i => if i = s then n else f i) i < 16 := fun i hi => by
  by_cases e : i = s
  · simp [e, hn]
  · simp [e]; exact hf i (by omega)
set_option maxHeartbeats 1000000 in
theorem l2Some_any (B m : Nat) (w : World) (h : Rdy w B (m + 9)) :
    Calls Try.prog 117 #[.pointer (some ⟨B, 0, none⟩)] w (SomeV 4 B m w) := by
  have H := hid h
  clear h
  go_enter Try.func117, Try.ntmps117
  go_wp2_with fail
  refine (pick_any 4 B (m + 8) w (by omega) (by omega) H.out).mono ?_
  rintro e w1 ⟨kind, hk, rfl, ho, hr⟩
  have HO := hid ho
  have HR := hid hr
  clear ho hr
  go_wp2_with fail
  go_loopw [3, 5, 6] (fun v u _ wr => ∃ (s : Nat) (f : Nat → Nat), s ≤ 4 ∧ u = .int .i64 s ∧ v = .string (text f s) ∧ (∀ i, i < s → f i < 16) ∧ Only B w wr ∧ Rdy wr B (m + 2 * (4 - s))) (fun _ u _ _ => 4 - (intOf u).toNat)
  case atStart => exact ⟨0, fun _ => 0, by omega, rfl, rfl, fun i hi => by omega, HO.out, HR.out⟩
  case round =>
    obtain ⟨s, f, hs, rfl, rfl, hf, ho2, hr2⟩ := hrel
    have HF := hid hf
    have HO2 := hid ho2
    have HR2 := hid hr2
    clear hf ho2 hr2
    by_cases h0 : s < 4
    · have h0' : (s : Int) < 4 := by omega
      have h1 : s < 65536 := by omega
      go_wp2_with fail
      refine (pick_any 16 B (m + 2 * (4 - (s + 1)) + 1) _ (by omega) (by omega) (HR2.out.less (by omega))).mono ?_
      rintro e w3 ⟨n, hn, rfl, ho3, hr3⟩
      have HO3 := hid (HO2.out.trans ho3)
      have HR3 := hid hr3
      clear ho3 hr3
      rcases Nat.lt_trichotomy kind 1 with hq | hq | hq
      · have x0 : ((kind : Int) == 0) = true := by simp; omega
        clear hq hk
        go_wp2_with fail
        refine (pick_any 4 B (m + 2 * (4 - (s + 1))) _ (by omega) (by omega) HR3.out).mono ?_
        rintro e w4 ⟨n4, hn4, rfl, ho4, hr4⟩
        have HO4 := hid (HO3.out.trans ho4)
        have HR4 := hid hr4
        have hb : pow2 n4 < 16 := Nat.pow_lt_pow_right (by omega) hn4
        have hb2 : n4 < 16 := by omega
        clear ho4 hr4
        go_wp2_with fail
        refine (l2Digit_any _ hb _).mono ?_
        rintro e w5 ⟨rfl, rfl⟩
        go_wp2_with fail
        go_roundw
        case rel => exact ⟨s + 1, _, by omega, by go_num, by rw [text_push], push_small f s _ hb HF.out, HO4.out, HR4.out⟩
        case measure => simp [intOf]; omega
      · have x0 : ((kind : Int) == 0) = false := by simp; omega
        have x1 : ((kind : Int) == 1) = true := by simp; omega
        clear hq hk
        go_wp2_with fail
        refine (pick_any 16 B (m + 2 * (4 - (s + 1))) _ (by omega) (by omega) HR3.out).mono ?_
        rintro e w4 ⟨n4, hn4, rfl, ho4, hr4⟩
        have HO4 := hid (HO3.out.trans ho4)
        have HR4 := hid hr4
        have hb := and16 n n4 hn
        have hb1 : n < 65536 := by omega
        have hb2 : n4 < 65536 := by omega
        clear ho4 hr4
        go_wp2_with fail
        refine (l2Digit_any _ hb _).mono ?_
        rintro e w5 ⟨rfl, rfl⟩
        go_wp2_with fail
        go_roundw
        case rel => exact ⟨s + 1, _, by omega, by go_num, by rw [text_push], push_small f s _ hb HF.out, HO4.out, HR4.out⟩
        case measure => simp [intOf]; omega
      · have x0 : ((kind : Int) == 0) = false := by simp; omega
        have x1 : ((kind : Int) == 1) = false := by simp; omega
        have HN := hid hn
        clear hq hk hn
        go_wp2_with fail
        refine (l2Digit_any _ HN.out _).mono ?_
        rintro e w5 ⟨rfl, rfl⟩
        go_wp2_with fail
        go_roundw
        case rel => exact ⟨s + 1, _, by omega, by go_num, by rw [text_push], push_small f s _ HN.out HF.out, HO3.out, HR3.out.less (by omega)⟩
        case measure => simp [intOf]; omega
    · obtain rfl : s = 4 := by omega
      go_wp2_with fail
      go_ret
      exact ⟨_, valid_text f 4 HF.out, rfl, HO2.out, HR2.out⟩
theorem cut_low (t : ByteArray) (i : Nat) (ht : t.size = 16) (hi : i < 16) : ∀ w, (Instr.slice 9 (.string t) (some (.int .i64 ((i : Int) + 1))) none none).run Try.prog w = .ok (.string (t.extract (i + 1) 16)) w := fun w => by
  rw [run_slice_string_l w 9 t Try.underlying9 .i64 ((i : Int) + 1) (by omega) (by omega), ht, show ((i : Int) + 1).toNat = i + 1 by omega]
theorem cut_high (t : ByteArray) (i : Nat) (ht : t.size = 16) (hi : i < 16) : ∀ w, (Instr.slice 9 (.string t) none (some (.int .i64 (i : Int))) none).run Try.prog w = .ok (.string (t.extract 0 i)) w := fun w => by
  rw [run_slice_string_h w 9 t Try.underlying9 .i64 (i : Int) (by omega) (by omega), show ((i : Int)).toNat = i by omega]
theorem run_add_small {P : Program} (w : World) (a b : ByteArray) (ha : a.size ≤ 65536) (hb : b.size ≤ 65536) : (Op.stringOp .add a b).run P w = .ok (.string (a ++ b)) w :=
  run_string_add_sum w _ _ (by omega)
theorem add_ok (a b : ByteArray) (ha : a.size ≤ 1000) (hb : b.size ≤ 1000) : ∀ w, (Op.stringOp .add a b).run Try.prog w = .ok (.string (a ++ b)) w := fun w => run_add_small w _ _ (by omega) (by omega)
def bads : List ByteArray := [⟨#[48]⟩, ⟨#[102]⟩, ⟨#[103]⟩, ⟨#[53]⟩]
theorem bads_size {v : ByteArray} (h : v ∈ bads) : v.size = 1 := by
  simp only [bads, List.mem_cons, List.not_mem_nil, or_false] at h
  rcases h with rfl | rfl | rfl | rfl <;> rfl
set_option maxHeartbeats 1000000 in
theorem l3Bad_any (B m : Nat) (t : ByteArray) (ht : t.size = 16) (w : World) (h : Rdy w B (m + 3)) :
    Calls Try.prog 110 #[.pointer (some ⟨B, 0, none⟩), .string t] w (SomeS B m w) := by
  have H := hid h
  clear h
  go_enter Try.func110, Try.ntmps110
  go_wp2_with fail
  refine (pick_any 40 B (m + 2) w (by omega) (by omega) H.out).mono ?_
  rintro e w1 ⟨k, hk, rfl, ho, hr⟩
  have HO := hid ho
  have HR := hid hr
  clear ho hr
  rcases Nat.lt_trichotomy k 1 with hq | hq | hq
  · obtain rfl : k = 0 := by omega
    go_wp2_with fail
    go_ret
    exact ⟨_, by simp only [ByteArray.size_append]; rw [ht]; decide, rfl, HO.out, HR.out.less (by omega)⟩
  · subst hq
    have hz : (1 : Int) ≤ (t.size : Int) := by omega
    go_wp2_with fail
    go_ret
    exact ⟨_, by simp only [ByteArray.size_extract]; omega, rfl, HO.out, HR.out.less (by omega)⟩
  · by_cases h2 : k = 2
    · subst h2
      go_wp2_with fail
      refine (pick_any 16 B (m + 1) _ (by omega) (by omega) HR.out).mono ?_
      rintro e w2 ⟨i, hi, rfl, ho2, hr2⟩
      have HO2 := hid (HO.out.trans ho2)
      have HR2 := hid hr2
      clear ho2 hr2
      have z1 : (i : Int) ≤ (t.size : Int) := by omega
      have z2 := cut_low t i ht hi
      have z3 := cut_high t i ht hi
      have z4 : IntKind.i64.wrap ((i : Int) + 1) = (i : Int) + 1 := IntWalk.i64_in _ (by omega)
      go_wp2_with fail
      go_region_with (first | (go_at_call 122; refine (of_any bads _ B m _ (by have := HR2.out.lt; simp; omega) (by decide) (by decide) (fun i hi => by first | exact list_cellsS _ bads _ i hi | (rw [World.cell?_drew]; exact list_cellsS _ bads _ i hi)) (by first | exact HR2.out.grew (Grew.alloc _ _) | exact HR2.out.grew ((Grew.alloc _ _).trans (Grew.drew _)))).mono ?_; rintro e w3 ⟨v, hv, rfl, ho3, hr3⟩; have hs1 := bads_size hv; have a1 := add_ok (t.extract 0 i) v (by simp; omega) (by omega); have a2 := add_ok (t.extract 0 i ++ v) (t.extract (i + 1) 16) (by simp; omega) (by simp; omega)))
      all_goals
        have HO3 := hid ho3
        have HR3 := hid hr3
        clear ho3 hr3
        go_wp2_with fail
        go_ret
        refine ⟨_, ?_, rfl, ?_, ?_⟩
        · simp only [ByteArray.size_append, ByteArray.size_extract]; omega
        · first
            | exact HO2.out.trans ((Only.of_grew ((Grew.alloc _ _).trans (Grew.drew _))).trans HO3.out)
            | exact HO2.out.trans ((Only.of_grew ((Grew.alloc _ _).trans (Grew.drew _))).trans (HO3.out.trans (Only.of_grew (Grew.drew _))))
        · first
            | exact HR3.out
            | exact HR3.out.grew (Grew.drew _)
    · have x0 : ((k : Int) == 0) = false := by simp; omega
      have x1 : ((k : Int) == 1) = false := by simp; omega
      have x2 : ((k : Int) == 2) = false := by simp; omega
      clear hq h2 hk
      go_wp2_with fail
      go_ret
      exact ⟨t, by omega, rfl, HO.out, HR.out.less (by omega)⟩
theorem info_int : (Try.prog.info? 3).map (fun i => (i.zero, i.size, i.bytes)) = some (some (.int .i64 0), 1, 8) := by kernel_rfl
theorem owns_only {w w' : World} {B base : Nat} {e : TypeId} {size : Nat} {v : Value} {n : Nat} {xs : List Value} (h : w.ownsRow base e size v n xs) (k : Only B w w') (hB : B < base) : w'.ownsRow base e size v n xs := by
  refine ⟨h.1, ?_⟩
  rcases h.2 with hn | ⟨g, cap, cur, rfl, hb, hgg, rest⟩
  · exact .inl hn
  · exact .inr ⟨g, cap, cur, rfl, hb, k.heap (by omega) hgg, rest⟩
theorem owns_grew {w w' : World} {base : Nat} {e : TypeId} {size : Nat} {v : Value} {n : Nat} {xs : List Value} (h : w.ownsRow base e size v n xs) (k : Grew w w') : w'.ownsRow base e size v n xs := by
  refine ⟨h.1, ?_⟩
  rcases h.2 with hn | ⟨g, cap, cur, rfl, hb, hgg, rest⟩
  · exact .inl hn
  · exact .inr ⟨g, cap, cur, rfl, hb, heap_later k hgg, rest⟩
theorem owns_ints {w : World} {base : Nat} {e : TypeId} {v : Value} {l : List Int} {n : Nat} (hn : 0 < n) (h : w.ownsRow base e 1 v n (l.map (Value.int .i64))) :
    ∃ g cap, v = .slice (some ⟨g, 0, none⟩) n cap ∧ base ≤ g ∧ n ≤ cap ∧ cap ≤ maxLen ∧ IntsAt w g 0 n (fun i => l.getD i 0) := by
  rcases h.2 with ⟨_, h0⟩ | ⟨g, cap, cur, rfl, hb, hgg, h1, h2, h3, h4⟩
  · omega
  · refine ⟨g, cap, rfl, hb, h1, h2, fun i hi => ?_⟩
    have hl : l.length = n := by simpa using h.1
    have := h.cells (g := g) rfl i (.int .i64 (l.getD i 0)) (by simp [hl, hi])
    have hadd : (⟨g, 0, none⟩ : Addr).add i = ⟨g, 0 + i, none⟩ := by unfold Addr.add; split <;> simp_all
    rwa [hadd] at this
theorem only_grown {B : Nat} {w wr w' : World} {row : Option Nat} (h : Only B w wr) (g : wr.grownBy w' row) (hrow : ∀ k, row = some k → w.heap.size ≤ k) : Only B w w' :=
  ⟨g.os.trans h.os, g.tape.trans h.tape, g.output.trans h.output, Nat.le_trans h.size g.size, fun k hk hB => (g.block k (Nat.lt_of_lt_of_le hk h.size) (fun e => by have := hrow k e.symm; omega)).trans (h.block k hk hB)⟩
theorem one_cell (w : World) (v : Int) (t : TypeId) : ∀ j u, [Value.int .i64 v][j]? = some u → (w.alloc (.cells #[.int .i64 v] t)).cell? ((⟨w.heap.size, 0, none⟩ : Addr).add j) = some u := fun j u h => by
  match j, h with
  | 0, h =>
    obtain rfl : Value.int .i64 v = u := by simpa using h
    rw [show (⟨w.heap.size, 0, none⟩ : Addr).add 0 = ⟨w.heap.size, 0, none⟩ from rfl]
    exact cell_alloc_one _ _ _ _
theorem one_one (v : Int) : ∀ u ∈ [Value.int .i64 v], u.oneCell' = true := fun u h => by
  rw [List.mem_singleton.1 h]; rfl
set_option maxHeartbeats 4000000 in
theorem l3Some_any (B m : Nat) (w : World) (h : Rdy w B (m + 25)) :
    Calls Try.prog 94 #[.pointer (some ⟨B, 0, none⟩)] w (SomeV 16 B m w) := by
  have hBlt := h.lt
  obtain ⟨p, a, len, cap, h1, h2, h3, h4⟩ := h
  have H4 := hid h4
  have hraw := hid (pick_raw 6 B p a len cap w (by omega) (by omega) h1 (by omega) h3 h4)
  obtain ⟨i0, hi, hz0, hz1, hz2⟩ := info_parts info_int
  clear h1 h4
  go_enter Try.func94, Try.ntmps94
  go_wp2_with fail
  refine (hraw.out).mono ?_
  rintro e w1 ⟨v, rfl, k, hk, rfl, ho, hb⟩
  have HO := hid ho
  have HB := hid hb
  have HR : Hid (Rdy w1 B (m + 24)) := hid ⟨p + 1, a, len, cap, hb, by omega, h3, H4.out.only ho⟩
  clear ho hb
  by_cases q0 : k = 0
  · have x0 : ((k : Int) == 0) = true := by simp; omega
    clear q0 hk
    go_wp2_with fail
    refine (l2Some_any B (m + 15) _ HR.out).mono ?_
    rintro e w2 ⟨r, hr, rfl, ho2, hr2⟩
    have HV := hid hr
    have HO2 := hid (HO.out.trans ho2)
    have HR2 := hid hr2
    clear hr ho2 hr2
    go_wp2_with fail
    refine (l3Angel_any r HV.out _).mono ?_
    rintro e w3 ⟨rfl, rfl⟩
    go_wp2_with fail
    go_ret
    exact ⟨_, valid_small (small_angel _), rfl, HO2.out, HR2.out.less (by omega)⟩
  · have x0 : ((k : Int) == 0) = false := by simp; omega
    clear q0
    by_cases q1 : k = 1
    · have x1 : ((k : Int) == 1) = true := by simp; omega
      clear q1 hk
      go_wp2_with fail
      refine (l2Some_any B (m + 15) _ HR.out).mono ?_
      rintro e w2 ⟨r, hr, rfl, ho2, hr2⟩
      have HV := hid hr
      have HO2 := hid (HO.out.trans ho2)
      have HR2 := hid hr2
      clear hr ho2 hr2
      go_wp2_with fail
      refine (l3Angel_any r HV.out _).mono ?_
      rintro e w3 ⟨rfl, rfl⟩
      go_wp2_with fail
      refine (l3Dual_any _ (valid_small (small_angel _)) _).mono ?_
      rintro e w3 ⟨rfl, rfl⟩
      go_wp2_with fail
      go_ret
      exact ⟨_, valid_small (small_dual _), rfl, HO2.out, HR2.out.less (by omega)⟩
    · have x1 : ((k : Int) == 1) = false := by simp; omega
      clear q1
      by_cases q2 : k = 2
      · have x2 : ((k : Int) == 2) = true := by simp; omega
        clear q2 hk
        go_wp2_with fail
        refine (l2Some_any B (m + 15) _ HR.out).mono ?_
        rintro e w2 ⟨r, hr, rfl, ho2, hr2⟩
        have HV := hid hr
        have HO2 := hid (HO.out.trans ho2)
        have HR2 := hid hr2
        clear hr ho2 hr2
        go_wp2_with fail
        refine (l3Angel_any r HV.out _).mono ?_
        rintro e w3 ⟨rfl, rfl⟩
        go_wp2_with fail
        refine (l2Some_any B (m + 6) _ HR2.out).mono ?_
        rintro e w3 ⟨r2, hr3, rfl, ho3, hr4⟩
        have HV3 := hid hr3
        have HO3 := hid (HO2.out.trans ho3)
        have HR3 := hid hr4
        clear hr3 ho3 hr4
        go_wp2_with fail
        refine (l3Angel_any r2 HV3.out _).mono ?_
        rintro e w4 ⟨rfl, rfl⟩
        go_wp2_with fail
        refine (l3Dual_any _ (valid_small (small_angel _)) _).mono ?_
        rintro e w4 ⟨rfl, rfl⟩
        go_wp2_with fail
        refine (l3Then_any _ _ (valid_small (small_angel _)) (valid_small (small_dual _)) _).mono ?_
        rintro e w4 ⟨rfl, rfl⟩
        go_wp2_with fail
        go_ret
        exact ⟨_, valid_small (small_then (small_dv _) (small_dv _)), rfl, HO3.out, HR3.out.less (by omega)⟩
      · have x2 : ((k : Int) == 2) = false := by simp; omega
        clear q2
        by_cases q3 : k = 3
        · have x3 : ((k : Int) == 3) = true := by simp; omega
          clear q3 hk
          go_wp2_with fail
          refine (pick_any 16 B (m + 23) _ (by omega) (by omega) HR.out).mono ?_
          rintro e w2 ⟨k2, hk2, rfl, ho2, hr2⟩
          have HO2 := hid (HO.out.trans ho2)
          have HR2 := hid hr2
          clear ho2 hr2
          go_wp2_with fail
          refine (l3Assert_any k2 hk2 _).mono ?_
          rintro e w3 ⟨rfl, rfl⟩
          go_wp2_with fail
          refine (l2Some_any B (m + 14) _ HR2.out).mono ?_
          rintro e w3 ⟨r2, hr3, rfl, ho3, hr4⟩
          have HV3 := hid hr3
          have HO3 := hid (HO2.out.trans ho3)
          have HR3 := hid hr4
          clear hr3 ho3 hr4
          go_wp2_with fail
          refine (l3Angel_any r2 HV3.out _).mono ?_
          rintro e w4 ⟨rfl, rfl⟩
          go_wp2_with fail
          refine (l3Dual_any _ (valid_small (small_angel _)) _).mono ?_
          rintro e w4 ⟨rfl, rfl⟩
          go_wp2_with fail
          refine (l3Then_any _ _ (valid_small (small_assert k2 hk2)) (valid_small (small_dual _)) _).mono ?_
          rintro e w4 ⟨rfl, rfl⟩
          go_wp2_with fail
          go_ret
          exact ⟨_, valid_small (small_then (small_dv _) (small_dv _)), rfl, HO3.out, HR3.out.less (by omega)⟩
        · have x3 : ((k : Int) == 3) = false := by simp; omega
          clear q3 hk
          go_wp2_with fail
          go_loopw [3, 4, 5, 6] (fun v u _ _ wr => ∃ (s q : Nat) (l : List Int) (y : Value), s ≤ 4 ∧ u = .int .i64 s ∧ y = v ∧ l.length = s ∧ (∀ x ∈ l, famI x = true) ∧ wr.ownsRow w.heap.size 3 1 y s (l.map (Value.int .i64)) ∧ Only B w wr ∧
            wr.heap[B]? = some (.cells #[.slice a len cap, .int .i64 (q : Int)] 78 (0, 0)) ∧ q ≤ p + 1 + 5 * s) (fun _ u _ _ _ => 4 - (intOf u).toNat)
          case atStart =>
            exact ⟨0, p + 1, [], _, by omega, rfl, rfl, rfl, by simp, World.ownsRow_made _ #[] 0 HO.out.size (by decide) rfl, HO.out.trans (Only.of_grew (Grew.alloc _ _)), heap_later (Grew.alloc _ _) HB.out, by omega⟩
          case round =>
            obtain ⟨s, q, l, y, hs, rfl, rfl, hl, hfam, hown, ho2, hb2, hq⟩ := hrel
            have HL := hid hl
            have HFam := hid hfam
            have HOwn := hid hown
            have HO2 := hid ho2
            have HB2 := hid hb2
            clear hl hfam hown ho2 hb2
            by_cases h0 : s < 4
            · have h0' : (s : Int) < 4 := by omega
              go_wp2_with fail
              refine (pick_raw 4 B q a len cap wr (by omega) (by omega) HB2.out (by omega) h3 (H4.out.only HO2.out)).mono ?_
              rintro e w3 ⟨v3, rfl, k3, hk3, rfl, ho3, hb3⟩
              have HO3 := hid (HO2.out.trans ho3)
              have HOwn3 := hid (owns_only HOwn.out ho3 hBlt)
              have HB3 := hid hb3
              clear ho3 hb3
              go_wp2_with fail
              go_loopw [5, 6] (fun v u wr => ∃ (j f q : Nat), j ≤ 3 ∧ f < 65536 ∧ u = .int .i64 j ∧ v = .int .i64 f ∧ wr.ownsRow w.heap.size 3 1 y s (l.map (Value.int .i64)) ∧ Only B w wr ∧
                wr.heap[B]? = some (.cells #[.slice a len cap, .int .i64 (q : Int)] 78 (0, 0)) ∧ q + j ≤ p + 1 + 5 * s + 4) (fun _ u _ => (intOf u).toNat)
              case atStart => exact ⟨k3, 0, q + 1, by omega, by omega, rfl, rfl, HOwn3.out, HO3.out, HB3.out, by omega⟩
              case round =>
                obtain ⟨j, f, q3, hj, hf, rfl, rfl, hown4, ho4, hb4, hq4⟩ := hrel
                have HOwn4 := hid hown4
                have HO4 := hid ho4
                have HB4 := hid hb4
                clear hown4 ho4 hb4
                by_cases hj0 : 0 < j
                · have hj1 : (0 : Int) < (j : Int) := by omega
                  go_wp2_with fail
                  refine (pick_raw 16 B q3 a len cap _ (by omega) (by omega) HB4.out (by omega) h3 (H4.out.only HO4.out)).mono ?_
                  rintro e w5 ⟨v5, rfl, k5, hk5, rfl, ho5, hb5⟩
                  have HO5 := hid (HO4.out.trans ho5)
                  have HOwn5 := hid (owns_only HOwn4.out ho5 hBlt)
                  have HB5 := hid hb5
                  have b4 := pow2_lt k5 hk5
                  have b5 := orN_lt f (pow2 k5) hf b4
                  clear ho5 hb5
                  go_wp2_with fail
                  go_roundw
                  case rel => exact ⟨j - 1, _, q3 + 1, by omega, b5, by congr 1; omega, rfl, HOwn5.out, HO5.out, HB5.out, by omega⟩
                  case measure => simp [intOf]; omega
                · obtain rfl : j = 0 := by omega
                  have hyb := hid HOwn4.out.lt
                  go_wp2_with (first
                    | (at_builtin; refine wpList_append_own _ rfl _ _ 22 rfl w.heap.size 3 i0 (.int .i64 0) 1 8 Try.underlying22 hi hz0 hz1 hz2 rfl (by decide) _ _ _ rfl (HOwn4.out.alloc _) ⟨_, 0, none⟩ 1 1 [.int .i64 (f : Nat)] rfl rfl (one_cell _ _ _) (one_one _) (by unfold maxLen; omega) (by omega) (by have := HO4.out.size; simp; omega) ?_)
                    | fail)
                  intro y' w6 hown6 hgrow6 _
                  have HO6 := hid (only_grown (HO4.out.trans (Only.of_grew (Grew.alloc _ _))) hgrow6 (fun k hk => (hyb.out k hk).1))
                  have HB6 := hid ((hgrow6.block B (by have := HO4.out.size; simp; omega) (fun e => by have := (hyb.out B e.symm).1; omega)).trans (heap_later (Grew.alloc _ _) HB4.out))
                  have HOwn6 : Hid (w6.ownsRow w.heap.size 3 1 y' (s + 1) ((l ++ [(f : Int)]).map (Value.int .i64))) := hid (by rw [List.map_append]; exact hown6)
                  have HF6 := hid (famI_yes f hf)
                  clear hown6 hgrow6
                  go_wp2_with fail
                  go_roundw
                  case rel =>
                    refine ⟨s + 1, q3, l ++ [(f : Int)], _, by omega, by go_num, rfl, by rw [List.length_append, HL.out]; rfl, fun x hx => ?_, HOwn6.out, HO6.out, HB6.out, by omega⟩
                    rcases List.mem_append.1 hx with h | h
                    · exact HFam.out x h
                    · rw [List.mem_singleton.1 h]; exact HF6.out
                  case measure => simp [intOf]; omega
            · obtain rfl : s = 4 := by omega
              obtain ⟨g, cp, rfl, hg1, hg2, hg3, hints⟩ := owns_ints (by omega) HOwn.out
              have HI := hid hints
              have hfams : FamsOk (fun i => l.getD i 0) := fun i hi => HFam.out _ (by
                have hl4 := HL.out
                show l.getD i 0 ∈ l
                rw [List.getD_eq_getElem?_getD, List.getElem?_eq_getElem (by omega)]
                exact List.getElem_mem _)
              have HF := hid hfams
              clear hints hfams
              go_wp2_with fail
              refine (sTransOf_yes g 0 cp _ _ (HI.out.nat HF.out) HF.out.nat).mono ?_
              rintro e w5 ⟨rfl, rfl⟩
              go_wp2_with fail
              go_ret
              exact ⟨_, valid_small (small_tab _), rfl, HO2.out, q, a, len, cap, HB2.out, by omega, h3, H4.out.only HO2.out⟩
end Go.Proofs.Ytipkalbomjfckaa
