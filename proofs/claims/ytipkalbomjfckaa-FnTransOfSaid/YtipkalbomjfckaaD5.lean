/-
  Proved here: that the reference's DrawTransOf returns three to five numbers in a slice of new memory, for every slice of bytes, and writes to new memory alone.
-/
import Derived.Test.YtipkalbomjfckaaD4
import Derived.Maps.AppendAt
namespace Go.Proofs.Ytipkalbomjfckaa
open Go.RowKit
/-- Block B is a source of numbers over these bytes, from which m more can be drawn. -/
def RdyA (a : Option Addr) (len cap : Nat) (w : World) (B m : Nat) : Prop :=
  ∃ p : Nat, w.heap[B]? = some (.cells #[.slice a len cap, .int .i64 (p : Int)] 78 (0, 0)) ∧ p + m ≤ 1000000 ∧ len ≤ 1048576 ∧ Src w B a len
theorem RdyA.less {a : Option Addr} {len cap : Nat} {w : World} {B m k : Nat} (h : RdyA a len cap w B m) (hk : k ≤ m) : RdyA a len cap w B k := by
  obtain ⟨p, h1, h2, h3, h4⟩ := h
  exact ⟨p, h1, by omega, h3, h4⟩
theorem RdyA.grew {a : Option Addr} {len cap : Nat} {w w' : World} {B m : Nat} (h : RdyA a len cap w B m) (g : Grew w w') : RdyA a len cap w' B m := by
  obtain ⟨p, h1, h2, h3, h4⟩ := h
  exact ⟨p, heap_later g h1, h2, h3, h4.only (Only.of_grew g)⟩
theorem RdyA.lt {a : Option Addr} {len cap : Nat} {w : World} {B m : Nat} (h : RdyA a len cap w B m) : B < w.heap.size := by
  obtain ⟨p, h1, _⟩ := h
  exact (Array.getElem?_eq_some_iff.1 h1).1
theorem Rdy.fixed {w : World} {B m : Nat} (h : Rdy w B m) : ∃ a len cap, RdyA a len cap w B m := by
  obtain ⟨p, a, len, cap, h1, h2, h3, h4⟩ := h
  exact ⟨a, len, cap, p, h1, h2, h3, h4⟩
theorem RdyA.src {a : Option Addr} {len cap : Nat} {w : World} {B m : Nat} (h : RdyA a len cap w B m) : Src w B a len := by
  obtain ⟨p, _, _, _, h4⟩ := h
  exact h4
/-- The source's own block has not turned, and its bytes are as they were in an elder world. -/
theorem RdyA.later {a : Option Addr} {len cap : Nat} {w w1 w' : World} {B m : Nat} (h : RdyA a len cap w B m) (hb : w'.heap[B]? = w.heap[B]?) (hs : Src w1 B a len) (ho : Only B w1 w') : RdyA a len cap w' B m := by
  obtain ⟨p, h1, h2, h3, _⟩ := h
  exact ⟨p, hb.trans h1, h2, h3, hs.only ho⟩
def PickedA (sa : Option Addr) (sl sc n B m : Nat) (w : World) (e : Ending) (w' : World) : Prop := ∃ k : Nat, k < n ∧ e = .returned (.int .i64 ((k : Nat) : Int)) ∧ Only B w w' ∧ RdyA sa sl sc w' B m
def ChosenA (sa : Option Addr) (sl sc : Nat) (l : List Int) (B m : Nat) (w : World) (e : Ending) (w' : World) : Prop := ∃ v : Int, v ∈ l ∧ e = .returned (.int .i64 v) ∧ Only B w w' ∧ RdyA sa sl sc w' B m
def SomeIntA (sa : Option Addr) (sl sc B m : Nat) (w : World) (e : Ending) (w' : World) : Prop := ∃ v : Int, e = .returned (.int .i64 v) ∧ Only B w w' ∧ RdyA sa sl sc w' B m
theorem pick_anyA (sa : Option Addr) (sl sc n B m : Nat) (w : World) (hn : 0 < n) (hn2 : n ≤ 1000) (h : RdyA sa sl sc w B (m + 1)) :
    Calls Try.prog 95 #[.pointer (some ⟨B, 0, none⟩), .int .i64 n] w (PickedA sa sl sc n B m w) := by
  obtain ⟨p, h1, h2, h3, h4⟩ := h
  refine (pick_raw n B p sa sl sc w hn hn2 h1 (by omega) h3 h4).mono ?_
  rintro e w' ⟨v, rfl, k, hk, rfl, ho, hb⟩
  exact ⟨k, hk, rfl, ho, p + 1, hb, by omega, h3, h4.only ho⟩
set_option maxHeartbeats 400000 in
theorem num_anyA (sa : Option Addr) (sl sc : Nat) (l : List Int) (b B m : Nat) (w : World) (hb : b ≠ B) (h0 : 0 < l.length) (h1 : l.length ≤ 1000) (hc : ∀ i, i < l.length → w.cell? ⟨b, i, none⟩ = some (.int .i64 (l.getD i 0))) (h : RdyA sa sl sc w B (m + 1)) :
    Calls Try.prog 62 #[.pointer (some ⟨B, 0, none⟩), .slice (some ⟨b, 0, none⟩) l.length l.length] w (ChosenA sa sl sc l B m w) := by
  have HC := hid hc
  have H0 := hid h
  clear hc h
  go_enter Try.func62, Try.ntmps62
  go_wp2_with fail
  refine (pick_anyA sa sl sc l.length B m w h0 h1 H0.out).mono ?_
  rintro e w1 ⟨k, hk, rfl, ho, hr⟩
  have hk' : (k : Int) < (l.length : Int) := by omega
  have hcell := ho.cell hb (HC.out k hk)
  have HO := hid ho
  have HR := hid hr
  clear ho hr
  go_wp2_with fail
  go_ret
  exact ⟨l[k], List.getElem_mem hk, rfl, HO.out, HR.out⟩
set_option maxHeartbeats 400000 in
theorem l1Family_anyA (sa : Option Addr) (sl sc : Nat) (B m : Nat) (w : World) (h : RdyA sa sl sc w B (m + 8)) :
    Calls Try.prog 63 #[.pointer (some ⟨B, 0, none⟩)] w (SomeIntA sa sl sc B m w) := by
  have H := hid h
  clear h
  go_enter Try.func63, Try.ntmps63
  go_wp2_with fail
  refine (pick_anyA sa sl sc 24 B (m + 7) w (by omega) (by omega) H.out).mono ?_
  rintro e w1 ⟨k, hk, rfl, ho, hr⟩
  have HO := hid ho
  have HR := hid hr
  clear ho hr
  by_cases h0 : k = 0
  · subst h0
    go_wp2_with fail
    refine (num_anyA sa sl sc [-1, 65536, 0, 65535] w1.heap.size B m _ (by have := HR.out.lt; omega) (by decide) (by decide) (fun i hi => list_cells w1 [-1, 65536, 0, 65535] _ i hi) ((HR.out.less (by omega)).grew (Grew.alloc _ _))).mono ?_
    rintro e w2 ⟨v, _, rfl, ho2, hr2⟩
    have HO2 := hid ho2
    have HR2 := hid hr2
    clear ho2 hr2
    go_wp2_with fail
    go_ret
    exact ⟨v, rfl, HO.out.trans ((Only.of_grew (Grew.alloc _ _)).trans HO2.out), HR2.out⟩
  · have h0' : ((k : Int) == 0) = false := by simp; omega
    clear h0
    go_wp2_with fail
    refine (pick_anyA sa sl sc 5 B (m + 6) w1 (by omega) (by omega) (HR.out.less (by omega))).mono ?_
    rintro e w2 ⟨k2, hk2, rfl, ho2, hr2⟩
    have HO2 := hid (HO.out.trans ho2)
    have HR2 := hid hr2
    clear ho2 hr2
    go_wp2_with fail
    go_loopw [3, 4] (fun v u wr => ∃ j f : Nat, j ≤ 4 ∧ f < 65536 ∧ u = .int .i64 j ∧ v = .int .i64 f ∧ Only B w wr ∧ RdyA sa sl sc wr B (m + 2 + j)) (fun _ u _ => (intOf u).toNat)
    case atStart => exact ⟨k2, 0, by omega, by omega, rfl, rfl, HO2.out, HR2.out.less (by omega)⟩
    case round =>
      obtain ⟨j, f, hj, hf, rfl, rfl, ho3, hr3⟩ := hrel
      have HO3 := hid ho3
      have HR3 := hid hr3
      clear ho3 hr3
      by_cases hj0 : 0 < j
      · have hj1 : (0 : Int) < (j : Int) := by omega
        go_wp2_with fail
        refine (pick_anyA sa sl sc 16 B (m + 2 + (j - 1)) wr (by omega) (by omega) (HR3.out.less (by omega))).mono ?_
        rintro e w4 ⟨k4, hk4, rfl, ho4, hr4⟩
        have HO4 := hid (HO3.out.trans ho4)
        have HR4 := hid hr4
        have b4 := pow2_lt k4 hk4
        have b5 := orN_lt f (pow2 k4) hf b4
        clear ho4 hr4
        go_wp2_with fail
        go_roundw
        case rel => exact ⟨j - 1, _, by omega, b5, by congr 1; omega, rfl, HO4.out, HR4.out⟩
        case measure => simp [intOf]; omega
      · obtain rfl : j = 0 := by omega
        go_wp2_with fail
        refine (pick_anyA sa sl sc 3 B m wr (by omega) (by omega) (HR3.out.less (by omega))).mono ?_
        rintro e w4 ⟨k4, hk4, rfl, ho4, hr4⟩
        have HO4 := hid (HO3.out.trans ho4)
        have HR4 := hid hr4
        clear ho4 hr4
        by_cases h0 : k4 = 0
        · subst h0
          go_wp2_with fail
          refine (l1Up_any f _).mono ?_
          rintro e w5 ⟨rfl, rfl⟩
          go_wp2_with fail
          go_ret
          exact ⟨_, rfl, HO4.out, HR4.out⟩
        · have h0' : ((k4 : Int) == 0) = false := by simp; omega
          clear h0
          go_wp2_with fail
          go_ret
          exact ⟨_, rfl, HO4.out, HR4.out⟩
/-- Some numbers in a slice of new memory. -/
def DrawnZ (w : World) (e : Ending) (w' : World) : Prop :=
  ∃ (g n cap : Nat) (z : Nat → Int), n ≤ 5 ∧ n ≤ cap ∧ e = .returned (.slice (some ⟨g, 0, none⟩) n cap) ∧ Grew w w' ∧ IntsAt w' g 0 n z
theorem sizes_of {v : Int} (h : v ∈ ([4, 4, 4, 4, 4, 4, 4, 4, 3, 5] : List Int)) : ∃ n : Nat, v = (n : Int) ∧ 3 ≤ n ∧ n ≤ 5 := by
  have : v = 4 ∨ v = 3 ∨ v = 5 := by simpa using h
  exact ⟨v.toNat, by omega, by omega, by omega⟩
set_option maxHeartbeats 4000000 in
theorem DrawTransOf_any (a : Option Addr) (len cap : Nat) (zs : List Int) (w : World) (h : IsRow .u8 w a len cap zs) (hl : len ≤ 1048576) :
    Calls Try.prog 15 #[.slice a len cap] w (DrawnZ w) := by
  have H := hid h
  obtain ⟨i0, hi, hz0, hz1, hz2⟩ := info_parts info_int
  clear h
  go_enter Try.func15, Try.ntmps15
  go_wp2_with fail
  refine (open_any a len cap zs w H.out hl).mono ?_
  rintro e w1 ⟨rfl, hg, hr⟩
  obtain ⟨sa, sl, sc, hr⟩ := hr.fixed
  have hBlt := hr.lt
  have HG := hid hg
  have HS := hid hr.src
  have HR := hid hr
  clear hg hr
  go_wp2_with fail
  refine (num_anyA sa sl sc [4, 4, 4, 4, 4, 4, 4, 4, 3, 5] (w1.heap.size + 1) w.heap.size 999999 _ (by omega) (by decide) (by decide) (fun i hi => by have h := list_cells (w1.alloc (.cells #[] 3)) [4, 4, 4, 4, 4, 4, 4, 4, 3, 5] 3 i hi; rw [show (w1.alloc (.cells #[] 3)).heap.size = w1.heap.size + 1 from by simp] at h; exact h) ((HR.out.grew (Grew.alloc _ _)).grew (Grew.alloc _ _))).mono ?_
  rintro e w2 ⟨v, hv, rfl, ho, hr⟩
  obtain ⟨n, rfl, hn3, hn5⟩ := sizes_of hv
  have HO := hid ((Only.of_grew ((Grew.alloc _ _).trans (Grew.alloc _ _))).trans ho)
  have HOwn := hid (owns_only ((World.ownsRow_made (base := w1.heap.size) (e := 3) (size := 1) w1 #[] 0 (Nat.le_refl _) (by decide) rfl).alloc _) ho hBlt)
  have HR2 := hid hr
  clear hv ho hr
  go_wp2_with fail
  go_loopw [4, 5] (fun v u wr => ∃ (s j : Nat) (l : List Int) (y : Value), s + j = n ∧ u = .int .i64 j ∧ y = v ∧ l.length = s ∧ wr.ownsRow w1.heap.size 3 1 y s (l.map (Value.int .i64)) ∧ Only w.heap.size w1 wr ∧ RdyA sa sl sc wr w.heap.size (8 * j)) (fun _ u _ => (intOf u).toNat)
  case atStart => exact ⟨0, n, [], _, by omega, rfl, rfl, rfl, HOwn.out, HO.out, HR2.out.less (by omega)⟩
  case round =>
    obtain ⟨s, j, l, y, hs, rfl, rfl, hl2, hown, ho, hr⟩ := hrel
    have HL := hid hl2
    have HOwn := hid hown
    have HO := hid ho
    have HR := hid hr
    clear hl2 hown ho hr
    by_cases hj0 : 0 < j
    · have hj1 : (0 : Int) < (j : Int) := by omega
      go_wp2_with fail
      refine (l1Family_anyA sa sl sc w.heap.size (8 * (j - 1)) wr (HR.out.less (by omega))).mono ?_
      rintro e w3 ⟨f, rfl, ho3, hr3⟩
      have HO3 := hid (HO.out.trans ho3)
      have HOwn3 := hid (owns_only HOwn.out ho3 hBlt)
      have hyb := hid HOwn3.out.lt
      have HR3 := hid hr3
      clear ho3 hr3
      go_wp2_with (first
        | (at_builtin; refine wpList_append_own _ rfl _ _ 22 rfl w1.heap.size 3 i0 (.int .i64 0) 1 8 Try.underlying22 hi hz0 hz1 hz2 rfl (by decide) _ _ _ rfl (HOwn3.out.alloc _) ⟨_, 0, none⟩ 1 1 [.int .i64 f] rfl rfl (one_cell _ _ _) (one_one _) (by unfold maxLen; omega) (by omega) (by have := HO3.out.size; simp; omega) ?_)
        | fail)
      intro y' w6 hown6 hgrow6 _
      have HO6 := hid (only_grown (HO3.out.trans (Only.of_grew (Grew.alloc _ _))) hgrow6 (fun k hk => (hyb.out k hk).1))
      have HR6 := hid (HR3.out.later ((hgrow6.block w.heap.size (by have := HO3.out.size; simp; omega) (fun e => by have := (hyb.out _ e.symm).1; omega)).trans ((Grew.alloc _ _).block _ (by have := HO3.out.size; omega))) HS.out HO6.out)
      have HOwn6 : Hid (w6.ownsRow w1.heap.size 3 1 y' (s + 1) ((l ++ [f]).map (Value.int .i64))) := hid (by rw [List.map_append]; exact hown6)
      clear hown6 hgrow6
      go_wp2_with fail
      go_roundw
      case rel => exact ⟨s + 1, j - 1, l ++ [f], _, by omega, by congr 1; omega, rfl, by rw [List.length_append, HL.out]; rfl, HOwn6.out, HO6.out, HR6.out⟩
      case measure => simp [intOf]; omega
    · obtain rfl : j = 0 := by omega
      obtain rfl : s = n := by omega
      obtain ⟨g, cp, rfl, hg1, hg2, hg3, hints⟩ := owns_ints (by omega) HOwn.out
      have HI := hid hints
      clear hints
      go_wp2_with fail
      go_ret
      exact ⟨g, s, cp, _, hn5, hg2, rfl, Only.grew HG.out (Nat.le_refl _) HO.out, HI.out⟩
end Go.Proofs.Ytipkalbomjfckaa
