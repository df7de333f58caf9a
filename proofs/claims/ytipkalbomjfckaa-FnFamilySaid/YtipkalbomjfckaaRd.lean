/-
  Proved here: what the reference's source of drawn numbers returns: a number below the one that is asked for; it writes to its own block alone.
-/
import Derived.Test.YtipkalbomjfckaaLib
import Derived.Test.YtipkalbomjfckaaRows
import Derived.Deep.QuietTactic
import Derived.BigQuiet
namespace Go.Proofs.Ytipkalbomjfckaa
open Go.RowKit
/-- Block B alone may have turned, of what was there. -/
structure Only (B : Nat) (w w' : World) : Prop where
  os : w'.os = w.os
  tape : w'.tape = w.tape
  output : w'.output = w.output
  size : w.heap.size ≤ w'.heap.size
  block : ∀ k, k < w.heap.size → k ≠ B → w'.heap[k]? = w.heap[k]?
theorem Only.refl (B : Nat) (w : World) : Only B w w := ⟨rfl, rfl, rfl, Nat.le_refl _, fun _ _ _ => rfl⟩
theorem Only.trans {B : Nat} {a b c : World} (h : Only B a b) (k : Only B b c) : Only B a c :=
  ⟨k.os.trans h.os, k.tape.trans h.tape, k.output.trans h.output, Nat.le_trans h.size k.size, fun i hi hB => (k.block i (Nat.lt_of_lt_of_le hi h.size) hB).trans (h.block i hi hB)⟩
theorem Only.of_grew {B : Nat} {w w' : World} (h : Grew w w') : Only B w w' := ⟨h.os, h.tape, h.output, h.size, fun k hk _ => h.block k hk⟩
/-- Behind the making of block B: what was there before has not turned. -/
theorem Only.grew {B : Nat} {w w1 w2 : World} (h : Grew w w1) (hB : w.heap.size ≤ B) (k : Only B w1 w2) : Grew w w2 :=
  ⟨k.os.trans h.os, k.tape.trans h.tape, k.output.trans h.output, Nat.le_trans h.size k.size, fun i hi => (k.block i (Nat.lt_of_lt_of_le hi h.size) (by omega)).trans (h.block i hi)⟩
theorem Only.heap {B b : Nat} {w w1 : World} {o : Obj} (hb : Only B w w1) (hB : b ≠ B) (h : w.heap[b]? = some o) : w1.heap[b]? = some o := by
  rw [hb.block _ (Array.getElem?_eq_some_iff.1 h).1 hB]; exact h
theorem Only.cell {B b o : Nat} {w w1 : World} {v : Value} (hb : Only B w w1) (hB : b ≠ B) (h : w.cell? ⟨b, o, none⟩ = some v) : w1.cell? ⟨b, o, none⟩ = some v := by
  rw [World.cell?_of_block (w := w) (a := ⟨b, o, none⟩) (hb.block b (block_lt_of_cell h) hB)]; exact h
/-- The bytes that are drawn from lie outside block B. -/
def Src (w : World) (B : Nat) (a : Option Addr) (len : Nat) : Prop :=
  len = 0 ∨ ∃ (b off : Nat) (z : Nat → Nat), a = some ⟨b, off, none⟩ ∧ b ≠ B ∧ ∀ i, i < len → z i < 256 ∧ w.cell? ⟨b, off + i, none⟩ = some (.int .u8 ((z i : Nat) : Int))
theorem Src.only {w w' : World} {B : Nat} {a : Option Addr} {len : Nat} (h : Src w B a len) (k : Only B w w') : Src w' B a len := by
  rcases h with h | ⟨b, off, z, h1, h2, h3⟩
  · exact .inl h
  · exact .inr ⟨b, off, z, h1, h2, fun i hi => ⟨(h3 i hi).1, k.cell h2 (h3 i hi).2⟩⟩
/-- Block B is a source of numbers, from which m more can be drawn. -/
def Rdy (w : World) (B m : Nat) : Prop :=
  ∃ (p : Nat) (a : Option Addr) (len cap : Nat), w.heap[B]? = some (.cells #[.slice a len cap, .int .i64 (p : Int)] 78 (0, 0)) ∧ p + m ≤ 1000000 ∧ len ≤ 1048576 ∧ Src w B a len
theorem Rdy.less {w : World} {B m k : Nat} (h : Rdy w B m) (hk : k ≤ m) : Rdy w B k := by
  obtain ⟨p, a, len, cap, h1, h2, h3, h4⟩ := h
  exact ⟨p, a, len, cap, h1, by omega, h3, h4⟩
theorem Rdy.grew {w w' : World} {B m : Nat} (h : Rdy w B m) (g : Grew w w') : Rdy w' B m := by
  obtain ⟨p, a, len, cap, h1, h2, h3, h4⟩ := h
  exact ⟨p, a, len, cap, heap_later g h1, h2, h3, h4.only (Only.of_grew g)⟩
theorem xor_i64 (a b : Nat) (ha : a < 4294967296) (hb : b < 4294967296) : bits .xor .i64 (a : Int) (b : Int) = ((a ^^^ b : Nat) : Int) := by
  have ea : a % 2 ^ IntKind.i64.bits = a := Nat.mod_eq_of_lt (Nat.lt_of_lt_of_le ha (by decide))
  have eb : b % 2 ^ IntKind.i64.bits = b := Nat.mod_eq_of_lt (Nat.lt_of_lt_of_le hb (by decide))
  have h : a ^^^ b < 2 ^ 32 := Nat.xor_lt_two_pow (n := 32) ha hb
  simp only [bits, BitVec.ofInt_natCast, BitVec.toNat_xor, BitVec.toNat_ofNat, ea, eb]
  exact IntWalk.i64_in _ (by omega)
def mix (x : Nat) : Nat := x ^^^ x / 64
theorem mix_i64 (x : Nat) (hx : x < 2147483648) : bits .xor .i64 (x : Int) ((x : Int) / 64) = ((mix x : Nat) : Int) := by
  have e : (x : Int) / 64 = ((x / 64 : Nat) : Int) := by omega
  rw [e, xor_i64 _ _ (by omega) (by omega)]; rfl
theorem Only.drewN (B : Nat) (w : World) (n : Nat) : Only B w (w.drewN n) := ⟨rfl, rfl, rfl, Nat.le_refl _, fun _ _ _ => rfl⟩
/-- What a draw below n gives. -/
def Picked (n B m : Nat) (w : World) (e : Ending) (w' : World) : Prop := ∃ k : Nat, k < n ∧ e = .returned (.int .i64 ((k : Nat) : Int)) ∧ Only B w w' ∧ Rdy w' B m
def picked (n B p : Nat) (a : Option Addr) (len cap : Nat) (w w' : World) (v : Value) : Prop :=
  ∃ k : Nat, k < n ∧ v = .int .i64 ((k : Nat) : Int) ∧ Only B w w' ∧ w'.heap[B]? = some (.cells #[.slice a len cap, .int .i64 ((p + 1 : Nat) : Int)] 78 (0, 0))
def pickedE (n B p : Nat) (a : Option Addr) (len cap : Nat) (w : World) (e : Ending) (w' : World) : Prop := ∃ v, e = .returned v ∧ picked n B p a len cap w w' v
theorem only_set {w : World} {B p : Nat} {a : Option Addr} {len cap : Nat} (h1 : w.heap[B]? = some (.cells #[.slice a len cap, .int .i64 (p : Int)] 78 (0, 0))) (x : Int) (hx : x = ((p + 1 : Nat) : Int)) :
    Only B w (w.setCell ⟨B, 1, none⟩ (.int .i64 x)) ∧ (w.setCell ⟨B, 1, none⟩ (.int .i64 x)).heap[B]? = some (.cells #[.slice a len cap, .int .i64 ((p + 1 : Nat) : Int)] 78 (0, 0)) := by
  subst hx
  refine ⟨⟨rfl, rfl, rfl, by simp [World.setCell], fun k _ hB => heap_setCell_other _ _ _ _ hB⟩, ?_⟩
  rw [heap_setCell_same w B 1 _ _ _ h1]; rfl
set_option maxHeartbeats 1000000 in
theorem pick_raw (n B p : Nat) (a : Option Addr) (len cap : Nat) (w : World) (hn : 0 < n) (hn2 : n ≤ 1000) (h1 : w.heap[B]? = some (.cells #[.slice a len cap, .int .i64 (p : Int)] 78 (0, 0))) (hp : p < 1000000)
    (hl : len ≤ 1048576) (hs : Src w B a len) :
    Calls Try.prog 95 #[.pointer (some ⟨B, 0, none⟩), .int .i64 n] w (pickedE n B p a len cap w) := by
  have H1 := hid h1
  have c0 : w.cell? ⟨B, 0, none⟩ = some (.slice a len cap) := by rw [cell_of_row _ _ _ _ _ _ h1]; rfl
  have c1 : w.cell? ⟨B, 1, none⟩ = some (.int .i64 (p : Int)) := by rw [cell_of_row _ _ _ _ _ _ h1]; rfl
  have f1 : w.frozen? ⟨B, 1, none⟩ = false := frozen_of_row _ _ _ _ _ h1
  have hn' : (1 : Int) ≤ (n : Int) := by omega
  clear h1
  rcases hs with rfl | ⟨b, off, z, rfl, hb, hz⟩
  · go_enter Try.func95, Try.ntmps95
    go_wp2
    go_ret
    have ho := only_set H1.out ((p : Int) + 1) (by omega)
    exact ⟨_, rfl, 0, hn, rfl, ho.1, ho.2⟩
  · by_cases h0 : len = 0
    · subst h0
      go_enter Try.func95, Try.ntmps95
      go_wp2
      go_ret
      have ho := only_set H1.out ((p : Int) + 1) (by omega)
      exact ⟨_, rfl, 0, hn, rfl, ho.1, ho.2⟩
    · have ho := only_set H1.out ((p : Int) + 1) (by omega)
      have HO := hid ho
      have x0 : ((len : Int) == 0) = false := by simp; omega
      have hl0 : (0 : Int) < (len : Int) := by omega
      by_cases hk : p < len
      · obtain ⟨z1, z2⟩ := hz p hk
        have z3 := ho.1.cell hb z2
        have hk' : (p : Int) < (len : Int) := by omega
        have hmod : ((z p : Nat) : Int) % (n : Int) = ((z p % n : Nat) : Int) := by omega
        have HZ := hid hz
        clear hz ho z2
        go_enter Try.func95, Try.ntmps95
        go_wp2
        go_ret
        exact ⟨_, rfl, z p % n, Nat.mod_lt _ hn, rfl, HO.out.1, HO.out.2⟩
      · have hz1 := hz (p % len) (Nat.mod_lt _ (by omega))
        have hz2 := hz ((p * 7 + 3) % len) (Nat.mod_lt _ (by omega))
        have z1 := ho.1.cell hb hz1.2
        have z2 := ho.1.cell hb hz2.2
        have b1 := hz1.1
        have b2 := hz2.1
        have hk' : ¬ (p : Int) < (len : Int) := by omega
        have i1 : (0 : Int) ≤ (p : Int) % (len : Int) := Int.emod_nonneg _ (by omega)
        have i2 : (p : Int) % (len : Int) < (len : Int) := Int.emod_lt_of_pos _ (by omega)
        have i3 : (0 : Int) ≤ ((p : Int) * 7 + 3) % (len : Int) := Int.emod_nonneg _ (by omega)
        have i4 : ((p : Int) * 7 + 3) % (len : Int) < (len : Int) := Int.emod_lt_of_pos _ (by omega)
        have i5 : (0 : Int) ≤ (p : Int) / (len : Int) := Int.ediv_nonneg (by omega) (by omega)
        have i6 : (p : Int) / (len : Int) ≤ (p : Int) := Int.ediv_le_self _ (by omega)
        clear hz ho hz1 hz2
        go_enter Try.func95, Try.ntmps95
        go_wp2_with fail
        go_quiet (fail)
        obtain ⟨X, hX, hX2⟩ : ∃ X : Nat, (((z (p % len) : Nat) : Int) * 131 + ((z ((p * 7 + 3) % len) : Nat) : Int) * 1117 + (p : Int) * 29 + (p : Int) / (len : Int) * 53) = (X : Int) ∧ X < 2147483648 :=
          ⟨(((z (p % len) : Nat) : Int) * 131 + ((z ((p * 7 + 3) % len) : Nat) : Int) * 1117 + (p : Int) * 29 + (p : Int) / (len : Int) * 53).toNat, by omega, by omega⟩
        rw [hX]
        have hx := mix_i64 X hX2
        clear hX z1 z2 i1 i2 i3 i4 i5 i6 b1 b2
        go_wp2
        go_ret
        exact ⟨_, rfl, mix X % n, Nat.mod_lt _ hn, by simp, HO.out.1.trans (Only.drewN _ _ _), HO.out.2⟩
theorem pick_any (n B m : Nat) (w : World) (hn : 0 < n) (hn2 : n ≤ 1000) (h : Rdy w B (m + 1)) :
    Calls Try.prog 95 #[.pointer (some ⟨B, 0, none⟩), .int .i64 n] w (Picked n B m w) := by
  obtain ⟨p, a, len, cap, h1, h2, h3, h4⟩ := h
  refine (pick_raw n B p a len cap w hn hn2 h1 (by omega) h3 h4).mono ?_
  rintro e w' ⟨v, rfl, k, hk, rfl, ho, hb⟩
  exact ⟨k, hk, rfl, ho, p + 1, a, len, cap, hb, by omega, h3, h4.only ho⟩
theorem Rdy.lt {w : World} {B m : Nat} (h : Rdy w B m) : B < w.heap.size := by
  obtain ⟨p, a, len, cap, h1, _⟩ := h
  exact (Array.getElem?_eq_some_iff.1 h1).1
def Chosen (l : List Int) (B m : Nat) (w : World) (e : Ending) (w' : World) : Prop := ∃ v : Int, v ∈ l ∧ e = .returned (.int .i64 v) ∧ Only B w w' ∧ Rdy w' B m
set_option maxHeartbeats 400000 in
theorem num_any (l : List Int) (b B m : Nat) (w : World) (hb : b ≠ B) (h0 : 0 < l.length) (h1 : l.length ≤ 1000) (hc : ∀ i, i < l.length → w.cell? ⟨b, i, none⟩ = some (.int .i64 (l.getD i 0))) (h : Rdy w B (m + 1)) :
    Calls Try.prog 62 #[.pointer (some ⟨B, 0, none⟩), .slice (some ⟨b, 0, none⟩) l.length l.length] w (Chosen l B m w) := by
  have HC := hid hc
  have H0 := hid h
  clear hc h
  go_enter Try.func62, Try.ntmps62
  go_wp2_with fail
  refine (pick_any l.length B m w h0 h1 H0.out).mono ?_
  rintro e w1 ⟨k, hk, rfl, ho, hr⟩
  have hk' : (k : Int) < (l.length : Int) := by omega
  have hcell := ho.cell hb (HC.out k hk)
  have HO := hid ho
  have HR := hid hr
  clear ho hr
  go_wp2_with fail
  go_ret
  exact ⟨l[k], List.getElem_mem hk, rfl, HO.out, HR.out⟩
def ChosenS (l : List ByteArray) (B m : Nat) (w : World) (e : Ending) (w' : World) : Prop := ∃ v : ByteArray, v ∈ l ∧ e = .returned (.string v) ∧ Only B w w' ∧ Rdy w' B m
set_option maxHeartbeats 400000 in
theorem of_any (l : List ByteArray) (b B m : Nat) (w : World) (hb : b ≠ B) (h0 : 0 < l.length) (h1 : l.length ≤ 1000) (hc : ∀ i, i < l.length → w.cell? ⟨b, i, none⟩ = some (.string (l.getD i ByteArray.empty))) (h : Rdy w B (m + 1)) :
    Calls Try.prog 122 #[.pointer (some ⟨B, 0, none⟩), .slice (some ⟨b, 0, none⟩) l.length l.length] w (ChosenS l B m w) := by
  have HC := hid hc
  have H0 := hid h
  clear hc h
  go_enter Try.func122, Try.ntmps122
  go_wp2_with fail
  refine (pick_any l.length B m w h0 h1 H0.out).mono ?_
  rintro e w1 ⟨k, hk, rfl, ho, hr⟩
  have hk' : (k : Int) < (l.length : Int) := by omega
  have hcell := ho.cell hb (HC.out k hk)
  have HO := hid ho
  have HR := hid hr
  clear ho hr
  go_wp2_with fail
  go_ret
  exact ⟨l[k], List.getElem_mem hk, rfl, HO.out, HR.out⟩
/-- What the walk is told of a slice of bytes that came in. -/
def IsRow (k : IntKind) (w : World) (a : Option Addr) (len cap : Nat) (zs : List Int) : Prop :=
  (a = none ∧ len = 0 ∧ cap = 0 ∧ zs = []) ∨
  ∃ x, a = some x ∧ len ≤ cap ∧ cap ≤ maxLen ∧ zs.length = cap ∧ (∀ i, i < zs.length → w.cell? (x.add i) = some (.int k (zs.getD i 0))) ∧ ∀ n ∈ zs, (Lit.int k n).wf = true
theorem IsRow.grew {k : IntKind} {w w' : World} {a : Option Addr} {len cap : Nat} {zs : List Int} (h : IsRow k w a len cap zs) (g : Grew w w') : IsRow k w' a len cap zs := by
  rcases h with h | ⟨x, h1, h2, h3, h4, h5, h6⟩
  · exact .inl h
  · refine .inr ⟨x, h1, h2, h3, h4, fun i hi => ?_, h6⟩
    have hc := h5 i hi
    rw [Below.cell g ?_]
    · exact hc
    · unfold World.cell? at hc
      rcases Nat.lt_or_ge (x.add i).block w.heap.size with hlt | hge
      · exact hlt
      · rw [Array.getElem?_eq_none hge] at hc
        simp at hc
def Opened (w : World) (e : Ending) (w' : World) : Prop := e = .returned (.pointer (some ⟨w.heap.size, 0, none⟩)) ∧ Grew w w' ∧ Rdy w' w.heap.size 1000000
theorem src_of_row {w : World} {a : Option Addr} {len cap : Nat} {zs : List Int} (h : IsRow .u8 w a len cap zs) : Src w w.heap.size a len := by
  rcases h with ⟨_, h, _, _⟩ | ⟨x, rfl, hl, hm, hz, hc, hw⟩
  · exact .inl h
  · by_cases h0 : len = 0
    · exact .inl h0
    · obtain ⟨b, off, spot⟩ := x
      have hc0 := hc 0 (by omega)
      have hspot : spot = none := by simpa [Addr.add] using World.cell?_spot hc0
      subst hspot
      have hcell : ∀ i, i < cap → w.cell? ⟨b, off + i, none⟩ = some (.int .u8 (zs.getD i 0)) := fun i hi => by
        have := hc i (by omega)
        unfold Addr.add at this
        split at this
        · subst_vars; simpa using this
        · exact this
      refine .inr ⟨b, off, fun i => (zs.getD i 0).toNat, rfl, ?_, fun i hi => ?_⟩
      · have := block_lt_of_cell (hcell 0 (by omega))
        simp at this
        omega
      · have hi' : i < zs.length := by omega
        have hwf := hw (zs.getD i 0) (by simp [List.getD, hi'])
        have hb : 0 ≤ zs.getD i 0 ∧ zs.getD i 0 ≤ 255 := by simpa [Lit.wf, IntKind.min, IntKind.max, IntKind.signed, IntKind.bits] using hwf
        refine ⟨by show (zs.getD i 0).toNat < 256; omega, ?_⟩
        rw [hcell i (by omega)]
        congr 2
        show zs.getD i 0 = ((zs.getD i 0).toNat : Int)
        omega
theorem Src.shorter {w : World} {B : Nat} {a : Option Addr} {len k : Nat} (h : Src w B a len) (hk : k ≤ len) : Src w B a k := by
  rcases h with h | ⟨b, off, z, h1, h2, h3⟩
  · exact .inl (by omega)
  · exact .inr ⟨b, off, z, h1, h2, fun i hi => h3 i (by omega)⟩
set_option maxHeartbeats 400000 in
theorem open_any (a : Option Addr) (len cap : Nat) (zs : List Int) (w : World) (h : IsRow .u8 w a len cap zs) (hl : len ≤ 1048576) :
    Calls Try.prog 61 #[.slice a len cap] w (Opened w) := by
  have hs := hid (src_of_row h)
  by_cases h2 : 2000 < len
  · rcases h with ⟨_, h, _, _⟩ | ⟨x, rfl, hl', hm, hz, hc, hw⟩
    · omega
    · have h2' : (2000 : Int) < (len : Int) := by omega
      have h3 : (2000 : Int) ≤ (cap : Int) := by omega
      have HZ := hid hz
      have HC := hid hc
      have HW := hid hw
      clear hz hc hw
      go_enter Try.func61, Try.ntmps61
      go_wp2
      go_ret
      exact ⟨rfl, Grew.alloc _ _, 0, some x, 2000, cap, heap_alloc_new _ _, by omega, by omega, (hs.out.shorter (by omega)).only (Only.of_grew (Grew.alloc _ _))⟩
  · have h2' : ¬ (2000 : Int) < (len : Int) := by omega
    have HH := hid h
    clear h
    go_enter Try.func61, Try.ntmps61
    go_wp2
    go_ret
    exact ⟨rfl, Grew.alloc _ _, 0, a, len, cap, heap_alloc_new _ _, by omega, hl, hs.out.only (Only.of_grew (Grew.alloc _ _))⟩
end Go.Proofs.Ytipkalbomjfckaa
