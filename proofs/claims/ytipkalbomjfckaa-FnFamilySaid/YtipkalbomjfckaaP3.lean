/-
  Proved here, in plain numbers and texts: the laws of transformers (sequence, both choices, dual, assertions) and that these keep them monotone.
-/
import Derived.Test.YtipkalbomjfckaaK5
import Derived.Test.YtipkalbomjfckaaP1
namespace Go.Proofs.Ytipkalbomjfckaa
def thenT (t u : ByteArray) : ByteArray := text (thenF (dv t) (dv u)) 16
def meetT (t u : ByteArray) : ByteArray := text (meetF (dv t) (dv u)) 16
def joinT (t u : ByteArray) : ByteArray := text (joinF (dv t) (dv u)) 16
def dualT (t : ByteArray) : ByteArray := text (dualF (dv t)) 16
def assertT (p : Nat) : ByteArray := text (assertF p) 16
def assumeT (p : Nat) : ByteArray := text (assumeF p) 16
def refT (t u : ByteArray) : Bool := allSub (dv t) (dv u) 16
theorem sub_and : ∀ r : Nat, r < 16 → ∀ p : Nat, p < 16 → ∀ q : Nat, q < 16 → sub r (andN p q) = (sub r p && sub r q) := by decide +kernel
theorem or_sub : ∀ p : Nat, p < 16 → ∀ q : Nat, q < 16 → ∀ r : Nat, r < 16 → sub (orN p q) r = (sub p r && sub q r) := by decide +kernel
theorem and_sub1 : ∀ p : Nat, p < 16 → ∀ q : Nat, q < 16 → sub (andN p q) p = true := by decide +kernel
theorem and_sub2 : ∀ p : Nat, p < 16 → ∀ q : Nat, q < 16 → sub (andN p q) q = true := by decide +kernel
theorem sub_or2 : ∀ p : Nat, p < 16 → ∀ q : Nat, q < 16 → sub q (orN p q) = true := by decide +kernel
theorem sub_diff : ∀ p : Nat, p < 16 → ∀ q : Nat, q < 16 → sub (diff 15 p) (diff 15 q) = sub q p := by decide +kernel
theorem and_mono {a b c d : Nat} (ha : a < 16) (hb : b < 16) (hc : c < 16) (hd : d < 16) (h1 : sub a c = true) (h2 : sub b d = true) : sub (andN a b) (andN c d) = true := by
  have hab : andN a b < 16 := and16 a b ha
  rw [sub_and _ hab c hc d hd, sub_trans _ hab a ha c hc (and_sub1 a ha b hb) h1, sub_trans _ hab b hb d hd (and_sub2 a ha b hb) h2]; rfl
theorem or_mono {a b c d : Nat} (ha : a < 16) (hb : b < 16) (hc : c < 16) (hd : d < 16) (h1 : sub a c = true) (h2 : sub b d = true) : sub (orN a b) (orN c d) = true := by
  have hcd : orN c d < 16 := orN_16 c d hc hd
  rw [or_sub a ha b hb _ hcd, sub_trans a ha c hc _ hcd h1 (sub_or c hc d hd), sub_trans b hb d hd _ hcd h2 (sub_or2 c hc d hd)]; rfl
theorem mono_then {f g : Nat → Nat} (hf : Mono f) (hg : Mono g) (sg : Small g) : Mono (thenF f g) := fun p hp q hq h => hf _ (sg p hp) _ (sg q hq) (hg p hp q hq h)
theorem mono_meet {f g : Nat → Nat} (hf : Mono f) (hg : Mono g) (sf : Small f) (sg : Small g) : Mono (meetF f g) := fun p hp q hq h => and_mono (sf p hp) (sg p hp) (sf q hq) (sg q hq) (hf p hp q hq h) (hg p hp q hq h)
theorem mono_join {f g : Nat → Nat} (hf : Mono f) (hg : Mono g) (sf : Small f) (sg : Small g) : Mono (joinF f g) := fun p hp q hq h => or_mono (sf p hp) (sg p hp) (sf q hq) (sg q hq) (hf p hp q hq h) (hg p hp q hq h)
theorem mono_dual {f : Nat → Nat} (hf : Mono f) (sf : Small f) : Mono (dualF f) := fun p hp q hq h => by
  unfold dualF
  rw [sub_diff _ (sf _ (diff15_lt p)) _ (sf _ (diff15_lt q))]
  exact hf _ (diff15_lt q) _ (diff15_lt p) (by rw [sub_diff q hq p hp]; exact h)
theorem mono_assert (p : Nat) (hp : p < 16) : Mono (assertF p) := fun _ ha _ hb h => and_mono hp ha hp hb (sub_refl p hp) h
theorem mono_assume (p : Nat) : Mono (assumeF p) := fun _ ha _ hb h => or_mono ha (diff15_lt p) hb (diff15_lt p) h (sub_refl _ (diff15_lt p))
theorem tv_text {f : Nat → Nat} (hs : Small f) (hm : Mono f) : TValid (text f 16) := ⟨valid_small hs, fun p hp q hq h => by rw [dv_small hs p hp, dv_small hs q hq]; exact hm p hp q hq h⟩
theorem tv_then {t u : ByteArray} (ht : TValid t) (hu : TValid u) : TValid (thenT t u) := tv_text (small_then (small_dv t) (small_dv u)) (mono_then ht.2 hu.2 (small_dv u))
theorem tv_meet {t u : ByteArray} (ht : TValid t) (hu : TValid u) : TValid (meetT t u) := tv_text (small_meet (g := dv u) (small_dv t)) (mono_meet ht.2 hu.2 (small_dv t) (small_dv u))
theorem tv_join {t u : ByteArray} (ht : TValid t) (hu : TValid u) : TValid (joinT t u) := tv_text (small_join (small_dv t) (small_dv u)) (mono_join ht.2 hu.2 (small_dv t) (small_dv u))
theorem tv_dual {t : ByteArray} (ht : TValid t) : TValid (dualT t) := tv_text (small_dual _) (mono_dual ht.2 (small_dv t))
theorem tv_assert (p : Nat) (hp : p < 16) : TValid (assertT p) := tv_text (small_assert p hp) (mono_assert p hp)
theorem tv_assume (p : Nat) : TValid (assumeT p) := tv_text (small_assume p) (mono_assume p)
theorem dv_then (t u : ByteArray) (i : Nat) (hi : i < 16) : dv (thenT t u) i = dv t (dv u i) := dv_small (small_then (small_dv t) (small_dv u)) i hi
theorem dv_meet (t u : ByteArray) (i : Nat) (hi : i < 16) : dv (meetT t u) i = andN (dv t i) (dv u i) := dv_small (small_meet (g := dv u) (small_dv t)) i hi
theorem dv_join (t u : ByteArray) (i : Nat) (hi : i < 16) : dv (joinT t u) i = orN (dv t i) (dv u i) := dv_small (small_join (small_dv t) (small_dv u)) i hi
theorem dv_dual (t : ByteArray) (i : Nat) (hi : i < 16) : dv (dualT t) i = diff 15 (dv t (diff 15 i)) := dv_small (small_dual _) i hi
theorem dv_assert (p : Nat) (hp : p < 16) (i : Nat) (hi : i < 16) : dv (assertT p) i = andN p i := dv_small (small_assert p hp) i hi
theorem dv_assume (p : Nat) (i : Nat) (hi : i < 16) : dv (assumeT p) i = orN i (diff 15 p) := dv_small (small_assume p) i hi
theorem ext_T {t u : ByteArray} (ht : Valid 16 t) (hu : Valid 16 u) (h : ∀ i, i < 16 → dv t i = dv u i) : t = u := by
  rw [← text_dv ht, ← text_dv hu]; exact text_congr _ _ 16 h
theorem val_then (t u : ByteArray) : Valid 16 (thenT t u) := valid_small (small_then (small_dv t) (small_dv u))
theorem val_meet (t u : ByteArray) : Valid 16 (meetT t u) := valid_small (small_meet (g := dv u) (small_dv t))
theorem val_join (t u : ByteArray) : Valid 16 (joinT t u) := valid_small (small_join (small_dv t) (small_dv u))
theorem val_dual (t : ByteArray) : Valid 16 (dualT t) := valid_small (small_dual _)
theorem val_assert (p : Nat) (hp : p < 16) : Valid 16 (assertT p) := valid_small (small_assert p hp)
theorem val_assume (p : Nat) : Valid 16 (assumeT p) := valid_small (small_assume p)
theorem refT_iff (t u : ByteArray) : refT t u = true ↔ ∀ i, i < 16 → sub (dv t i) (dv u i) = true := allSub_iff _ _ 16
theorem toList_beq (t u : ByteArray) : (t.toList == u.toList) = true ↔ t = u := by
  constructor
  · intro h
    have := beq_iff_eq.1 h
    rw [ByteArray.toList_eq, ByteArray.toList_eq] at this
    apply ByteArray.ext
    exact Array.toList_inj.1 this
  · rintro rfl; simp
-- sequence
theorem then_assoc (t u v : ByteArray) : thenT (thenT t u) v = thenT t (thenT u v) := ext_T (val_then _ _) (val_then _ _) fun i hi => by
  rw [dv_then _ _ i hi, dv_then _ _ _ (dv_lt v i), dv_then _ _ i hi, dv_then _ _ i hi]
def skipS : ByteArray := ⟨#[48, 49, 50, 51, 52, 53, 54, 55, 56, 57, 97, 98, 99, 100, 101, 102]⟩
def failS : ByteArray := ⟨#[48, 48, 48, 48, 48, 48, 48, 48, 48, 48, 48, 48, 48, 48, 48, 48]⟩
def fullS : ByteArray := ⟨#[102, 102, 102, 102, 102, 102, 102, 102, 102, 102, 102, 102, 102, 102, 102, 102]⟩
theorem skip_text : skipS = text (fun i => i) 16 := by decide +kernel
theorem fail_text : failS = text (fun _ => 0) 16 := by decide +kernel
theorem full_text : fullS = text (fun _ => 15) 16 := by decide +kernel
theorem tv_skip : TValid skipS := by rw [skip_text]; exact tv_text (fun _ hi => hi) (fun _ _ _ _ h => h)
theorem tv_fail : TValid failS := by rw [fail_text]; exact tv_text (fun _ _ => Nat.succ_pos _) (fun _ _ _ _ _ => rfl)
theorem tv_full : TValid fullS := by rw [full_text]; exact tv_text (fun _ _ => by decide) (fun _ _ _ _ _ => rfl)
theorem dv_skip (i : Nat) (hi : i < 16) : dv skipS i = i := by rw [skip_text]; exact dv_small (f := fun i => i) (fun _ hi => hi) i hi
theorem dv_fail (i : Nat) (hi : i < 16) : dv failS i = 0 := by rw [fail_text]; exact dv_small (f := fun _ => 0) (fun _ _ => Nat.succ_pos _) i hi
theorem dv_full (i : Nat) (hi : i < 16) : dv fullS i = 15 := by rw [full_text]; exact dv_small (f := fun _ => 15) (fun _ _ => (by decide : 15 < 16)) i hi
theorem then_skip {t : ByteArray} (ht : TValid t) : thenT t skipS = t := ext_T (val_then _ _) ht.1 fun i hi => by rw [dv_then _ _ i hi, dv_skip i hi]
theorem skip_then {t : ByteArray} (ht : TValid t) : thenT skipS t = t := ext_T (val_then _ _) ht.1 fun i hi => by rw [dv_then _ _ i hi, dv_skip _ (dv_lt t i)]
theorem fail_then (t : ByteArray) : thenT failS t = failS := ext_T (val_then _ _) tv_fail.1 fun i hi => by rw [dv_then _ _ i hi, dv_fail _ (dv_lt t i), dv_fail i hi]
theorem full_then (t : ByteArray) : thenT fullS t = fullS := ext_T (val_then _ _) tv_full.1 fun i hi => by rw [dv_then _ _ i hi, dv_full _ (dv_lt t i), dv_full i hi]
-- choices
theorem and_comm16 (p q : Nat) : andN p q = andN q p := Nat.and_comm p q
theorem or_comm16 (p q : Nat) : orN p q = orN q p := Nat.or_comm p q
theorem and_or_abs : ∀ p : Nat, p < 16 → ∀ q : Nat, q < 16 → andN p (orN p q) = p := by decide +kernel
theorem or_and_abs : ∀ p : Nat, p < 16 → ∀ q : Nat, q < 16 → orN p (andN p q) = p := by decide +kernel
theorem and_eq_sub : ∀ p : Nat, p < 16 → ∀ q : Nat, q < 16 → (andN p q == p) = sub p q := by decide +kernel
theorem meet_comm (t u : ByteArray) : meetT u t = meetT t u := ext_T (val_meet _ _) (val_meet _ _) fun i hi => by rw [dv_meet _ _ i hi, dv_meet _ _ i hi, and_comm16]
theorem join_comm (t u : ByteArray) : joinT u t = joinT t u := ext_T (val_join _ _) (val_join _ _) fun i hi => by rw [dv_join _ _ i hi, dv_join _ _ i hi, or_comm16]
theorem meet_join {t : ByteArray} (ht : TValid t) (u : ByteArray) : meetT t (joinT t u) = t := ext_T (val_meet _ _) ht.1 fun i hi => by
  rw [dv_meet _ _ i hi, dv_join _ _ i hi, and_or_abs _ (dv_lt t i) _ (dv_lt u i)]
theorem join_meet {t : ByteArray} (ht : TValid t) (u : ByteArray) : joinT t (meetT t u) = t := ext_T (val_join _ _) ht.1 fun i hi => by
  rw [dv_join _ _ i hi, dv_meet _ _ i hi, or_and_abs _ (dv_lt t i) _ (dv_lt u i)]
theorem ref_meet (t u v : ByteArray) : refT v (meetT t u) = (refT v t && refT v u) := by
  rw [Bool.eq_iff_iff, Bool.and_eq_true, refT_iff, refT_iff, refT_iff]
  constructor
  · intro h
    refine ⟨fun i hi => ?_, fun i hi => ?_⟩
    · have := h i hi; rw [dv_meet _ _ i hi, sub_and _ (dv_lt v i) _ (dv_lt t i) _ (dv_lt u i), Bool.and_eq_true] at this; exact this.1
    · have := h i hi; rw [dv_meet _ _ i hi, sub_and _ (dv_lt v i) _ (dv_lt t i) _ (dv_lt u i), Bool.and_eq_true] at this; exact this.2
  · rintro ⟨h1, h2⟩ i hi
    rw [dv_meet _ _ i hi, sub_and _ (dv_lt v i) _ (dv_lt t i) _ (dv_lt u i), h1 i hi, h2 i hi]; rfl
theorem join_ref (t u v : ByteArray) : refT (joinT t u) v = (refT t v && refT u v) := by
  rw [Bool.eq_iff_iff, Bool.and_eq_true, refT_iff, refT_iff, refT_iff]
  constructor
  · intro h
    refine ⟨fun i hi => ?_, fun i hi => ?_⟩
    · have := h i hi; rw [dv_join _ _ i hi, or_sub _ (dv_lt t i) _ (dv_lt u i) _ (dv_lt v i), Bool.and_eq_true] at this; exact this.1
    · have := h i hi; rw [dv_join _ _ i hi, or_sub _ (dv_lt t i) _ (dv_lt u i) _ (dv_lt v i), Bool.and_eq_true] at this; exact this.2
  · rintro ⟨h1, h2⟩ i hi
    rw [dv_join _ _ i hi, or_sub _ (dv_lt t i) _ (dv_lt u i) _ (dv_lt v i), h1 i hi, h2 i hi]; rfl
theorem meet_then (t u v : ByteArray) : thenT (meetT t u) v = meetT (thenT t v) (thenT u v) := ext_T (val_then _ _) (val_meet _ _) fun i hi => by
  rw [dv_then _ _ i hi, dv_meet _ _ _ (dv_lt v i), dv_meet _ _ i hi, dv_then _ _ i hi, dv_then _ _ i hi]
theorem join_then (t u v : ByteArray) : thenT (joinT t u) v = joinT (thenT t v) (thenT u v) := ext_T (val_then _ _) (val_join _ _) fun i hi => by
  rw [dv_then _ _ i hi, dv_join _ _ _ (dv_lt v i), dv_join _ _ i hi, dv_then _ _ i hi, dv_then _ _ i hi]
theorem then_meet {v : ByteArray} (hv : TValid v) (t u : ByteArray) : refT (thenT v (meetT t u)) (meetT (thenT v t) (thenT v u)) = true := (refT_iff _ _).2 fun i hi => by
  have hm : andN (dv t i) (dv u i) < 16 := and16 _ _ (dv_lt t i)
  rw [dv_then _ _ i hi, dv_meet _ _ i hi, dv_meet _ _ i hi, dv_then _ _ i hi, dv_then _ _ i hi, sub_and _ (dv_lt v _) _ (dv_lt v _) _ (dv_lt v _),
    hv.2 _ hm _ (dv_lt t i) (and_sub1 _ (dv_lt t i) _ (dv_lt u i)), hv.2 _ hm _ (dv_lt u i) (and_sub2 _ (dv_lt t i) _ (dv_lt u i))]; rfl
theorem then_join {v : ByteArray} (hv : TValid v) (t u : ByteArray) : refT (joinT (thenT v t) (thenT v u)) (thenT v (joinT t u)) = true := (refT_iff _ _).2 fun i hi => by
  have hm : orN (dv t i) (dv u i) < 16 := orN_16 _ _ (dv_lt t i) (dv_lt u i)
  rw [dv_then _ _ i hi, dv_join _ _ i hi, dv_join _ _ i hi, dv_then _ _ i hi, dv_then _ _ i hi, or_sub _ (dv_lt v _) _ (dv_lt v _) _ (dv_lt v _),
    hv.2 _ (dv_lt t i) _ hm (sub_or _ (dv_lt t i) _ (dv_lt u i)), hv.2 _ (dv_lt u i) _ hm (sub_or2 _ (dv_lt t i) _ (dv_lt u i))]; rfl
theorem meet_eq {t : ByteArray} (ht : TValid t) (u : ByteArray) : ((meetT t u).toList == t.toList) = refT t u := by
  rw [Bool.eq_iff_iff, toList_beq, refT_iff]
  constructor
  · intro h i hi
    have := dv_meet t u i hi
    rw [h] at this
    rw [← and_eq_sub _ (dv_lt t i) _ (dv_lt u i), ← this]; simp
  · intro h
    refine ext_T (val_meet _ _) ht.1 fun i hi => ?_
    have := h i hi
    rw [← and_eq_sub _ (dv_lt t i) _ (dv_lt u i)] at this
    rw [dv_meet _ _ i hi]; simpa using this
-- dual
theorem diff_and : ∀ p : Nat, p < 16 → ∀ q : Nat, q < 16 → diff 15 (andN p q) = orN (diff 15 p) (diff 15 q) := by decide +kernel
theorem dual_dualT {t : ByteArray} (ht : TValid t) : dualT (dualT t) = t := ext_T (val_dual _) ht.1 fun i hi => by
  rw [dv_dual _ i hi, dv_dual _ _ (diff15_lt i), diff_diff i hi, diff_diff _ (dv_lt t i)]
theorem dual_meet (t u : ByteArray) : dualT (meetT t u) = joinT (dualT t) (dualT u) := ext_T (val_dual _) (val_join _ _) fun i hi => by
  rw [dv_dual _ i hi, dv_meet _ _ _ (diff15_lt i), dv_join _ _ i hi, dv_dual _ i hi, dv_dual _ i hi, diff_and _ (dv_lt t _) _ (dv_lt u _)]
theorem dual_then (t u : ByteArray) : dualT (thenT t u) = thenT (dualT t) (dualT u) := ext_T (val_dual _) (val_then _ _) fun i hi => by
  rw [dv_dual _ i hi, dv_then _ _ _ (diff15_lt i), dv_then _ _ i hi, dv_dual _ _ (dv_lt _ i), dv_dual _ i hi, diff_diff _ (dv_lt u _)]
theorem dual_ref (t u : ByteArray) : refT (dualT u) (dualT t) = refT t u := by
  rw [Bool.eq_iff_iff, refT_iff, refT_iff]
  constructor
  · intro h i hi
    have := h (diff 15 i) (diff15_lt i)
    rwa [dv_dual _ _ (diff15_lt i), dv_dual _ _ (diff15_lt i), diff_diff i hi, sub_diff _ (dv_lt u i) _ (dv_lt t i)] at this
  · intro h i hi
    rw [dv_dual _ i hi, dv_dual _ i hi, sub_diff _ (dv_lt u _) _ (dv_lt t _)]
    exact h _ (diff15_lt i)
theorem dual_skip : dualT skipS = skipS := ext_T (val_dual _) tv_skip.1 fun i hi => by
  rw [dv_dual _ i hi, dv_skip _ (diff15_lt i), diff_diff i hi, dv_skip i hi]
-- assertions
theorem dual_assertT (p : Nat) (hp : p < 16) : dualT (assertT p) = assumeT p := dual_assert p hp
theorem assert_skip (p : Nat) (hp : p < 16) : refT (assertT p) skipS = true := (refT_iff _ _).2 fun i hi => by
  rw [dv_assert p hp i hi, dv_skip i hi]; exact and_sub2 p hp i hi
theorem skip_assume (p : Nat) : refT skipS (assumeT p) = true := (refT_iff _ _).2 fun i hi => by
  rw [dv_assume p i hi, dv_skip i hi]; exact sub_or i hi _ (diff15_lt p)
theorem and_assoc16 (p q r : Nat) : andN p (andN q r) = andN (andN p q) r := (Nat.and_assoc p q r).symm
theorem assert_then (p q : Nat) (hp : p < 16) (hq : q < 16) : thenT (assertT p) (assertT q) = assertT (andN p q) := ext_T (val_then _ _) (val_assert _ (and16 p q hp)) fun i hi => by
  rw [dv_then _ _ i hi, dv_assert q hq i hi, dv_assert p hp _ (and16 q i hq), dv_assert _ (and16 p q hp) i hi, and_assoc16]
theorem and_or_diff : ∀ p : Nat, p < 16 → ∀ q : Nat, q < 16 → andN p (orN q (diff 15 p)) = andN p q := by decide +kernel
theorem assert_assume (p : Nat) (hp : p < 16) : thenT (assertT p) (assumeT p) = assertT p := ext_T (val_then _ _) (val_assert p hp) fun i hi => by
  rw [dv_then _ _ i hi, dv_assume p i hi, dv_assert p hp _ (orN_16 _ _ hi (diff15_lt p)), dv_assert p hp i hi, and_or_diff p hp i hi]
theorem and_sub_or : ∀ p : Nat, p < 16 → ∀ a : Nat, a < 16 → ∀ b : Nat, b < 16 → sub (andN p a) b = sub a (orN b (diff 15 p)) := by decide +kernel
theorem assert_ref (p : Nat) (hp : p < 16) (t u : ByteArray) : refT (thenT (assertT p) t) u = refT t (thenT (assumeT p) u) := by
  rw [Bool.eq_iff_iff, refT_iff, refT_iff]
  constructor
  · intro h i hi
    have := h i hi
    rw [dv_then _ _ i hi, dv_assert p hp _ (dv_lt t i), and_sub_or p hp _ (dv_lt t i) _ (dv_lt u i)] at this
    rw [dv_then _ _ i hi, dv_assume p _ (dv_lt u i)]; exact this
  · intro h i hi
    have := h i hi
    rw [dv_then _ _ i hi, dv_assume p _ (dv_lt u i)] at this
    rw [dv_then _ _ i hi, dv_assert p hp _ (dv_lt t i), and_sub_or p hp _ (dv_lt t i) _ (dv_lt u i)]; exact this
end Go.Proofs.Ytipkalbomjfckaa
