/-
  Proved here, in plain numbers and texts: families of transformers are closed and make them again, and the table that families make is monotone and has their closures as its families.
-/
import Derived.Test.YtipkalbomjfckaaP3
import Derived.Test.YtipkalbomjfckaaK8
namespace Go.Proofs.Ytipkalbomjfckaa
theorem has_sub4 : ∀ a : Nat, a < 16 → ∀ b : Nat, b < 16 → sub a b = true → ∀ s : Nat, s < 4 → has a s = true → has b s = true := by decide +kernel
theorem sub_has4 : ∀ a : Nat, a < 16 → ∀ b : Nat, b < 16 → (∀ s : Nat, s < 4 → has a s = true → has b s = true) → sub a b = true := by decide +kernel
theorem set_has4 : ∀ n : Nat, n < 16 → setOf (fun s => has n s) 4 = n := by decide +kernel
theorem has_not4 : ∀ n : Nat, n < 16 → ∀ s : Nat, s < 4 → has (diff 15 n) s = !has n s := by decide +kernel
theorem famF_lt (f : Nat → Nat) (s : Nat) : famF f s < 65536 := setOf_lt65536 _ 16 (Nat.le_refl _)
theorem has_fam (f : Nat → Nat) (s p : Nat) (hp : p < 16) : has (famF f s) p = has (f p) s := has_setOf _ p hp
theorem up_fam {f : Nat → Nat} (hm : Mono f) (hs : Small f) (s : Nat) (h4 : s < 4) : upN (famF f s) = famF f s := ext16 (upN_lt _) (famF_lt _ _) fun q hq => bool_ext (by
  rw [has_up _ _ hq]
  constructor
  · rintro ⟨p, hp, h1, h2⟩
    rw [has_fam _ _ _ hp] at h1
    rw [has_fam _ _ _ hq]
    exact has_sub4 _ (hs p hp) _ (hs q hq) (hm p hp q hq h2) s h4 h1
  · intro h
    exact ⟨q, hq, h, sub_refl q hq⟩)
theorem tab_fam {t : ByteArray} (ht : TValid t) : text (tabF (fun s => famF (dv t) s)) 16 = t := ext_T (valid_small (small_tab _)) ht.1 fun p hp => by
  rw [dv_small (small_tab _) p hp]
  have h : ∀ s, s < 4 → has (upN (famF (dv t) s)) p = has (dv t p) s := fun s hs => by rw [up_fam ht.2 (small_dv t) s hs, has_fam _ _ _ hp]
  show setOf (fun s => has (upN (famF (dv t) s)) p) 4 = dv t p
  have e : setOf (fun s => has (upN (famF (dv t) s)) p) 4 = setOf (fun s => has (dv t p) s) 4 := by
    simp only [setOf, h 0 (by omega), h 1 (by omega), h 2 (by omega), h 3 (by omega)]
  rw [e, set_has4 _ (dv_lt t p)]
theorem tab_least (z : Nat → Nat) : tabF (fun s => leastN (z s)) = tabF z := by
  funext p; simp only [tabF, up_least]
theorem fam_dualT {t : ByteArray} (ht : TValid t) (s : Nat) (hs : s < 4) : famF (dv (dualT t)) s = dualN (famF (dv t) s) := ext16 (famF_lt _ _) (dualN_lt _) fun q hq => by
  rw [has_fam _ _ _ hq, dv_dual t q hq, has_not4 _ (dv_lt t _) s hs, dual_not _ q hq, up_fam ht.2 (small_dv t) s hs, has_fam _ _ _ (diff15_lt q)]
theorem has_tab (z : Nat → Nat) (p s : Nat) (hs : s < 4) : has (tabF z p) s = has (upN (z s)) p := by
  unfold tabF has; rw [setOf_bit]; simp [hs]
theorem mono_tab (z : Nat → Nat) : Mono (tabF z) := fun p hp q hq h => sub_has4 _ (small_tab z p hp) _ (small_tab z q hq) fun s hs h1 => by
  rw [has_tab _ _ _ hs] at h1 ⊢
  obtain ⟨r, hr, h2, h3⟩ := (has_up _ _ hp).1 h1
  exact (has_up _ _ hq).2 ⟨r, hr, h2, sub_trans r hr p hp q hq h3 h⟩
theorem tv_tab (z : Nat → Nat) : TValid (text (tabF z) 16) := tv_text (small_tab z) (mono_tab z)
theorem fam_tab (z : Nat → Nat) (s : Nat) (hs : s < 4) : famF (dv (text (tabF z) 16)) s = upN (z s) := ext16 (famF_lt _ _) (upN_lt _) fun q hq => by
  rw [has_fam _ _ _ hq, dv_small (small_tab z) q hq, has_tab _ _ _ hs]
-- monotone tables
theorem mono_and1 {f : Nat → Nat} (hm : Mono f) (hs : Small f) (p q : Nat) (hp : p < 16) (hq : q < 16) : sub (f (andN p q)) (andN (f p) (f q)) = true := by
  have h := and16 p q hp
  rw [sub_and _ (hs _ h) _ (hs p hp) _ (hs q hq), hm _ h p hp (and_sub1 p hp q hq), hm _ h q hq (and_sub2 p hp q hq)]; rfl
theorem mono_or1 {f : Nat → Nat} (hm : Mono f) (hs : Small f) (p q : Nat) (hp : p < 16) (hq : q < 16) : sub (orN (f p) (f q)) (f (orN p q)) = true := by
  have h := orN_16 p q hp hq
  rw [or_sub _ (hs p hp) _ (hs q hq) _ (hs _ h), hm p hp _ h (sub_or p hp q hq), hm q hq _ h (sub_or2 p hp q hq)]; rfl
end Go.Proofs.Ytipkalbomjfckaa
