/-
  The walk of the law FnFamily: it returns true, for all slices of bytes.
-/
import Derived.Test.YtipkalbomjfckaaD4
import Derived.Test.YtipkalbomjfckaaT1
import Derived.Test.YtipkalbomjfckaaK9
import Derived.Maps.AppendAt
namespace Go.Proofs.Ytipkalbomjfckaa
open Go.RowKit
theorem transOf_fam (t : ByteArray) (ht : TValid t) (g cp : Nat) (w : World) (hc : IntsAt w g 0 4 (fun i => ((famF (dv t) i : Nat) : Int))) :
    Calls Try.prog 13 #[.slice (some ⟨g, 0, none⟩) 4 cp] w fun e w' => e = .returned (.tuple #[.string t, .bool true]) ∧ Grew w w' := by
  have h := iTransOf_yes g 0 cp (fun i => famF (dv t) i) w hc (fun i _ => famF_lt _ _)
  rw [tab_fam ht] at h
  exact h
theorem transOf_least (t : ByteArray) (ht : TValid t) (g cp : Nat) (w : World) (hc : IntsAt w g 0 4 (fun i => ((leastN (famF (dv t) i) : Nat) : Int))) :
    Calls Try.prog 13 #[.slice (some ⟨g, 0, none⟩) 4 cp] w fun e w' => e = .returned (.tuple #[.string t, .bool true]) ∧ Grew w w' := by
  have h := iTransOf_yes g 0 cp (fun i => leastN (famF (dv t) i)) w hc (fun i _ => leastN_lt _)
  rw [tab_least, tab_fam ht] at h
  exact h
/-- The first n of these numbers. -/
def rowI (F : Nat → Nat) (n : Nat) : List Int := (List.range n).map fun i => ((F i : Nat) : Int)
theorem rowI_succ (F : Nat → Nat) (n : Nat) : (rowI F (n + 1)).map (Value.int .i64) = (rowI F n).map (Value.int .i64) ++ [.int .i64 ((F n : Nat) : Int)] := by
  unfold rowI; rw [List.range_succ, List.map_append, List.map_append]; rfl
theorem rowI_get (F : Nat → Nat) (n i : Nat) (hi : i < n) : (rowI F n).getD i 0 = ((F i : Nat) : Int) := by
  unfold rowI; simp [List.getD_eq_getElem?_getD, hi]
theorem ints_row {w : World} {g n : Nat} {F : Nat → Nat} (h : IntsAt w g 0 n (fun i => (rowI F n).getD i 0)) : IntsAt w g 0 n (fun i => ((F i : Nat) : Int)) := fun i hi => by
  rw [h i hi]
  show some (Value.int .i64 ((rowI F n).getD i 0)) = _
  rw [rowI_get F n i hi]
theorem IntsAt.grew {w w' : World} {b off n : Nat} {z : Nat → Int} (h : IntsAt w b off n z) (g : Grew w w') : IntsAt w' b off n z := fun i hi => cell_later2 g (h i hi)
def famOf (t : ByteArray) : Nat → Nat := fun i => famF (dv t) i
def leastOfF (t : ByteArray) : Nat → Nat := fun i => leastN (famF (dv t) i)
set_option maxRecDepth 100000 in
set_option maxHeartbeats 4000000 in
theorem wFnFamily (a0 : Option Addr) (len0 cap0 : Nat) (z0 : List Int) (w : World) (w0 : IsRow .u8 w a0 len0 cap0 z0) :
    Calls Try.prog 7 #[.slice a0 len0 cap0] w fun e w' => e = .returned (.bool true) ∧ Grew w w' := by
  have W0 := hid w0
  clear w0
  by_cases hl : 1048576 < len0
  · have hl' : (1048576 : Int) < (len0 : Int) := by omega
    go_enter Try.func7, Try.ntmps7
    go_wp2_with fail
    go_ret
    exact ⟨rfl, Grew.refl _⟩
  · have hl' : ¬ (1048576 : Int) < (len0 : Int) := by omega
    go_enter Try.func7, Try.ntmps7
    go_wp2_with fail
    obtain ⟨i0, hi, hz0, hz1, hz2⟩ := info_parts info_int
    refine (DrawFamilyOf_any a0 len0 cap0 z0 w W0.out (by omega)).mono ?_
    rintro e w2 ⟨t, v, hts, rfl, hg⟩
    replace hg := hid hg
    by_cases hv : TValid t
    · have HT := hid hv
      clear hv
      rcases stateOr v with ⟨s, hs4, rfl⟩ | h2
      · have l1 := famF_lt (dv t) s
        have p1 : ¬ ((famF (dv t) s : Nat) : Int) < 0 := by omega
        go_wp2_with fail
        refine (iFamilyOf_yes t s HT.out hs4 _).mono ?_
        rintro e wk ⟨rfl, hn⟩
        have HG0 := hid (hg.out.trans hn)
        clear hn hg
        go_wp2_with (first | (go_at_call 38; refine (sFamilyOf_yes _ _ (Hid.out (by with_reducible (repeat (first | assumption | apply ht_then | apply ht_meet | apply ht_join | apply ht_dual | exact ht_assert _ (by assumption) | exact ht_assume _ | exact ht_skip | exact ht_fail | exact ht_full)))) (by first | assumption | exact dv_lt _ _ | exact and16 _ _ (by assumption) | exact orN_16 _ _ (by assumption) (by assumption) | exact diff15_lt _) _).mono ?_; rintro e w' ⟨rfl, rfl⟩) | fail)
        go_loopw [6, 7, 8] (fun v1 v2 u wr => ∃ (i : Nat) (y1 y2 : Value), i ≤ 4 ∧ u = .int .i64 i ∧ y1 = v1 ∧ y2 = v2 ∧ wr.ownsRow wk.heap.size 3 1 y1 i ((rowI (famOf t) i).map (Value.int .i64)) ∧ wr.ownsRow wk.heap.size 3 1 y2 i ((rowI (leastOfF t) i).map (Value.int .i64)) ∧ y1.ownBlock ≠ y2.ownBlock ∧ Grew wk wr) (fun _ _ u _ => 4 - (intOf u).toNat)
        case atStart =>
          refine ⟨0, _, _, by omega, rfl, rfl, rfl, (World.ownsRow_made wk #[] 0 (Nat.le_refl _) (by decide) rfl).alloc _, ?_, ?_, (Grew.alloc _ _).trans (Grew.alloc _ _)⟩
          · have h := World.ownsRow_made (base := wk.heap.size) (e := 3) (size := 1) (wk.alloc (.cells #[] 3)) #[] 0 (by simp) (by decide) rfl
            rw [show (wk.alloc (.cells #[] 3)).heap.size = wk.heap.size + 1 from by simp] at h
            exact h
          · simp [Value.ownBlock]
        case round =>
          obtain ⟨i, y1, y2, hi4, rfl, rfl, rfl, ho1, ho2, hd, hg⟩ := hrel
          replace hg := hid hg
          have HO1 := hid ho1
          have HO2 := hid ho2
          have HD := hid hd
          clear ho1 ho2 hd
          by_cases h0 : i < 4
          · have h0' : (i : Int) < 4 := by omega
            have f0 := famF_lt (dv t) i
            go_wp2_with fail
            refine (iFamilyOf_yes t i HT.out h0 _).mono ?_
            rintro e wa ⟨rfl, hn⟩
            replace hg := hid (hg.out.trans hn)
            replace HO1 := hid (owns_grew HO1.out hn)
            replace HO2 := hid (owns_grew HO2.out hn)
            clear hn
            go_wp2_with (first | (at_builtin; refine wpList_append_own_at _ rfl _ _ 22 rfl wk.heap.size 3 i0 (.int .i64 0) 1 8 Try.underlying22 hi hz0 hz1 hz2 rfl (by decide) _ _ _ rfl (HO1.out.alloc _) ⟨_, 0, none⟩ 1 1 [.int .i64 (famF (dv t) i : Nat)] rfl rfl (one_cell _ _ _) (one_one _) (by unfold maxLen; omega) (by omega) (by have := hg.out.size; simp; omega) ?_) | fail)
            intro y3 wb hown hgrow _ hblk
            replace hg : Hid (Grew wk wb) := hid (Below.grown (hg.out.trans (Grew.alloc _ _)) hgrow (by have := hg.out.size; simp; omega) (fun k hk => (HO1.out.lt k hk).1))
            have HO3 : Hid (wb.ownsRow wk.heap.size 3 1 y3 (i + 1) ((rowI (famOf t) (i + 1)).map (Value.int .i64))) := hid (by rw [rowI_succ]; exact hown)
            have HD2 : Hid (y3.ownBlock ≠ y2.ownBlock) := hid (by
              rcases hblk with h | h
              · rw [h]; exact HD.out
              · rw [h]; intro e; have := (HO2.out.lt _ e.symm).2; omega)
            replace HO2 := hid ((HO2.out.alloc _).kept hgrow (.inr (fun e => HD.out e.symm)))
            clear hown hgrow hblk HO1 HD
            go_wp2_with fail
            refine (iFamilyOf_yes t i HT.out h0 _).mono ?_
            rintro e wc ⟨rfl, hn⟩
            replace hg := hid (hg.out.trans hn)
            replace HO3 := hid (owns_grew HO3.out hn)
            replace HO2 := hid (owns_grew HO2.out hn)
            clear hn
            go_wp2_with fail
            refine (leastOf_yes (famF (dv t) i) f0 _).mono ?_
            rintro e wd ⟨rfl, hn⟩
            replace hg := hid (hg.out.trans hn)
            replace HO3 := hid (owns_grew HO3.out hn)
            replace HO2 := hid (owns_grew HO2.out hn)
            clear hn
            go_wp2_with (first | (at_builtin; refine wpList_append_own_at _ rfl _ _ 22 rfl wk.heap.size 3 i0 (.int .i64 0) 1 8 Try.underlying22 hi hz0 hz1 hz2 rfl (by decide) _ _ _ rfl (HO2.out.alloc _) ⟨_, 0, none⟩ 1 1 [.int .i64 (leastN (famF (dv t) i) : Nat)] rfl rfl (one_cell _ _ _) (one_one _) (by unfold maxLen; omega) (by omega) (by have := hg.out.size; simp; omega) ?_) | fail)
            intro y4 we hown hgrow _ hblk
            replace hg : Hid (Grew wk we) := hid (Below.grown (hg.out.trans (Grew.alloc _ _)) hgrow (by have := hg.out.size; simp; omega) (fun k hk => (HO2.out.lt k hk).1))
            have HO4 : Hid (we.ownsRow wk.heap.size 3 1 y4 (i + 1) ((rowI (leastOfF t) (i + 1)).map (Value.int .i64))) := hid (by rw [rowI_succ]; exact hown)
            have HD3 : Hid (y3.ownBlock ≠ y4.ownBlock) := hid (by
              rcases hblk with h | h
              · rw [h]; exact HD2.out
              · rw [h]; intro e; have := (HO3.out.lt _ e).2; omega)
            replace HO3 := hid ((HO3.out.alloc _).kept hgrow (.inr HD2.out))
            clear hown hgrow hblk HO2 HD2
            go_wp2_with fail
            go_roundw
            case rel => exact ⟨i + 1, _, _, by omega, by go_num, rfl, rfl, HO3.out, HO4.out, HD3.out, hg.out⟩
            case measure => simp [intOf]; omega
          · obtain rfl : i = 4 := by omega
            obtain ⟨g1, c1, rfl, hb1, hb2, hb3, hints1⟩ := owns_ints (by omega) HO1.out
            obtain ⟨g2, c2, rfl, hb4, hb5, hb6, hints2⟩ := owns_ints (by omega) HO2.out
            have HI1 := hid (ints_row hints1)
            have HI2 := hid (ints_row hints2)
            clear hints1 hints2 HO1 HO2 HD
            go_wp2_with fail
            refine (transOf_fam t HT.out g1 c1 _ HI1.out).mono ?_
            rintro e wa ⟨rfl, hn⟩
            replace hg := hid (hg.out.trans hn)
            replace HI2 := hid (HI2.out.grew hn)
            clear hn
            go_wp2_with fail
            refine (transOf_least t HT.out g2 c2 _ HI2.out).mono ?_
            rintro e wb ⟨rfl, hn⟩
            replace hg := hid (hg.out.trans hn)
            clear hn
            have e3 := upI_yes (famF (dv t) s) l1
            rw [up_fam HT.out.2 (small_dv t) s hs4] at e3
            have e4 := fam_dualT HT.out s hs4
            have e5 := dualI_yes (famF (dv t) s) l1
            go_wp2_with (first | (go_at_call 17; refine (iUp_all _ _).mono ?_; rintro e w' ⟨rfl, hn⟩; replace hg := hid (hg.out.trans hn); clear hn) | (go_at_call 36; refine (dDual _ (Hid.out (by with_reducible (repeat (first | assumption | apply ht_then | apply ht_meet | apply ht_join | apply ht_dual | exact ht_assert _ (by assumption) | exact ht_assume _ | exact ht_skip | exact ht_fail | exact ht_full)))) _).mono ?_; rintro e w' ⟨rfl, hn⟩; replace hg := hid (hg.out.trans hn); clear hn) | (go_at_call 16; refine (iFamilyOf_yes _ _ (Hid.out (by with_reducible (repeat (first | assumption | apply ht_then | apply ht_meet | apply ht_join | apply ht_dual | exact ht_assert _ (by assumption) | exact ht_assume _ | exact ht_skip | exact ht_fail | exact ht_full)))) (by first | assumption | exact dv_lt _ _ | exact and16 _ _ (by assumption) | exact orN_16 _ _ (by assumption) (by assumption) | exact diff15_lt _) _).mono ?_; rintro e w' ⟨rfl, hn⟩; replace hg := hid (hg.out.trans hn); clear hn) | (go_at_call 40; refine (iDual_all _ _).mono ?_; rintro e w' ⟨rfl, hn⟩; replace hg := hid (hg.out.trans hn); clear hn) | fail)
            go_ret
            exact ⟨rfl, HG0.out.trans hg.out⟩
      · have H2 := hid (stateI_no v h2)
        clear h2
        go_wp2_with fail
        refine (iFamilyOf_no t v (.inr H2.out) _).mono ?_
        rintro e w3 ⟨rfl, hn⟩
        replace hg := hid (hg.out.trans hn)
        clear hn
        go_wp2_with (first | (go_at_call 38; refine (sFamilyOf_no t v hts (.inr H2.out) _).mono ?_; rintro e w' ⟨rfl, rfl⟩) | fail)
        go_ret
        exact ⟨rfl, hg.out⟩
    · have H2 := hid hv
      clear hv
      go_wp2_with fail
      refine (iFamilyOf_no t v (.inl H2.out) _).mono ?_
      rintro e w3 ⟨rfl, hn⟩
      replace hg := hid (hg.out.trans hn)
      clear hn
      go_wp2_with (first | (go_at_call 38; refine (sFamilyOf_no t v hts (.inl H2.out) _).mono ?_; rintro e w' ⟨rfl, rfl⟩) | fail)
      go_ret
      exact ⟨rfl, hg.out⟩
end Go.Proofs.Ytipkalbomjfckaa
