/-
  Proved here: what the functions of one or two numbers (HasState, Implies, AndCondition, InFamily and their like) return in the program and in the reference, for all numbers.
-/
import Derived.Test.YtipkalbomjfckaaC1
namespace Go.Proofs.Ytipkalbomjfckaa
open Go.RowKit
def condI (p : Int) : Bool := decide (0 ≤ p) && decide (p ≤ 15)
def famI (p : Int) : Bool := decide (0 ≤ p) && decide (p ≤ 65535)
def stateI (p : Int) : Bool := decide (0 ≤ p) && decide (p ≤ 3)
def hasI (p s : Int) : Bool := condI p && stateI s && has p.toNat s.toNat
def infI (f p : Int) : Bool := famI f && condI p && has f.toNat p.toNat
def impI (p q : Int) : Bool := condI p && condI q && sub p.toNat q.toNat
def andI (p q : Int) : Int := if condI p && condI q then ((andN p.toNat q.toNat : Nat) : Int) else -1
def orI (p q : Int) : Int := if condI p && condI q then ((orN p.toNat q.toNat : Nat) : Int) else -1
def notN (p : Nat) : Nat := diff 15 p
def notI (p : Int) : Int := if condI p then ((notN p.toNat : Nat) : Int) else -1
def cntI (p : Int) : Int := if condI p then ((ones p.toNat : Nat) : Int) else -1
theorem condI_yes (n : Nat) (h : n < 16) : condI (n : Int) = true := by unfold condI; simp; omega
theorem condI_no (p : Int) (h : p < 0 ∨ 15 < p) : condI p = false := by
  unfold condI
  rcases h with h | h
  · have : decide (0 ≤ p) = false := by simp; omega
    rw [this]; rfl
  · have : decide (p ≤ 15) = false := by simp; omega
    rw [this]; simp
theorem famI_yes (n : Nat) (h : n < 65536) : famI (n : Int) = true := by unfold famI; simp; omega
theorem famI_no (p : Int) (h : p < 0 ∨ 65535 < p) : famI p = false := by
  unfold famI
  rcases h with h | h
  · have : decide (0 ≤ p) = false := by simp; omega
    rw [this]; rfl
  · have : decide (p ≤ 65535) = false := by simp; omega
    rw [this]; simp
theorem stateI_yes (n : Nat) (h : n < 4) : stateI (n : Int) = true := by unfold stateI; simp; omega
theorem stateI_no (p : Int) (h : p < 0 ∨ 3 < p) : stateI p = false := by
  unfold stateI
  rcases h with h | h
  · have : decide (0 ≤ p) = false := by simp; omega
    rw [this]; rfl
  · have : decide (p ≤ 3) = false := by simp; omega
    rw [this]; simp
theorem hasI_yes (n m : Nat) (h : n < 16) (k : m < 4) : hasI (n : Int) (m : Int) = has n m := by unfold hasI; rw [condI_yes n h, stateI_yes m k]; simp
theorem hasI_no (p s : Int) (h : condI p = false) : hasI p s = false := by unfold hasI; rw [h]; rfl
theorem hasI_no2 (p s : Int) (h : stateI s = false) : hasI p s = false := by unfold hasI; rw [h]; simp
theorem infI_yes (n m : Nat) (h : n < 65536) (k : m < 16) : infI (n : Int) (m : Int) = has n m := by unfold infI; rw [famI_yes n h, condI_yes m k]; simp
theorem infI_no (p s : Int) (h : famI p = false) : infI p s = false := by unfold infI; rw [h]; rfl
theorem infI_no2 (p s : Int) (h : condI s = false) : infI p s = false := by unfold infI; rw [h]; simp
theorem impI_yes (n m : Nat) (h : n < 16) (k : m < 16) : impI (n : Int) (m : Int) = sub n m := by unfold impI; rw [condI_yes n h, condI_yes m k]; simp
theorem impI_no (p s : Int) (h : condI p = false) : impI p s = false := by unfold impI; rw [h]; rfl
theorem impI_no2 (p s : Int) (h : condI s = false) : impI p s = false := by unfold impI; rw [h]; simp
theorem andI_yes (n m : Nat) (h : n < 16) (k : m < 16) : andI (n : Int) (m : Int) = ((andN n m : Nat) : Int) := by unfold andI; rw [condI_yes n h, condI_yes m k]; simp
theorem andI_no (p s : Int) (h : condI p = false) : andI p s = -1 := by unfold andI; rw [h]; rfl
theorem andI_no2 (p s : Int) (h : condI s = false) : andI p s = -1 := by unfold andI; rw [h]; simp
theorem orI_yes (n m : Nat) (h : n < 16) (k : m < 16) : orI (n : Int) (m : Int) = ((orN n m : Nat) : Int) := by unfold orI; rw [condI_yes n h, condI_yes m k]; simp
theorem orI_no (p s : Int) (h : condI p = false) : orI p s = -1 := by unfold orI; rw [h]; rfl
theorem orI_no2 (p s : Int) (h : condI s = false) : orI p s = -1 := by unfold orI; rw [h]; simp
theorem notI_yes (n : Nat) (h : n < 16) : notI (n : Int) = ((notN n : Nat) : Int) := by unfold notI; rw [condI_yes n h]; simp
theorem notI_no (p : Int) (h : condI p = false) : notI p = -1 := by unfold notI; rw [h]; rfl
theorem cntI_yes (n : Nat) (h : n < 16) : cntI (n : Int) = ((ones n : Nat) : Int) := by unfold cntI; rw [condI_yes n h]; simp
theorem cntI_no (p : Int) (h : condI p = false) : cntI p = -1 := by unfold cntI; rw [h]; rfl
theorem not_i64 (p : Nat) (hp : p < 16) : bits .andNot .i64 15 (p : Int) = ((notN p : Nat) : Int) := andNot_i64 15 p (by omega) (by omega)
theorem iCond_all (p : Int) (w : World) :
    Calls Try.prog 81 #[.int .i64 p] w fun e w' => e = .returned (.bool (condI p)) ∧ w = w' := by
  rcases condOr p with ⟨n, hn, rfl⟩ | h
  · rw [condI_yes n hn]; exact icv_yes n hn w
  · rw [condI_no p h]; exact icv_no p h w
theorem sCond_all (p : Int) (w : World) :
    Calls Try.prog 83 #[.int .i64 p] w fun e w' => e = .returned (.bool (condI p)) ∧ w = w' := by
  rcases condOr p with ⟨n, hn, rfl⟩ | h
  · rw [condI_yes n hn]; exact scv_yes n hn w
  · rw [condI_no p h]; exact scv_no p h w
theorem iFam_all (p : Int) (w : World) :
    Calls Try.prog 58 #[.int .i64 p] w fun e w' => e = .returned (.bool (famI p)) ∧ w = w' := by
  rcases famOr p with ⟨n, hn, rfl⟩ | h
  · rw [famI_yes n hn]; exact ifv_yes n hn w
  · rw [famI_no p h]; exact ifv_no p h w
theorem sFam_all (p : Int) (w : World) :
    Calls Try.prog 54 #[.int .i64 p] w fun e w' => e = .returned (.bool (famI p)) ∧ w = w' := by
  rcases famOr p with ⟨n, hn, rfl⟩ | h
  · rw [famI_yes n hn]; exact sfv_yes n hn w
  · rw [famI_no p h]; exact sfv_no p h w
set_option maxHeartbeats 400000 in
theorem iImp_all (p q : Int) (w : World) :
    Calls Try.prog 47 #[.int .i64 p, .int .i64 q] w fun e w' => e = .returned (.bool (impI p q)) ∧ w = w' := by
  rcases condOr p with ⟨n, hn, rfl⟩ | h
  · rcases condOr q with ⟨m, hm, rfl⟩ | h2
    · rw [impI_yes n m hn hm]
      have b1 : n < 65536 := by omega
      have b2 : m < 65536 := by omega
      have b3 : m < 16 := by omega
      go_enter Try.func47, Try.ntmps47
      go_wp2_with (first | (go_at_call 81; with_reducible refine (icv_yes n hn _).mono ?_; rintro e w' ⟨rfl, rfl⟩) | (go_at_call 81; with_reducible refine (icv_yes m hm _).mono ?_; rintro e w' ⟨rfl, rfl⟩) | fail)
      go_ret
      exact ⟨rfl, rfl⟩
    · rw [impI_no2 _ q (condI_no q h2)]
      have H2 := hid h2
      clear h2
      go_enter Try.func47, Try.ntmps47
      go_wp2_with (first | (go_at_call 81; with_reducible refine (icv_yes n hn _).mono ?_; rintro e w' ⟨rfl, rfl⟩) | (go_at_call 81; with_reducible refine (icv_no q H2.out _).mono ?_; rintro e w' ⟨rfl, rfl⟩) | fail)
      go_ret
      exact ⟨rfl, rfl⟩
  · rw [impI_no p _ (condI_no p h)]
    have H1 := hid h
    clear h
    go_enter Try.func47, Try.ntmps47
    go_wp2_with (first | (go_at_call 81; with_reducible refine (icv_no p H1.out _).mono ?_; rintro e w' ⟨rfl, rfl⟩) | fail)
    go_ret
    exact ⟨rfl, rfl⟩
set_option maxHeartbeats 400000 in
theorem iAnd_all (p q : Int) (w : World) :
    Calls Try.prog 35 #[.int .i64 p, .int .i64 q] w fun e w' => e = .returned (.int .i64 (andI p q)) ∧ w = w' := by
  rcases condOr p with ⟨n, hn, rfl⟩ | h
  · rcases condOr q with ⟨m, hm, rfl⟩ | h2
    · rw [andI_yes n m hn hm]
      have b1 : n < 65536 := by omega
      have b2 : m < 65536 := by omega
      have b3 : m < 16 := by omega
      go_enter Try.func35, Try.ntmps35
      go_wp2_with (first | (go_at_call 81; with_reducible refine (icv_yes n hn _).mono ?_; rintro e w' ⟨rfl, rfl⟩) | (go_at_call 81; with_reducible refine (icv_yes m hm _).mono ?_; rintro e w' ⟨rfl, rfl⟩) | fail)
      go_ret
      exact ⟨rfl, rfl⟩
    · rw [andI_no2 _ q (condI_no q h2)]
      have H2 := hid h2
      clear h2
      go_enter Try.func35, Try.ntmps35
      go_wp2_with (first | (go_at_call 81; with_reducible refine (icv_yes n hn _).mono ?_; rintro e w' ⟨rfl, rfl⟩) | (go_at_call 81; with_reducible refine (icv_no q H2.out _).mono ?_; rintro e w' ⟨rfl, rfl⟩) | fail)
      go_ret
      exact ⟨rfl, rfl⟩
  · rw [andI_no p _ (condI_no p h)]
    have H1 := hid h
    clear h
    go_enter Try.func35, Try.ntmps35
    go_wp2_with (first | (go_at_call 81; with_reducible refine (icv_no p H1.out _).mono ?_; rintro e w' ⟨rfl, rfl⟩) | fail)
    go_ret
    exact ⟨rfl, rfl⟩
set_option maxHeartbeats 400000 in
theorem iOr_all (p q : Int) (w : World) :
    Calls Try.prog 46 #[.int .i64 p, .int .i64 q] w fun e w' => e = .returned (.int .i64 (orI p q)) ∧ w = w' := by
  rcases condOr p with ⟨n, hn, rfl⟩ | h
  · rcases condOr q with ⟨m, hm, rfl⟩ | h2
    · rw [orI_yes n m hn hm]
      have b1 : n < 65536 := by omega
      have b2 : m < 65536 := by omega
      have b3 : m < 16 := by omega
      go_enter Try.func46, Try.ntmps46
      go_wp2_with (first | (go_at_call 81; with_reducible refine (icv_yes n hn _).mono ?_; rintro e w' ⟨rfl, rfl⟩) | (go_at_call 81; with_reducible refine (icv_yes m hm _).mono ?_; rintro e w' ⟨rfl, rfl⟩) | fail)
      go_ret
      exact ⟨rfl, rfl⟩
    · rw [orI_no2 _ q (condI_no q h2)]
      have H2 := hid h2
      clear h2
      go_enter Try.func46, Try.ntmps46
      go_wp2_with (first | (go_at_call 81; with_reducible refine (icv_yes n hn _).mono ?_; rintro e w' ⟨rfl, rfl⟩) | (go_at_call 81; with_reducible refine (icv_no q H2.out _).mono ?_; rintro e w' ⟨rfl, rfl⟩) | fail)
      go_ret
      exact ⟨rfl, rfl⟩
  · rw [orI_no p _ (condI_no p h)]
    have H1 := hid h
    clear h
    go_enter Try.func46, Try.ntmps46
    go_wp2_with (first | (go_at_call 81; with_reducible refine (icv_no p H1.out _).mono ?_; rintro e w' ⟨rfl, rfl⟩) | fail)
    go_ret
    exact ⟨rfl, rfl⟩
theorem iNot_all (p : Int) (w : World) :
    Calls Try.prog 53 #[.int .i64 p] w fun e w' => e = .returned (.int .i64 (notI p)) ∧ w = w' := by
  rcases condOr p with ⟨n, hn, rfl⟩ | h
  · rw [notI_yes n hn]
    have b1 := not_i64 n hn
    go_enter Try.func53, Try.ntmps53
    go_wp2_with (first | (go_at_call 81; refine (icv_yes _ hn _).mono ?_; rintro e w' ⟨rfl, rfl⟩) | fail)
    go_ret
    exact ⟨rfl, rfl⟩
  · rw [notI_no p (condI_no p h)]
    have H1 := hid h
    clear h
    go_enter Try.func53, Try.ntmps53
    go_wp2_with (first | (go_at_call 81; refine (icv_no _ H1.out _).mono ?_; rintro e w' ⟨rfl, rfl⟩) | fail)
    go_ret
    exact ⟨rfl, rfl⟩
end Go.Proofs.Ytipkalbomjfckaa
