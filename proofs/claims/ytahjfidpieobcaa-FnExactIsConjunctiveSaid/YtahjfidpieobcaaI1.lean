/-
  Proved here: what the functions of one or two numbers (HasState, Implies, AndCondition, InFamily and their like) return in the program and in the reference, for all numbers.
-/
import Derived.Test.YtahjfidpieobcaaC1
namespace Go.Proofs.Ytahjfidpieobcaa
open Go.RowKit
def condI (p : Int) : Bool := decide (0 ≤ p) && decide (p ≤ 15)
def famI (p : Int) : Bool := decide (0 ≤ p) && decide (p ≤ 65535)
def stateI (p : Int) : Bool := decide (0 ≤ p) && decide (p ≤ 3)
def hasI (p s : Int) : Bool := condI p && stateI s && has p.toNat s.toNat
def infI (f p : Int) : Bool := famI f && condI p && has f.toNat p.toNat
def impI (p q : Int) : Bool := condI p && condI q && sub p.toNat q.toNat
def andI (p q : Int) : Int := if condI p && condI q then ((andN p.toNat q.toNat : Nat) : Int) else -1
def orI (p q : Int) : Int := if condI p && condI q then ((orN p.toNat q.toNat : Nat) : Int) else -1
def notN (p : Nat) : Nat := diff 15 p
def notI (p : Int) : Int := if condI p then ((notN p.toNat : Nat) : Int) else -1
def cntI (p : Int) : Int := if condI p then ((ones p.toNat : Nat) : Int) else -1
theorem condI_yes (n : Nat) (h : n < 16) : condI (n : Int) = true := by unfold condI; simp; omega
theorem condI_no (p : Int) (h : p < 0 ∨ 15 < p) : condI p = false := by
  unfold condI
  rcases h with h | h
  · have : decide (0 ≤ p) = false := by simp; omega
    rw [this]; rfl
  · have : decide (p ≤ 15) = false := by simp; omega
    rw [this]; simp
theorem famI_yes (n : Nat) (h : n < 65536) : famI (n : Int) = true := by unfold famI; simp; omega
theorem famI_no (p : Int) (h : p < 0 ∨ 65535 < p) : famI p = false := by
  unfold famI
  rcases h with h | h
  · have : decide (0 ≤ p) = false := by simp; omega
    rw [this]; rfl
  · have : decide (p ≤ 65535) = false := by simp; omega
    rw [this]; simp
theorem stateI_yes (n : Nat) (h : n < 4) : stateI (n : Int) = true := by unfold stateI; simp; omega
theorem stateI_no (p : Int) (h : p < 0 ∨ 3 < p) : stateI p = false := by
  unfold stateI
  rcases h with h | h
  · have : decide (0 ≤ p) = false := by simp; omega
    rw [this]; rfl
  · have : decide (p ≤ 3) = false := by simp; omega
    rw [this]; simp
theorem hasI_yes (n m : Nat) (h : n < 16) (k : m < 4) : hasI (n : Int) (m : Int) = has n m := by unfold hasI; rw [condI_yes n h, stateI_yes m k]; simp
theorem hasI_no (p s : Int) (h : condI p = false) : hasI p s = false := by unfold hasI; rw [h]; rfl
theorem hasI_no2 (p s : Int) (h : stateI s = false) : hasI p s = false := by unfold hasI; rw [h]; simp
theorem infI_yes (n m : Nat) (h : n < 65536) (k : m < 16) : infI (n : Int) (m : Int) = has n m := by unfold infI; rw [famI_yes n h, condI_yes m k]; simp
theorem infI_no (p s : Int) (h : famI p = false) : infI p s = false := by unfold infI; rw [h]; rfl
theorem infI_no2 (p s : Int) (h : condI s = false) : infI p s = false := by unfold infI; rw [h]; simp
theorem impI_yes (n m : Nat) (h : n < 16) (k : m < 16) : impI (n : Int) (m : Int) = sub n m := by unfold impI; rw [condI_yes n h, condI_yes m k]; simp
theorem impI_no (p s : Int) (h : condI p = false) : impI p s = false := by unfold impI; rw [h]; rfl
theorem impI_no2 (p s : Int) (h : condI s = false) : impI p s = false := by unfold impI; rw [h]; simp
theorem andI_yes (n m : Nat) (h : n < 16) (k : m < 16) : andI (n : Int) (m : Int) = ((andN n m : Nat) : Int) := by unfold andI; rw [condI_yes n h, condI_yes m k]; simp
theorem andI_no (p s : Int) (h : condI p = false) : andI p s = -1 := by unfold andI; rw [h]; rfl
theorem andI_no2 (p s : Int) (h : condI s = false) : andI p s = -1 := by unfold andI; rw [h]; simp
theorem orI_yes (n m : Nat) (h : n < 16) (k : m < 16) : orI (n : Int) (m : Int) = ((orN n m : Nat) : Int) := by unfold orI; rw [condI_yes n h, condI_yes m k]; simp
theorem orI_no (p s : Int) (h : condI p = false) : orI p s = -1 := by unfold orI; rw [h]; rfl
theorem orI_no2 (p s : Int) (h : condI s = false) : orI p s = -1 := by unfold orI; rw [h]; simp
theorem notI_yes (n : Nat) (h : n < 16) : notI (n : Int) = ((notN n : Nat) : Int) := by unfold notI; rw [condI_yes n h]; simp
theorem notI_no (p : Int) (h : condI p = false) : notI p = -1 := by unfold notI; rw [h]; rfl
theorem cntI_yes (n : Nat) (h : n < 16) : cntI (n : Int) = ((ones n : Nat) : Int) := by unfold cntI; rw [condI_yes n h]; simp
theorem cntI_no (p : Int) (h : condI p = false) : cntI p = -1 := by unfold cntI; rw [h]; rfl
theorem not_i64 (p : Nat) (hp : p < 16) : bits .andNot .i64 15 (p : Int) = ((notN p : Nat) : Int) := andNot_i64 15 p (by omega) (by omega)
theorem iCond_all (p : Int) (w : World) :
    Calls Try.prog 42 #[.int .i64 p] w fun e w' => e = .returned (.bool (condI p)) ∧ w = w' := by
  rcases condOr p with ⟨n, hn, rfl⟩ | h
  · rw [condI_yes n hn]; exact icv_yes n hn w
  · rw [condI_no p h]; exact icv_no p h w
theorem sCond_all (p : Int) (w : World) :
    Calls Try.prog 39 #[.int .i64 p] w fun e w' => e = .returned (.bool (condI p)) ∧ w = w' := by
  rcases condOr p with ⟨n, hn, rfl⟩ | h
  · rw [condI_yes n hn]; exact scv_yes n hn w
  · rw [condI_no p h]; exact scv_no p h w
end Go.Proofs.Ytahjfidpieobcaa
