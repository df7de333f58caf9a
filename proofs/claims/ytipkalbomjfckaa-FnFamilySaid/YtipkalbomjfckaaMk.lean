/-
  Proved here: makeRel makes the relation that its function tells, for every function that returns a bool and writes nothing older.
-/
import Derived.Test.YtipkalbomjfckaaLib
import Derived.Test.YtipkalbomjfckaaRows
namespace Go.Proofs.Ytipkalbomjfckaa
open Go.RowKit
theorem info_trans : (Try.prog.info? 53).map (·.size) = some 16 := by kernel_rfl
theorem info_transV (f : Nat → Nat) : (Try.prog.info? 53).map (·.size) = some (arrV 16 f).size := by rw [arrV_size]; exact info_trans
theorem index_trans (f : Nat → Nat) (k : Nat) (w : World) (hk : k < 16) : (Instr.index 53 (.agg (arrV 16 f)) (.int .i64 (k : Int))).run Try.prog w = .ok (.int .i64 ((f k : Nat) : Int)) w :=
  run_index_arr _ 3 16 f k w Try.underlying53 (by kernel_rfl) (by kernel_rfl) hk
attribute [go_sem] index_trans
theorem below_setRow {B g : Nat} {w0 w : World} (hb : Below B w0 w) (hBg : B ≤ g) (cs : Array Value) : Below B w0 (w.setRow g cs) :=
  hb.trans ⟨rfl, rfl, rfl, by simp, fun k hk => setRow_other _ _ _ _ (by omega)⟩
theorem Grew.row (w : World) (o : Obj) (cs : Array Value) : Grew w ((w.alloc o).setRow w.heap.size cs) := below_setRow (Grew.alloc w o) (Nat.le_refl _) cs
theorem Grew.drawn (w : World) (n : Nat) : Grew w (w.drewN n) := ⟨rfl, rfl, rfl, Nat.le_refl _, fun _ _ => rfl⟩
end Go.Proofs.Ytipkalbomjfckaa
