/-
  No cell of these rows narrows 'for every input' (looked for: loops, veiled, ifaces, maps, wideKeys, modest, calm, conditions, laid).
  DERIVED. THE GIVEN ROWS OF THIS SEAT. 8 by the template 'for every input the law returns true; each argument reads behind the call as it read before'; 0 by the template 'total and deterministic' (their statements: YtipkalbomjfckaaTotals.lean).
  GIVEN WITH THE SEED: the statements are not yours to turn. If you find one false, say at which input.
  Laid BY PROGRAM, IN A SANDBOX (cutbox-rows.mjs): the forced cells as the released guide's own fill.sh prints them over the translation a7e70a0e205ee441… (all of the seat's roots in one cut). By AI agents, Wed Nov 11 2026. No macro, syntax, notation, axiom, sorry.
-/
import Derived.Test.YtipkalbomjfckaaChecked
import GoSem.Claim
import GoSem.ClaimJoined
import GoSem.ClaimMapViews
import Derived.JoinedTies
import Derived.KernelRfl
namespace Go.Proofs.Ytipkalbomjfckaa
/- THE CELL 'sum', in the pinned program and in every row, IS THE sha256 OF THE DUMP (.gsa) THAT YtipkalbomjfckaaProg.lean LOADS. Nothing in Lean hashes anything: it is a label: what it is worth is what the hold of that sum in a sandbox is worth. -/
noncomputable def Try.pinned : Pinned := { name := "ytipkalbomjfckaa", sum := "a7e70a0e205ee441d84a08d36f2ae0034686f07f9d24b94ae04515542f428342", checked := Try.checked }
namespace Rows
def none {H : Type} : Left H := { results := [], args := [] }

/-- 'laws.FnExactTransOf': WHATEVER THE INPUT: true; the input reads as it did. -/
def fnExactTransOfSpec : ChangeSpec := { name := "fnExactTransOf", fn := fun _ => fun
  | [d] => { results := [.lit (.bool true)], args := [d] }
  | _ => none }
def fnExactTransOfRow : OpenClaim := { program := "ytipkalbomjfckaa", sum := "a7e70a0e205ee441d84a08d36f2ae0034686f07f9d24b94ae04515542f428342", func := "loop.example/dualchoices/laws.FnExactTransOf", spec := "fnExactTransOf", unfollowed := true, recurses := true, apart := false }
def FnExactTransOfSaid : Prop := fnExactTransOfRow.holds Try.pinned (OpenSpec.ofChange fnExactTransOfSpec)

/-- ITS FALSE NEIGHBOUR: 'it returns false'. Refute it at one input. -/
def fnExactTransOfWrong : ChangeSpec := { name := "fnExactTransOf", fn := fun _ => fun
  | [d] => { results := [.lit (.bool false)], args := [d] }
  | _ => none }
def FnExactTransOfWrongFalsely : Prop := fnExactTransOfRow.holds Try.pinned (OpenSpec.ofChange fnExactTransOfWrong)

/-- 'laws.FnTransOf': WHATEVER THE INPUT: true; the input reads as it did. -/
def fnTransOfSpec : ChangeSpec := { name := "fnTransOf", fn := fun _ => fun
  | [d] => { results := [.lit (.bool true)], args := [d] }
  | _ => none }
def fnTransOfRow : OpenClaim := { program := "ytipkalbomjfckaa", sum := "a7e70a0e205ee441d84a08d36f2ae0034686f07f9d24b94ae04515542f428342", func := "loop.example/dualchoices/laws.FnTransOf", spec := "fnTransOf", inPlace := ["internal/bytealg.IndexByteString"], unfollowed := true, recurses := true, apart := false }
def FnTransOfSaid : Prop := fnTransOfRow.holds Try.pinned (OpenSpec.ofChange fnTransOfSpec)

/-- ITS FALSE NEIGHBOUR: 'it returns false'. Refute it at one input. -/
def fnTransOfWrong : ChangeSpec := { name := "fnTransOf", fn := fun _ => fun
  | [d] => { results := [.lit (.bool false)], args := [d] }
  | _ => none }
def FnTransOfWrongFalsely : Prop := fnTransOfRow.holds Try.pinned (OpenSpec.ofChange fnTransOfWrong)

/-- 'laws.FnMeetJoin': WHATEVER THE INPUT: true; the input reads as it did. -/
def fnMeetJoinSpec : ChangeSpec := { name := "fnMeetJoin", fn := fun _ => fun
  | [d1, d2] => { results := [.lit (.bool true)], args := [d1, d2] }
  | _ => none }
def fnMeetJoinRow : OpenClaim := { program := "ytipkalbomjfckaa", sum := "a7e70a0e205ee441d84a08d36f2ae0034686f07f9d24b94ae04515542f428342", func := "loop.example/dualchoices/laws.FnMeetJoin", spec := "fnMeetJoin", inPlace := ["internal/bytealg.IndexByteString"], unfollowed := true, recurses := true, apart := false }
def FnMeetJoinSaid : Prop := fnMeetJoinRow.holds Try.pinned (OpenSpec.ofChange fnMeetJoinSpec)

/-- ITS FALSE NEIGHBOUR: 'it returns false'. Refute it at one input. -/
def fnMeetJoinWrong : ChangeSpec := { name := "fnMeetJoin", fn := fun _ => fun
  | [d1, d2] => { results := [.lit (.bool false)], args := [d1, d2] }
  | _ => none }
def FnMeetJoinWrongFalsely : Prop := fnMeetJoinRow.holds Try.pinned (OpenSpec.ofChange fnMeetJoinWrong)

/-- 'laws.FnAssert': WHATEVER THE INPUT: true; the input reads as it did. -/
def fnAssertSpec : ChangeSpec := { name := "fnAssert", fn := fun _ => fun
  | [d1, d2] => { results := [.lit (.bool true)], args := [d1, d2] }
  | _ => none }
def fnAssertRow : OpenClaim := { program := "ytipkalbomjfckaa", sum := "a7e70a0e205ee441d84a08d36f2ae0034686f07f9d24b94ae04515542f428342", func := "loop.example/dualchoices/laws.FnAssert", spec := "fnAssert", inPlace := ["internal/bytealg.IndexByteString"], unfollowed := true, recurses := true, apart := false }
def FnAssertSaid : Prop := fnAssertRow.holds Try.pinned (OpenSpec.ofChange fnAssertSpec)

/-- ITS FALSE NEIGHBOUR: 'it returns false'. Refute it at one input. -/
def fnAssertWrong : ChangeSpec := { name := "fnAssert", fn := fun _ => fun
  | [d1, d2] => { results := [.lit (.bool false)], args := [d1, d2] }
  | _ => none }
def FnAssertWrongFalsely : Prop := fnAssertRow.holds Try.pinned (OpenSpec.ofChange fnAssertWrong)

/-- 'laws.FnFamily': WHATEVER THE INPUT: true; the input reads as it did. -/
def fnFamilySpec : ChangeSpec := { name := "fnFamily", fn := fun _ => fun
  | [d] => { results := [.lit (.bool true)], args := [d] }
  | _ => none }
def fnFamilyRow : OpenClaim := { program := "ytipkalbomjfckaa", sum := "a7e70a0e205ee441d84a08d36f2ae0034686f07f9d24b94ae04515542f428342", func := "loop.example/dualchoices/laws.FnFamily", spec := "fnFamily", inPlace := ["internal/bytealg.IndexByteString"], unfollowed := true, recurses := true, apart := false }
def FnFamilySaid : Prop := fnFamilyRow.holds Try.pinned (OpenSpec.ofChange fnFamilySpec)

/-- ITS FALSE NEIGHBOUR: 'it returns false'. Refute it at one input. -/
def fnFamilyWrong : ChangeSpec := { name := "fnFamily", fn := fun _ => fun
  | [d] => { results := [.lit (.bool false)], args := [d] }
  | _ => none }
def FnFamilyWrongFalsely : Prop := fnFamilyRow.holds Try.pinned (OpenSpec.ofChange fnFamilyWrong)

/-- 'laws.FnTransValid': WHATEVER THE INPUT: true; the input reads as it did. -/
def fnTransValidSpec : ChangeSpec := { name := "fnTransValid", fn := fun _ => fun
  | [d1, d2] => { results := [.lit (.bool true)], args := [d1, d2] }
  | _ => none }
def fnTransValidRow : OpenClaim := { program := "ytipkalbomjfckaa", sum := "a7e70a0e205ee441d84a08d36f2ae0034686f07f9d24b94ae04515542f428342", func := "loop.example/dualchoices/laws.FnTransValid", spec := "fnTransValid", inPlace := ["internal/bytealg.IndexByteString"], apart := false }
def FnTransValidSaid : Prop := fnTransValidRow.holds Try.pinned (OpenSpec.ofChange fnTransValidSpec)

/-- ITS FALSE NEIGHBOUR: 'it returns false'. Refute it at one input. -/
def fnTransValidWrong : ChangeSpec := { name := "fnTransValid", fn := fun _ => fun
  | [d1, d2] => { results := [.lit (.bool false)], args := [d1, d2] }
  | _ => none }
def FnTransValidWrongFalsely : Prop := fnTransValidRow.holds Try.pinned (OpenSpec.ofChange fnTransValidWrong)

/-- 'laws.FnThen': WHATEVER THE INPUT: true; the input reads as it did. -/
def fnThenSpec : ChangeSpec := { name := "fnThen", fn := fun _ => fun
  | [d1, d2] => { results := [.lit (.bool true)], args := [d1, d2] }
  | _ => none }
def fnThenRow : OpenClaim := { program := "ytipkalbomjfckaa", sum := "a7e70a0e205ee441d84a08d36f2ae0034686f07f9d24b94ae04515542f428342", func := "loop.example/dualchoices/laws.FnThen", spec := "fnThen", inPlace := ["internal/bytealg.IndexByteString"], unfollowed := true, recurses := true, apart := false }
def FnThenSaid : Prop := fnThenRow.holds Try.pinned (OpenSpec.ofChange fnThenSpec)

/-- ITS FALSE NEIGHBOUR: 'it returns false'. Refute it at one input. -/
def fnThenWrong : ChangeSpec := { name := "fnThen", fn := fun _ => fun
  | [d1, d2] => { results := [.lit (.bool false)], args := [d1, d2] }
  | _ => none }
def FnThenWrongFalsely : Prop := fnThenRow.holds Try.pinned (OpenSpec.ofChange fnThenWrong)

/-- 'laws.FnDual': WHATEVER THE INPUT: true; the input reads as it did. -/
def fnDualSpec : ChangeSpec := { name := "fnDual", fn := fun _ => fun
  | [d1, d2] => { results := [.lit (.bool true)], args := [d1, d2] }
  | _ => none }
def fnDualRow : OpenClaim := { program := "ytipkalbomjfckaa", sum := "a7e70a0e205ee441d84a08d36f2ae0034686f07f9d24b94ae04515542f428342", func := "loop.example/dualchoices/laws.FnDual", spec := "fnDual", inPlace := ["internal/bytealg.IndexByteString"], unfollowed := true, recurses := true, apart := false }
def FnDualSaid : Prop := fnDualRow.holds Try.pinned (OpenSpec.ofChange fnDualSpec)

/-- ITS FALSE NEIGHBOUR: 'it returns false'. Refute it at one input. -/
def fnDualWrong : ChangeSpec := { name := "fnDual", fn := fun _ => fun
  | [d1, d2] => { results := [.lit (.bool false)], args := [d1, d2] }
  | _ => none }
def FnDualWrongFalsely : Prop := fnDualRow.holds Try.pinned (OpenSpec.ofChange fnDualWrong)

/- THE SECOND FORM. 'bulk': how many values and letters a reading holds, each counted each time it is reached (what is shared counts as often as it is met; a slice's spare places count too). A statement '..UptoSaid' is the law's where the arguments, and the package variables that the reading takes, are together of bulk at most 1048576: NARROWER than '..Said'. Prove '..Said' where nothing that the law and all that it calls make is longer than what came in: it says more and counts as full. Else prove '..UptoSaid'. A law counts once. -/
mutual
def uptoBulk {H : Type} : DataW H → Nat
  | .lit (.string bytes) => bytes.length + 1
  | .lit _ => 1
  | .nil => 1
  | .ptr d => uptoBulk d + 1
  | .slice elems spare => uptoBulkAll elems + uptoBulkAll spare + 1
  | .agg parts => uptoBulkAll parts + 1
  | .iface _ d => uptoBulk d + 1
  | .map entries => uptoBulkEntries entries + 1
  | .held _ => 1
def uptoBulkAll {H : Type} : List (DataW H) → Nat
  | [] => 0
  | d :: r => uptoBulk d + uptoBulkAll r
def uptoBulkEntries {H : Type} : List (Lit × DataW H) → Nat
  | [] => 0
  | x :: r => uptoBulkEntry x + uptoBulkEntries r
def uptoBulkEntry {H : Type} : Lit × DataW H → Nat
  | (.string bytes, d) => bytes.length + uptoBulk d + 1
  | (_, d) => uptoBulk d + 1
 end
def uptoSmall : (H : Type) → List (DataW H) → Bool := fun _ ds => decide (uptoBulkAll ds ≤ 1048576)
def OpenSpec.upto (s : _root_.Go.ChangeSpec) : _root_.Go.OpenSpec := { _root_.Go.OpenSpec.ofChange s with cond := some uptoSmall }

/-- 'laws.FnExactTransOf', WHERE WHAT IT READS IS OF BULK AT MOST 1048576: true; the input reads as it did. -/
def fnExactTransOfUptoRow : OpenClaim := { program := "ytipkalbomjfckaa", sum := "a7e70a0e205ee441d84a08d36f2ae0034686f07f9d24b94ae04515542f428342", func := "loop.example/dualchoices/laws.FnExactTransOf", spec := "fnExactTransOf", unfollowed := true, recurses := true, apart := false, narrowed := true }
def FnExactTransOfUptoSaid : Prop := fnExactTransOfUptoRow.holds Try.pinned (OpenSpec.upto fnExactTransOfSpec)

/-- 'laws.FnTransOf', WHERE WHAT IT READS IS OF BULK AT MOST 1048576: true; the input reads as it did. -/
def fnTransOfUptoRow : OpenClaim := { program := "ytipkalbomjfckaa", sum := "a7e70a0e205ee441d84a08d36f2ae0034686f07f9d24b94ae04515542f428342", func := "loop.example/dualchoices/laws.FnTransOf", spec := "fnTransOf", inPlace := ["internal/bytealg.IndexByteString"], unfollowed := true, recurses := true, apart := false, narrowed := true }
def FnTransOfUptoSaid : Prop := fnTransOfUptoRow.holds Try.pinned (OpenSpec.upto fnTransOfSpec)

/-- 'laws.FnMeetJoin', WHERE WHAT IT READS IS OF BULK AT MOST 1048576: true; the input reads as it did. -/
def fnMeetJoinUptoRow : OpenClaim := { program := "ytipkalbomjfckaa", sum := "a7e70a0e205ee441d84a08d36f2ae0034686f07f9d24b94ae04515542f428342", func := "loop.example/dualchoices/laws.FnMeetJoin", spec := "fnMeetJoin", inPlace := ["internal/bytealg.IndexByteString"], unfollowed := true, recurses := true, apart := false, narrowed := true }
def FnMeetJoinUptoSaid : Prop := fnMeetJoinUptoRow.holds Try.pinned (OpenSpec.upto fnMeetJoinSpec)

/-- 'laws.FnAssert', WHERE WHAT IT READS IS OF BULK AT MOST 1048576: true; the input reads as it did. -/
def fnAssertUptoRow : OpenClaim := { program := "ytipkalbomjfckaa", sum := "a7e70a0e205ee441d84a08d36f2ae0034686f07f9d24b94ae04515542f428342", func := "loop.example/dualchoices/laws.FnAssert", spec := "fnAssert", inPlace := ["internal/bytealg.IndexByteString"], unfollowed := true, recurses := true, apart := false, narrowed := true }
def FnAssertUptoSaid : Prop := fnAssertUptoRow.holds Try.pinned (OpenSpec.upto fnAssertSpec)

/-- 'laws.FnFamily', WHERE WHAT IT READS IS OF BULK AT MOST 1048576: true; the input reads as it did. -/
def fnFamilyUptoRow : OpenClaim := { program := "ytipkalbomjfckaa", sum := "a7e70a0e205ee441d84a08d36f2ae0034686f07f9d24b94ae04515542f428342", func := "loop.example/dualchoices/laws.FnFamily", spec := "fnFamily", inPlace := ["internal/bytealg.IndexByteString"], unfollowed := true, recurses := true, apart := false, narrowed := true }
def FnFamilyUptoSaid : Prop := fnFamilyUptoRow.holds Try.pinned (OpenSpec.upto fnFamilySpec)

/-- 'laws.FnTransValid', WHERE WHAT IT READS IS OF BULK AT MOST 1048576: true; the input reads as it did. -/
def fnTransValidUptoRow : OpenClaim := { program := "ytipkalbomjfckaa", sum := "a7e70a0e205ee441d84a08d36f2ae0034686f07f9d24b94ae04515542f428342", func := "loop.example/dualchoices/laws.FnTransValid", spec := "fnTransValid", inPlace := ["internal/bytealg.IndexByteString"], apart := false, narrowed := true }
def FnTransValidUptoSaid : Prop := fnTransValidUptoRow.holds Try.pinned (OpenSpec.upto fnTransValidSpec)

/-- 'laws.FnThen', WHERE WHAT IT READS IS OF BULK AT MOST 1048576: true; the input reads as it did. -/
def fnThenUptoRow : OpenClaim := { program := "ytipkalbomjfckaa", sum := "a7e70a0e205ee441d84a08d36f2ae0034686f07f9d24b94ae04515542f428342", func := "loop.example/dualchoices/laws.FnThen", spec := "fnThen", inPlace := ["internal/bytealg.IndexByteString"], unfollowed := true, recurses := true, apart := false, narrowed := true }
def FnThenUptoSaid : Prop := fnThenUptoRow.holds Try.pinned (OpenSpec.upto fnThenSpec)

/-- 'laws.FnDual', WHERE WHAT IT READS IS OF BULK AT MOST 1048576: true; the input reads as it did. -/
def fnDualUptoRow : OpenClaim := { program := "ytipkalbomjfckaa", sum := "a7e70a0e205ee441d84a08d36f2ae0034686f07f9d24b94ae04515542f428342", func := "loop.example/dualchoices/laws.FnDual", spec := "fnDual", inPlace := ["internal/bytealg.IndexByteString"], unfollowed := true, recurses := true, apart := false, narrowed := true }
def FnDualUptoSaid : Prop := fnDualUptoRow.holds Try.pinned (OpenSpec.upto fnDualSpec)

end Rows
end Go.Proofs.Ytipkalbomjfckaa
