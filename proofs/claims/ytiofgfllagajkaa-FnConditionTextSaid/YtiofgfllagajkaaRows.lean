/-
  No cell of these rows narrows 'for every input' (looked for: loops, veiled, ifaces, maps, wideKeys, modest, calm, conditions, laid).
  DERIVED. THE GIVEN ROWS OF THIS SEAT. 11 by the template 'for every input the law returns true; each argument reads behind the call as it read before'; 0 by the template 'total and deterministic' (their statements: YtiofgfllagajkaaTotals.lean).
  GIVEN WITH THE SEED: the statements are not yours to turn. If you find one false, say at which input.
  Laid BY PROGRAM, IN A SANDBOX (cutbox-rows.mjs): the forced cells as the released guide's own fill.sh prints them over the translation 502529752f8b7026… (all of the seat's roots in one cut). By AI agents, Wed Nov 11 2026. No macro, syntax, notation, axiom, sorry.
-/
import Derived.Test.YtiofgfllagajkaaChecked
import GoSem.Claim
import GoSem.ClaimJoined
import GoSem.ClaimMapViews
import Derived.JoinedTies
import Derived.KernelRfl
namespace Go.Proofs.Ytiofgfllagajkaa
/- THE CELL 'sum', in the pinned program and in every row, IS THE sha256 OF THE DUMP (.gsa) THAT YtiofgfllagajkaaProg.lean LOADS. Nothing in Lean hashes anything: it is a label: what it is worth is what the hold of that sum in a sandbox is worth. -/
noncomputable def Try.pinned : Pinned := { name := "ytiofgfllagajkaa", sum := "502529752f8b70260d868323e8c5c96d621368eb9dbad606adf8fe48f068bbf6", checked := Try.checked }
namespace Rows
def none {H : Type} : Left H := { results := [], args := [] }

/-- 'laws.FnExactDualFamily': WHATEVER THE INPUT: true; the input reads as it did. -/
def fnExactDualFamilySpec : ChangeSpec := { name := "fnExactDualFamily", fn := fun _ => fun
  | [d] => { results := [.lit (.bool true)], args := [d] }
  | _ => none }
def fnExactDualFamilyRow : OpenClaim := { program := "ytiofgfllagajkaa", sum := "502529752f8b70260d868323e8c5c96d621368eb9dbad606adf8fe48f068bbf6", func := "loop.example/dualchoices/laws.FnExactDualFamily", spec := "fnExactDualFamily", unfollowed := true, recurses := true, apart := false }
def FnExactDualFamilySaid : Prop := fnExactDualFamilyRow.holds Try.pinned (OpenSpec.ofChange fnExactDualFamilySpec)

/-- ITS FALSE NEIGHBOUR: 'it returns false'. Refute it at one input. -/
def fnExactDualFamilyWrong : ChangeSpec := { name := "fnExactDualFamily", fn := fun _ => fun
  | [d] => { results := [.lit (.bool false)], args := [d] }
  | _ => none }
def FnExactDualFamilyWrongFalsely : Prop := fnExactDualFamilyRow.holds Try.pinned (OpenSpec.ofChange fnExactDualFamilyWrong)

/-- 'laws.FnExactCloseUp': WHATEVER THE INPUT: true; the input reads as it did. -/
def fnExactCloseUpSpec : ChangeSpec := { name := "fnExactCloseUp", fn := fun _ => fun
  | [d] => { results := [.lit (.bool true)], args := [d] }
  | _ => none }
def fnExactCloseUpRow : OpenClaim := { program := "ytiofgfllagajkaa", sum := "502529752f8b70260d868323e8c5c96d621368eb9dbad606adf8fe48f068bbf6", func := "loop.example/dualchoices/laws.FnExactCloseUp", spec := "fnExactCloseUp", unfollowed := true, recurses := true, apart := false }
def FnExactCloseUpSaid : Prop := fnExactCloseUpRow.holds Try.pinned (OpenSpec.ofChange fnExactCloseUpSpec)

/-- ITS FALSE NEIGHBOUR: 'it returns false'. Refute it at one input. -/
def fnExactCloseUpWrong : ChangeSpec := { name := "fnExactCloseUp", fn := fun _ => fun
  | [d] => { results := [.lit (.bool false)], args := [d] }
  | _ => none }
def FnExactCloseUpWrongFalsely : Prop := fnExactCloseUpRow.holds Try.pinned (OpenSpec.ofChange fnExactCloseUpWrong)

/-- 'laws.FnExactLeastOf': WHATEVER THE INPUT: true; the input reads as it did. -/
def fnExactLeastOfSpec : ChangeSpec := { name := "fnExactLeastOf", fn := fun _ => fun
  | [d] => { results := [.lit (.bool true)], args := [d] }
  | _ => none }
def fnExactLeastOfRow : OpenClaim := { program := "ytiofgfllagajkaa", sum := "502529752f8b70260d868323e8c5c96d621368eb9dbad606adf8fe48f068bbf6", func := "loop.example/dualchoices/laws.FnExactLeastOf", spec := "fnExactLeastOf", unfollowed := true, recurses := true, apart := false }
def FnExactLeastOfSaid : Prop := fnExactLeastOfRow.holds Try.pinned (OpenSpec.ofChange fnExactLeastOfSpec)

/-- ITS FALSE NEIGHBOUR: 'it returns false'. Refute it at one input. -/
def fnExactLeastOfWrong : ChangeSpec := { name := "fnExactLeastOf", fn := fun _ => fun
  | [d] => { results := [.lit (.bool false)], args := [d] }
  | _ => none }
def FnExactLeastOfWrongFalsely : Prop := fnExactLeastOfRow.holds Try.pinned (OpenSpec.ofChange fnExactLeastOfWrong)

/-- 'laws.FnExactFormatCondition': WHATEVER THE INPUT: true; the input reads as it did. -/
def fnExactFormatConditionSpec : ChangeSpec := { name := "fnExactFormatCondition", fn := fun _ => fun
  | [d] => { results := [.lit (.bool true)], args := [d] }
  | _ => none }
def fnExactFormatConditionRow : OpenClaim := { program := "ytiofgfllagajkaa", sum := "502529752f8b70260d868323e8c5c96d621368eb9dbad606adf8fe48f068bbf6", func := "loop.example/dualchoices/laws.FnExactFormatCondition", spec := "fnExactFormatCondition", recurses := true, apart := false }
def FnExactFormatConditionSaid : Prop := fnExactFormatConditionRow.holds Try.pinned (OpenSpec.ofChange fnExactFormatConditionSpec)

/-- ITS FALSE NEIGHBOUR: 'it returns false'. Refute it at one input. -/
def fnExactFormatConditionWrong : ChangeSpec := { name := "fnExactFormatCondition", fn := fun _ => fun
  | [d] => { results := [.lit (.bool false)], args := [d] }
  | _ => none }
def FnExactFormatConditionWrongFalsely : Prop := fnExactFormatConditionRow.holds Try.pinned (OpenSpec.ofChange fnExactFormatConditionWrong)

/-- 'laws.FnExactParseCondition': WHATEVER THE INPUT: true; the input reads as it did. -/
def fnExactParseConditionSpec : ChangeSpec := { name := "fnExactParseCondition", fn := fun _ => fun
  | [d] => { results := [.lit (.bool true)], args := [d] }
  | _ => none }
def fnExactParseConditionRow : OpenClaim := { program := "ytiofgfllagajkaa", sum := "502529752f8b70260d868323e8c5c96d621368eb9dbad606adf8fe48f068bbf6", func := "loop.example/dualchoices/laws.FnExactParseCondition", spec := "fnExactParseCondition", recurses := true, apart := false }
def FnExactParseConditionSaid : Prop := fnExactParseConditionRow.holds Try.pinned (OpenSpec.ofChange fnExactParseConditionSpec)

/-- ITS FALSE NEIGHBOUR: 'it returns false'. Refute it at one input. -/
def fnExactParseConditionWrong : ChangeSpec := { name := "fnExactParseCondition", fn := fun _ => fun
  | [d] => { results := [.lit (.bool false)], args := [d] }
  | _ => none }
def FnExactParseConditionWrongFalsely : Prop := fnExactParseConditionRow.holds Try.pinned (OpenSpec.ofChange fnExactParseConditionWrong)

/-- 'laws.FnHasState': WHATEVER THE INPUT: true; the input reads as it did. -/
def fnHasStateSpec : ChangeSpec := { name := "fnHasState", fn := fun _ => fun
  | [d] => { results := [.lit (.bool true)], args := [d] }
  | _ => none }
def fnHasStateRow : OpenClaim := { program := "ytiofgfllagajkaa", sum := "502529752f8b70260d868323e8c5c96d621368eb9dbad606adf8fe48f068bbf6", func := "loop.example/dualchoices/laws.FnHasState", spec := "fnHasState", apart := false }
def FnHasStateSaid : Prop := fnHasStateRow.holds Try.pinned (OpenSpec.ofChange fnHasStateSpec)

/-- ITS FALSE NEIGHBOUR: 'it returns false'. Refute it at one input. -/
def fnHasStateWrong : ChangeSpec := { name := "fnHasState", fn := fun _ => fun
  | [d] => { results := [.lit (.bool false)], args := [d] }
  | _ => none }
def FnHasStateWrongFalsely : Prop := fnHasStateRow.holds Try.pinned (OpenSpec.ofChange fnHasStateWrong)

/-- 'laws.FnCondition': WHATEVER THE INPUT: true; the input reads as it did. -/
def fnConditionSpec : ChangeSpec := { name := "fnCondition", fn := fun _ => fun
  | [d] => { results := [.lit (.bool true)], args := [d] }
  | _ => none }
def fnConditionRow : OpenClaim := { program := "ytiofgfllagajkaa", sum := "502529752f8b70260d868323e8c5c96d621368eb9dbad606adf8fe48f068bbf6", func := "loop.example/dualchoices/laws.FnCondition", spec := "fnCondition", apart := false }
def FnConditionSaid : Prop := fnConditionRow.holds Try.pinned (OpenSpec.ofChange fnConditionSpec)

/-- ITS FALSE NEIGHBOUR: 'it returns false'. Refute it at one input. -/
def fnConditionWrong : ChangeSpec := { name := "fnCondition", fn := fun _ => fun
  | [d] => { results := [.lit (.bool false)], args := [d] }
  | _ => none }
def FnConditionWrongFalsely : Prop := fnConditionRow.holds Try.pinned (OpenSpec.ofChange fnConditionWrong)

/-- 'laws.FnInFamily': WHATEVER THE INPUT: true; the input reads as it did. -/
def fnInFamilySpec : ChangeSpec := { name := "fnInFamily", fn := fun _ => fun
  | [d1, d2] => { results := [.lit (.bool true)], args := [d1, d2] }
  | _ => none }
def fnInFamilyRow : OpenClaim := { program := "ytiofgfllagajkaa", sum := "502529752f8b70260d868323e8c5c96d621368eb9dbad606adf8fe48f068bbf6", func := "loop.example/dualchoices/laws.FnInFamily", spec := "fnInFamily", unfollowed := true, recurses := true, apart := false }
def FnInFamilySaid : Prop := fnInFamilyRow.holds Try.pinned (OpenSpec.ofChange fnInFamilySpec)

/-- ITS FALSE NEIGHBOUR: 'it returns false'. Refute it at one input. -/
def fnInFamilyWrong : ChangeSpec := { name := "fnInFamily", fn := fun _ => fun
  | [d1, d2] => { results := [.lit (.bool false)], args := [d1, d2] }
  | _ => none }
def FnInFamilyWrongFalsely : Prop := fnInFamilyRow.holds Try.pinned (OpenSpec.ofChange fnInFamilyWrong)

/-- 'laws.FnDualFamily': WHATEVER THE INPUT: true; the input reads as it did. -/
def fnDualFamilySpec : ChangeSpec := { name := "fnDualFamily", fn := fun _ => fun
  | [d] => { results := [.lit (.bool true)], args := [d] }
  | _ => none }
def fnDualFamilyRow : OpenClaim := { program := "ytiofgfllagajkaa", sum := "502529752f8b70260d868323e8c5c96d621368eb9dbad606adf8fe48f068bbf6", func := "loop.example/dualchoices/laws.FnDualFamily", spec := "fnDualFamily", unfollowed := true, recurses := true, apart := false }
def FnDualFamilySaid : Prop := fnDualFamilyRow.holds Try.pinned (OpenSpec.ofChange fnDualFamilySpec)

/-- ITS FALSE NEIGHBOUR: 'it returns false'. Refute it at one input. -/
def fnDualFamilyWrong : ChangeSpec := { name := "fnDualFamily", fn := fun _ => fun
  | [d] => { results := [.lit (.bool false)], args := [d] }
  | _ => none }
def FnDualFamilyWrongFalsely : Prop := fnDualFamilyRow.holds Try.pinned (OpenSpec.ofChange fnDualFamilyWrong)

/-- 'laws.FnCloseUp': WHATEVER THE INPUT: true; the input reads as it did. -/
def fnCloseUpSpec : ChangeSpec := { name := "fnCloseUp", fn := fun _ => fun
  | [d] => { results := [.lit (.bool true)], args := [d] }
  | _ => none }
def fnCloseUpRow : OpenClaim := { program := "ytiofgfllagajkaa", sum := "502529752f8b70260d868323e8c5c96d621368eb9dbad606adf8fe48f068bbf6", func := "loop.example/dualchoices/laws.FnCloseUp", spec := "fnCloseUp", unfollowed := true, recurses := true, apart := false }
def FnCloseUpSaid : Prop := fnCloseUpRow.holds Try.pinned (OpenSpec.ofChange fnCloseUpSpec)

/-- ITS FALSE NEIGHBOUR: 'it returns false'. Refute it at one input. -/
def fnCloseUpWrong : ChangeSpec := { name := "fnCloseUp", fn := fun _ => fun
  | [d] => { results := [.lit (.bool false)], args := [d] }
  | _ => none }
def FnCloseUpWrongFalsely : Prop := fnCloseUpRow.holds Try.pinned (OpenSpec.ofChange fnCloseUpWrong)

/-- 'laws.FnConditionText': WHATEVER THE INPUT: true; the input reads as it did. -/
def fnConditionTextSpec : ChangeSpec := { name := "fnConditionText", fn := fun _ => fun
  | [d1, d2] => { results := [.lit (.bool true)], args := [d1, d2] }
  | _ => none }
def fnConditionTextRow : OpenClaim := { program := "ytiofgfllagajkaa", sum := "502529752f8b70260d868323e8c5c96d621368eb9dbad606adf8fe48f068bbf6", func := "loop.example/dualchoices/laws.FnConditionText", spec := "fnConditionText", recurses := true, apart := false }
def FnConditionTextSaid : Prop := fnConditionTextRow.holds Try.pinned (OpenSpec.ofChange fnConditionTextSpec)

/-- ITS FALSE NEIGHBOUR: 'it returns false'. Refute it at one input. -/
def fnConditionTextWrong : ChangeSpec := { name := "fnConditionText", fn := fun _ => fun
  | [d1, d2] => { results := [.lit (.bool false)], args := [d1, d2] }
  | _ => none }
def FnConditionTextWrongFalsely : Prop := fnConditionTextRow.holds Try.pinned (OpenSpec.ofChange fnConditionTextWrong)

/- THE SECOND FORM. 'bulk': how many values and letters a reading holds, each counted each time it is reached (what is shared counts as often as it is met; a slice's spare places count too). A statement '..UptoSaid' is the law's where the arguments, and the package variables that the reading takes, are together of bulk at most 1048576: NARROWER than '..Said'. Prove '..Said' where nothing that the law and all that it calls make is longer than what came in: it says more and counts as full. Else prove '..UptoSaid'. A law counts once. -/
mutual
def uptoBulk {H : Type} : DataW H → Nat
  | .lit (.string bytes) => bytes.length + 1
  | .lit _ => 1
  | .nil => 1
  | .ptr d => uptoBulk d + 1
  | .slice elems spare => uptoBulkAll elems + uptoBulkAll spare + 1
  | .agg parts => uptoBulkAll parts + 1
  | .iface _ d => uptoBulk d + 1
  | .map entries => uptoBulkEntries entries + 1
  | .held _ => 1
def uptoBulkAll {H : Type} : List (DataW H) → Nat
  | [] => 0
  | d :: r => uptoBulk d + uptoBulkAll r
def uptoBulkEntries {H : Type} : List (Lit × DataW H) → Nat
  | [] => 0
  | x :: r => uptoBulkEntry x + uptoBulkEntries r
def uptoBulkEntry {H : Type} : Lit × DataW H → Nat
  | (.string bytes, d) => bytes.length + uptoBulk d + 1
  | (_, d) => uptoBulk d + 1
 end
def uptoSmall : (H : Type) → List (DataW H) → Bool := fun _ ds => decide (uptoBulkAll ds ≤ 1048576)
def OpenSpec.upto (s : _root_.Go.ChangeSpec) : _root_.Go.OpenSpec := { _root_.Go.OpenSpec.ofChange s with cond := some uptoSmall }

/-- 'laws.FnExactDualFamily', WHERE WHAT IT READS IS OF BULK AT MOST 1048576: true; the input reads as it did. -/
def fnExactDualFamilyUptoRow : OpenClaim := { program := "ytiofgfllagajkaa", sum := "502529752f8b70260d868323e8c5c96d621368eb9dbad606adf8fe48f068bbf6", func := "loop.example/dualchoices/laws.FnExactDualFamily", spec := "fnExactDualFamily", unfollowed := true, recurses := true, apart := false, narrowed := true }
def FnExactDualFamilyUptoSaid : Prop := fnExactDualFamilyUptoRow.holds Try.pinned (OpenSpec.upto fnExactDualFamilySpec)

/-- 'laws.FnExactCloseUp', WHERE WHAT IT READS IS OF BULK AT MOST 1048576: true; the input reads as it did. -/
def fnExactCloseUpUptoRow : OpenClaim := { program := "ytiofgfllagajkaa", sum := "502529752f8b70260d868323e8c5c96d621368eb9dbad606adf8fe48f068bbf6", func := "loop.example/dualchoices/laws.FnExactCloseUp", spec := "fnExactCloseUp", unfollowed := true, recurses := true, apart := false, narrowed := true }
def FnExactCloseUpUptoSaid : Prop := fnExactCloseUpUptoRow.holds Try.pinned (OpenSpec.upto fnExactCloseUpSpec)

/-- 'laws.FnExactLeastOf', WHERE WHAT IT READS IS OF BULK AT MOST 1048576: true; the input reads as it did. -/
def fnExactLeastOfUptoRow : OpenClaim := { program := "ytiofgfllagajkaa", sum := "502529752f8b70260d868323e8c5c96d621368eb9dbad606adf8fe48f068bbf6", func := "loop.example/dualchoices/laws.FnExactLeastOf", spec := "fnExactLeastOf", unfollowed := true, recurses := true, apart := false, narrowed := true }
def FnExactLeastOfUptoSaid : Prop := fnExactLeastOfUptoRow.holds Try.pinned (OpenSpec.upto fnExactLeastOfSpec)

/-- 'laws.FnExactFormatCondition', WHERE WHAT IT READS IS OF BULK AT MOST 1048576: true; the input reads as it did. -/
def fnExactFormatConditionUptoRow : OpenClaim := { program := "ytiofgfllagajkaa", sum := "502529752f8b70260d868323e8c5c96d621368eb9dbad606adf8fe48f068bbf6", func := "loop.example/dualchoices/laws.FnExactFormatCondition", spec := "fnExactFormatCondition", recurses := true, apart := false, narrowed := true }
def FnExactFormatConditionUptoSaid : Prop := fnExactFormatConditionUptoRow.holds Try.pinned (OpenSpec.upto fnExactFormatConditionSpec)

/-- 'laws.FnExactParseCondition', WHERE WHAT IT READS IS OF BULK AT MOST 1048576: true; the input reads as it did. -/
def fnExactParseConditionUptoRow : OpenClaim := { program := "ytiofgfllagajkaa", sum := "502529752f8b70260d868323e8c5c96d621368eb9dbad606adf8fe48f068bbf6", func := "loop.example/dualchoices/laws.FnExactParseCondition", spec := "fnExactParseCondition", recurses := true, apart := false, narrowed := true }
def FnExactParseConditionUptoSaid : Prop := fnExactParseConditionUptoRow.holds Try.pinned (OpenSpec.upto fnExactParseConditionSpec)

/-- 'laws.FnHasState', WHERE WHAT IT READS IS OF BULK AT MOST 1048576: true; the input reads as it did. -/
def fnHasStateUptoRow : OpenClaim := { program := "ytiofgfllagajkaa", sum := "502529752f8b70260d868323e8c5c96d621368eb9dbad606adf8fe48f068bbf6", func := "loop.example/dualchoices/laws.FnHasState", spec := "fnHasState", apart := false, narrowed := true }
def FnHasStateUptoSaid : Prop := fnHasStateUptoRow.holds Try.pinned (OpenSpec.upto fnHasStateSpec)

/-- 'laws.FnCondition', WHERE WHAT IT READS IS OF BULK AT MOST 1048576: true; the input reads as it did. -/
def fnConditionUptoRow : OpenClaim := { program := "ytiofgfllagajkaa", sum := "502529752f8b70260d868323e8c5c96d621368eb9dbad606adf8fe48f068bbf6", func := "loop.example/dualchoices/laws.FnCondition", spec := "fnCondition", apart := false, narrowed := true }
def FnConditionUptoSaid : Prop := fnConditionUptoRow.holds Try.pinned (OpenSpec.upto fnConditionSpec)

/-- 'laws.FnInFamily', WHERE WHAT IT READS IS OF BULK AT MOST 1048576: true; the input reads as it did. -/
def fnInFamilyUptoRow : OpenClaim := { program := "ytiofgfllagajkaa", sum := "502529752f8b70260d868323e8c5c96d621368eb9dbad606adf8fe48f068bbf6", func := "loop.example/dualchoices/laws.FnInFamily", spec := "fnInFamily", unfollowed := true, recurses := true, apart := false, narrowed := true }
def FnInFamilyUptoSaid : Prop := fnInFamilyUptoRow.holds Try.pinned (OpenSpec.upto fnInFamilySpec)

/-- 'laws.FnDualFamily', WHERE WHAT IT READS IS OF BULK AT MOST 1048576: true; the input reads as it did. -/
def fnDualFamilyUptoRow : OpenClaim := { program := "ytiofgfllagajkaa", sum := "502529752f8b70260d868323e8c5c96d621368eb9dbad606adf8fe48f068bbf6", func := "loop.example/dualchoices/laws.FnDualFamily", spec := "fnDualFamily", unfollowed := true, recurses := true, apart := false, narrowed := true }
def FnDualFamilyUptoSaid : Prop := fnDualFamilyUptoRow.holds Try.pinned (OpenSpec.upto fnDualFamilySpec)

/-- 'laws.FnCloseUp', WHERE WHAT IT READS IS OF BULK AT MOST 1048576: true; the input reads as it did. -/
def fnCloseUpUptoRow : OpenClaim := { program := "ytiofgfllagajkaa", sum := "502529752f8b70260d868323e8c5c96d621368eb9dbad606adf8fe48f068bbf6", func := "loop.example/dualchoices/laws.FnCloseUp", spec := "fnCloseUp", unfollowed := true, recurses := true, apart := false, narrowed := true }
def FnCloseUpUptoSaid : Prop := fnCloseUpUptoRow.holds Try.pinned (OpenSpec.upto fnCloseUpSpec)

/-- 'laws.FnConditionText', WHERE WHAT IT READS IS OF BULK AT MOST 1048576: true; the input reads as it did. -/
def fnConditionTextUptoRow : OpenClaim := { program := "ytiofgfllagajkaa", sum := "502529752f8b70260d868323e8c5c96d621368eb9dbad606adf8fe48f068bbf6", func := "loop.example/dualchoices/laws.FnConditionText", spec := "fnConditionText", recurses := true, apart := false, narrowed := true }
def FnConditionTextUptoSaid : Prop := fnConditionTextUptoRow.holds Try.pinned (OpenSpec.upto fnConditionTextSpec)

end Rows
end Go.Proofs.Ytiofgfllagajkaa
