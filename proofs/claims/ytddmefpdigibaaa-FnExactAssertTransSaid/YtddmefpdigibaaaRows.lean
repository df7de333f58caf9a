/-
  No cell of these rows narrows 'for every input' (looked for: loops, veiled, ifaces, maps, wideKeys, modest, calm, conditions, laid).
  DERIVED. THE GIVEN ROWS OF THIS SEAT. 12 by the template 'for every input the law returns true; each argument reads behind the call as it read before'; 0 by the template 'total and deterministic' (their statements: YtddmefpdigibaaaTotals.lean).
  GIVEN WITH THE SEED: the statements are not yours to turn. If you find one false, say at which input.
  Laid BY PROGRAM, IN A SANDBOX (cutbox-rows.mjs): the forced cells as the released guide's own fill.sh prints them over the translation bf33e815b9831214… (all of the seat's roots in one cut). By AI agents, Wed Nov 11 2026. No macro, syntax, notation, axiom, sorry.
-/
import Derived.Test.YtddmefpdigibaaaChecked
import GoSem.Claim
import GoSem.ClaimJoined
import GoSem.ClaimMapViews
import Derived.JoinedTies
import Derived.KernelRfl
namespace Go.Proofs.Ytddmefpdigibaaa
/- THE CELL 'sum', in the pinned program and in every row, IS THE sha256 OF THE DUMP (.gsa) THAT YtddmefpdigibaaaProg.lean LOADS. Nothing in Lean hashes anything: it is a label: what it is worth is what the hold of that sum in a sandbox is worth. -/
noncomputable def Try.pinned : Pinned := { name := "ytddmefpdigibaaa", sum := "bf33e815b983121476b36fc518af9ddcb67824d8454b837af618eb88d4bb58d1", checked := Try.checked }
namespace Rows
def none {H : Type} : Left H := { results := [], args := [] }

/-- 'laws.FnExactConstants': WHATEVER THE INPUT: true; the input reads as it did. -/
def fnExactConstantsSpec : ChangeSpec := { name := "fnExactConstants", fn := fun _ => fun
  | [] => { results := [.lit (.bool true)], args := [] }
  | _ => none }
def fnExactConstantsRow : OpenClaim := { program := "ytddmefpdigibaaa", sum := "bf33e815b983121476b36fc518af9ddcb67824d8454b837af618eb88d4bb58d1", func := "loop.example/dualchoices/laws.FnExactConstants", spec := "fnExactConstants", apart := false }
def FnExactConstantsSaid : Prop := fnExactConstantsRow.holds Try.pinned (OpenSpec.ofChange fnExactConstantsSpec)

/-- ITS FALSE NEIGHBOUR: 'it returns false'. Refute it at one input. -/
def fnExactConstantsWrong : ChangeSpec := { name := "fnExactConstants", fn := fun _ => fun
  | [] => { results := [.lit (.bool false)], args := [] }
  | _ => none }
def FnExactConstantsWrongFalsely : Prop := fnExactConstantsRow.holds Try.pinned (OpenSpec.ofChange fnExactConstantsWrong)

/-- 'laws.FnExactConditionValid': WHATEVER THE INPUT: true; the input reads as it did. -/
def fnExactConditionValidSpec : ChangeSpec := { name := "fnExactConditionValid", fn := fun _ => fun
  | [d] => { results := [.lit (.bool true)], args := [d] }
  | _ => none }
def fnExactConditionValidRow : OpenClaim := { program := "ytddmefpdigibaaa", sum := "bf33e815b983121476b36fc518af9ddcb67824d8454b837af618eb88d4bb58d1", func := "loop.example/dualchoices/laws.FnExactConditionValid", spec := "fnExactConditionValid", apart := false }
def FnExactConditionValidSaid : Prop := fnExactConditionValidRow.holds Try.pinned (OpenSpec.ofChange fnExactConditionValidSpec)

/-- ITS FALSE NEIGHBOUR: 'it returns false'. Refute it at one input. -/
def fnExactConditionValidWrong : ChangeSpec := { name := "fnExactConditionValid", fn := fun _ => fun
  | [d] => { results := [.lit (.bool false)], args := [d] }
  | _ => none }
def FnExactConditionValidWrongFalsely : Prop := fnExactConditionValidRow.holds Try.pinned (OpenSpec.ofChange fnExactConditionValidWrong)

/-- 'laws.FnExactFamilyValid': WHATEVER THE INPUT: true; the input reads as it did. -/
def fnExactFamilyValidSpec : ChangeSpec := { name := "fnExactFamilyValid", fn := fun _ => fun
  | [d] => { results := [.lit (.bool true)], args := [d] }
  | _ => none }
def fnExactFamilyValidRow : OpenClaim := { program := "ytddmefpdigibaaa", sum := "bf33e815b983121476b36fc518af9ddcb67824d8454b837af618eb88d4bb58d1", func := "loop.example/dualchoices/laws.FnExactFamilyValid", spec := "fnExactFamilyValid", apart := false }
def FnExactFamilyValidSaid : Prop := fnExactFamilyValidRow.holds Try.pinned (OpenSpec.ofChange fnExactFamilyValidSpec)

/-- ITS FALSE NEIGHBOUR: 'it returns false'. Refute it at one input. -/
def fnExactFamilyValidWrong : ChangeSpec := { name := "fnExactFamilyValid", fn := fun _ => fun
  | [d] => { results := [.lit (.bool false)], args := [d] }
  | _ => none }
def FnExactFamilyValidWrongFalsely : Prop := fnExactFamilyValidRow.holds Try.pinned (OpenSpec.ofChange fnExactFamilyValidWrong)

/-- 'laws.FnExactImplies': WHATEVER THE INPUT: true; the input reads as it did. -/
def fnExactImpliesSpec : ChangeSpec := { name := "fnExactImplies", fn := fun _ => fun
  | [d1, d2] => { results := [.lit (.bool true)], args := [d1, d2] }
  | _ => none }
def fnExactImpliesRow : OpenClaim := { program := "ytddmefpdigibaaa", sum := "bf33e815b983121476b36fc518af9ddcb67824d8454b837af618eb88d4bb58d1", func := "loop.example/dualchoices/laws.FnExactImplies", spec := "fnExactImplies", apart := false }
def FnExactImpliesSaid : Prop := fnExactImpliesRow.holds Try.pinned (OpenSpec.ofChange fnExactImpliesSpec)

/-- ITS FALSE NEIGHBOUR: 'it returns false'. Refute it at one input. -/
def fnExactImpliesWrong : ChangeSpec := { name := "fnExactImplies", fn := fun _ => fun
  | [d1, d2] => { results := [.lit (.bool false)], args := [d1, d2] }
  | _ => none }
def FnExactImpliesWrongFalsely : Prop := fnExactImpliesRow.holds Try.pinned (OpenSpec.ofChange fnExactImpliesWrong)

/-- 'laws.FnExactHasState': WHATEVER THE INPUT: true; the input reads as it did. -/
def fnExactHasStateSpec : ChangeSpec := { name := "fnExactHasState", fn := fun _ => fun
  | [d1, d2] => { results := [.lit (.bool true)], args := [d1, d2] }
  | _ => none }
def fnExactHasStateRow : OpenClaim := { program := "ytddmefpdigibaaa", sum := "bf33e815b983121476b36fc518af9ddcb67824d8454b837af618eb88d4bb58d1", func := "loop.example/dualchoices/laws.FnExactHasState", spec := "fnExactHasState", apart := false }
def FnExactHasStateSaid : Prop := fnExactHasStateRow.holds Try.pinned (OpenSpec.ofChange fnExactHasStateSpec)

/-- ITS FALSE NEIGHBOUR: 'it returns false'. Refute it at one input. -/
def fnExactHasStateWrong : ChangeSpec := { name := "fnExactHasState", fn := fun _ => fun
  | [d1, d2] => { results := [.lit (.bool false)], args := [d1, d2] }
  | _ => none }
def FnExactHasStateWrongFalsely : Prop := fnExactHasStateRow.holds Try.pinned (OpenSpec.ofChange fnExactHasStateWrong)

/-- 'laws.FnExactInFamily': WHATEVER THE INPUT: true; the input reads as it did. -/
def fnExactInFamilySpec : ChangeSpec := { name := "fnExactInFamily", fn := fun _ => fun
  | [d1, d2] => { results := [.lit (.bool true)], args := [d1, d2] }
  | _ => none }
def fnExactInFamilyRow : OpenClaim := { program := "ytddmefpdigibaaa", sum := "bf33e815b983121476b36fc518af9ddcb67824d8454b837af618eb88d4bb58d1", func := "loop.example/dualchoices/laws.FnExactInFamily", spec := "fnExactInFamily", apart := false }
def FnExactInFamilySaid : Prop := fnExactInFamilyRow.holds Try.pinned (OpenSpec.ofChange fnExactInFamilySpec)

/-- ITS FALSE NEIGHBOUR: 'it returns false'. Refute it at one input. -/
def fnExactInFamilyWrong : ChangeSpec := { name := "fnExactInFamily", fn := fun _ => fun
  | [d1, d2] => { results := [.lit (.bool false)], args := [d1, d2] }
  | _ => none }
def FnExactInFamilyWrongFalsely : Prop := fnExactInFamilyRow.holds Try.pinned (OpenSpec.ofChange fnExactInFamilyWrong)

/-- 'laws.FnExactNotCondition': WHATEVER THE INPUT: true; the input reads as it did. -/
def fnExactNotConditionSpec : ChangeSpec := { name := "fnExactNotCondition", fn := fun _ => fun
  | [d] => { results := [.lit (.bool true)], args := [d] }
  | _ => none }
def fnExactNotConditionRow : OpenClaim := { program := "ytddmefpdigibaaa", sum := "bf33e815b983121476b36fc518af9ddcb67824d8454b837af618eb88d4bb58d1", func := "loop.example/dualchoices/laws.FnExactNotCondition", spec := "fnExactNotCondition", apart := false }
def FnExactNotConditionSaid : Prop := fnExactNotConditionRow.holds Try.pinned (OpenSpec.ofChange fnExactNotConditionSpec)

/-- ITS FALSE NEIGHBOUR: 'it returns false'. Refute it at one input. -/
def fnExactNotConditionWrong : ChangeSpec := { name := "fnExactNotCondition", fn := fun _ => fun
  | [d] => { results := [.lit (.bool false)], args := [d] }
  | _ => none }
def FnExactNotConditionWrongFalsely : Prop := fnExactNotConditionRow.holds Try.pinned (OpenSpec.ofChange fnExactNotConditionWrong)

/-- 'laws.FnExactAndCondition': WHATEVER THE INPUT: true; the input reads as it did. -/
def fnExactAndConditionSpec : ChangeSpec := { name := "fnExactAndCondition", fn := fun _ => fun
  | [d1, d2] => { results := [.lit (.bool true)], args := [d1, d2] }
  | _ => none }
def fnExactAndConditionRow : OpenClaim := { program := "ytddmefpdigibaaa", sum := "bf33e815b983121476b36fc518af9ddcb67824d8454b837af618eb88d4bb58d1", func := "loop.example/dualchoices/laws.FnExactAndCondition", spec := "fnExactAndCondition", apart := false }
def FnExactAndConditionSaid : Prop := fnExactAndConditionRow.holds Try.pinned (OpenSpec.ofChange fnExactAndConditionSpec)

/-- ITS FALSE NEIGHBOUR: 'it returns false'. Refute it at one input. -/
def fnExactAndConditionWrong : ChangeSpec := { name := "fnExactAndCondition", fn := fun _ => fun
  | [d1, d2] => { results := [.lit (.bool false)], args := [d1, d2] }
  | _ => none }
def FnExactAndConditionWrongFalsely : Prop := fnExactAndConditionRow.holds Try.pinned (OpenSpec.ofChange fnExactAndConditionWrong)

/-- 'laws.FnExactOrCondition': WHATEVER THE INPUT: true; the input reads as it did. -/
def fnExactOrConditionSpec : ChangeSpec := { name := "fnExactOrCondition", fn := fun _ => fun
  | [d1, d2] => { results := [.lit (.bool true)], args := [d1, d2] }
  | _ => none }
def fnExactOrConditionRow : OpenClaim := { program := "ytddmefpdigibaaa", sum := "bf33e815b983121476b36fc518af9ddcb67824d8454b837af618eb88d4bb58d1", func := "loop.example/dualchoices/laws.FnExactOrCondition", spec := "fnExactOrCondition", apart := false }
def FnExactOrConditionSaid : Prop := fnExactOrConditionRow.holds Try.pinned (OpenSpec.ofChange fnExactOrConditionSpec)

/-- ITS FALSE NEIGHBOUR: 'it returns false'. Refute it at one input. -/
def fnExactOrConditionWrong : ChangeSpec := { name := "fnExactOrCondition", fn := fun _ => fun
  | [d1, d2] => { results := [.lit (.bool false)], args := [d1, d2] }
  | _ => none }
def FnExactOrConditionWrongFalsely : Prop := fnExactOrConditionRow.holds Try.pinned (OpenSpec.ofChange fnExactOrConditionWrong)

/-- 'laws.FnExactCountStates': WHATEVER THE INPUT: true; the input reads as it did. -/
def fnExactCountStatesSpec : ChangeSpec := { name := "fnExactCountStates", fn := fun _ => fun
  | [d] => { results := [.lit (.bool true)], args := [d] }
  | _ => none }
def fnExactCountStatesRow : OpenClaim := { program := "ytddmefpdigibaaa", sum := "bf33e815b983121476b36fc518af9ddcb67824d8454b837af618eb88d4bb58d1", func := "loop.example/dualchoices/laws.FnExactCountStates", spec := "fnExactCountStates", apart := false }
def FnExactCountStatesSaid : Prop := fnExactCountStatesRow.holds Try.pinned (OpenSpec.ofChange fnExactCountStatesSpec)

/-- ITS FALSE NEIGHBOUR: 'it returns false'. Refute it at one input. -/
def fnExactCountStatesWrong : ChangeSpec := { name := "fnExactCountStates", fn := fun _ => fun
  | [d] => { results := [.lit (.bool false)], args := [d] }
  | _ => none }
def FnExactCountStatesWrongFalsely : Prop := fnExactCountStatesRow.holds Try.pinned (OpenSpec.ofChange fnExactCountStatesWrong)

/-- 'laws.FnExactTestRel': WHATEVER THE INPUT: true; the input reads as it did. -/
def fnExactTestRelSpec : ChangeSpec := { name := "fnExactTestRel", fn := fun _ => fun
  | [d] => { results := [.lit (.bool true)], args := [d] }
  | _ => none }
def fnExactTestRelRow : OpenClaim := { program := "ytddmefpdigibaaa", sum := "bf33e815b983121476b36fc518af9ddcb67824d8454b837af618eb88d4bb58d1", func := "loop.example/dualchoices/laws.FnExactTestRel", spec := "fnExactTestRel", unfollowed := true, recurses := true, apart := false }
def FnExactTestRelSaid : Prop := fnExactTestRelRow.holds Try.pinned (OpenSpec.ofChange fnExactTestRelSpec)

/-- ITS FALSE NEIGHBOUR: 'it returns false'. Refute it at one input. -/
def fnExactTestRelWrong : ChangeSpec := { name := "fnExactTestRel", fn := fun _ => fun
  | [d] => { results := [.lit (.bool false)], args := [d] }
  | _ => none }
def FnExactTestRelWrongFalsely : Prop := fnExactTestRelRow.holds Try.pinned (OpenSpec.ofChange fnExactTestRelWrong)

/-- 'laws.FnExactAssertTrans': WHATEVER THE INPUT: true; the input reads as it did. -/
def fnExactAssertTransSpec : ChangeSpec := { name := "fnExactAssertTrans", fn := fun _ => fun
  | [d] => { results := [.lit (.bool true)], args := [d] }
  | _ => none }
def fnExactAssertTransRow : OpenClaim := { program := "ytddmefpdigibaaa", sum := "bf33e815b983121476b36fc518af9ddcb67824d8454b837af618eb88d4bb58d1", func := "loop.example/dualchoices/laws.FnExactAssertTrans", spec := "fnExactAssertTrans", unfollowed := true, recurses := true, apart := false }
def FnExactAssertTransSaid : Prop := fnExactAssertTransRow.holds Try.pinned (OpenSpec.ofChange fnExactAssertTransSpec)

/-- ITS FALSE NEIGHBOUR: 'it returns false'. Refute it at one input. -/
def fnExactAssertTransWrong : ChangeSpec := { name := "fnExactAssertTrans", fn := fun _ => fun
  | [d] => { results := [.lit (.bool false)], args := [d] }
  | _ => none }
def FnExactAssertTransWrongFalsely : Prop := fnExactAssertTransRow.holds Try.pinned (OpenSpec.ofChange fnExactAssertTransWrong)

/- THE SECOND FORM. 'bulk': how many values and letters a reading holds, each counted each time it is reached (what is shared counts as often as it is met; a slice's spare places count too). A statement '..UptoSaid' is the law's where the arguments, and the package variables that the reading takes, are together of bulk at most 1048576: NARROWER than '..Said'. Prove '..Said' where nothing that the law and all that it calls make is longer than what came in: it says more and counts as full. Else prove '..UptoSaid'. A law counts once. -/
mutual
def uptoBulk {H : Type} : DataW H → Nat
  | .lit (.string bytes) => bytes.length + 1
  | .lit _ => 1
  | .nil => 1
  | .ptr d => uptoBulk d + 1
  | .slice elems spare => uptoBulkAll elems + uptoBulkAll spare + 1
  | .agg parts => uptoBulkAll parts + 1
  | .iface _ d => uptoBulk d + 1
  | .map entries => uptoBulkEntries entries + 1
  | .held _ => 1
def uptoBulkAll {H : Type} : List (DataW H) → Nat
  | [] => 0
  | d :: r => uptoBulk d + uptoBulkAll r
def uptoBulkEntries {H : Type} : List (Lit × DataW H) → Nat
  | [] => 0
  | x :: r => uptoBulkEntry x + uptoBulkEntries r
def uptoBulkEntry {H : Type} : Lit × DataW H → Nat
  | (.string bytes, d) => bytes.length + uptoBulk d + 1
  | (_, d) => uptoBulk d + 1
 end
def uptoSmall : (H : Type) → List (DataW H) → Bool := fun _ ds => decide (uptoBulkAll ds ≤ 1048576)
def OpenSpec.upto (s : _root_.Go.ChangeSpec) : _root_.Go.OpenSpec := { _root_.Go.OpenSpec.ofChange s with cond := some uptoSmall }

/-- 'laws.FnExactConstants', WHERE WHAT IT READS IS OF BULK AT MOST 1048576: true; the input reads as it did. -/
def fnExactConstantsUptoRow : OpenClaim := { program := "ytddmefpdigibaaa", sum := "bf33e815b983121476b36fc518af9ddcb67824d8454b837af618eb88d4bb58d1", func := "loop.example/dualchoices/laws.FnExactConstants", spec := "fnExactConstants", apart := false, narrowed := true }
def FnExactConstantsUptoSaid : Prop := fnExactConstantsUptoRow.holds Try.pinned (OpenSpec.upto fnExactConstantsSpec)

/-- 'laws.FnExactConditionValid', WHERE WHAT IT READS IS OF BULK AT MOST 1048576: true; the input reads as it did. -/
def fnExactConditionValidUptoRow : OpenClaim := { program := "ytddmefpdigibaaa", sum := "bf33e815b983121476b36fc518af9ddcb67824d8454b837af618eb88d4bb58d1", func := "loop.example/dualchoices/laws.FnExactConditionValid", spec := "fnExactConditionValid", apart := false, narrowed := true }
def FnExactConditionValidUptoSaid : Prop := fnExactConditionValidUptoRow.holds Try.pinned (OpenSpec.upto fnExactConditionValidSpec)

/-- 'laws.FnExactFamilyValid', WHERE WHAT IT READS IS OF BULK AT MOST 1048576: true; the input reads as it did. -/
def fnExactFamilyValidUptoRow : OpenClaim := { program := "ytddmefpdigibaaa", sum := "bf33e815b983121476b36fc518af9ddcb67824d8454b837af618eb88d4bb58d1", func := "loop.example/dualchoices/laws.FnExactFamilyValid", spec := "fnExactFamilyValid", apart := false, narrowed := true }
def FnExactFamilyValidUptoSaid : Prop := fnExactFamilyValidUptoRow.holds Try.pinned (OpenSpec.upto fnExactFamilyValidSpec)

/-- 'laws.FnExactImplies', WHERE WHAT IT READS IS OF BULK AT MOST 1048576: true; the input reads as it did. -/
def fnExactImpliesUptoRow : OpenClaim := { program := "ytddmefpdigibaaa", sum := "bf33e815b983121476b36fc518af9ddcb67824d8454b837af618eb88d4bb58d1", func := "loop.example/dualchoices/laws.FnExactImplies", spec := "fnExactImplies", apart := false, narrowed := true }
def FnExactImpliesUptoSaid : Prop := fnExactImpliesUptoRow.holds Try.pinned (OpenSpec.upto fnExactImpliesSpec)

/-- 'laws.FnExactHasState', WHERE WHAT IT READS IS OF BULK AT MOST 1048576: true; the input reads as it did. -/
def fnExactHasStateUptoRow : OpenClaim := { program := "ytddmefpdigibaaa", sum := "bf33e815b983121476b36fc518af9ddcb67824d8454b837af618eb88d4bb58d1", func := "loop.example/dualchoices/laws.FnExactHasState", spec := "fnExactHasState", apart := false, narrowed := true }
def FnExactHasStateUptoSaid : Prop := fnExactHasStateUptoRow.holds Try.pinned (OpenSpec.upto fnExactHasStateSpec)

/-- 'laws.FnExactInFamily', WHERE WHAT IT READS IS OF BULK AT MOST 1048576: true; the input reads as it did. -/
def fnExactInFamilyUptoRow : OpenClaim := { program := "ytddmefpdigibaaa", sum := "bf33e815b983121476b36fc518af9ddcb67824d8454b837af618eb88d4bb58d1", func := "loop.example/dualchoices/laws.FnExactInFamily", spec := "fnExactInFamily", apart := false, narrowed := true }
def FnExactInFamilyUptoSaid : Prop := fnExactInFamilyUptoRow.holds Try.pinned (OpenSpec.upto fnExactInFamilySpec)

/-- 'laws.FnExactNotCondition', WHERE WHAT IT READS IS OF BULK AT MOST 1048576: true; the input reads as it did. -/
def fnExactNotConditionUptoRow : OpenClaim := { program := "ytddmefpdigibaaa", sum := "bf33e815b983121476b36fc518af9ddcb67824d8454b837af618eb88d4bb58d1", func := "loop.example/dualchoices/laws.FnExactNotCondition", spec := "fnExactNotCondition", apart := false, narrowed := true }
def FnExactNotConditionUptoSaid : Prop := fnExactNotConditionUptoRow.holds Try.pinned (OpenSpec.upto fnExactNotConditionSpec)

/-- 'laws.FnExactAndCondition', WHERE WHAT IT READS IS OF BULK AT MOST 1048576: true; the input reads as it did. -/
def fnExactAndConditionUptoRow : OpenClaim := { program := "ytddmefpdigibaaa", sum := "bf33e815b983121476b36fc518af9ddcb67824d8454b837af618eb88d4bb58d1", func := "loop.example/dualchoices/laws.FnExactAndCondition", spec := "fnExactAndCondition", apart := false, narrowed := true }
def FnExactAndConditionUptoSaid : Prop := fnExactAndConditionUptoRow.holds Try.pinned (OpenSpec.upto fnExactAndConditionSpec)

/-- 'laws.FnExactOrCondition', WHERE WHAT IT READS IS OF BULK AT MOST 1048576: true; the input reads as it did. -/
def fnExactOrConditionUptoRow : OpenClaim := { program := "ytddmefpdigibaaa", sum := "bf33e815b983121476b36fc518af9ddcb67824d8454b837af618eb88d4bb58d1", func := "loop.example/dualchoices/laws.FnExactOrCondition", spec := "fnExactOrCondition", apart := false, narrowed := true }
def FnExactOrConditionUptoSaid : Prop := fnExactOrConditionUptoRow.holds Try.pinned (OpenSpec.upto fnExactOrConditionSpec)

/-- 'laws.FnExactCountStates', WHERE WHAT IT READS IS OF BULK AT MOST 1048576: true; the input reads as it did. -/
def fnExactCountStatesUptoRow : OpenClaim := { program := "ytddmefpdigibaaa", sum := "bf33e815b983121476b36fc518af9ddcb67824d8454b837af618eb88d4bb58d1", func := "loop.example/dualchoices/laws.FnExactCountStates", spec := "fnExactCountStates", apart := false, narrowed := true }
def FnExactCountStatesUptoSaid : Prop := fnExactCountStatesUptoRow.holds Try.pinned (OpenSpec.upto fnExactCountStatesSpec)

/-- 'laws.FnExactTestRel', WHERE WHAT IT READS IS OF BULK AT MOST 1048576: true; the input reads as it did. -/
def fnExactTestRelUptoRow : OpenClaim := { program := "ytddmefpdigibaaa", sum := "bf33e815b983121476b36fc518af9ddcb67824d8454b837af618eb88d4bb58d1", func := "loop.example/dualchoices/laws.FnExactTestRel", spec := "fnExactTestRel", unfollowed := true, recurses := true, apart := false, narrowed := true }
def FnExactTestRelUptoSaid : Prop := fnExactTestRelUptoRow.holds Try.pinned (OpenSpec.upto fnExactTestRelSpec)

/-- 'laws.FnExactAssertTrans', WHERE WHAT IT READS IS OF BULK AT MOST 1048576: true; the input reads as it did. -/
def fnExactAssertTransUptoRow : OpenClaim := { program := "ytddmefpdigibaaa", sum := "bf33e815b983121476b36fc518af9ddcb67824d8454b837af618eb88d4bb58d1", func := "loop.example/dualchoices/laws.FnExactAssertTrans", spec := "fnExactAssertTrans", unfollowed := true, recurses := true, apart := false, narrowed := true }
def FnExactAssertTransUptoSaid : Prop := fnExactAssertTransUptoRow.holds Try.pinned (OpenSpec.upto fnExactAssertTransSpec)

end Rows
end Go.Proofs.Ytddmefpdigibaaa
