/-
  No cell of these rows narrows 'for every input' (looked for: loops, veiled, ifaces, maps, wideKeys, modest, calm, conditions, laid).
  DERIVED. THE GIVEN ROWS OF THIS SEAT. 12 by the template 'for every input the law returns true; each argument reads behind the call as it read before'; 0 by the template 'total and deterministic' (their statements: YtgbokgeegoolaaaTotals.lean).
  GIVEN WITH THE SEED: the statements are not yours to turn. If you find one false, say at which input.
  Laid BY PROGRAM, IN A SANDBOX (cutbox-rows.mjs): the forced cells as the released guide's own fill.sh prints them over the translation 875e40115613e0c9… (all of the seat's roots in one cut). By AI agents, Wed Nov 11 2026. No macro, syntax, notation, axiom, sorry.
-/
import Derived.Test.YtgbokgeegoolaaaChecked
import GoSem.Claim
import GoSem.ClaimJoined
import GoSem.ClaimMapViews
import Derived.JoinedTies
import Derived.KernelRfl
namespace Go.Proofs.Ytgbokgeegoolaaa
/- THE CELL 'sum', in the pinned program and in every row, IS THE sha256 OF THE DUMP (.gsa) THAT YtgbokgeegoolaaaProg.lean LOADS. Nothing in Lean hashes anything: it is a label: what it is worth is what the hold of that sum in a sandbox is worth. -/
noncomputable def Try.pinned : Pinned := { name := "ytgbokgeegoolaaa", sum := "875e40115613e0c974a3caa2e267ba34f030a31cd46d457d690d72834074d8cd", checked := Try.checked }
namespace Rows
def none {H : Type} : Left H := { results := [], args := [] }

/-- 'laws.FnExactRelValid': WHATEVER THE INPUT: true; the input reads as it did. -/
def fnExactRelValidSpec : ChangeSpec := { name := "fnExactRelValid", fn := fun _ => fun
  | [d] => { results := [.lit (.bool true)], args := [d] }
  | _ => none }
def fnExactRelValidRow : OpenClaim := { program := "ytgbokgeegoolaaa", sum := "875e40115613e0c974a3caa2e267ba34f030a31cd46d457d690d72834074d8cd", func := "loop.example/dualchoices/laws.FnExactRelValid", spec := "fnExactRelValid", inPlace := ["internal/bytealg.IndexByteString"], apart := false }
def FnExactRelValidSaid : Prop := fnExactRelValidRow.holds Try.pinned (OpenSpec.ofChange fnExactRelValidSpec)

/-- ITS FALSE NEIGHBOUR: 'it returns false'. Refute it at one input. -/
def fnExactRelValidWrong : ChangeSpec := { name := "fnExactRelValid", fn := fun _ => fun
  | [d] => { results := [.lit (.bool false)], args := [d] }
  | _ => none }
def FnExactRelValidWrongFalsely : Prop := fnExactRelValidRow.holds Try.pinned (OpenSpec.ofChange fnExactRelValidWrong)

/-- 'laws.FnExactWithinRel': WHATEVER THE INPUT: true; the input reads as it did. -/
def fnExactWithinRelSpec : ChangeSpec := { name := "fnExactWithinRel", fn := fun _ => fun
  | [d1, d2] => { results := [.lit (.bool true)], args := [d1, d2] }
  | _ => none }
def fnExactWithinRelRow : OpenClaim := { program := "ytgbokgeegoolaaa", sum := "875e40115613e0c974a3caa2e267ba34f030a31cd46d457d690d72834074d8cd", func := "loop.example/dualchoices/laws.FnExactWithinRel", spec := "fnExactWithinRel", inPlace := ["internal/bytealg.IndexByteString"], apart := false }
def FnExactWithinRelSaid : Prop := fnExactWithinRelRow.holds Try.pinned (OpenSpec.ofChange fnExactWithinRelSpec)

/-- ITS FALSE NEIGHBOUR: 'it returns false'. Refute it at one input. -/
def fnExactWithinRelWrong : ChangeSpec := { name := "fnExactWithinRel", fn := fun _ => fun
  | [d1, d2] => { results := [.lit (.bool false)], args := [d1, d2] }
  | _ => none }
def FnExactWithinRelWrongFalsely : Prop := fnExactWithinRelRow.holds Try.pinned (OpenSpec.ofChange fnExactWithinRelWrong)

/-- 'laws.FnExactIsFunction': WHATEVER THE INPUT: true; the input reads as it did. -/
def fnExactIsFunctionSpec : ChangeSpec := { name := "fnExactIsFunction", fn := fun _ => fun
  | [d] => { results := [.lit (.bool true)], args := [d] }
  | _ => none }
def fnExactIsFunctionRow : OpenClaim := { program := "ytgbokgeegoolaaa", sum := "875e40115613e0c974a3caa2e267ba34f030a31cd46d457d690d72834074d8cd", func := "loop.example/dualchoices/laws.FnExactIsFunction", spec := "fnExactIsFunction", inPlace := ["internal/bytealg.IndexByteString"], apart := false }
def FnExactIsFunctionSaid : Prop := fnExactIsFunctionRow.holds Try.pinned (OpenSpec.ofChange fnExactIsFunctionSpec)

/-- ITS FALSE NEIGHBOUR: 'it returns false'. Refute it at one input. -/
def fnExactIsFunctionWrong : ChangeSpec := { name := "fnExactIsFunction", fn := fun _ => fun
  | [d] => { results := [.lit (.bool false)], args := [d] }
  | _ => none }
def FnExactIsFunctionWrongFalsely : Prop := fnExactIsFunctionRow.holds Try.pinned (OpenSpec.ofChange fnExactIsFunctionWrong)

/-- 'laws.FnExactDiamondOf': WHATEVER THE INPUT: true; the input reads as it did. -/
def fnExactDiamondOfSpec : ChangeSpec := { name := "fnExactDiamondOf", fn := fun _ => fun
  | [d1, d2] => { results := [.lit (.bool true)], args := [d1, d2] }
  | _ => none }
def fnExactDiamondOfRow : OpenClaim := { program := "ytgbokgeegoolaaa", sum := "875e40115613e0c974a3caa2e267ba34f030a31cd46d457d690d72834074d8cd", func := "loop.example/dualchoices/laws.FnExactDiamondOf", spec := "fnExactDiamondOf", inPlace := ["internal/bytealg.IndexByteString"], unfollowed := true, recurses := true, apart := false }
def FnExactDiamondOfSaid : Prop := fnExactDiamondOfRow.holds Try.pinned (OpenSpec.ofChange fnExactDiamondOfSpec)

/-- ITS FALSE NEIGHBOUR: 'it returns false'. Refute it at one input. -/
def fnExactDiamondOfWrong : ChangeSpec := { name := "fnExactDiamondOf", fn := fun _ => fun
  | [d1, d2] => { results := [.lit (.bool false)], args := [d1, d2] }
  | _ => none }
def FnExactDiamondOfWrongFalsely : Prop := fnExactDiamondOfRow.holds Try.pinned (OpenSpec.ofChange fnExactDiamondOfWrong)

/-- 'laws.FnExactBoxOf': WHATEVER THE INPUT: true; the input reads as it did. -/
def fnExactBoxOfSpec : ChangeSpec := { name := "fnExactBoxOf", fn := fun _ => fun
  | [d1, d2] => { results := [.lit (.bool true)], args := [d1, d2] }
  | _ => none }
def fnExactBoxOfRow : OpenClaim := { program := "ytgbokgeegoolaaa", sum := "875e40115613e0c974a3caa2e267ba34f030a31cd46d457d690d72834074d8cd", func := "loop.example/dualchoices/laws.FnExactBoxOf", spec := "fnExactBoxOf", inPlace := ["internal/bytealg.IndexByteString"], unfollowed := true, recurses := true, apart := false }
def FnExactBoxOfSaid : Prop := fnExactBoxOfRow.holds Try.pinned (OpenSpec.ofChange fnExactBoxOfSpec)

/-- ITS FALSE NEIGHBOUR: 'it returns false'. Refute it at one input. -/
def fnExactBoxOfWrong : ChangeSpec := { name := "fnExactBoxOf", fn := fun _ => fun
  | [d1, d2] => { results := [.lit (.bool false)], args := [d1, d2] }
  | _ => none }
def FnExactBoxOfWrongFalsely : Prop := fnExactBoxOfRow.holds Try.pinned (OpenSpec.ofChange fnExactBoxOfWrong)

/-- 'laws.FnExactDomainOf': WHATEVER THE INPUT: true; the input reads as it did. -/
def fnExactDomainOfSpec : ChangeSpec := { name := "fnExactDomainOf", fn := fun _ => fun
  | [d] => { results := [.lit (.bool true)], args := [d] }
  | _ => none }
def fnExactDomainOfRow : OpenClaim := { program := "ytgbokgeegoolaaa", sum := "875e40115613e0c974a3caa2e267ba34f030a31cd46d457d690d72834074d8cd", func := "loop.example/dualchoices/laws.FnExactDomainOf", spec := "fnExactDomainOf", inPlace := ["internal/bytealg.IndexByteString"], unfollowed := true, recurses := true, apart := false }
def FnExactDomainOfSaid : Prop := fnExactDomainOfRow.holds Try.pinned (OpenSpec.ofChange fnExactDomainOfSpec)

/-- ITS FALSE NEIGHBOUR: 'it returns false'. Refute it at one input. -/
def fnExactDomainOfWrong : ChangeSpec := { name := "fnExactDomainOf", fn := fun _ => fun
  | [d] => { results := [.lit (.bool false)], args := [d] }
  | _ => none }
def FnExactDomainOfWrongFalsely : Prop := fnExactDomainOfRow.holds Try.pinned (OpenSpec.ofChange fnExactDomainOfWrong)

/-- 'laws.FnExactCountPairs': WHATEVER THE INPUT: true; the input reads as it did. -/
def fnExactCountPairsSpec : ChangeSpec := { name := "fnExactCountPairs", fn := fun _ => fun
  | [d] => { results := [.lit (.bool true)], args := [d] }
  | _ => none }
def fnExactCountPairsRow : OpenClaim := { program := "ytgbokgeegoolaaa", sum := "875e40115613e0c974a3caa2e267ba34f030a31cd46d457d690d72834074d8cd", func := "loop.example/dualchoices/laws.FnExactCountPairs", spec := "fnExactCountPairs", inPlace := ["internal/bytealg.IndexByteString"], apart := false }
def FnExactCountPairsSaid : Prop := fnExactCountPairsRow.holds Try.pinned (OpenSpec.ofChange fnExactCountPairsSpec)

/-- ITS FALSE NEIGHBOUR: 'it returns false'. Refute it at one input. -/
def fnExactCountPairsWrong : ChangeSpec := { name := "fnExactCountPairs", fn := fun _ => fun
  | [d] => { results := [.lit (.bool false)], args := [d] }
  | _ => none }
def FnExactCountPairsWrongFalsely : Prop := fnExactCountPairsRow.holds Try.pinned (OpenSpec.ofChange fnExactCountPairsWrong)

/-- 'laws.FnExactMonotoneTable': WHATEVER THE INPUT: true; the input reads as it did. -/
def fnExactMonotoneTableSpec : ChangeSpec := { name := "fnExactMonotoneTable", fn := fun _ => fun
  | [d] => { results := [.lit (.bool true)], args := [d] }
  | _ => none }
def fnExactMonotoneTableRow : OpenClaim := { program := "ytgbokgeegoolaaa", sum := "875e40115613e0c974a3caa2e267ba34f030a31cd46d457d690d72834074d8cd", func := "loop.example/dualchoices/laws.FnExactMonotoneTable", spec := "fnExactMonotoneTable", inPlace := ["internal/bytealg.IndexByteString"], apart := false }
def FnExactMonotoneTableSaid : Prop := fnExactMonotoneTableRow.holds Try.pinned (OpenSpec.ofChange fnExactMonotoneTableSpec)

/-- ITS FALSE NEIGHBOUR: 'it returns false'. Refute it at one input. -/
def fnExactMonotoneTableWrong : ChangeSpec := { name := "fnExactMonotoneTable", fn := fun _ => fun
  | [d] => { results := [.lit (.bool false)], args := [d] }
  | _ => none }
def FnExactMonotoneTableWrongFalsely : Prop := fnExactMonotoneTableRow.holds Try.pinned (OpenSpec.ofChange fnExactMonotoneTableWrong)

/-- 'laws.FnExactTransValid': WHATEVER THE INPUT: true; the input reads as it did. -/
def fnExactTransValidSpec : ChangeSpec := { name := "fnExactTransValid", fn := fun _ => fun
  | [d] => { results := [.lit (.bool true)], args := [d] }
  | _ => none }
def fnExactTransValidRow : OpenClaim := { program := "ytgbokgeegoolaaa", sum := "875e40115613e0c974a3caa2e267ba34f030a31cd46d457d690d72834074d8cd", func := "loop.example/dualchoices/laws.FnExactTransValid", spec := "fnExactTransValid", inPlace := ["internal/bytealg.IndexByteString"], apart := false }
def FnExactTransValidSaid : Prop := fnExactTransValidRow.holds Try.pinned (OpenSpec.ofChange fnExactTransValidSpec)

/-- ITS FALSE NEIGHBOUR: 'it returns false'. Refute it at one input. -/
def fnExactTransValidWrong : ChangeSpec := { name := "fnExactTransValid", fn := fun _ => fun
  | [d] => { results := [.lit (.bool false)], args := [d] }
  | _ => none }
def FnExactTransValidWrongFalsely : Prop := fnExactTransValidRow.holds Try.pinned (OpenSpec.ofChange fnExactTransValidWrong)

/-- 'laws.FnExactApplyTrans': WHATEVER THE INPUT: true; the input reads as it did. -/
def fnExactApplyTransSpec : ChangeSpec := { name := "fnExactApplyTrans", fn := fun _ => fun
  | [d1, d2] => { results := [.lit (.bool true)], args := [d1, d2] }
  | _ => none }
def fnExactApplyTransRow : OpenClaim := { program := "ytgbokgeegoolaaa", sum := "875e40115613e0c974a3caa2e267ba34f030a31cd46d457d690d72834074d8cd", func := "loop.example/dualchoices/laws.FnExactApplyTrans", spec := "fnExactApplyTrans", inPlace := ["internal/bytealg.IndexByteString"], apart := false }
def FnExactApplyTransSaid : Prop := fnExactApplyTransRow.holds Try.pinned (OpenSpec.ofChange fnExactApplyTransSpec)

/-- ITS FALSE NEIGHBOUR: 'it returns false'. Refute it at one input. -/
def fnExactApplyTransWrong : ChangeSpec := { name := "fnExactApplyTrans", fn := fun _ => fun
  | [d1, d2] => { results := [.lit (.bool false)], args := [d1, d2] }
  | _ => none }
def FnExactApplyTransWrongFalsely : Prop := fnExactApplyTransRow.holds Try.pinned (OpenSpec.ofChange fnExactApplyTransWrong)

/-- 'laws.FnExactIsStrict': WHATEVER THE INPUT: true; the input reads as it did. -/
def fnExactIsStrictSpec : ChangeSpec := { name := "fnExactIsStrict", fn := fun _ => fun
  | [d] => { results := [.lit (.bool true)], args := [d] }
  | _ => none }
def fnExactIsStrictRow : OpenClaim := { program := "ytgbokgeegoolaaa", sum := "875e40115613e0c974a3caa2e267ba34f030a31cd46d457d690d72834074d8cd", func := "loop.example/dualchoices/laws.FnExactIsStrict", spec := "fnExactIsStrict", inPlace := ["internal/bytealg.IndexByteString"], apart := false }
def FnExactIsStrictSaid : Prop := fnExactIsStrictRow.holds Try.pinned (OpenSpec.ofChange fnExactIsStrictSpec)

/-- ITS FALSE NEIGHBOUR: 'it returns false'. Refute it at one input. -/
def fnExactIsStrictWrong : ChangeSpec := { name := "fnExactIsStrict", fn := fun _ => fun
  | [d] => { results := [.lit (.bool false)], args := [d] }
  | _ => none }
def FnExactIsStrictWrongFalsely : Prop := fnExactIsStrictRow.holds Try.pinned (OpenSpec.ofChange fnExactIsStrictWrong)

/-- 'laws.FnExactIsTerminating': WHATEVER THE INPUT: true; the input reads as it did. -/
def fnExactIsTerminatingSpec : ChangeSpec := { name := "fnExactIsTerminating", fn := fun _ => fun
  | [d] => { results := [.lit (.bool true)], args := [d] }
  | _ => none }
def fnExactIsTerminatingRow : OpenClaim := { program := "ytgbokgeegoolaaa", sum := "875e40115613e0c974a3caa2e267ba34f030a31cd46d457d690d72834074d8cd", func := "loop.example/dualchoices/laws.FnExactIsTerminating", spec := "fnExactIsTerminating", inPlace := ["internal/bytealg.IndexByteString"], apart := false }
def FnExactIsTerminatingSaid : Prop := fnExactIsTerminatingRow.holds Try.pinned (OpenSpec.ofChange fnExactIsTerminatingSpec)

/-- ITS FALSE NEIGHBOUR: 'it returns false'. Refute it at one input. -/
def fnExactIsTerminatingWrong : ChangeSpec := { name := "fnExactIsTerminating", fn := fun _ => fun
  | [d] => { results := [.lit (.bool false)], args := [d] }
  | _ => none }
def FnExactIsTerminatingWrongFalsely : Prop := fnExactIsTerminatingRow.holds Try.pinned (OpenSpec.ofChange fnExactIsTerminatingWrong)

/- THE SECOND FORM. 'bulk': how many values and letters a reading holds, each counted each time it is reached (what is shared counts as often as it is met; a slice's spare places count too). A statement '..UptoSaid' is the law's where the arguments, and the package variables that the reading takes, are together of bulk at most 1048576: NARROWER than '..Said'. Prove '..Said' where nothing that the law and all that it calls make is longer than what came in: it says more and counts as full. Else prove '..UptoSaid'. A law counts once. -/
mutual
def uptoBulk {H : Type} : DataW H → Nat
  | .lit (.string bytes) => bytes.length + 1
  | .lit _ => 1
  | .nil => 1
  | .ptr d => uptoBulk d + 1
  | .slice elems spare => uptoBulkAll elems + uptoBulkAll spare + 1
  | .agg parts => uptoBulkAll parts + 1
  | .iface _ d => uptoBulk d + 1
  | .map entries => uptoBulkEntries entries + 1
  | .held _ => 1
def uptoBulkAll {H : Type} : List (DataW H) → Nat
  | [] => 0
  | d :: r => uptoBulk d + uptoBulkAll r
def uptoBulkEntries {H : Type} : List (Lit × DataW H) → Nat
  | [] => 0
  | x :: r => uptoBulkEntry x + uptoBulkEntries r
def uptoBulkEntry {H : Type} : Lit × DataW H → Nat
  | (.string bytes, d) => bytes.length + uptoBulk d + 1
  | (_, d) => uptoBulk d + 1
 end
def uptoSmall : (H : Type) → List (DataW H) → Bool := fun _ ds => decide (uptoBulkAll ds ≤ 1048576)
def OpenSpec.upto (s : _root_.Go.ChangeSpec) : _root_.Go.OpenSpec := { _root_.Go.OpenSpec.ofChange s with cond := some uptoSmall }

/-- 'laws.FnExactRelValid', WHERE WHAT IT READS IS OF BULK AT MOST 1048576: true; the input reads as it did. -/
def fnExactRelValidUptoRow : OpenClaim := { program := "ytgbokgeegoolaaa", sum := "875e40115613e0c974a3caa2e267ba34f030a31cd46d457d690d72834074d8cd", func := "loop.example/dualchoices/laws.FnExactRelValid", spec := "fnExactRelValid", inPlace := ["internal/bytealg.IndexByteString"], apart := false, narrowed := true }
def FnExactRelValidUptoSaid : Prop := fnExactRelValidUptoRow.holds Try.pinned (OpenSpec.upto fnExactRelValidSpec)

/-- 'laws.FnExactWithinRel', WHERE WHAT IT READS IS OF BULK AT MOST 1048576: true; the input reads as it did. -/
def fnExactWithinRelUptoRow : OpenClaim := { program := "ytgbokgeegoolaaa", sum := "875e40115613e0c974a3caa2e267ba34f030a31cd46d457d690d72834074d8cd", func := "loop.example/dualchoices/laws.FnExactWithinRel", spec := "fnExactWithinRel", inPlace := ["internal/bytealg.IndexByteString"], apart := false, narrowed := true }
def FnExactWithinRelUptoSaid : Prop := fnExactWithinRelUptoRow.holds Try.pinned (OpenSpec.upto fnExactWithinRelSpec)

/-- 'laws.FnExactIsFunction', WHERE WHAT IT READS IS OF BULK AT MOST 1048576: true; the input reads as it did. -/
def fnExactIsFunctionUptoRow : OpenClaim := { program := "ytgbokgeegoolaaa", sum := "875e40115613e0c974a3caa2e267ba34f030a31cd46d457d690d72834074d8cd", func := "loop.example/dualchoices/laws.FnExactIsFunction", spec := "fnExactIsFunction", inPlace := ["internal/bytealg.IndexByteString"], apart := false, narrowed := true }
def FnExactIsFunctionUptoSaid : Prop := fnExactIsFunctionUptoRow.holds Try.pinned (OpenSpec.upto fnExactIsFunctionSpec)

/-- 'laws.FnExactDiamondOf', WHERE WHAT IT READS IS OF BULK AT MOST 1048576: true; the input reads as it did. -/
def fnExactDiamondOfUptoRow : OpenClaim := { program := "ytgbokgeegoolaaa", sum := "875e40115613e0c974a3caa2e267ba34f030a31cd46d457d690d72834074d8cd", func := "loop.example/dualchoices/laws.FnExactDiamondOf", spec := "fnExactDiamondOf", inPlace := ["internal/bytealg.IndexByteString"], unfollowed := true, recurses := true, apart := false, narrowed := true }
def FnExactDiamondOfUptoSaid : Prop := fnExactDiamondOfUptoRow.holds Try.pinned (OpenSpec.upto fnExactDiamondOfSpec)

/-- 'laws.FnExactBoxOf', WHERE WHAT IT READS IS OF BULK AT MOST 1048576: true; the input reads as it did. -/
def fnExactBoxOfUptoRow : OpenClaim := { program := "ytgbokgeegoolaaa", sum := "875e40115613e0c974a3caa2e267ba34f030a31cd46d457d690d72834074d8cd", func := "loop.example/dualchoices/laws.FnExactBoxOf", spec := "fnExactBoxOf", inPlace := ["internal/bytealg.IndexByteString"], unfollowed := true, recurses := true, apart := false, narrowed := true }
def FnExactBoxOfUptoSaid : Prop := fnExactBoxOfUptoRow.holds Try.pinned (OpenSpec.upto fnExactBoxOfSpec)

/-- 'laws.FnExactDomainOf', WHERE WHAT IT READS IS OF BULK AT MOST 1048576: true; the input reads as it did. -/
def fnExactDomainOfUptoRow : OpenClaim := { program := "ytgbokgeegoolaaa", sum := "875e40115613e0c974a3caa2e267ba34f030a31cd46d457d690d72834074d8cd", func := "loop.example/dualchoices/laws.FnExactDomainOf", spec := "fnExactDomainOf", inPlace := ["internal/bytealg.IndexByteString"], unfollowed := true, recurses := true, apart := false, narrowed := true }
def FnExactDomainOfUptoSaid : Prop := fnExactDomainOfUptoRow.holds Try.pinned (OpenSpec.upto fnExactDomainOfSpec)

/-- 'laws.FnExactCountPairs', WHERE WHAT IT READS IS OF BULK AT MOST 1048576: true; the input reads as it did. -/
def fnExactCountPairsUptoRow : OpenClaim := { program := "ytgbokgeegoolaaa", sum := "875e40115613e0c974a3caa2e267ba34f030a31cd46d457d690d72834074d8cd", func := "loop.example/dualchoices/laws.FnExactCountPairs", spec := "fnExactCountPairs", inPlace := ["internal/bytealg.IndexByteString"], apart := false, narrowed := true }
def FnExactCountPairsUptoSaid : Prop := fnExactCountPairsUptoRow.holds Try.pinned (OpenSpec.upto fnExactCountPairsSpec)

/-- 'laws.FnExactMonotoneTable', WHERE WHAT IT READS IS OF BULK AT MOST 1048576: true; the input reads as it did. -/
def fnExactMonotoneTableUptoRow : OpenClaim := { program := "ytgbokgeegoolaaa", sum := "875e40115613e0c974a3caa2e267ba34f030a31cd46d457d690d72834074d8cd", func := "loop.example/dualchoices/laws.FnExactMonotoneTable", spec := "fnExactMonotoneTable", inPlace := ["internal/bytealg.IndexByteString"], apart := false, narrowed := true }
def FnExactMonotoneTableUptoSaid : Prop := fnExactMonotoneTableUptoRow.holds Try.pinned (OpenSpec.upto fnExactMonotoneTableSpec)

/-- 'laws.FnExactTransValid', WHERE WHAT IT READS IS OF BULK AT MOST 1048576: true; the input reads as it did. -/
def fnExactTransValidUptoRow : OpenClaim := { program := "ytgbokgeegoolaaa", sum := "875e40115613e0c974a3caa2e267ba34f030a31cd46d457d690d72834074d8cd", func := "loop.example/dualchoices/laws.FnExactTransValid", spec := "fnExactTransValid", inPlace := ["internal/bytealg.IndexByteString"], apart := false, narrowed := true }
def FnExactTransValidUptoSaid : Prop := fnExactTransValidUptoRow.holds Try.pinned (OpenSpec.upto fnExactTransValidSpec)

/-- 'laws.FnExactApplyTrans', WHERE WHAT IT READS IS OF BULK AT MOST 1048576: true; the input reads as it did. -/
def fnExactApplyTransUptoRow : OpenClaim := { program := "ytgbokgeegoolaaa", sum := "875e40115613e0c974a3caa2e267ba34f030a31cd46d457d690d72834074d8cd", func := "loop.example/dualchoices/laws.FnExactApplyTrans", spec := "fnExactApplyTrans", inPlace := ["internal/bytealg.IndexByteString"], apart := false, narrowed := true }
def FnExactApplyTransUptoSaid : Prop := fnExactApplyTransUptoRow.holds Try.pinned (OpenSpec.upto fnExactApplyTransSpec)

/-- 'laws.FnExactIsStrict', WHERE WHAT IT READS IS OF BULK AT MOST 1048576: true; the input reads as it did. -/
def fnExactIsStrictUptoRow : OpenClaim := { program := "ytgbokgeegoolaaa", sum := "875e40115613e0c974a3caa2e267ba34f030a31cd46d457d690d72834074d8cd", func := "loop.example/dualchoices/laws.FnExactIsStrict", spec := "fnExactIsStrict", inPlace := ["internal/bytealg.IndexByteString"], apart := false, narrowed := true }
def FnExactIsStrictUptoSaid : Prop := fnExactIsStrictUptoRow.holds Try.pinned (OpenSpec.upto fnExactIsStrictSpec)

/-- 'laws.FnExactIsTerminating', WHERE WHAT IT READS IS OF BULK AT MOST 1048576: true; the input reads as it did. -/
def fnExactIsTerminatingUptoRow : OpenClaim := { program := "ytgbokgeegoolaaa", sum := "875e40115613e0c974a3caa2e267ba34f030a31cd46d457d690d72834074d8cd", func := "loop.example/dualchoices/laws.FnExactIsTerminating", spec := "fnExactIsTerminating", inPlace := ["internal/bytealg.IndexByteString"], apart := false, narrowed := true }
def FnExactIsTerminatingUptoSaid : Prop := fnExactIsTerminatingUptoRow.holds Try.pinned (OpenSpec.upto fnExactIsTerminatingSpec)

end Rows
end Go.Proofs.Ytgbokgeegoolaaa
