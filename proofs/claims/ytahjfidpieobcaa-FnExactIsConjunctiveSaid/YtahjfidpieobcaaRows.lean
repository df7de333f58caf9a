/-
  No cell of these rows narrows 'for every input' (looked for: loops, veiled, ifaces, maps, wideKeys, modest, calm, conditions, laid).
  DERIVED. THE GIVEN ROWS OF THIS SEAT. 12 by the template 'for every input the law returns true; each argument reads behind the call as it read before'; 0 by the template 'total and deterministic' (their statements: YtahjfidpieobcaaTotals.lean).
  GIVEN WITH THE SEED: the statements are not yours to turn. If you find one false, say at which input.
  Laid BY PROGRAM, IN A SANDBOX (cutbox-rows.mjs): the forced cells as the released guide's own fill.sh prints them over the translation 8ba0332b321c8532… (all of the seat's roots in one cut). By AI agents, Wed Nov 11 2026. No macro, syntax, notation, axiom, sorry.
-/
import Derived.Test.YtahjfidpieobcaaChecked
import GoSem.Claim
import GoSem.ClaimJoined
import GoSem.ClaimMapViews
import Derived.JoinedTies
import Derived.KernelRfl
namespace Go.Proofs.Ytahjfidpieobcaa
/- THE CELL 'sum', in the pinned program and in every row, IS THE sha256 OF THE DUMP (.gsa) THAT YtahjfidpieobcaaProg.lean LOADS. Nothing in Lean hashes anything: it is a label: what it is worth is what the hold of that sum in a sandbox is worth. -/
noncomputable def Try.pinned : Pinned := { name := "ytahjfidpieobcaa", sum := "8ba0332b321c85322e1a1bbe75f24977717c09c8da7fc89369dbb40477c98ba5", checked := Try.checked }
namespace Rows
def none {H : Type} : Left H := { results := [], args := [] }

/-- 'laws.FnExactAssumeTrans': WHATEVER THE INPUT: true; the input reads as it did. -/
def fnExactAssumeTransSpec : ChangeSpec := { name := "fnExactAssumeTrans", fn := fun _ => fun
  | [d] => { results := [.lit (.bool true)], args := [d] }
  | _ => none }
def fnExactAssumeTransRow : OpenClaim := { program := "ytahjfidpieobcaa", sum := "8ba0332b321c85322e1a1bbe75f24977717c09c8da7fc89369dbb40477c98ba5", func := "loop.example/dualchoices/laws.FnExactAssumeTrans", spec := "fnExactAssumeTrans", unfollowed := true, recurses := true, apart := false }
def FnExactAssumeTransSaid : Prop := fnExactAssumeTransRow.holds Try.pinned (OpenSpec.ofChange fnExactAssumeTransSpec)

/-- ITS FALSE NEIGHBOUR: 'it returns false'. Refute it at one input. -/
def fnExactAssumeTransWrong : ChangeSpec := { name := "fnExactAssumeTrans", fn := fun _ => fun
  | [d] => { results := [.lit (.bool false)], args := [d] }
  | _ => none }
def FnExactAssumeTransWrongFalsely : Prop := fnExactAssumeTransRow.holds Try.pinned (OpenSpec.ofChange fnExactAssumeTransWrong)

/-- 'laws.FnExactRefinesTrans': WHATEVER THE INPUT: true; the input reads as it did. -/
def fnExactRefinesTransSpec : ChangeSpec := { name := "fnExactRefinesTrans", fn := fun _ => fun
  | [d1, d2] => { results := [.lit (.bool true)], args := [d1, d2] }
  | _ => none }
def fnExactRefinesTransRow : OpenClaim := { program := "ytahjfidpieobcaa", sum := "8ba0332b321c85322e1a1bbe75f24977717c09c8da7fc89369dbb40477c98ba5", func := "loop.example/dualchoices/laws.FnExactRefinesTrans", spec := "fnExactRefinesTrans", inPlace := ["internal/bytealg.IndexByteString"], apart := false }
def FnExactRefinesTransSaid : Prop := fnExactRefinesTransRow.holds Try.pinned (OpenSpec.ofChange fnExactRefinesTransSpec)

/-- ITS FALSE NEIGHBOUR: 'it returns false'. Refute it at one input. -/
def fnExactRefinesTransWrong : ChangeSpec := { name := "fnExactRefinesTrans", fn := fun _ => fun
  | [d1, d2] => { results := [.lit (.bool false)], args := [d1, d2] }
  | _ => none }
def FnExactRefinesTransWrongFalsely : Prop := fnExactRefinesTransRow.holds Try.pinned (OpenSpec.ofChange fnExactRefinesTransWrong)

/-- 'laws.FnExactFamilyOf': WHATEVER THE INPUT: true; the input reads as it did. -/
def fnExactFamilyOfSpec : ChangeSpec := { name := "fnExactFamilyOf", fn := fun _ => fun
  | [d1, d2] => { results := [.lit (.bool true)], args := [d1, d2] }
  | _ => none }
def fnExactFamilyOfRow : OpenClaim := { program := "ytahjfidpieobcaa", sum := "8ba0332b321c85322e1a1bbe75f24977717c09c8da7fc89369dbb40477c98ba5", func := "loop.example/dualchoices/laws.FnExactFamilyOf", spec := "fnExactFamilyOf", inPlace := ["internal/bytealg.IndexByteString"], unfollowed := true, recurses := true, apart := false }
def FnExactFamilyOfSaid : Prop := fnExactFamilyOfRow.holds Try.pinned (OpenSpec.ofChange fnExactFamilyOfSpec)

/-- ITS FALSE NEIGHBOUR: 'it returns false'. Refute it at one input. -/
def fnExactFamilyOfWrong : ChangeSpec := { name := "fnExactFamilyOf", fn := fun _ => fun
  | [d1, d2] => { results := [.lit (.bool false)], args := [d1, d2] }
  | _ => none }
def FnExactFamilyOfWrongFalsely : Prop := fnExactFamilyOfRow.holds Try.pinned (OpenSpec.ofChange fnExactFamilyOfWrong)

/-- 'laws.FnExactAngelTrans': WHATEVER THE INPUT: true; the input reads as it did. -/
def fnExactAngelTransSpec : ChangeSpec := { name := "fnExactAngelTrans", fn := fun _ => fun
  | [d] => { results := [.lit (.bool true)], args := [d] }
  | _ => none }
def fnExactAngelTransRow : OpenClaim := { program := "ytahjfidpieobcaa", sum := "8ba0332b321c85322e1a1bbe75f24977717c09c8da7fc89369dbb40477c98ba5", func := "loop.example/dualchoices/laws.FnExactAngelTrans", spec := "fnExactAngelTrans", inPlace := ["internal/bytealg.IndexByteString"], unfollowed := true, recurses := true, apart := false }
def FnExactAngelTransSaid : Prop := fnExactAngelTransRow.holds Try.pinned (OpenSpec.ofChange fnExactAngelTransSpec)

/-- ITS FALSE NEIGHBOUR: 'it returns false'. Refute it at one input. -/
def fnExactAngelTransWrong : ChangeSpec := { name := "fnExactAngelTrans", fn := fun _ => fun
  | [d] => { results := [.lit (.bool false)], args := [d] }
  | _ => none }
def FnExactAngelTransWrongFalsely : Prop := fnExactAngelTransRow.holds Try.pinned (OpenSpec.ofChange fnExactAngelTransWrong)

/-- 'laws.FnExactDemonTrans': WHATEVER THE INPUT: true; the input reads as it did. -/
def fnExactDemonTransSpec : ChangeSpec := { name := "fnExactDemonTrans", fn := fun _ => fun
  | [d] => { results := [.lit (.bool true)], args := [d] }
  | _ => none }
def fnExactDemonTransRow : OpenClaim := { program := "ytahjfidpieobcaa", sum := "8ba0332b321c85322e1a1bbe75f24977717c09c8da7fc89369dbb40477c98ba5", func := "loop.example/dualchoices/laws.FnExactDemonTrans", spec := "fnExactDemonTrans", inPlace := ["internal/bytealg.IndexByteString"], unfollowed := true, recurses := true, apart := false }
def FnExactDemonTransSaid : Prop := fnExactDemonTransRow.holds Try.pinned (OpenSpec.ofChange fnExactDemonTransSpec)

/-- ITS FALSE NEIGHBOUR: 'it returns false'. Refute it at one input. -/
def fnExactDemonTransWrong : ChangeSpec := { name := "fnExactDemonTrans", fn := fun _ => fun
  | [d] => { results := [.lit (.bool false)], args := [d] }
  | _ => none }
def FnExactDemonTransWrongFalsely : Prop := fnExactDemonTransRow.holds Try.pinned (OpenSpec.ofChange fnExactDemonTransWrong)

/-- 'laws.FnExactJoinTrans': WHATEVER THE INPUT: true; the input reads as it did. -/
def fnExactJoinTransSpec : ChangeSpec := { name := "fnExactJoinTrans", fn := fun _ => fun
  | [d1, d2] => { results := [.lit (.bool true)], args := [d1, d2] }
  | _ => none }
def fnExactJoinTransRow : OpenClaim := { program := "ytahjfidpieobcaa", sum := "8ba0332b321c85322e1a1bbe75f24977717c09c8da7fc89369dbb40477c98ba5", func := "loop.example/dualchoices/laws.FnExactJoinTrans", spec := "fnExactJoinTrans", inPlace := ["internal/bytealg.IndexByteString"], unfollowed := true, recurses := true, apart := false }
def FnExactJoinTransSaid : Prop := fnExactJoinTransRow.holds Try.pinned (OpenSpec.ofChange fnExactJoinTransSpec)

/-- ITS FALSE NEIGHBOUR: 'it returns false'. Refute it at one input. -/
def fnExactJoinTransWrong : ChangeSpec := { name := "fnExactJoinTrans", fn := fun _ => fun
  | [d1, d2] => { results := [.lit (.bool false)], args := [d1, d2] }
  | _ => none }
def FnExactJoinTransWrongFalsely : Prop := fnExactJoinTransRow.holds Try.pinned (OpenSpec.ofChange fnExactJoinTransWrong)

/-- 'laws.FnExactMeetTrans': WHATEVER THE INPUT: true; the input reads as it did. -/
def fnExactMeetTransSpec : ChangeSpec := { name := "fnExactMeetTrans", fn := fun _ => fun
  | [d1, d2] => { results := [.lit (.bool true)], args := [d1, d2] }
  | _ => none }
def fnExactMeetTransRow : OpenClaim := { program := "ytahjfidpieobcaa", sum := "8ba0332b321c85322e1a1bbe75f24977717c09c8da7fc89369dbb40477c98ba5", func := "loop.example/dualchoices/laws.FnExactMeetTrans", spec := "fnExactMeetTrans", inPlace := ["internal/bytealg.IndexByteString"], unfollowed := true, recurses := true, apart := false }
def FnExactMeetTransSaid : Prop := fnExactMeetTransRow.holds Try.pinned (OpenSpec.ofChange fnExactMeetTransSpec)

/-- ITS FALSE NEIGHBOUR: 'it returns false'. Refute it at one input. -/
def fnExactMeetTransWrong : ChangeSpec := { name := "fnExactMeetTrans", fn := fun _ => fun
  | [d1, d2] => { results := [.lit (.bool false)], args := [d1, d2] }
  | _ => none }
def FnExactMeetTransWrongFalsely : Prop := fnExactMeetTransRow.holds Try.pinned (OpenSpec.ofChange fnExactMeetTransWrong)

/-- 'laws.FnExactThenTrans': WHATEVER THE INPUT: true; the input reads as it did. -/
def fnExactThenTransSpec : ChangeSpec := { name := "fnExactThenTrans", fn := fun _ => fun
  | [d1, d2] => { results := [.lit (.bool true)], args := [d1, d2] }
  | _ => none }
def fnExactThenTransRow : OpenClaim := { program := "ytahjfidpieobcaa", sum := "8ba0332b321c85322e1a1bbe75f24977717c09c8da7fc89369dbb40477c98ba5", func := "loop.example/dualchoices/laws.FnExactThenTrans", spec := "fnExactThenTrans", inPlace := ["internal/bytealg.IndexByteString"], unfollowed := true, recurses := true, apart := false }
def FnExactThenTransSaid : Prop := fnExactThenTransRow.holds Try.pinned (OpenSpec.ofChange fnExactThenTransSpec)

/-- ITS FALSE NEIGHBOUR: 'it returns false'. Refute it at one input. -/
def fnExactThenTransWrong : ChangeSpec := { name := "fnExactThenTrans", fn := fun _ => fun
  | [d1, d2] => { results := [.lit (.bool false)], args := [d1, d2] }
  | _ => none }
def FnExactThenTransWrongFalsely : Prop := fnExactThenTransRow.holds Try.pinned (OpenSpec.ofChange fnExactThenTransWrong)

/-- 'laws.FnExactDualTrans': WHATEVER THE INPUT: true; the input reads as it did. -/
def fnExactDualTransSpec : ChangeSpec := { name := "fnExactDualTrans", fn := fun _ => fun
  | [d] => { results := [.lit (.bool true)], args := [d] }
  | _ => none }
def fnExactDualTransRow : OpenClaim := { program := "ytahjfidpieobcaa", sum := "8ba0332b321c85322e1a1bbe75f24977717c09c8da7fc89369dbb40477c98ba5", func := "loop.example/dualchoices/laws.FnExactDualTrans", spec := "fnExactDualTrans", inPlace := ["internal/bytealg.IndexByteString"], unfollowed := true, recurses := true, apart := false }
def FnExactDualTransSaid : Prop := fnExactDualTransRow.holds Try.pinned (OpenSpec.ofChange fnExactDualTransSpec)

/-- ITS FALSE NEIGHBOUR: 'it returns false'. Refute it at one input. -/
def fnExactDualTransWrong : ChangeSpec := { name := "fnExactDualTrans", fn := fun _ => fun
  | [d] => { results := [.lit (.bool false)], args := [d] }
  | _ => none }
def FnExactDualTransWrongFalsely : Prop := fnExactDualTransRow.holds Try.pinned (OpenSpec.ofChange fnExactDualTransWrong)

/-- 'laws.FnExactMiraclesOf': WHATEVER THE INPUT: true; the input reads as it did. -/
def fnExactMiraclesOfSpec : ChangeSpec := { name := "fnExactMiraclesOf", fn := fun _ => fun
  | [d] => { results := [.lit (.bool true)], args := [d] }
  | _ => none }
def fnExactMiraclesOfRow : OpenClaim := { program := "ytahjfidpieobcaa", sum := "8ba0332b321c85322e1a1bbe75f24977717c09c8da7fc89369dbb40477c98ba5", func := "loop.example/dualchoices/laws.FnExactMiraclesOf", spec := "fnExactMiraclesOf", inPlace := ["internal/bytealg.IndexByteString"], apart := false }
def FnExactMiraclesOfSaid : Prop := fnExactMiraclesOfRow.holds Try.pinned (OpenSpec.ofChange fnExactMiraclesOfSpec)

/-- ITS FALSE NEIGHBOUR: 'it returns false'. Refute it at one input. -/
def fnExactMiraclesOfWrong : ChangeSpec := { name := "fnExactMiraclesOf", fn := fun _ => fun
  | [d] => { results := [.lit (.bool false)], args := [d] }
  | _ => none }
def FnExactMiraclesOfWrongFalsely : Prop := fnExactMiraclesOfRow.holds Try.pinned (OpenSpec.ofChange fnExactMiraclesOfWrong)

/-- 'laws.FnExactStartsOf': WHATEVER THE INPUT: true; the input reads as it did. -/
def fnExactStartsOfSpec : ChangeSpec := { name := "fnExactStartsOf", fn := fun _ => fun
  | [d] => { results := [.lit (.bool true)], args := [d] }
  | _ => none }
def fnExactStartsOfRow : OpenClaim := { program := "ytahjfidpieobcaa", sum := "8ba0332b321c85322e1a1bbe75f24977717c09c8da7fc89369dbb40477c98ba5", func := "loop.example/dualchoices/laws.FnExactStartsOf", spec := "fnExactStartsOf", inPlace := ["internal/bytealg.IndexByteString"], apart := false }
def FnExactStartsOfSaid : Prop := fnExactStartsOfRow.holds Try.pinned (OpenSpec.ofChange fnExactStartsOfSpec)

/-- ITS FALSE NEIGHBOUR: 'it returns false'. Refute it at one input. -/
def fnExactStartsOfWrong : ChangeSpec := { name := "fnExactStartsOf", fn := fun _ => fun
  | [d] => { results := [.lit (.bool false)], args := [d] }
  | _ => none }
def FnExactStartsOfWrongFalsely : Prop := fnExactStartsOfRow.holds Try.pinned (OpenSpec.ofChange fnExactStartsOfWrong)

/-- 'laws.FnExactIsConjunctive': WHATEVER THE INPUT: true; the input reads as it did. -/
def fnExactIsConjunctiveSpec : ChangeSpec := { name := "fnExactIsConjunctive", fn := fun _ => fun
  | [d] => { results := [.lit (.bool true)], args := [d] }
  | _ => none }
def fnExactIsConjunctiveRow : OpenClaim := { program := "ytahjfidpieobcaa", sum := "8ba0332b321c85322e1a1bbe75f24977717c09c8da7fc89369dbb40477c98ba5", func := "loop.example/dualchoices/laws.FnExactIsConjunctive", spec := "fnExactIsConjunctive", inPlace := ["internal/bytealg.IndexByteString"], unfollowed := true, recurses := true, apart := false }
def FnExactIsConjunctiveSaid : Prop := fnExactIsConjunctiveRow.holds Try.pinned (OpenSpec.ofChange fnExactIsConjunctiveSpec)

/-- ITS FALSE NEIGHBOUR: 'it returns false'. Refute it at one input. -/
def fnExactIsConjunctiveWrong : ChangeSpec := { name := "fnExactIsConjunctive", fn := fun _ => fun
  | [d] => { results := [.lit (.bool false)], args := [d] }
  | _ => none }
def FnExactIsConjunctiveWrongFalsely : Prop := fnExactIsConjunctiveRow.holds Try.pinned (OpenSpec.ofChange fnExactIsConjunctiveWrong)

/- THE SECOND FORM. 'bulk': how many values and letters a reading holds, each counted each time it is reached (what is shared counts as often as it is met; a slice's spare places count too). A statement '..UptoSaid' is the law's where the arguments, and the package variables that the reading takes, are together of bulk at most 1048576: NARROWER than '..Said'. Prove '..Said' where nothing that the law and all that it calls make is longer than what came in: it says more and counts as full. Else prove '..UptoSaid'. A law counts once. -/
mutual
def uptoBulk {H : Type} : DataW H → Nat
  | .lit (.string bytes) => bytes.length + 1
  | .lit _ => 1
  | .nil => 1
  | .ptr d => uptoBulk d + 1
  | .slice elems spare => uptoBulkAll elems + uptoBulkAll spare + 1
  | .agg parts => uptoBulkAll parts + 1
  | .iface _ d => uptoBulk d + 1
  | .map entries => uptoBulkEntries entries + 1
  | .held _ => 1
def uptoBulkAll {H : Type} : List (DataW H) → Nat
  | [] => 0
  | d :: r => uptoBulk d + uptoBulkAll r
def uptoBulkEntries {H : Type} : List (Lit × DataW H) → Nat
  | [] => 0
  | x :: r => uptoBulkEntry x + uptoBulkEntries r
def uptoBulkEntry {H : Type} : Lit × DataW H → Nat
  | (.string bytes, d) => bytes.length + uptoBulk d + 1
  | (_, d) => uptoBulk d + 1
 end
def uptoSmall : (H : Type) → List (DataW H) → Bool := fun _ ds => decide (uptoBulkAll ds ≤ 1048576)
def OpenSpec.upto (s : _root_.Go.ChangeSpec) : _root_.Go.OpenSpec := { _root_.Go.OpenSpec.ofChange s with cond := some uptoSmall }

/-- 'laws.FnExactAssumeTrans', WHERE WHAT IT READS IS OF BULK AT MOST 1048576: true; the input reads as it did. -/
def fnExactAssumeTransUptoRow : OpenClaim := { program := "ytahjfidpieobcaa", sum := "8ba0332b321c85322e1a1bbe75f24977717c09c8da7fc89369dbb40477c98ba5", func := "loop.example/dualchoices/laws.FnExactAssumeTrans", spec := "fnExactAssumeTrans", unfollowed := true, recurses := true, apart := false, narrowed := true }
def FnExactAssumeTransUptoSaid : Prop := fnExactAssumeTransUptoRow.holds Try.pinned (OpenSpec.upto fnExactAssumeTransSpec)

/-- 'laws.FnExactRefinesTrans', WHERE WHAT IT READS IS OF BULK AT MOST 1048576: true; the input reads as it did. -/
def fnExactRefinesTransUptoRow : OpenClaim := { program := "ytahjfidpieobcaa", sum := "8ba0332b321c85322e1a1bbe75f24977717c09c8da7fc89369dbb40477c98ba5", func := "loop.example/dualchoices/laws.FnExactRefinesTrans", spec := "fnExactRefinesTrans", inPlace := ["internal/bytealg.IndexByteString"], apart := false, narrowed := true }
def FnExactRefinesTransUptoSaid : Prop := fnExactRefinesTransUptoRow.holds Try.pinned (OpenSpec.upto fnExactRefinesTransSpec)

/-- 'laws.FnExactFamilyOf', WHERE WHAT IT READS IS OF BULK AT MOST 1048576: true; the input reads as it did. -/
def fnExactFamilyOfUptoRow : OpenClaim := { program := "ytahjfidpieobcaa", sum := "8ba0332b321c85322e1a1bbe75f24977717c09c8da7fc89369dbb40477c98ba5", func := "loop.example/dualchoices/laws.FnExactFamilyOf", spec := "fnExactFamilyOf", inPlace := ["internal/bytealg.IndexByteString"], unfollowed := true, recurses := true, apart := false, narrowed := true }
def FnExactFamilyOfUptoSaid : Prop := fnExactFamilyOfUptoRow.holds Try.pinned (OpenSpec.upto fnExactFamilyOfSpec)

/-- 'laws.FnExactAngelTrans', WHERE WHAT IT READS IS OF BULK AT MOST 1048576: true; the input reads as it did. -/
def fnExactAngelTransUptoRow : OpenClaim := { program := "ytahjfidpieobcaa", sum := "8ba0332b321c85322e1a1bbe75f24977717c09c8da7fc89369dbb40477c98ba5", func := "loop.example/dualchoices/laws.FnExactAngelTrans", spec := "fnExactAngelTrans", inPlace := ["internal/bytealg.IndexByteString"], unfollowed := true, recurses := true, apart := false, narrowed := true }
def FnExactAngelTransUptoSaid : Prop := fnExactAngelTransUptoRow.holds Try.pinned (OpenSpec.upto fnExactAngelTransSpec)

/-- 'laws.FnExactDemonTrans', WHERE WHAT IT READS IS OF BULK AT MOST 1048576: true; the input reads as it did. -/
def fnExactDemonTransUptoRow : OpenClaim := { program := "ytahjfidpieobcaa", sum := "8ba0332b321c85322e1a1bbe75f24977717c09c8da7fc89369dbb40477c98ba5", func := "loop.example/dualchoices/laws.FnExactDemonTrans", spec := "fnExactDemonTrans", inPlace := ["internal/bytealg.IndexByteString"], unfollowed := true, recurses := true, apart := false, narrowed := true }
def FnExactDemonTransUptoSaid : Prop := fnExactDemonTransUptoRow.holds Try.pinned (OpenSpec.upto fnExactDemonTransSpec)

/-- 'laws.FnExactJoinTrans', WHERE WHAT IT READS IS OF BULK AT MOST 1048576: true; the input reads as it did. -/
def fnExactJoinTransUptoRow : OpenClaim := { program := "ytahjfidpieobcaa", sum := "8ba0332b321c85322e1a1bbe75f24977717c09c8da7fc89369dbb40477c98ba5", func := "loop.example/dualchoices/laws.FnExactJoinTrans", spec := "fnExactJoinTrans", inPlace := ["internal/bytealg.IndexByteString"], unfollowed := true, recurses := true, apart := false, narrowed := true }
def FnExactJoinTransUptoSaid : Prop := fnExactJoinTransUptoRow.holds Try.pinned (OpenSpec.upto fnExactJoinTransSpec)

/-- 'laws.FnExactMeetTrans', WHERE WHAT IT READS IS OF BULK AT MOST 1048576: true; the input reads as it did. -/
def fnExactMeetTransUptoRow : OpenClaim := { program := "ytahjfidpieobcaa", sum := "8ba0332b321c85322e1a1bbe75f24977717c09c8da7fc89369dbb40477c98ba5", func := "loop.example/dualchoices/laws.FnExactMeetTrans", spec := "fnExactMeetTrans", inPlace := ["internal/bytealg.IndexByteString"], unfollowed := true, recurses := true, apart := false, narrowed := true }
def FnExactMeetTransUptoSaid : Prop := fnExactMeetTransUptoRow.holds Try.pinned (OpenSpec.upto fnExactMeetTransSpec)

/-- 'laws.FnExactThenTrans', WHERE WHAT IT READS IS OF BULK AT MOST 1048576: true; the input reads as it did. -/
def fnExactThenTransUptoRow : OpenClaim := { program := "ytahjfidpieobcaa", sum := "8ba0332b321c85322e1a1bbe75f24977717c09c8da7fc89369dbb40477c98ba5", func := "loop.example/dualchoices/laws.FnExactThenTrans", spec := "fnExactThenTrans", inPlace := ["internal/bytealg.IndexByteString"], unfollowed := true, recurses := true, apart := false, narrowed := true }
def FnExactThenTransUptoSaid : Prop := fnExactThenTransUptoRow.holds Try.pinned (OpenSpec.upto fnExactThenTransSpec)

/-- 'laws.FnExactDualTrans', WHERE WHAT IT READS IS OF BULK AT MOST 1048576: true; the input reads as it did. -/
def fnExactDualTransUptoRow : OpenClaim := { program := "ytahjfidpieobcaa", sum := "8ba0332b321c85322e1a1bbe75f24977717c09c8da7fc89369dbb40477c98ba5", func := "loop.example/dualchoices/laws.FnExactDualTrans", spec := "fnExactDualTrans", inPlace := ["internal/bytealg.IndexByteString"], unfollowed := true, recurses := true, apart := false, narrowed := true }
def FnExactDualTransUptoSaid : Prop := fnExactDualTransUptoRow.holds Try.pinned (OpenSpec.upto fnExactDualTransSpec)

/-- 'laws.FnExactMiraclesOf', WHERE WHAT IT READS IS OF BULK AT MOST 1048576: true; the input reads as it did. -/
def fnExactMiraclesOfUptoRow : OpenClaim := { program := "ytahjfidpieobcaa", sum := "8ba0332b321c85322e1a1bbe75f24977717c09c8da7fc89369dbb40477c98ba5", func := "loop.example/dualchoices/laws.FnExactMiraclesOf", spec := "fnExactMiraclesOf", inPlace := ["internal/bytealg.IndexByteString"], apart := false, narrowed := true }
def FnExactMiraclesOfUptoSaid : Prop := fnExactMiraclesOfUptoRow.holds Try.pinned (OpenSpec.upto fnExactMiraclesOfSpec)

/-- 'laws.FnExactStartsOf', WHERE WHAT IT READS IS OF BULK AT MOST 1048576: true; the input reads as it did. -/
def fnExactStartsOfUptoRow : OpenClaim := { program := "ytahjfidpieobcaa", sum := "8ba0332b321c85322e1a1bbe75f24977717c09c8da7fc89369dbb40477c98ba5", func := "loop.example/dualchoices/laws.FnExactStartsOf", spec := "fnExactStartsOf", inPlace := ["internal/bytealg.IndexByteString"], apart := false, narrowed := true }
def FnExactStartsOfUptoSaid : Prop := fnExactStartsOfUptoRow.holds Try.pinned (OpenSpec.upto fnExactStartsOfSpec)

/-- 'laws.FnExactIsConjunctive', WHERE WHAT IT READS IS OF BULK AT MOST 1048576: true; the input reads as it did. -/
def fnExactIsConjunctiveUptoRow : OpenClaim := { program := "ytahjfidpieobcaa", sum := "8ba0332b321c85322e1a1bbe75f24977717c09c8da7fc89369dbb40477c98ba5", func := "loop.example/dualchoices/laws.FnExactIsConjunctive", spec := "fnExactIsConjunctive", inPlace := ["internal/bytealg.IndexByteString"], unfollowed := true, recurses := true, apart := false, narrowed := true }
def FnExactIsConjunctiveUptoSaid : Prop := fnExactIsConjunctiveUptoRow.holds Try.pinned (OpenSpec.upto fnExactIsConjunctiveSpec)

end Rows
end Go.Proofs.Ytahjfidpieobcaa
