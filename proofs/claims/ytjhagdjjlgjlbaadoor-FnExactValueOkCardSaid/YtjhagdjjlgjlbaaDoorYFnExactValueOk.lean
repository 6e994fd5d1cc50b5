/- Further words for the plain side of one law. No statement is proved here. -/
import Derived.Test.YtjhagdjjlgjlbaaDoorZFnExactValueOk0
set_option linter.unusedVariables false
set_option linter.unusedSimpArgs false
namespace Go.Proofs.YtjhagdjjlgjlbaaDoorW.PrintWords
open Go.RowKit
theorem bt_range (s : ByteArray) (i : Int) : 0 ≤ bt s i ∧ bt s i ≤ 255 := by
  unfold bt
  split
  · rename_i h
    have := (s[i.toNat]'h).toNat_lt
    omega
  · omega
end Go.Proofs.YtjhagdjjlgjlbaaDoorW.PrintWords
