/- The exported constants have the values that the specification gives; no conditions. -/
import Derived.Test.YthkhnkgckcdleaaOFnExactConstantsx1
import Derived.Test.YthkhnkgckcdleaaBase
namespace Go.Proofs.Ythkhnkgckcdleaa.Pure
open Go.RowKit Go.Proofs.Ythkhnkgckcdleaa.OFnExactConstants Go.Proofs.YthkhnkgckcdleaaW.PrintWords Go.Proofs.YthkhnkgckcdleaaW.PrintLast Go.Proofs.YthkhnkgckcdleaaW.PrintMore Go.Proofs.Ythkhnkgckcdleaa.Base
set_option linter.unusedVariables false
set_option linter.unusedSimpArgs false

theorem FnExactConstants : laws_FnExactConstants.Pure := by
  unfold laws_FnExactConstants.Pure laws_FnExactConstants.f
  rfl


end Go.Proofs.Ythkhnkgckcdleaa.Pure
