/- wire's and the reference's ReadText. -/
import Derived.Test.YtndkhlafpcedbaaDoorWireC
namespace Go.Proofs.YtndkhlafpcedbaaDoor
set_option linter.unusedVariables false
open Go.RowKit
end Go.Proofs.YtndkhlafpcedbaaDoor
