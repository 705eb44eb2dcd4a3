/- The reference's ReadUvar answer what 'uvar' says. -/
import Derived.Test.YtndkhlafpcedbaaDoorProg
import Derived.Test.YtndkhlafpcedbaaDoorBase
import Derived.Handy
namespace Go.Proofs.YtndkhlafpcedbaaDoor
set_option linter.unusedVariables false
open Go.RowKit
end Go.Proofs.YtndkhlafpcedbaaDoor
