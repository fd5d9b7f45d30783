/-
  What every law's end names.
-/
import Derived.Test.YtncoiknpkebgoaaRows
import Derived.Test.YtncoiknpkebgoaaFrame
import Derived.Handed
import Derived.JoinedOf
namespace Go.Proofs.Ytncoiknpkebgoaa
set_option maxRecDepth 100000
set_option linter.unusedSimpArgs false
set_option linter.unusedVariables false
open Go.ChangeShapes Go.WideShapes Go.ChangeAt Go.RowKit Go
theorem own_knob : ownKnob Try.prog.godebug = none := by kernel_rfl
theorem laid_out : laidOutB Try.prog = true := by kernel_rfl
end Go.Proofs.Ytncoiknpkebgoaa
