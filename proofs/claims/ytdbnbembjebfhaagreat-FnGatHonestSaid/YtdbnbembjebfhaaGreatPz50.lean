/-
  Texts joined: End.
-/
import Derived.Test.YtdbnbembjebfhaaGreatRows
import Derived.Test.YtdbnbembjebfhaaGreatPz49
import Derived.Handed
import Derived.JoinedOf
namespace Go.Proofs.YtdbnbembjebfhaaGreat
set_option maxRecDepth 100000
set_option linter.unusedSimpArgs false
set_option linter.unusedVariables false
open Go.ChangeShapes Go.WideShapes Go.ChangeAt Go.RowKit Go
theorem own_knob : ownKnob Tryz.prog.godebug = none := by kernel_rfl
theorem laid_out : laidOutB Tryz.prog = true := by kernel_rfl
end Go.Proofs.YtdbnbembjebfhaaGreat

