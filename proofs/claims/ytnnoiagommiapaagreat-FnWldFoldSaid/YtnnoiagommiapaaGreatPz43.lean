/- Texts joined: DrawB. -/
import Derived.Test.YtnnoiagommiapaaGreatPz42
set_option maxRecDepth 100000
set_option linter.unusedSimpArgs false
set_option linter.unusedVariables false
namespace Go.Proofs.YtnnoiagommiapaaGreat
open Go.RowKit Go
set_option maxHeartbeats 4000000
def sel4 (v : Nat) (a b c d : Int) : Int := if v = 0 then a else if v = 1 then b else if v = 2 then c else d
end Go.Proofs.YtnnoiagommiapaaGreat
