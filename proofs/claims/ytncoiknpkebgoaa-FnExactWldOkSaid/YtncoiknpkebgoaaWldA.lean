/-
  A world's parts, as they are asked (plain).
-/
import Derived.Test.YtncoiknpkebgoaaMktA
namespace Go.Proofs.Ytncoiknpkebgoaa
set_option maxRecDepth 100000
set_option linter.unusedSimpArgs false
set_option linter.unusedVariables false
open Go.RowKit Go

def lineBad (r : Sw.Req) : Bool := !Sw.lineOk r
def gateBad (g : Sw.Gate) : Bool := !Sw.gatOk g
def msgBad (x : Sw.Msg) : Bool := !Sw.msgOk x
theorem req_zero {r : Sw.Req} : decide (r = Sw.reqZ) = (decide (r.user = 0) && (decide (r.n = 0) && (decide (r.kind = 0) && (decide (r.ticket = 0) && (decide (r.who = 0) && decide (r.price = 0)))))) := by
  rw [Bool.eq_iff_iff]; cases r; simp [Sw.reqZ]
/-- A world's parts, as they are asked. -/
def wldGate (x : Sw.World) : Bool := Sw.mktOk x.market && Sw.monOk x.first && decide (x.lines.length ≤ 300) && decide (x.gates.length = 2) && decide (x.bag.length ≤ 6)
theorem wldOk_parts (x : Sw.World) : Sw.wldOk x = (wldGate x && (x.lines.all Sw.lineOk && (x.gates.all Sw.gatOk && x.bag.all Sw.msgOk))) := by
  simp [Sw.wldOk, wldGate, Bool.and_assoc]
end Go.Proofs.Ytncoiknpkebgoaa
