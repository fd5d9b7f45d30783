/-
  No cell of these rows narrows 'for every input' (looked for: loops, veiled, ifaces, maps, wideKeys, modest, calm, conditions, laid).
  DERIVED. THE GIVEN ROWS OF THIS SEAT. 12 by the template 'for every input the law returns true; each argument reads behind the call as it read before'; 0 by the template 'total and deterministic' (their statements: YtnnoiagommiapaaGreatTotals.lean).
  GIVEN WITH THE SEED: the statements are not yours to turn. If you find one false, say at which input.
  Laid BY PROGRAM, IN A SANDBOX (cutbox-rows.mjs): the forced cells as the released guide's own fill.sh prints them over the translation 6fa1d3f615623782… (all of the seat's roots in one cut). By AI agents, Wed Nov 11 2026. No macro, syntax, notation, axiom, sorry.
-/
import Derived.Test.YtnnoiagommiapaaGreatChecked
import GoSem.Claim
import GoSem.ClaimJoined
import GoSem.ClaimMapViews
import Derived.JoinedTies
import Derived.KernelRfl
namespace Go.Proofs.YtnnoiagommiapaaGreat
/- THE CELL 'sum', in the pinned program and in every row, IS THE sha256 OF THE DUMP (.gsa) THAT YtnnoiagommiapaaGreatProg.lean LOADS. Nothing in Lean hashes anything: it is a label: what it is worth is what the hold of that sum in a sandbox is worth. -/
noncomputable def Tryz.pinned : Pinned := { name := "ytnnoiagommiapaagreat", sum := "6fa1d3f61562378224e92b4fba67d6f64f7458e47d0487eee9b96946ed62e259", checked := Tryz.checked }
namespace Rows
def none {H : Type} : Left H := { results := [], args := [] }

/-- 'laws.FnExactWldStep': WHATEVER THE INPUT: true; the input reads as it did. -/
def fnExactWldStepSpec : ChangeSpec := { name := "fnExactWldStep", fn := fun _ => fun
  | [d1, d2] => { results := [.lit (.bool true)], args := [d1, d2] }
  | _ => none }
def fnExactWldStepRow : OpenClaim := { program := "ytnnoiagommiapaagreat", sum := "6fa1d3f61562378224e92b4fba67d6f64f7458e47d0487eee9b96946ed62e259", func := "loop.example/stileway/laws.FnExactWldStep", spec := "fnExactWldStep", inPlace := ["slices.overlaps[loop.example/stileway/impl.MktDeal]"], unfollowed := true, recurses := true, apart := false }
def FnExactWldStepSaid : Prop := fnExactWldStepRow.holds Tryz.pinned (OpenSpec.ofChange fnExactWldStepSpec)

/-- ITS FALSE NEIGHBOUR: 'it returns false'. Refute it at one input. -/
def fnExactWldStepWrong : ChangeSpec := { name := "fnExactWldStep", fn := fun _ => fun
  | [d1, d2] => { results := [.lit (.bool false)], args := [d1, d2] }
  | _ => none }
def FnExactWldStepWrongFalsely : Prop := fnExactWldStepRow.holds Tryz.pinned (OpenSpec.ofChange fnExactWldStepWrong)

/-- 'laws.FnExactWldRun': WHATEVER THE INPUT: true; the input reads as it did. -/
def fnExactWldRunSpec : ChangeSpec := { name := "fnExactWldRun", fn := fun _ => fun
  | [d1, d2] => { results := [.lit (.bool true)], args := [d1, d2] }
  | _ => none }
def fnExactWldRunRow : OpenClaim := { program := "ytnnoiagommiapaagreat", sum := "6fa1d3f61562378224e92b4fba67d6f64f7458e47d0487eee9b96946ed62e259", func := "loop.example/stileway/laws.FnExactWldRun", spec := "fnExactWldRun", inPlace := ["slices.overlaps[loop.example/stileway/impl.MktDeal]"], unfollowed := true, recurses := true, apart := false }
def FnExactWldRunSaid : Prop := fnExactWldRunRow.holds Tryz.pinned (OpenSpec.ofChange fnExactWldRunSpec)

/-- ITS FALSE NEIGHBOUR: 'it returns false'. Refute it at one input. -/
def fnExactWldRunWrong : ChangeSpec := { name := "fnExactWldRun", fn := fun _ => fun
  | [d1, d2] => { results := [.lit (.bool false)], args := [d1, d2] }
  | _ => none }
def FnExactWldRunWrongFalsely : Prop := fnExactWldRunRow.holds Tryz.pinned (OpenSpec.ofChange fnExactWldRunWrong)

/-- 'laws.FnRunFold': WHATEVER THE INPUT: true; the input reads as it did. -/
def fnRunFoldSpec : ChangeSpec := { name := "fnRunFold", fn := fun _ => fun
  | [d] => { results := [.lit (.bool true)], args := [d] }
  | _ => none }
def fnRunFoldRow : OpenClaim := { program := "ytnnoiagommiapaagreat", sum := "6fa1d3f61562378224e92b4fba67d6f64f7458e47d0487eee9b96946ed62e259", func := "loop.example/stileway/laws.FnRunFold", spec := "fnRunFold", inPlace := ["slices.overlaps[loop.example/stileway/impl.MktDeal]"], unfollowed := true, recurses := true, apart := false }
def FnRunFoldSaid : Prop := fnRunFoldRow.holds Tryz.pinned (OpenSpec.ofChange fnRunFoldSpec)

/-- ITS FALSE NEIGHBOUR: 'it returns false'. Refute it at one input. -/
def fnRunFoldWrong : ChangeSpec := { name := "fnRunFold", fn := fun _ => fun
  | [d] => { results := [.lit (.bool false)], args := [d] }
  | _ => none }
def FnRunFoldWrongFalsely : Prop := fnRunFoldRow.holds Tryz.pinned (OpenSpec.ofChange fnRunFoldWrong)

/-- 'laws.FnWldPurse': WHATEVER THE INPUT: true; the input reads as it did. -/
def fnWldPurseSpec : ChangeSpec := { name := "fnWldPurse", fn := fun _ => fun
  | [d] => { results := [.lit (.bool true)], args := [d] }
  | _ => none }
def fnWldPurseRow : OpenClaim := { program := "ytnnoiagommiapaagreat", sum := "6fa1d3f61562378224e92b4fba67d6f64f7458e47d0487eee9b96946ed62e259", func := "loop.example/stileway/laws.FnWldPurse", spec := "fnWldPurse", recurses := true, apart := false }
def FnWldPurseSaid : Prop := fnWldPurseRow.holds Tryz.pinned (OpenSpec.ofChange fnWldPurseSpec)

/-- ITS FALSE NEIGHBOUR: 'it returns false'. Refute it at one input. -/
def fnWldPurseWrong : ChangeSpec := { name := "fnWldPurse", fn := fun _ => fun
  | [d] => { results := [.lit (.bool false)], args := [d] }
  | _ => none }
def FnWldPurseWrongFalsely : Prop := fnWldPurseRow.holds Tryz.pinned (OpenSpec.ofChange fnWldPurseWrong)

/-- 'laws.FnWldFold': WHATEVER THE INPUT: true; the input reads as it did. -/
def fnWldFoldSpec : ChangeSpec := { name := "fnWldFold", fn := fun _ => fun
  | [d] => { results := [.lit (.bool true)], args := [d] }
  | _ => none }
def fnWldFoldRow : OpenClaim := { program := "ytnnoiagommiapaagreat", sum := "6fa1d3f61562378224e92b4fba67d6f64f7458e47d0487eee9b96946ed62e259", func := "loop.example/stileway/laws.FnWldFold", spec := "fnWldFold", inPlace := ["slices.overlaps[loop.example/stileway/impl.MktDeal]"], unfollowed := true, recurses := true, apart := false }
def FnWldFoldSaid : Prop := fnWldFoldRow.holds Tryz.pinned (OpenSpec.ofChange fnWldFoldSpec)

/-- ITS FALSE NEIGHBOUR: 'it returns false'. Refute it at one input. -/
def fnWldFoldWrong : ChangeSpec := { name := "fnWldFold", fn := fun _ => fun
  | [d] => { results := [.lit (.bool false)], args := [d] }
  | _ => none }
def FnWldFoldWrongFalsely : Prop := fnWldFoldRow.holds Tryz.pinned (OpenSpec.ofChange fnWldFoldWrong)

/-- 'laws.FnWldOk': WHATEVER THE INPUT: true; the input reads as it did. -/
def fnWldOkSpec : ChangeSpec := { name := "fnWldOk", fn := fun _ => fun
  | [d] => { results := [.lit (.bool true)], args := [d] }
  | _ => none }
def fnWldOkRow : OpenClaim := { program := "ytnnoiagommiapaagreat", sum := "6fa1d3f61562378224e92b4fba67d6f64f7458e47d0487eee9b96946ed62e259", func := "loop.example/stileway/laws.FnWldOk", spec := "fnWldOk", inPlace := ["slices.overlaps[loop.example/stileway/impl.MktDeal]"], unfollowed := true, recurses := true, apart := false }
def FnWldOkSaid : Prop := fnWldOkRow.holds Tryz.pinned (OpenSpec.ofChange fnWldOkSpec)

/-- ITS FALSE NEIGHBOUR: 'it returns false'. Refute it at one input. -/
def fnWldOkWrong : ChangeSpec := { name := "fnWldOk", fn := fun _ => fun
  | [d] => { results := [.lit (.bool false)], args := [d] }
  | _ => none }
def FnWldOkWrongFalsely : Prop := fnWldOkRow.holds Tryz.pinned (OpenSpec.ofChange fnWldOkWrong)

/-- 'laws.FnWldNothing': WHATEVER THE INPUT: true; the input reads as it did. -/
def fnWldNothingSpec : ChangeSpec := { name := "fnWldNothing", fn := fun _ => fun
  | [d] => { results := [.lit (.bool true)], args := [d] }
  | _ => none }
def fnWldNothingRow : OpenClaim := { program := "ytnnoiagommiapaagreat", sum := "6fa1d3f61562378224e92b4fba67d6f64f7458e47d0487eee9b96946ed62e259", func := "loop.example/stileway/laws.FnWldNothing", spec := "fnWldNothing", inPlace := ["slices.overlaps[loop.example/stileway/impl.MktDeal]"], unfollowed := true, recurses := true, apart := false }
def FnWldNothingSaid : Prop := fnWldNothingRow.holds Tryz.pinned (OpenSpec.ofChange fnWldNothingSpec)

/-- ITS FALSE NEIGHBOUR: 'it returns false'. Refute it at one input. -/
def fnWldNothingWrong : ChangeSpec := { name := "fnWldNothing", fn := fun _ => fun
  | [d] => { results := [.lit (.bool false)], args := [d] }
  | _ => none }
def FnWldNothingWrongFalsely : Prop := fnWldNothingRow.holds Tryz.pinned (OpenSpec.ofChange fnWldNothingWrong)

/-- 'laws.FnWldAsk': WHATEVER THE INPUT: true; the input reads as it did. -/
def fnWldAskSpec : ChangeSpec := { name := "fnWldAsk", fn := fun _ => fun
  | [d] => { results := [.lit (.bool true)], args := [d] }
  | _ => none }
def fnWldAskRow : OpenClaim := { program := "ytnnoiagommiapaagreat", sum := "6fa1d3f61562378224e92b4fba67d6f64f7458e47d0487eee9b96946ed62e259", func := "loop.example/stileway/laws.FnWldAsk", spec := "fnWldAsk", inPlace := ["slices.overlaps[loop.example/stileway/impl.MktDeal]"], unfollowed := true, recurses := true, apart := false }
def FnWldAskSaid : Prop := fnWldAskRow.holds Tryz.pinned (OpenSpec.ofChange fnWldAskSpec)

/-- ITS FALSE NEIGHBOUR: 'it returns false'. Refute it at one input. -/
def fnWldAskWrong : ChangeSpec := { name := "fnWldAsk", fn := fun _ => fun
  | [d] => { results := [.lit (.bool false)], args := [d] }
  | _ => none }
def FnWldAskWrongFalsely : Prop := fnWldAskRow.holds Tryz.pinned (OpenSpec.ofChange fnWldAskWrong)

/-- 'laws.FnWldLose': WHATEVER THE INPUT: true; the input reads as it did. -/
def fnWldLoseSpec : ChangeSpec := { name := "fnWldLose", fn := fun _ => fun
  | [d] => { results := [.lit (.bool true)], args := [d] }
  | _ => none }
def fnWldLoseRow : OpenClaim := { program := "ytnnoiagommiapaagreat", sum := "6fa1d3f61562378224e92b4fba67d6f64f7458e47d0487eee9b96946ed62e259", func := "loop.example/stileway/laws.FnWldLose", spec := "fnWldLose", inPlace := ["slices.overlaps[loop.example/stileway/impl.MktDeal]"], unfollowed := true, recurses := true, apart := false }
def FnWldLoseSaid : Prop := fnWldLoseRow.holds Tryz.pinned (OpenSpec.ofChange fnWldLoseSpec)

/-- ITS FALSE NEIGHBOUR: 'it returns false'. Refute it at one input. -/
def fnWldLoseWrong : ChangeSpec := { name := "fnWldLose", fn := fun _ => fun
  | [d] => { results := [.lit (.bool false)], args := [d] }
  | _ => none }
def FnWldLoseWrongFalsely : Prop := fnWldLoseRow.holds Tryz.pinned (OpenSpec.ofChange fnWldLoseWrong)

/-- 'laws.FnWldSend': WHATEVER THE INPUT: true; the input reads as it did. -/
def fnWldSendSpec : ChangeSpec := { name := "fnWldSend", fn := fun _ => fun
  | [d] => { results := [.lit (.bool true)], args := [d] }
  | _ => none }
def fnWldSendRow : OpenClaim := { program := "ytnnoiagommiapaagreat", sum := "6fa1d3f61562378224e92b4fba67d6f64f7458e47d0487eee9b96946ed62e259", func := "loop.example/stileway/laws.FnWldSend", spec := "fnWldSend", inPlace := ["slices.overlaps[loop.example/stileway/impl.MktDeal]"], unfollowed := true, recurses := true, apart := false }
def FnWldSendSaid : Prop := fnWldSendRow.holds Tryz.pinned (OpenSpec.ofChange fnWldSendSpec)

/-- ITS FALSE NEIGHBOUR: 'it returns false'. Refute it at one input. -/
def fnWldSendWrong : ChangeSpec := { name := "fnWldSend", fn := fun _ => fun
  | [d] => { results := [.lit (.bool false)], args := [d] }
  | _ => none }
def FnWldSendWrongFalsely : Prop := fnWldSendRow.holds Tryz.pinned (OpenSpec.ofChange fnWldSendWrong)

/-- 'laws.FnWldHear': WHATEVER THE INPUT: true; the input reads as it did. -/
def fnWldHearSpec : ChangeSpec := { name := "fnWldHear", fn := fun _ => fun
  | [d] => { results := [.lit (.bool true)], args := [d] }
  | _ => none }
def fnWldHearRow : OpenClaim := { program := "ytnnoiagommiapaagreat", sum := "6fa1d3f61562378224e92b4fba67d6f64f7458e47d0487eee9b96946ed62e259", func := "loop.example/stileway/laws.FnWldHear", spec := "fnWldHear", inPlace := ["slices.overlaps[loop.example/stileway/impl.MktDeal]"], unfollowed := true, recurses := true, apart := false }
def FnWldHearSaid : Prop := fnWldHearRow.holds Tryz.pinned (OpenSpec.ofChange fnWldHearSpec)

/-- ITS FALSE NEIGHBOUR: 'it returns false'. Refute it at one input. -/
def fnWldHearWrong : ChangeSpec := { name := "fnWldHear", fn := fun _ => fun
  | [d] => { results := [.lit (.bool false)], args := [d] }
  | _ => none }
def FnWldHearWrongFalsely : Prop := fnWldHearRow.holds Tryz.pinned (OpenSpec.ofChange fnWldHearWrong)

/-- 'laws.FnWldTell': WHATEVER THE INPUT: true; the input reads as it did. -/
def fnWldTellSpec : ChangeSpec := { name := "fnWldTell", fn := fun _ => fun
  | [d] => { results := [.lit (.bool true)], args := [d] }
  | _ => none }
def fnWldTellRow : OpenClaim := { program := "ytnnoiagommiapaagreat", sum := "6fa1d3f61562378224e92b4fba67d6f64f7458e47d0487eee9b96946ed62e259", func := "loop.example/stileway/laws.FnWldTell", spec := "fnWldTell", inPlace := ["slices.overlaps[loop.example/stileway/impl.MktDeal]"], unfollowed := true, recurses := true, apart := false }
def FnWldTellSaid : Prop := fnWldTellRow.holds Tryz.pinned (OpenSpec.ofChange fnWldTellSpec)

/-- ITS FALSE NEIGHBOUR: 'it returns false'. Refute it at one input. -/
def fnWldTellWrong : ChangeSpec := { name := "fnWldTell", fn := fun _ => fun
  | [d] => { results := [.lit (.bool false)], args := [d] }
  | _ => none }
def FnWldTellWrongFalsely : Prop := fnWldTellRow.holds Tryz.pinned (OpenSpec.ofChange fnWldTellWrong)

/- THE SECOND FORM. 'bulk': how many values and letters a reading holds, each counted each time it is reached (what is shared counts as often as it is met; a slice's spare places count too). A statement '..UptoSaid' is the law's where the arguments, and the package variables that the reading takes, are together of bulk at most 1048576: NARROWER than '..Said'. Prove '..Said' where nothing that the law and all that it calls make is longer than what came in: it says more and counts as full. Else prove '..UptoSaid'. A law counts once. -/
mutual
def uptoBulk {H : Type} : DataW H → Nat
  | .lit (.string bytes) => bytes.length + 1
  | .lit _ => 1
  | .nil => 1
  | .ptr d => uptoBulk d + 1
  | .slice elems spare => uptoBulkAll elems + uptoBulkAll spare + 1
  | .agg parts => uptoBulkAll parts + 1
  | .iface _ d => uptoBulk d + 1
  | .map entries => uptoBulkEntries entries + 1
  | .held _ => 1
def uptoBulkAll {H : Type} : List (DataW H) → Nat
  | [] => 0
  | d :: r => uptoBulk d + uptoBulkAll r
def uptoBulkEntries {H : Type} : List (Lit × DataW H) → Nat
  | [] => 0
  | x :: r => uptoBulkEntry x + uptoBulkEntries r
def uptoBulkEntry {H : Type} : Lit × DataW H → Nat
  | (.string bytes, d) => bytes.length + uptoBulk d + 1
  | (_, d) => uptoBulk d + 1
 end
def uptoSmall : (H : Type) → List (DataW H) → Bool := fun _ ds => decide (uptoBulkAll ds ≤ 1048576)
def OpenSpec.upto (s : _root_.Go.ChangeSpec) : _root_.Go.OpenSpec := { _root_.Go.OpenSpec.ofChange s with cond := some uptoSmall }

/-- 'laws.FnExactWldStep', WHERE WHAT IT READS IS OF BULK AT MOST 1048576: true; the input reads as it did. -/
def fnExactWldStepUptoRow : OpenClaim := { program := "ytnnoiagommiapaagreat", sum := "6fa1d3f61562378224e92b4fba67d6f64f7458e47d0487eee9b96946ed62e259", func := "loop.example/stileway/laws.FnExactWldStep", spec := "fnExactWldStep", inPlace := ["slices.overlaps[loop.example/stileway/impl.MktDeal]"], unfollowed := true, recurses := true, apart := false, narrowed := true }
def FnExactWldStepUptoSaid : Prop := fnExactWldStepUptoRow.holds Tryz.pinned (OpenSpec.upto fnExactWldStepSpec)

/-- 'laws.FnExactWldRun', WHERE WHAT IT READS IS OF BULK AT MOST 1048576: true; the input reads as it did. -/
def fnExactWldRunUptoRow : OpenClaim := { program := "ytnnoiagommiapaagreat", sum := "6fa1d3f61562378224e92b4fba67d6f64f7458e47d0487eee9b96946ed62e259", func := "loop.example/stileway/laws.FnExactWldRun", spec := "fnExactWldRun", inPlace := ["slices.overlaps[loop.example/stileway/impl.MktDeal]"], unfollowed := true, recurses := true, apart := false, narrowed := true }
def FnExactWldRunUptoSaid : Prop := fnExactWldRunUptoRow.holds Tryz.pinned (OpenSpec.upto fnExactWldRunSpec)

/-- 'laws.FnRunFold', WHERE WHAT IT READS IS OF BULK AT MOST 1048576: true; the input reads as it did. -/
def fnRunFoldUptoRow : OpenClaim := { program := "ytnnoiagommiapaagreat", sum := "6fa1d3f61562378224e92b4fba67d6f64f7458e47d0487eee9b96946ed62e259", func := "loop.example/stileway/laws.FnRunFold", spec := "fnRunFold", inPlace := ["slices.overlaps[loop.example/stileway/impl.MktDeal]"], unfollowed := true, recurses := true, apart := false, narrowed := true }
def FnRunFoldUptoSaid : Prop := fnRunFoldUptoRow.holds Tryz.pinned (OpenSpec.upto fnRunFoldSpec)

/-- 'laws.FnWldPurse', WHERE WHAT IT READS IS OF BULK AT MOST 1048576: true; the input reads as it did. -/
def fnWldPurseUptoRow : OpenClaim := { program := "ytnnoiagommiapaagreat", sum := "6fa1d3f61562378224e92b4fba67d6f64f7458e47d0487eee9b96946ed62e259", func := "loop.example/stileway/laws.FnWldPurse", spec := "fnWldPurse", recurses := true, apart := false, narrowed := true }
def FnWldPurseUptoSaid : Prop := fnWldPurseUptoRow.holds Tryz.pinned (OpenSpec.upto fnWldPurseSpec)

/-- 'laws.FnWldFold', WHERE WHAT IT READS IS OF BULK AT MOST 1048576: true; the input reads as it did. -/
def fnWldFoldUptoRow : OpenClaim := { program := "ytnnoiagommiapaagreat", sum := "6fa1d3f61562378224e92b4fba67d6f64f7458e47d0487eee9b96946ed62e259", func := "loop.example/stileway/laws.FnWldFold", spec := "fnWldFold", inPlace := ["slices.overlaps[loop.example/stileway/impl.MktDeal]"], unfollowed := true, recurses := true, apart := false, narrowed := true }
def FnWldFoldUptoSaid : Prop := fnWldFoldUptoRow.holds Tryz.pinned (OpenSpec.upto fnWldFoldSpec)

/-- 'laws.FnWldOk', WHERE WHAT IT READS IS OF BULK AT MOST 1048576: true; the input reads as it did. -/
def fnWldOkUptoRow : OpenClaim := { program := "ytnnoiagommiapaagreat", sum := "6fa1d3f61562378224e92b4fba67d6f64f7458e47d0487eee9b96946ed62e259", func := "loop.example/stileway/laws.FnWldOk", spec := "fnWldOk", inPlace := ["slices.overlaps[loop.example/stileway/impl.MktDeal]"], unfollowed := true, recurses := true, apart := false, narrowed := true }
def FnWldOkUptoSaid : Prop := fnWldOkUptoRow.holds Tryz.pinned (OpenSpec.upto fnWldOkSpec)

/-- 'laws.FnWldNothing', WHERE WHAT IT READS IS OF BULK AT MOST 1048576: true; the input reads as it did. -/
def fnWldNothingUptoRow : OpenClaim := { program := "ytnnoiagommiapaagreat", sum := "6fa1d3f61562378224e92b4fba67d6f64f7458e47d0487eee9b96946ed62e259", func := "loop.example/stileway/laws.FnWldNothing", spec := "fnWldNothing", inPlace := ["slices.overlaps[loop.example/stileway/impl.MktDeal]"], unfollowed := true, recurses := true, apart := false, narrowed := true }
def FnWldNothingUptoSaid : Prop := fnWldNothingUptoRow.holds Tryz.pinned (OpenSpec.upto fnWldNothingSpec)

/-- 'laws.FnWldAsk', WHERE WHAT IT READS IS OF BULK AT MOST 1048576: true; the input reads as it did. -/
def fnWldAskUptoRow : OpenClaim := { program := "ytnnoiagommiapaagreat", sum := "6fa1d3f61562378224e92b4fba67d6f64f7458e47d0487eee9b96946ed62e259", func := "loop.example/stileway/laws.FnWldAsk", spec := "fnWldAsk", inPlace := ["slices.overlaps[loop.example/stileway/impl.MktDeal]"], unfollowed := true, recurses := true, apart := false, narrowed := true }
def FnWldAskUptoSaid : Prop := fnWldAskUptoRow.holds Tryz.pinned (OpenSpec.upto fnWldAskSpec)

/-- 'laws.FnWldLose', WHERE WHAT IT READS IS OF BULK AT MOST 1048576: true; the input reads as it did. -/
def fnWldLoseUptoRow : OpenClaim := { program := "ytnnoiagommiapaagreat", sum := "6fa1d3f61562378224e92b4fba67d6f64f7458e47d0487eee9b96946ed62e259", func := "loop.example/stileway/laws.FnWldLose", spec := "fnWldLose", inPlace := ["slices.overlaps[loop.example/stileway/impl.MktDeal]"], unfollowed := true, recurses := true, apart := false, narrowed := true }
def FnWldLoseUptoSaid : Prop := fnWldLoseUptoRow.holds Tryz.pinned (OpenSpec.upto fnWldLoseSpec)

/-- 'laws.FnWldSend', WHERE WHAT IT READS IS OF BULK AT MOST 1048576: true; the input reads as it did. -/
def fnWldSendUptoRow : OpenClaim := { program := "ytnnoiagommiapaagreat", sum := "6fa1d3f61562378224e92b4fba67d6f64f7458e47d0487eee9b96946ed62e259", func := "loop.example/stileway/laws.FnWldSend", spec := "fnWldSend", inPlace := ["slices.overlaps[loop.example/stileway/impl.MktDeal]"], unfollowed := true, recurses := true, apart := false, narrowed := true }
def FnWldSendUptoSaid : Prop := fnWldSendUptoRow.holds Tryz.pinned (OpenSpec.upto fnWldSendSpec)

/-- 'laws.FnWldHear', WHERE WHAT IT READS IS OF BULK AT MOST 1048576: true; the input reads as it did. -/
def fnWldHearUptoRow : OpenClaim := { program := "ytnnoiagommiapaagreat", sum := "6fa1d3f61562378224e92b4fba67d6f64f7458e47d0487eee9b96946ed62e259", func := "loop.example/stileway/laws.FnWldHear", spec := "fnWldHear", inPlace := ["slices.overlaps[loop.example/stileway/impl.MktDeal]"], unfollowed := true, recurses := true, apart := false, narrowed := true }
def FnWldHearUptoSaid : Prop := fnWldHearUptoRow.holds Tryz.pinned (OpenSpec.upto fnWldHearSpec)

/-- 'laws.FnWldTell', WHERE WHAT IT READS IS OF BULK AT MOST 1048576: true; the input reads as it did. -/
def fnWldTellUptoRow : OpenClaim := { program := "ytnnoiagommiapaagreat", sum := "6fa1d3f61562378224e92b4fba67d6f64f7458e47d0487eee9b96946ed62e259", func := "loop.example/stileway/laws.FnWldTell", spec := "fnWldTell", inPlace := ["slices.overlaps[loop.example/stileway/impl.MktDeal]"], unfollowed := true, recurses := true, apart := false, narrowed := true }
def FnWldTellUptoSaid : Prop := fnWldTellUptoRow.holds Tryz.pinned (OpenSpec.upto fnWldTellSpec)

end Rows
end Go.Proofs.YtnnoiagommiapaaGreat
