/-
  No cell of these rows narrows 'for every input' (looked for: loops, veiled, ifaces, maps, wideKeys, modest, calm, conditions, laid).
  DERIVED. THE GIVEN ROWS OF THIS SEAT. 8 by the template 'for every input the law returns true; each argument reads behind the call as it read before'; 0 by the template 'total and deterministic' (their statements: YtgaflnpmilikcaaGreatTotals.lean).
  GIVEN WITH THE SEED: the statements are not yours to turn. If you find one false, say at which input.
  Laid BY PROGRAM, IN A SANDBOX (cutbox-rows.mjs): the forced cells as the released guide's own fill.sh prints them over the translation 4690bfed8483af81… (all of the seat's roots in one cut). By AI agents, Wed Nov 11 2026. No macro, syntax, notation, axiom, sorry.
-/
import Derived.Test.YtgaflnpmilikcaaGreatChecked
import GoSem.Claim
import GoSem.ClaimJoined
import GoSem.ClaimMapViews
import Derived.JoinedTies
import Derived.KernelRfl
namespace Go.Proofs.YtgaflnpmilikcaaGreat
/- THE CELL 'sum', in the pinned program and in every row, IS THE sha256 OF THE DUMP (.gsa) THAT YtgaflnpmilikcaaGreatProg.lean LOADS. Nothing in Lean hashes anything: it is a label: what it is worth is what the hold of that sum in a sandbox is worth. -/
noncomputable def Tryz.pinned : Pinned := { name := "ytgaflnpmilikcaagreat", sum := "4690bfed8483af8167550480dfd9d9cde799c1b3ec35395957e86c031ce135f4", checked := Tryz.checked }
namespace Rows
def none {H : Type} : Left H := { results := [], args := [] }

/-- 'laws.FnRunFold': WHATEVER THE INPUT: true; the input reads as it did. -/
def fnRunFoldSpec : ChangeSpec := { name := "fnRunFold", fn := fun _ => fun
  | [d] => { results := [.lit (.bool true)], args := [d] }
  | _ => none }
def fnRunFoldRow : OpenClaim := { program := "ytgaflnpmilikcaagreat", sum := "4690bfed8483af8167550480dfd9d9cde799c1b3ec35395957e86c031ce135f4", func := "loop.example/stileway/laws.FnRunFold", spec := "fnRunFold", inPlace := ["slices.overlaps[loop.example/stileway/impl.MktDeal]"], unfollowed := true, recurses := true, apart := false }
def FnRunFoldSaid : Prop := fnRunFoldRow.holds Tryz.pinned (OpenSpec.ofChange fnRunFoldSpec)

/-- ITS FALSE NEIGHBOUR: 'it returns false'. Refute it at one input. -/
def fnRunFoldWrong : ChangeSpec := { name := "fnRunFold", fn := fun _ => fun
  | [d] => { results := [.lit (.bool false)], args := [d] }
  | _ => none }
def FnRunFoldWrongFalsely : Prop := fnRunFoldRow.holds Tryz.pinned (OpenSpec.ofChange fnRunFoldWrong)

/-- 'laws.FnWldOk': WHATEVER THE INPUT: true; the input reads as it did. -/
def fnWldOkSpec : ChangeSpec := { name := "fnWldOk", fn := fun _ => fun
  | [d] => { results := [.lit (.bool true)], args := [d] }
  | _ => none }
def fnWldOkRow : OpenClaim := { program := "ytgaflnpmilikcaagreat", sum := "4690bfed8483af8167550480dfd9d9cde799c1b3ec35395957e86c031ce135f4", func := "loop.example/stileway/laws.FnWldOk", spec := "fnWldOk", inPlace := ["slices.overlaps[loop.example/stileway/impl.MktDeal]"], unfollowed := true, recurses := true, apart := false }
def FnWldOkSaid : Prop := fnWldOkRow.holds Tryz.pinned (OpenSpec.ofChange fnWldOkSpec)

/-- ITS FALSE NEIGHBOUR: 'it returns false'. Refute it at one input. -/
def fnWldOkWrong : ChangeSpec := { name := "fnWldOk", fn := fun _ => fun
  | [d] => { results := [.lit (.bool false)], args := [d] }
  | _ => none }
def FnWldOkWrongFalsely : Prop := fnWldOkRow.holds Tryz.pinned (OpenSpec.ofChange fnWldOkWrong)

/-- 'laws.FnWldNothing': WHATEVER THE INPUT: true; the input reads as it did. -/
def fnWldNothingSpec : ChangeSpec := { name := "fnWldNothing", fn := fun _ => fun
  | [d] => { results := [.lit (.bool true)], args := [d] }
  | _ => none }
def fnWldNothingRow : OpenClaim := { program := "ytgaflnpmilikcaagreat", sum := "4690bfed8483af8167550480dfd9d9cde799c1b3ec35395957e86c031ce135f4", func := "loop.example/stileway/laws.FnWldNothing", spec := "fnWldNothing", inPlace := ["slices.overlaps[loop.example/stileway/impl.MktDeal]"], unfollowed := true, recurses := true, apart := false }
def FnWldNothingSaid : Prop := fnWldNothingRow.holds Tryz.pinned (OpenSpec.ofChange fnWldNothingSpec)

/-- ITS FALSE NEIGHBOUR: 'it returns false'. Refute it at one input. -/
def fnWldNothingWrong : ChangeSpec := { name := "fnWldNothing", fn := fun _ => fun
  | [d] => { results := [.lit (.bool false)], args := [d] }
  | _ => none }
def FnWldNothingWrongFalsely : Prop := fnWldNothingRow.holds Tryz.pinned (OpenSpec.ofChange fnWldNothingWrong)

/-- 'laws.FnWldAsk': WHATEVER THE INPUT: true; the input reads as it did. -/
def fnWldAskSpec : ChangeSpec := { name := "fnWldAsk", fn := fun _ => fun
  | [d] => { results := [.lit (.bool true)], args := [d] }
  | _ => none }
def fnWldAskRow : OpenClaim := { program := "ytgaflnpmilikcaagreat", sum := "4690bfed8483af8167550480dfd9d9cde799c1b3ec35395957e86c031ce135f4", func := "loop.example/stileway/laws.FnWldAsk", spec := "fnWldAsk", inPlace := ["slices.overlaps[loop.example/stileway/impl.MktDeal]"], unfollowed := true, recurses := true, apart := false }
def FnWldAskSaid : Prop := fnWldAskRow.holds Tryz.pinned (OpenSpec.ofChange fnWldAskSpec)

/-- ITS FALSE NEIGHBOUR: 'it returns false'. Refute it at one input. -/
def fnWldAskWrong : ChangeSpec := { name := "fnWldAsk", fn := fun _ => fun
  | [d] => { results := [.lit (.bool false)], args := [d] }
  | _ => none }
def FnWldAskWrongFalsely : Prop := fnWldAskRow.holds Tryz.pinned (OpenSpec.ofChange fnWldAskWrong)

/-- 'laws.FnWldLose': WHATEVER THE INPUT: true; the input reads as it did. -/
def fnWldLoseSpec : ChangeSpec := { name := "fnWldLose", fn := fun _ => fun
  | [d] => { results := [.lit (.bool true)], args := [d] }
  | _ => none }
def fnWldLoseRow : OpenClaim := { program := "ytgaflnpmilikcaagreat", sum := "4690bfed8483af8167550480dfd9d9cde799c1b3ec35395957e86c031ce135f4", func := "loop.example/stileway/laws.FnWldLose", spec := "fnWldLose", inPlace := ["slices.overlaps[loop.example/stileway/impl.MktDeal]"], unfollowed := true, recurses := true, apart := false }
def FnWldLoseSaid : Prop := fnWldLoseRow.holds Tryz.pinned (OpenSpec.ofChange fnWldLoseSpec)

/-- ITS FALSE NEIGHBOUR: 'it returns false'. Refute it at one input. -/
def fnWldLoseWrong : ChangeSpec := { name := "fnWldLose", fn := fun _ => fun
  | [d] => { results := [.lit (.bool false)], args := [d] }
  | _ => none }
def FnWldLoseWrongFalsely : Prop := fnWldLoseRow.holds Tryz.pinned (OpenSpec.ofChange fnWldLoseWrong)

/-- 'laws.FnWldSend': WHATEVER THE INPUT: true; the input reads as it did. -/
def fnWldSendSpec : ChangeSpec := { name := "fnWldSend", fn := fun _ => fun
  | [d] => { results := [.lit (.bool true)], args := [d] }
  | _ => none }
def fnWldSendRow : OpenClaim := { program := "ytgaflnpmilikcaagreat", sum := "4690bfed8483af8167550480dfd9d9cde799c1b3ec35395957e86c031ce135f4", func := "loop.example/stileway/laws.FnWldSend", spec := "fnWldSend", inPlace := ["slices.overlaps[loop.example/stileway/impl.MktDeal]"], unfollowed := true, recurses := true, apart := false }
def FnWldSendSaid : Prop := fnWldSendRow.holds Tryz.pinned (OpenSpec.ofChange fnWldSendSpec)

/-- ITS FALSE NEIGHBOUR: 'it returns false'. Refute it at one input. -/
def fnWldSendWrong : ChangeSpec := { name := "fnWldSend", fn := fun _ => fun
  | [d] => { results := [.lit (.bool false)], args := [d] }
  | _ => none }
def FnWldSendWrongFalsely : Prop := fnWldSendRow.holds Tryz.pinned (OpenSpec.ofChange fnWldSendWrong)

/-- 'laws.FnWldHear': WHATEVER THE INPUT: true; the input reads as it did. -/
def fnWldHearSpec : ChangeSpec := { name := "fnWldHear", fn := fun _ => fun
  | [d] => { results := [.lit (.bool true)], args := [d] }
  | _ => none }
def fnWldHearRow : OpenClaim := { program := "ytgaflnpmilikcaagreat", sum := "4690bfed8483af8167550480dfd9d9cde799c1b3ec35395957e86c031ce135f4", func := "loop.example/stileway/laws.FnWldHear", spec := "fnWldHear", inPlace := ["slices.overlaps[loop.example/stileway/impl.MktDeal]"], unfollowed := true, recurses := true, apart := false }
def FnWldHearSaid : Prop := fnWldHearRow.holds Tryz.pinned (OpenSpec.ofChange fnWldHearSpec)

/-- ITS FALSE NEIGHBOUR: 'it returns false'. Refute it at one input. -/
def fnWldHearWrong : ChangeSpec := { name := "fnWldHear", fn := fun _ => fun
  | [d] => { results := [.lit (.bool false)], args := [d] }
  | _ => none }
def FnWldHearWrongFalsely : Prop := fnWldHearRow.holds Tryz.pinned (OpenSpec.ofChange fnWldHearWrong)

/-- 'laws.FnWldTell': WHATEVER THE INPUT: true; the input reads as it did. -/
def fnWldTellSpec : ChangeSpec := { name := "fnWldTell", fn := fun _ => fun
  | [d] => { results := [.lit (.bool true)], args := [d] }
  | _ => none }
def fnWldTellRow : OpenClaim := { program := "ytgaflnpmilikcaagreat", sum := "4690bfed8483af8167550480dfd9d9cde799c1b3ec35395957e86c031ce135f4", func := "loop.example/stileway/laws.FnWldTell", spec := "fnWldTell", inPlace := ["slices.overlaps[loop.example/stileway/impl.MktDeal]"], unfollowed := true, recurses := true, apart := false }
def FnWldTellSaid : Prop := fnWldTellRow.holds Tryz.pinned (OpenSpec.ofChange fnWldTellSpec)

/-- ITS FALSE NEIGHBOUR: 'it returns false'. Refute it at one input. -/
def fnWldTellWrong : ChangeSpec := { name := "fnWldTell", fn := fun _ => fun
  | [d] => { results := [.lit (.bool false)], args := [d] }
  | _ => none }
def FnWldTellWrongFalsely : Prop := fnWldTellRow.holds Tryz.pinned (OpenSpec.ofChange fnWldTellWrong)

/- THE SECOND FORM. 'bulk': how many values and letters a reading holds, each counted each time it is reached (what is shared counts as often as it is met; a slice's spare places count too). A statement '..UptoSaid' is the law's where the arguments, and the package variables that the reading takes, are together of bulk at most 1048576: NARROWER than '..Said'. Prove '..Said' where nothing that the law and all that it calls make is longer than what came in: it says more and counts as full. Else prove '..UptoSaid'. A law counts once. -/
mutual
def uptoBulk {H : Type} : DataW H → Nat
  | .lit (.string bytes) => bytes.length + 1
  | .lit _ => 1
  | .nil => 1
  | .ptr d => uptoBulk d + 1
  | .slice elems spare => uptoBulkAll elems + uptoBulkAll spare + 1
  | .agg parts => uptoBulkAll parts + 1
  | .iface _ d => uptoBulk d + 1
  | .map entries => uptoBulkEntries entries + 1
  | .held _ => 1
def uptoBulkAll {H : Type} : List (DataW H) → Nat
  | [] => 0
  | d :: r => uptoBulk d + uptoBulkAll r
def uptoBulkEntries {H : Type} : List (Lit × DataW H) → Nat
  | [] => 0
  | x :: r => uptoBulkEntry x + uptoBulkEntries r
def uptoBulkEntry {H : Type} : Lit × DataW H → Nat
  | (.string bytes, d) => bytes.length + uptoBulk d + 1
  | (_, d) => uptoBulk d + 1
 end
def uptoSmall : (H : Type) → List (DataW H) → Bool := fun _ ds => decide (uptoBulkAll ds ≤ 1048576)
def OpenSpec.upto (s : _root_.Go.ChangeSpec) : _root_.Go.OpenSpec := { _root_.Go.OpenSpec.ofChange s with cond := some uptoSmall }

/-- 'laws.FnRunFold', WHERE WHAT IT READS IS OF BULK AT MOST 1048576: true; the input reads as it did. -/
def fnRunFoldUptoRow : OpenClaim := { program := "ytgaflnpmilikcaagreat", sum := "4690bfed8483af8167550480dfd9d9cde799c1b3ec35395957e86c031ce135f4", func := "loop.example/stileway/laws.FnRunFold", spec := "fnRunFold", inPlace := ["slices.overlaps[loop.example/stileway/impl.MktDeal]"], unfollowed := true, recurses := true, apart := false, narrowed := true }
def FnRunFoldUptoSaid : Prop := fnRunFoldUptoRow.holds Tryz.pinned (OpenSpec.upto fnRunFoldSpec)

/-- 'laws.FnWldOk', WHERE WHAT IT READS IS OF BULK AT MOST 1048576: true; the input reads as it did. -/
def fnWldOkUptoRow : OpenClaim := { program := "ytgaflnpmilikcaagreat", sum := "4690bfed8483af8167550480dfd9d9cde799c1b3ec35395957e86c031ce135f4", func := "loop.example/stileway/laws.FnWldOk", spec := "fnWldOk", inPlace := ["slices.overlaps[loop.example/stileway/impl.MktDeal]"], unfollowed := true, recurses := true, apart := false, narrowed := true }
def FnWldOkUptoSaid : Prop := fnWldOkUptoRow.holds Tryz.pinned (OpenSpec.upto fnWldOkSpec)

/-- 'laws.FnWldNothing', WHERE WHAT IT READS IS OF BULK AT MOST 1048576: true; the input reads as it did. -/
def fnWldNothingUptoRow : OpenClaim := { program := "ytgaflnpmilikcaagreat", sum := "4690bfed8483af8167550480dfd9d9cde799c1b3ec35395957e86c031ce135f4", func := "loop.example/stileway/laws.FnWldNothing", spec := "fnWldNothing", inPlace := ["slices.overlaps[loop.example/stileway/impl.MktDeal]"], unfollowed := true, recurses := true, apart := false, narrowed := true }
def FnWldNothingUptoSaid : Prop := fnWldNothingUptoRow.holds Tryz.pinned (OpenSpec.upto fnWldNothingSpec)

/-- 'laws.FnWldAsk', WHERE WHAT IT READS IS OF BULK AT MOST 1048576: true; the input reads as it did. -/
def fnWldAskUptoRow : OpenClaim := { program := "ytgaflnpmilikcaagreat", sum := "4690bfed8483af8167550480dfd9d9cde799c1b3ec35395957e86c031ce135f4", func := "loop.example/stileway/laws.FnWldAsk", spec := "fnWldAsk", inPlace := ["slices.overlaps[loop.example/stileway/impl.MktDeal]"], unfollowed := true, recurses := true, apart := false, narrowed := true }
def FnWldAskUptoSaid : Prop := fnWldAskUptoRow.holds Tryz.pinned (OpenSpec.upto fnWldAskSpec)

/-- 'laws.FnWldLose', WHERE WHAT IT READS IS OF BULK AT MOST 1048576: true; the input reads as it did. -/
def fnWldLoseUptoRow : OpenClaim := { program := "ytgaflnpmilikcaagreat", sum := "4690bfed8483af8167550480dfd9d9cde799c1b3ec35395957e86c031ce135f4", func := "loop.example/stileway/laws.FnWldLose", spec := "fnWldLose", inPlace := ["slices.overlaps[loop.example/stileway/impl.MktDeal]"], unfollowed := true, recurses := true, apart := false, narrowed := true }
def FnWldLoseUptoSaid : Prop := fnWldLoseUptoRow.holds Tryz.pinned (OpenSpec.upto fnWldLoseSpec)

/-- 'laws.FnWldSend', WHERE WHAT IT READS IS OF BULK AT MOST 1048576: true; the input reads as it did. -/
def fnWldSendUptoRow : OpenClaim := { program := "ytgaflnpmilikcaagreat", sum := "4690bfed8483af8167550480dfd9d9cde799c1b3ec35395957e86c031ce135f4", func := "loop.example/stileway/laws.FnWldSend", spec := "fnWldSend", inPlace := ["slices.overlaps[loop.example/stileway/impl.MktDeal]"], unfollowed := true, recurses := true, apart := false, narrowed := true }
def FnWldSendUptoSaid : Prop := fnWldSendUptoRow.holds Tryz.pinned (OpenSpec.upto fnWldSendSpec)

/-- 'laws.FnWldHear', WHERE WHAT IT READS IS OF BULK AT MOST 1048576: true; the input reads as it did. -/
def fnWldHearUptoRow : OpenClaim := { program := "ytgaflnpmilikcaagreat", sum := "4690bfed8483af8167550480dfd9d9cde799c1b3ec35395957e86c031ce135f4", func := "loop.example/stileway/laws.FnWldHear", spec := "fnWldHear", inPlace := ["slices.overlaps[loop.example/stileway/impl.MktDeal]"], unfollowed := true, recurses := true, apart := false, narrowed := true }
def FnWldHearUptoSaid : Prop := fnWldHearUptoRow.holds Tryz.pinned (OpenSpec.upto fnWldHearSpec)

/-- 'laws.FnWldTell', WHERE WHAT IT READS IS OF BULK AT MOST 1048576: true; the input reads as it did. -/
def fnWldTellUptoRow : OpenClaim := { program := "ytgaflnpmilikcaagreat", sum := "4690bfed8483af8167550480dfd9d9cde799c1b3ec35395957e86c031ce135f4", func := "loop.example/stileway/laws.FnWldTell", spec := "fnWldTell", inPlace := ["slices.overlaps[loop.example/stileway/impl.MktDeal]"], unfollowed := true, recurses := true, apart := false, narrowed := true }
def FnWldTellUptoSaid : Prop := fnWldTellUptoRow.holds Tryz.pinned (OpenSpec.upto fnWldTellSpec)

end Rows
end Go.Proofs.YtgaflnpmilikcaaGreat
