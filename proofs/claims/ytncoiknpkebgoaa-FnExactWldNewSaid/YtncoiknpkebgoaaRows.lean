/-
  No cell of these rows narrows 'for every input' (looked for: loops, veiled, ifaces, maps, wideKeys, modest, calm, conditions, laid).
  DERIVED. THE GIVEN ROWS OF THIS SEAT. 10 by the template 'for every input the law returns true; each argument reads behind the call as it read before'; 0 by the template 'total and deterministic' (their statements: YtncoiknpkebgoaaTotals.lean).
  GIVEN WITH THE SEED: the statements are not yours to turn. If you find one false, say at which input.
  Laid BY PROGRAM, IN A SANDBOX (cutbox-rows.mjs): the forced cells as the released guide's own fill.sh prints them over the translation 2cd406ef7020377b… (all of the seat's roots in one cut). By AI agents, Wed Nov 11 2026. No macro, syntax, notation, axiom, sorry.
-/
import Derived.Test.YtncoiknpkebgoaaChecked
import GoSem.Claim
import GoSem.ClaimJoined
import GoSem.ClaimMapViews
import Derived.JoinedTies
import Derived.KernelRfl
namespace Go.Proofs.Ytncoiknpkebgoaa
/- THE CELL 'sum', in the pinned program and in every row, IS THE sha256 OF THE DUMP (.gsa) THAT YtncoiknpkebgoaaProg.lean LOADS. Nothing in Lean hashes anything: it is a label: what it is worth is what the hold of that sum in a sandbox is worth. -/
noncomputable def Try.pinned : Pinned := { name := "ytncoiknpkebgoaa", sum := "2cd406ef7020377b57231380842bef939b62721c58b1f362a2311b9a1158e826", checked := Try.checked }
namespace Rows
def none {H : Type} : Left H := { results := [], args := [] }

/-- 'laws.FnExactWldMoney': WHATEVER THE INPUT: true; the input reads as it did. -/
def fnExactWldMoneySpec : ChangeSpec := { name := "fnExactWldMoney", fn := fun _ => fun
  | [d] => { results := [.lit (.bool true)], args := [d] }
  | _ => none }
def fnExactWldMoneyRow : OpenClaim := { program := "ytncoiknpkebgoaa", sum := "2cd406ef7020377b57231380842bef939b62721c58b1f362a2311b9a1158e826", func := "loop.example/stileway/laws.FnExactWldMoney", spec := "fnExactWldMoney", apart := false }
def FnExactWldMoneySaid : Prop := fnExactWldMoneyRow.holds Try.pinned (OpenSpec.ofChange fnExactWldMoneySpec)

/-- ITS FALSE NEIGHBOUR: 'it returns false'. Refute it at one input. -/
def fnExactWldMoneyWrong : ChangeSpec := { name := "fnExactWldMoney", fn := fun _ => fun
  | [d] => { results := [.lit (.bool false)], args := [d] }
  | _ => none }
def FnExactWldMoneyWrongFalsely : Prop := fnExactWldMoneyRow.holds Try.pinned (OpenSpec.ofChange fnExactWldMoneyWrong)

/-- 'laws.FnGatSync': WHATEVER THE INPUT: true; the input reads as it did. -/
def fnGatSyncSpec : ChangeSpec := { name := "fnGatSync", fn := fun _ => fun
  | [d] => { results := [.lit (.bool true)], args := [d] }
  | _ => none }
def fnGatSyncRow : OpenClaim := { program := "ytncoiknpkebgoaa", sum := "2cd406ef7020377b57231380842bef939b62721c58b1f362a2311b9a1158e826", func := "loop.example/stileway/laws.FnGatSync", spec := "fnGatSync", unfollowed := true, recurses := true, apart := false }
def FnGatSyncSaid : Prop := fnGatSyncRow.holds Try.pinned (OpenSpec.ofChange fnGatSyncSpec)

/-- ITS FALSE NEIGHBOUR: 'it returns false'. Refute it at one input. -/
def fnGatSyncWrong : ChangeSpec := { name := "fnGatSync", fn := fun _ => fun
  | [d] => { results := [.lit (.bool false)], args := [d] }
  | _ => none }
def FnGatSyncWrongFalsely : Prop := fnGatSyncRow.holds Try.pinned (OpenSpec.ofChange fnGatSyncWrong)

/-- 'laws.FnWatMeet': WHATEVER THE INPUT: true; the input reads as it did. -/
def fnWatMeetSpec : ChangeSpec := { name := "fnWatMeet", fn := fun _ => fun
  | [d1, d2] => { results := [.lit (.bool true)], args := [d1, d2] }
  | _ => none }
def fnWatMeetRow : OpenClaim := { program := "ytncoiknpkebgoaa", sum := "2cd406ef7020377b57231380842bef939b62721c58b1f362a2311b9a1158e826", func := "loop.example/stileway/laws.FnWatMeet", spec := "fnWatMeet", unfollowed := true, recurses := true, apart := false }
def FnWatMeetSaid : Prop := fnWatMeetRow.holds Try.pinned (OpenSpec.ofChange fnWatMeetSpec)

/-- ITS FALSE NEIGHBOUR: 'it returns false'. Refute it at one input. -/
def fnWatMeetWrong : ChangeSpec := { name := "fnWatMeet", fn := fun _ => fun
  | [d1, d2] => { results := [.lit (.bool false)], args := [d1, d2] }
  | _ => none }
def FnWatMeetWrongFalsely : Prop := fnWatMeetRow.holds Try.pinned (OpenSpec.ofChange fnWatMeetWrong)

/-- 'laws.FnWldNew': WHATEVER THE INPUT: true; the input reads as it did. -/
def fnWldNewSpec : ChangeSpec := { name := "fnWldNew", fn := fun _ => fun
  | [d] => { results := [.lit (.bool true)], args := [d] }
  | _ => none }
def fnWldNewRow : OpenClaim := { program := "ytncoiknpkebgoaa", sum := "2cd406ef7020377b57231380842bef939b62721c58b1f362a2311b9a1158e826", func := "loop.example/stileway/laws.FnWldNew", spec := "fnWldNew", unfollowed := true, recurses := true, apart := false }
def FnWldNewSaid : Prop := fnWldNewRow.holds Try.pinned (OpenSpec.ofChange fnWldNewSpec)

/-- ITS FALSE NEIGHBOUR: 'it returns false'. Refute it at one input. -/
def fnWldNewWrong : ChangeSpec := { name := "fnWldNew", fn := fun _ => fun
  | [d] => { results := [.lit (.bool false)], args := [d] }
  | _ => none }
def FnWldNewWrongFalsely : Prop := fnWldNewRow.holds Try.pinned (OpenSpec.ofChange fnWldNewWrong)

/-- 'laws.FnExactMktTick': WHATEVER THE INPUT: true; the input reads as it did. -/
def fnExactMktTickSpec : ChangeSpec := { name := "fnExactMktTick", fn := fun _ => fun
  | [d] => { results := [.lit (.bool true)], args := [d] }
  | _ => none }
def fnExactMktTickRow : OpenClaim := { program := "ytncoiknpkebgoaa", sum := "2cd406ef7020377b57231380842bef939b62721c58b1f362a2311b9a1158e826", func := "loop.example/stileway/laws.FnExactMktTick", spec := "fnExactMktTick", unfollowed := true, recurses := true, apart := false }
def FnExactMktTickSaid : Prop := fnExactMktTickRow.holds Try.pinned (OpenSpec.ofChange fnExactMktTickSpec)

/-- ITS FALSE NEIGHBOUR: 'it returns false'. Refute it at one input. -/
def fnExactMktTickWrong : ChangeSpec := { name := "fnExactMktTick", fn := fun _ => fun
  | [d] => { results := [.lit (.bool false)], args := [d] }
  | _ => none }
def FnExactMktTickWrongFalsely : Prop := fnExactMktTickRow.holds Try.pinned (OpenSpec.ofChange fnExactMktTickWrong)

/-- 'laws.FnExactGatShow': WHATEVER THE INPUT: true; the input reads as it did. -/
def fnExactGatShowSpec : ChangeSpec := { name := "fnExactGatShow", fn := fun _ => fun
  | [d1, d2, d3, d4, d5] => { results := [.lit (.bool true)], args := [d1, d2, d3, d4, d5] }
  | _ => none }
def fnExactGatShowRow : OpenClaim := { program := "ytncoiknpkebgoaa", sum := "2cd406ef7020377b57231380842bef939b62721c58b1f362a2311b9a1158e826", func := "loop.example/stileway/laws.FnExactGatShow", spec := "fnExactGatShow", unfollowed := true, recurses := true, apart := false }
def FnExactGatShowSaid : Prop := fnExactGatShowRow.holds Try.pinned (OpenSpec.ofChange fnExactGatShowSpec)

/-- ITS FALSE NEIGHBOUR: 'it returns false'. Refute it at one input. -/
def fnExactGatShowWrong : ChangeSpec := { name := "fnExactGatShow", fn := fun _ => fun
  | [d1, d2, d3, d4, d5] => { results := [.lit (.bool false)], args := [d1, d2, d3, d4, d5] }
  | _ => none }
def FnExactGatShowWrongFalsely : Prop := fnExactGatShowRow.holds Try.pinned (OpenSpec.ofChange fnExactGatShowWrong)

/-- 'laws.FnMktEnds': WHATEVER THE INPUT: true; the input reads as it did. -/
def fnMktEndsSpec : ChangeSpec := { name := "fnMktEnds", fn := fun _ => fun
  | [d] => { results := [.lit (.bool true)], args := [d] }
  | _ => none }
def fnMktEndsRow : OpenClaim := { program := "ytncoiknpkebgoaa", sum := "2cd406ef7020377b57231380842bef939b62721c58b1f362a2311b9a1158e826", func := "loop.example/stileway/laws.FnMktEnds", spec := "fnMktEnds", unfollowed := true, recurses := true, apart := false }
def FnMktEndsSaid : Prop := fnMktEndsRow.holds Try.pinned (OpenSpec.ofChange fnMktEndsSpec)

/-- ITS FALSE NEIGHBOUR: 'it returns false'. Refute it at one input. -/
def fnMktEndsWrong : ChangeSpec := { name := "fnMktEnds", fn := fun _ => fun
  | [d] => { results := [.lit (.bool false)], args := [d] }
  | _ => none }
def FnMktEndsWrongFalsely : Prop := fnMktEndsRow.holds Try.pinned (OpenSpec.ofChange fnMktEndsWrong)

/-- 'laws.FnMktTick': WHATEVER THE INPUT: true; the input reads as it did. -/
def fnMktTickSpec : ChangeSpec := { name := "fnMktTick", fn := fun _ => fun
  | [d] => { results := [.lit (.bool true)], args := [d] }
  | _ => none }
def fnMktTickRow : OpenClaim := { program := "ytncoiknpkebgoaa", sum := "2cd406ef7020377b57231380842bef939b62721c58b1f362a2311b9a1158e826", func := "loop.example/stileway/laws.FnMktTick", spec := "fnMktTick", unfollowed := true, recurses := true, apart := false }
def FnMktTickSaid : Prop := fnMktTickRow.holds Try.pinned (OpenSpec.ofChange fnMktTickSpec)

/-- ITS FALSE NEIGHBOUR: 'it returns false'. Refute it at one input. -/
def fnMktTickWrong : ChangeSpec := { name := "fnMktTick", fn := fun _ => fun
  | [d] => { results := [.lit (.bool false)], args := [d] }
  | _ => none }
def FnMktTickWrongFalsely : Prop := fnMktTickRow.holds Try.pinned (OpenSpec.ofChange fnMktTickWrong)

/-- 'laws.FnExactWldOk': WHATEVER THE INPUT: true; the input reads as it did. -/
def fnExactWldOkSpec : ChangeSpec := { name := "fnExactWldOk", fn := fun _ => fun
  | [d] => { results := [.lit (.bool true)], args := [d] }
  | _ => none }
def fnExactWldOkRow : OpenClaim := { program := "ytncoiknpkebgoaa", sum := "2cd406ef7020377b57231380842bef939b62721c58b1f362a2311b9a1158e826", func := "loop.example/stileway/laws.FnExactWldOk", spec := "fnExactWldOk", unfollowed := true, recurses := true, apart := false }
def FnExactWldOkSaid : Prop := fnExactWldOkRow.holds Try.pinned (OpenSpec.ofChange fnExactWldOkSpec)

/-- ITS FALSE NEIGHBOUR: 'it returns false'. Refute it at one input. -/
def fnExactWldOkWrong : ChangeSpec := { name := "fnExactWldOk", fn := fun _ => fun
  | [d] => { results := [.lit (.bool false)], args := [d] }
  | _ => none }
def FnExactWldOkWrongFalsely : Prop := fnExactWldOkRow.holds Try.pinned (OpenSpec.ofChange fnExactWldOkWrong)

/-- 'laws.FnExactWldNew': WHATEVER THE INPUT: true; the input reads as it did. -/
def fnExactWldNewSpec : ChangeSpec := { name := "fnExactWldNew", fn := fun _ => fun
  | [d] => { results := [.lit (.bool true)], args := [d] }
  | _ => none }
def fnExactWldNewRow : OpenClaim := { program := "ytncoiknpkebgoaa", sum := "2cd406ef7020377b57231380842bef939b62721c58b1f362a2311b9a1158e826", func := "loop.example/stileway/laws.FnExactWldNew", spec := "fnExactWldNew", unfollowed := true, recurses := true, apart := false }
def FnExactWldNewSaid : Prop := fnExactWldNewRow.holds Try.pinned (OpenSpec.ofChange fnExactWldNewSpec)

/-- ITS FALSE NEIGHBOUR: 'it returns false'. Refute it at one input. -/
def fnExactWldNewWrong : ChangeSpec := { name := "fnExactWldNew", fn := fun _ => fun
  | [d] => { results := [.lit (.bool false)], args := [d] }
  | _ => none }
def FnExactWldNewWrongFalsely : Prop := fnExactWldNewRow.holds Try.pinned (OpenSpec.ofChange fnExactWldNewWrong)

/- THE SECOND FORM. 'bulk': how many values and letters a reading holds, each counted each time it is reached (what is shared counts as often as it is met; a slice's spare places count too). A statement '..UptoSaid' is the law's where the arguments, and the package variables that the reading takes, are together of bulk at most 1048576: NARROWER than '..Said'. Prove '..Said' where nothing that the law and all that it calls make is longer than what came in: it says more and counts as full. Else prove '..UptoSaid'. A law counts once. -/
mutual
def uptoBulk {H : Type} : DataW H → Nat
  | .lit (.string bytes) => bytes.length + 1
  | .lit _ => 1
  | .nil => 1
  | .ptr d => uptoBulk d + 1
  | .slice elems spare => uptoBulkAll elems + uptoBulkAll spare + 1
  | .agg parts => uptoBulkAll parts + 1
  | .iface _ d => uptoBulk d + 1
  | .map entries => uptoBulkEntries entries + 1
  | .held _ => 1
def uptoBulkAll {H : Type} : List (DataW H) → Nat
  | [] => 0
  | d :: r => uptoBulk d + uptoBulkAll r
def uptoBulkEntries {H : Type} : List (Lit × DataW H) → Nat
  | [] => 0
  | x :: r => uptoBulkEntry x + uptoBulkEntries r
def uptoBulkEntry {H : Type} : Lit × DataW H → Nat
  | (.string bytes, d) => bytes.length + uptoBulk d + 1
  | (_, d) => uptoBulk d + 1
 end
def uptoSmall : (H : Type) → List (DataW H) → Bool := fun _ ds => decide (uptoBulkAll ds ≤ 1048576)
def OpenSpec.upto (s : _root_.Go.ChangeSpec) : _root_.Go.OpenSpec := { _root_.Go.OpenSpec.ofChange s with cond := some uptoSmall }

/-- 'laws.FnExactWldMoney', WHERE WHAT IT READS IS OF BULK AT MOST 1048576: true; the input reads as it did. -/
def fnExactWldMoneyUptoRow : OpenClaim := { program := "ytncoiknpkebgoaa", sum := "2cd406ef7020377b57231380842bef939b62721c58b1f362a2311b9a1158e826", func := "loop.example/stileway/laws.FnExactWldMoney", spec := "fnExactWldMoney", apart := false, narrowed := true }
def FnExactWldMoneyUptoSaid : Prop := fnExactWldMoneyUptoRow.holds Try.pinned (OpenSpec.upto fnExactWldMoneySpec)

/-- 'laws.FnGatSync', WHERE WHAT IT READS IS OF BULK AT MOST 1048576: true; the input reads as it did. -/
def fnGatSyncUptoRow : OpenClaim := { program := "ytncoiknpkebgoaa", sum := "2cd406ef7020377b57231380842bef939b62721c58b1f362a2311b9a1158e826", func := "loop.example/stileway/laws.FnGatSync", spec := "fnGatSync", unfollowed := true, recurses := true, apart := false, narrowed := true }
def FnGatSyncUptoSaid : Prop := fnGatSyncUptoRow.holds Try.pinned (OpenSpec.upto fnGatSyncSpec)

/-- 'laws.FnWatMeet', WHERE WHAT IT READS IS OF BULK AT MOST 1048576: true; the input reads as it did. -/
def fnWatMeetUptoRow : OpenClaim := { program := "ytncoiknpkebgoaa", sum := "2cd406ef7020377b57231380842bef939b62721c58b1f362a2311b9a1158e826", func := "loop.example/stileway/laws.FnWatMeet", spec := "fnWatMeet", unfollowed := true, recurses := true, apart := false, narrowed := true }
def FnWatMeetUptoSaid : Prop := fnWatMeetUptoRow.holds Try.pinned (OpenSpec.upto fnWatMeetSpec)

/-- 'laws.FnWldNew', WHERE WHAT IT READS IS OF BULK AT MOST 1048576: true; the input reads as it did. -/
def fnWldNewUptoRow : OpenClaim := { program := "ytncoiknpkebgoaa", sum := "2cd406ef7020377b57231380842bef939b62721c58b1f362a2311b9a1158e826", func := "loop.example/stileway/laws.FnWldNew", spec := "fnWldNew", unfollowed := true, recurses := true, apart := false, narrowed := true }
def FnWldNewUptoSaid : Prop := fnWldNewUptoRow.holds Try.pinned (OpenSpec.upto fnWldNewSpec)

/-- 'laws.FnExactMktTick', WHERE WHAT IT READS IS OF BULK AT MOST 1048576: true; the input reads as it did. -/
def fnExactMktTickUptoRow : OpenClaim := { program := "ytncoiknpkebgoaa", sum := "2cd406ef7020377b57231380842bef939b62721c58b1f362a2311b9a1158e826", func := "loop.example/stileway/laws.FnExactMktTick", spec := "fnExactMktTick", unfollowed := true, recurses := true, apart := false, narrowed := true }
def FnExactMktTickUptoSaid : Prop := fnExactMktTickUptoRow.holds Try.pinned (OpenSpec.upto fnExactMktTickSpec)

/-- 'laws.FnExactGatShow', WHERE WHAT IT READS IS OF BULK AT MOST 1048576: true; the input reads as it did. -/
def fnExactGatShowUptoRow : OpenClaim := { program := "ytncoiknpkebgoaa", sum := "2cd406ef7020377b57231380842bef939b62721c58b1f362a2311b9a1158e826", func := "loop.example/stileway/laws.FnExactGatShow", spec := "fnExactGatShow", unfollowed := true, recurses := true, apart := false, narrowed := true }
def FnExactGatShowUptoSaid : Prop := fnExactGatShowUptoRow.holds Try.pinned (OpenSpec.upto fnExactGatShowSpec)

/-- 'laws.FnMktEnds', WHERE WHAT IT READS IS OF BULK AT MOST 1048576: true; the input reads as it did. -/
def fnMktEndsUptoRow : OpenClaim := { program := "ytncoiknpkebgoaa", sum := "2cd406ef7020377b57231380842bef939b62721c58b1f362a2311b9a1158e826", func := "loop.example/stileway/laws.FnMktEnds", spec := "fnMktEnds", unfollowed := true, recurses := true, apart := false, narrowed := true }
def FnMktEndsUptoSaid : Prop := fnMktEndsUptoRow.holds Try.pinned (OpenSpec.upto fnMktEndsSpec)

/-- 'laws.FnMktTick', WHERE WHAT IT READS IS OF BULK AT MOST 1048576: true; the input reads as it did. -/
def fnMktTickUptoRow : OpenClaim := { program := "ytncoiknpkebgoaa", sum := "2cd406ef7020377b57231380842bef939b62721c58b1f362a2311b9a1158e826", func := "loop.example/stileway/laws.FnMktTick", spec := "fnMktTick", unfollowed := true, recurses := true, apart := false, narrowed := true }
def FnMktTickUptoSaid : Prop := fnMktTickUptoRow.holds Try.pinned (OpenSpec.upto fnMktTickSpec)

/-- 'laws.FnExactWldOk', WHERE WHAT IT READS IS OF BULK AT MOST 1048576: true; the input reads as it did. -/
def fnExactWldOkUptoRow : OpenClaim := { program := "ytncoiknpkebgoaa", sum := "2cd406ef7020377b57231380842bef939b62721c58b1f362a2311b9a1158e826", func := "loop.example/stileway/laws.FnExactWldOk", spec := "fnExactWldOk", unfollowed := true, recurses := true, apart := false, narrowed := true }
def FnExactWldOkUptoSaid : Prop := fnExactWldOkUptoRow.holds Try.pinned (OpenSpec.upto fnExactWldOkSpec)

/-- 'laws.FnExactWldNew', WHERE WHAT IT READS IS OF BULK AT MOST 1048576: true; the input reads as it did. -/
def fnExactWldNewUptoRow : OpenClaim := { program := "ytncoiknpkebgoaa", sum := "2cd406ef7020377b57231380842bef939b62721c58b1f362a2311b9a1158e826", func := "loop.example/stileway/laws.FnExactWldNew", spec := "fnExactWldNew", unfollowed := true, recurses := true, apart := false, narrowed := true }
def FnExactWldNewUptoSaid : Prop := fnExactWldNewUptoRow.holds Try.pinned (OpenSpec.upto fnExactWldNewSpec)

end Rows
end Go.Proofs.Ytncoiknpkebgoaa
