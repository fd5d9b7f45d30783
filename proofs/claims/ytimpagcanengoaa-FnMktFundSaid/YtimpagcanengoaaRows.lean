/-
  No cell of these rows narrows 'for every input' (looked for: loops, veiled, ifaces, maps, wideKeys, modest, calm, conditions, laid).
  DERIVED. THE GIVEN ROWS OF THIS SEAT. 12 by the template 'for every input the law returns true; each argument reads behind the call as it read before'; 0 by the template 'total and deterministic' (their statements: YtimpagcanengoaaTotals.lean).
  GIVEN WITH THE SEED: the statements are not yours to turn. If you find one false, say at which input.
  Laid BY PROGRAM, IN A SANDBOX (cutbox-rows.mjs): the forced cells as the released guide's own fill.sh prints them over the translation 4cd7d366edf4231e… (all of the seat's roots in one cut). By AI agents, Wed Nov 11 2026. No macro, syntax, notation, axiom, sorry.
-/
import Derived.Test.YtimpagcanengoaaChecked
import GoSem.Claim
import GoSem.ClaimJoined
import GoSem.ClaimMapViews
import Derived.JoinedTies
import Derived.KernelRfl
namespace Go.Proofs.Ytimpagcanengoaa
/- THE CELL 'sum', in the pinned program and in every row, IS THE sha256 OF THE DUMP (.gsa) THAT YtimpagcanengoaaProg.lean LOADS. Nothing in Lean hashes anything: it is a label: what it is worth is what the hold of that sum in a sandbox is worth. -/
noncomputable def Try.pinned : Pinned := { name := "ytimpagcanengoaa", sum := "4cd7d366edf4231ed5be95597b8b9bbe06ace4983c95f915d582ad1ddba16499", checked := Try.checked }
namespace Rows
def none {H : Type} : Left H := { results := [], args := [] }

/-- 'laws.FnMktEnds': WHATEVER THE INPUT: true; the input reads as it did. -/
def fnMktEndsSpec : ChangeSpec := { name := "fnMktEnds", fn := fun _ => fun
  | [d] => { results := [.lit (.bool true)], args := [d] }
  | _ => none }
def fnMktEndsRow : OpenClaim := { program := "ytimpagcanengoaa", sum := "4cd7d366edf4231ed5be95597b8b9bbe06ace4983c95f915d582ad1ddba16499", func := "loop.example/stileway/laws.FnMktEnds", spec := "fnMktEnds", unfollowed := true, recurses := true, apart := false }
def FnMktEndsSaid : Prop := fnMktEndsRow.holds Try.pinned (OpenSpec.ofChange fnMktEndsSpec)

/-- ITS FALSE NEIGHBOUR: 'it returns false'. Refute it at one input. -/
def fnMktEndsWrong : ChangeSpec := { name := "fnMktEnds", fn := fun _ => fun
  | [d] => { results := [.lit (.bool false)], args := [d] }
  | _ => none }
def FnMktEndsWrongFalsely : Prop := fnMktEndsRow.holds Try.pinned (OpenSpec.ofChange fnMktEndsWrong)

/-- 'laws.FnMktTick': WHATEVER THE INPUT: true; the input reads as it did. -/
def fnMktTickSpec : ChangeSpec := { name := "fnMktTick", fn := fun _ => fun
  | [d] => { results := [.lit (.bool true)], args := [d] }
  | _ => none }
def fnMktTickRow : OpenClaim := { program := "ytimpagcanengoaa", sum := "4cd7d366edf4231ed5be95597b8b9bbe06ace4983c95f915d582ad1ddba16499", func := "loop.example/stileway/laws.FnMktTick", spec := "fnMktTick", unfollowed := true, recurses := true, apart := false }
def FnMktTickSaid : Prop := fnMktTickRow.holds Try.pinned (OpenSpec.ofChange fnMktTickSpec)

/-- ITS FALSE NEIGHBOUR: 'it returns false'. Refute it at one input. -/
def fnMktTickWrong : ChangeSpec := { name := "fnMktTick", fn := fun _ => fun
  | [d] => { results := [.lit (.bool false)], args := [d] }
  | _ => none }
def FnMktTickWrongFalsely : Prop := fnMktTickRow.holds Try.pinned (OpenSpec.ofChange fnMktTickWrong)

/-- 'laws.FnMktOk': WHATEVER THE INPUT: true; the input reads as it did. -/
def fnMktOkSpec : ChangeSpec := { name := "fnMktOk", fn := fun _ => fun
  | [d] => { results := [.lit (.bool true)], args := [d] }
  | _ => none }
def fnMktOkRow : OpenClaim := { program := "ytimpagcanengoaa", sum := "4cd7d366edf4231ed5be95597b8b9bbe06ace4983c95f915d582ad1ddba16499", func := "loop.example/stileway/laws.FnMktOk", spec := "fnMktOk", inPlace := ["slices.overlaps[loop.example/stileway/impl.MktDeal]"], unfollowed := true, recurses := true, apart := false }
def FnMktOkSaid : Prop := fnMktOkRow.holds Try.pinned (OpenSpec.ofChange fnMktOkSpec)

/-- ITS FALSE NEIGHBOUR: 'it returns false'. Refute it at one input. -/
def fnMktOkWrong : ChangeSpec := { name := "fnMktOk", fn := fun _ => fun
  | [d] => { results := [.lit (.bool false)], args := [d] }
  | _ => none }
def FnMktOkWrongFalsely : Prop := fnMktOkRow.holds Try.pinned (OpenSpec.ofChange fnMktOkWrong)

/-- 'laws.FnMktHands': WHATEVER THE INPUT: true; the input reads as it did. -/
def fnMktHandsSpec : ChangeSpec := { name := "fnMktHands", fn := fun _ => fun
  | [d] => { results := [.lit (.bool true)], args := [d] }
  | _ => none }
def fnMktHandsRow : OpenClaim := { program := "ytimpagcanengoaa", sum := "4cd7d366edf4231ed5be95597b8b9bbe06ace4983c95f915d582ad1ddba16499", func := "loop.example/stileway/laws.FnMktHands", spec := "fnMktHands", inPlace := ["slices.overlaps[loop.example/stileway/impl.MktDeal]"], unfollowed := true, recurses := true, apart := false }
def FnMktHandsSaid : Prop := fnMktHandsRow.holds Try.pinned (OpenSpec.ofChange fnMktHandsSpec)

/-- ITS FALSE NEIGHBOUR: 'it returns false'. Refute it at one input. -/
def fnMktHandsWrong : ChangeSpec := { name := "fnMktHands", fn := fun _ => fun
  | [d] => { results := [.lit (.bool false)], args := [d] }
  | _ => none }
def FnMktHandsWrongFalsely : Prop := fnMktHandsRow.holds Try.pinned (OpenSpec.ofChange fnMktHandsWrong)

/-- 'laws.FnMktRefused': WHATEVER THE INPUT: true; the input reads as it did. -/
def fnMktRefusedSpec : ChangeSpec := { name := "fnMktRefused", fn := fun _ => fun
  | [d] => { results := [.lit (.bool true)], args := [d] }
  | _ => none }
def fnMktRefusedRow : OpenClaim := { program := "ytimpagcanengoaa", sum := "4cd7d366edf4231ed5be95597b8b9bbe06ace4983c95f915d582ad1ddba16499", func := "loop.example/stileway/laws.FnMktRefused", spec := "fnMktRefused", inPlace := ["slices.overlaps[loop.example/stileway/impl.MktDeal]"], unfollowed := true, recurses := true, apart := false }
def FnMktRefusedSaid : Prop := fnMktRefusedRow.holds Try.pinned (OpenSpec.ofChange fnMktRefusedSpec)

/-- ITS FALSE NEIGHBOUR: 'it returns false'. Refute it at one input. -/
def fnMktRefusedWrong : ChangeSpec := { name := "fnMktRefused", fn := fun _ => fun
  | [d] => { results := [.lit (.bool false)], args := [d] }
  | _ => none }
def FnMktRefusedWrongFalsely : Prop := fnMktRefusedRow.holds Try.pinned (OpenSpec.ofChange fnMktRefusedWrong)

/-- 'laws.FnMktStays': WHATEVER THE INPUT: true; the input reads as it did. -/
def fnMktStaysSpec : ChangeSpec := { name := "fnMktStays", fn := fun _ => fun
  | [d] => { results := [.lit (.bool true)], args := [d] }
  | _ => none }
def fnMktStaysRow : OpenClaim := { program := "ytimpagcanengoaa", sum := "4cd7d366edf4231ed5be95597b8b9bbe06ace4983c95f915d582ad1ddba16499", func := "loop.example/stileway/laws.FnMktStays", spec := "fnMktStays", inPlace := ["slices.overlaps[loop.example/stileway/impl.MktDeal]"], unfollowed := true, recurses := true, apart := false }
def FnMktStaysSaid : Prop := fnMktStaysRow.holds Try.pinned (OpenSpec.ofChange fnMktStaysSpec)

/-- ITS FALSE NEIGHBOUR: 'it returns false'. Refute it at one input. -/
def fnMktStaysWrong : ChangeSpec := { name := "fnMktStays", fn := fun _ => fun
  | [d] => { results := [.lit (.bool false)], args := [d] }
  | _ => none }
def FnMktStaysWrongFalsely : Prop := fnMktStaysRow.holds Try.pinned (OpenSpec.ofChange fnMktStaysWrong)

/-- 'laws.FnMktTwice': WHATEVER THE INPUT: true; the input reads as it did. -/
def fnMktTwiceSpec : ChangeSpec := { name := "fnMktTwice", fn := fun _ => fun
  | [d] => { results := [.lit (.bool true)], args := [d] }
  | _ => none }
def fnMktTwiceRow : OpenClaim := { program := "ytimpagcanengoaa", sum := "4cd7d366edf4231ed5be95597b8b9bbe06ace4983c95f915d582ad1ddba16499", func := "loop.example/stileway/laws.FnMktTwice", spec := "fnMktTwice", inPlace := ["slices.overlaps[loop.example/stileway/impl.MktDeal]"], unfollowed := true, recurses := true, apart := false }
def FnMktTwiceSaid : Prop := fnMktTwiceRow.holds Try.pinned (OpenSpec.ofChange fnMktTwiceSpec)

/-- ITS FALSE NEIGHBOUR: 'it returns false'. Refute it at one input. -/
def fnMktTwiceWrong : ChangeSpec := { name := "fnMktTwice", fn := fun _ => fun
  | [d] => { results := [.lit (.bool false)], args := [d] }
  | _ => none }
def FnMktTwiceWrongFalsely : Prop := fnMktTwiceRow.holds Try.pinned (OpenSpec.ofChange fnMktTwiceWrong)

/-- 'laws.FnMktApart': WHATEVER THE INPUT: true; the input reads as it did. -/
def fnMktApartSpec : ChangeSpec := { name := "fnMktApart", fn := fun _ => fun
  | [d] => { results := [.lit (.bool true)], args := [d] }
  | _ => none }
def fnMktApartRow : OpenClaim := { program := "ytimpagcanengoaa", sum := "4cd7d366edf4231ed5be95597b8b9bbe06ace4983c95f915d582ad1ddba16499", func := "loop.example/stileway/laws.FnMktApart", spec := "fnMktApart", inPlace := ["slices.overlaps[loop.example/stileway/impl.MktDeal]"], unfollowed := true, recurses := true, apart := false }
def FnMktApartSaid : Prop := fnMktApartRow.holds Try.pinned (OpenSpec.ofChange fnMktApartSpec)

/-- ITS FALSE NEIGHBOUR: 'it returns false'. Refute it at one input. -/
def fnMktApartWrong : ChangeSpec := { name := "fnMktApart", fn := fun _ => fun
  | [d] => { results := [.lit (.bool false)], args := [d] }
  | _ => none }
def FnMktApartWrongFalsely : Prop := fnMktApartRow.holds Try.pinned (OpenSpec.ofChange fnMktApartWrong)

/-- 'laws.FnMktDrop': WHATEVER THE INPUT: true; the input reads as it did. -/
def fnMktDropSpec : ChangeSpec := { name := "fnMktDrop", fn := fun _ => fun
  | [d] => { results := [.lit (.bool true)], args := [d] }
  | _ => none }
def fnMktDropRow : OpenClaim := { program := "ytimpagcanengoaa", sum := "4cd7d366edf4231ed5be95597b8b9bbe06ace4983c95f915d582ad1ddba16499", func := "loop.example/stileway/laws.FnMktDrop", spec := "fnMktDrop", inPlace := ["slices.overlaps[loop.example/stileway/impl.MktDeal]"], unfollowed := true, recurses := true, apart := false }
def FnMktDropSaid : Prop := fnMktDropRow.holds Try.pinned (OpenSpec.ofChange fnMktDropSpec)

/-- ITS FALSE NEIGHBOUR: 'it returns false'. Refute it at one input. -/
def fnMktDropWrong : ChangeSpec := { name := "fnMktDrop", fn := fun _ => fun
  | [d] => { results := [.lit (.bool false)], args := [d] }
  | _ => none }
def FnMktDropWrongFalsely : Prop := fnMktDropRow.holds Try.pinned (OpenSpec.ofChange fnMktDropWrong)

/-- 'laws.FnMktBoth': WHATEVER THE INPUT: true; the input reads as it did. -/
def fnMktBothSpec : ChangeSpec := { name := "fnMktBoth", fn := fun _ => fun
  | [d] => { results := [.lit (.bool true)], args := [d] }
  | _ => none }
def fnMktBothRow : OpenClaim := { program := "ytimpagcanengoaa", sum := "4cd7d366edf4231ed5be95597b8b9bbe06ace4983c95f915d582ad1ddba16499", func := "loop.example/stileway/laws.FnMktBoth", spec := "fnMktBoth", inPlace := ["slices.overlaps[loop.example/stileway/impl.MktDeal]"], unfollowed := true, recurses := true, apart := false }
def FnMktBothSaid : Prop := fnMktBothRow.holds Try.pinned (OpenSpec.ofChange fnMktBothSpec)

/-- ITS FALSE NEIGHBOUR: 'it returns false'. Refute it at one input. -/
def fnMktBothWrong : ChangeSpec := { name := "fnMktBoth", fn := fun _ => fun
  | [d] => { results := [.lit (.bool false)], args := [d] }
  | _ => none }
def FnMktBothWrongFalsely : Prop := fnMktBothRow.holds Try.pinned (OpenSpec.ofChange fnMktBothWrong)

/-- 'laws.FnMktMoney': WHATEVER THE INPUT: true; the input reads as it did. -/
def fnMktMoneySpec : ChangeSpec := { name := "fnMktMoney", fn := fun _ => fun
  | [d] => { results := [.lit (.bool true)], args := [d] }
  | _ => none }
def fnMktMoneyRow : OpenClaim := { program := "ytimpagcanengoaa", sum := "4cd7d366edf4231ed5be95597b8b9bbe06ace4983c95f915d582ad1ddba16499", func := "loop.example/stileway/laws.FnMktMoney", spec := "fnMktMoney", inPlace := ["slices.overlaps[loop.example/stileway/impl.MktDeal]"], unfollowed := true, recurses := true, apart := false }
def FnMktMoneySaid : Prop := fnMktMoneyRow.holds Try.pinned (OpenSpec.ofChange fnMktMoneySpec)

/-- ITS FALSE NEIGHBOUR: 'it returns false'. Refute it at one input. -/
def fnMktMoneyWrong : ChangeSpec := { name := "fnMktMoney", fn := fun _ => fun
  | [d] => { results := [.lit (.bool false)], args := [d] }
  | _ => none }
def FnMktMoneyWrongFalsely : Prop := fnMktMoneyRow.holds Try.pinned (OpenSpec.ofChange fnMktMoneyWrong)

/-- 'laws.FnMktFund': WHATEVER THE INPUT: true; the input reads as it did. -/
def fnMktFundSpec : ChangeSpec := { name := "fnMktFund", fn := fun _ => fun
  | [d] => { results := [.lit (.bool true)], args := [d] }
  | _ => none }
def fnMktFundRow : OpenClaim := { program := "ytimpagcanengoaa", sum := "4cd7d366edf4231ed5be95597b8b9bbe06ace4983c95f915d582ad1ddba16499", func := "loop.example/stileway/laws.FnMktFund", spec := "fnMktFund", inPlace := ["slices.overlaps[loop.example/stileway/impl.MktDeal]"], unfollowed := true, recurses := true, apart := false }
def FnMktFundSaid : Prop := fnMktFundRow.holds Try.pinned (OpenSpec.ofChange fnMktFundSpec)

/-- ITS FALSE NEIGHBOUR: 'it returns false'. Refute it at one input. -/
def fnMktFundWrong : ChangeSpec := { name := "fnMktFund", fn := fun _ => fun
  | [d] => { results := [.lit (.bool false)], args := [d] }
  | _ => none }
def FnMktFundWrongFalsely : Prop := fnMktFundRow.holds Try.pinned (OpenSpec.ofChange fnMktFundWrong)

/- THE SECOND FORM. 'bulk': how many values and letters a reading holds, each counted each time it is reached (what is shared counts as often as it is met; a slice's spare places count too). A statement '..UptoSaid' is the law's where the arguments, and the package variables that the reading takes, are together of bulk at most 1048576: NARROWER than '..Said'. Prove '..Said' where nothing that the law and all that it calls make is longer than what came in: it says more and counts as full. Else prove '..UptoSaid'. A law counts once. -/
mutual
def uptoBulk {H : Type} : DataW H → Nat
  | .lit (.string bytes) => bytes.length + 1
  | .lit _ => 1
  | .nil => 1
  | .ptr d => uptoBulk d + 1
  | .slice elems spare => uptoBulkAll elems + uptoBulkAll spare + 1
  | .agg parts => uptoBulkAll parts + 1
  | .iface _ d => uptoBulk d + 1
  | .map entries => uptoBulkEntries entries + 1
  | .held _ => 1
def uptoBulkAll {H : Type} : List (DataW H) → Nat
  | [] => 0
  | d :: r => uptoBulk d + uptoBulkAll r
def uptoBulkEntries {H : Type} : List (Lit × DataW H) → Nat
  | [] => 0
  | x :: r => uptoBulkEntry x + uptoBulkEntries r
def uptoBulkEntry {H : Type} : Lit × DataW H → Nat
  | (.string bytes, d) => bytes.length + uptoBulk d + 1
  | (_, d) => uptoBulk d + 1
 end
def uptoSmall : (H : Type) → List (DataW H) → Bool := fun _ ds => decide (uptoBulkAll ds ≤ 1048576)
def OpenSpec.upto (s : _root_.Go.ChangeSpec) : _root_.Go.OpenSpec := { _root_.Go.OpenSpec.ofChange s with cond := some uptoSmall }

/-- 'laws.FnMktEnds', WHERE WHAT IT READS IS OF BULK AT MOST 1048576: true; the input reads as it did. -/
def fnMktEndsUptoRow : OpenClaim := { program := "ytimpagcanengoaa", sum := "4cd7d366edf4231ed5be95597b8b9bbe06ace4983c95f915d582ad1ddba16499", func := "loop.example/stileway/laws.FnMktEnds", spec := "fnMktEnds", unfollowed := true, recurses := true, apart := false, narrowed := true }
def FnMktEndsUptoSaid : Prop := fnMktEndsUptoRow.holds Try.pinned (OpenSpec.upto fnMktEndsSpec)

/-- 'laws.FnMktTick', WHERE WHAT IT READS IS OF BULK AT MOST 1048576: true; the input reads as it did. -/
def fnMktTickUptoRow : OpenClaim := { program := "ytimpagcanengoaa", sum := "4cd7d366edf4231ed5be95597b8b9bbe06ace4983c95f915d582ad1ddba16499", func := "loop.example/stileway/laws.FnMktTick", spec := "fnMktTick", unfollowed := true, recurses := true, apart := false, narrowed := true }
def FnMktTickUptoSaid : Prop := fnMktTickUptoRow.holds Try.pinned (OpenSpec.upto fnMktTickSpec)

/-- 'laws.FnMktOk', WHERE WHAT IT READS IS OF BULK AT MOST 1048576: true; the input reads as it did. -/
def fnMktOkUptoRow : OpenClaim := { program := "ytimpagcanengoaa", sum := "4cd7d366edf4231ed5be95597b8b9bbe06ace4983c95f915d582ad1ddba16499", func := "loop.example/stileway/laws.FnMktOk", spec := "fnMktOk", inPlace := ["slices.overlaps[loop.example/stileway/impl.MktDeal]"], unfollowed := true, recurses := true, apart := false, narrowed := true }
def FnMktOkUptoSaid : Prop := fnMktOkUptoRow.holds Try.pinned (OpenSpec.upto fnMktOkSpec)

/-- 'laws.FnMktHands', WHERE WHAT IT READS IS OF BULK AT MOST 1048576: true; the input reads as it did. -/
def fnMktHandsUptoRow : OpenClaim := { program := "ytimpagcanengoaa", sum := "4cd7d366edf4231ed5be95597b8b9bbe06ace4983c95f915d582ad1ddba16499", func := "loop.example/stileway/laws.FnMktHands", spec := "fnMktHands", inPlace := ["slices.overlaps[loop.example/stileway/impl.MktDeal]"], unfollowed := true, recurses := true, apart := false, narrowed := true }
def FnMktHandsUptoSaid : Prop := fnMktHandsUptoRow.holds Try.pinned (OpenSpec.upto fnMktHandsSpec)

/-- 'laws.FnMktRefused', WHERE WHAT IT READS IS OF BULK AT MOST 1048576: true; the input reads as it did. -/
def fnMktRefusedUptoRow : OpenClaim := { program := "ytimpagcanengoaa", sum := "4cd7d366edf4231ed5be95597b8b9bbe06ace4983c95f915d582ad1ddba16499", func := "loop.example/stileway/laws.FnMktRefused", spec := "fnMktRefused", inPlace := ["slices.overlaps[loop.example/stileway/impl.MktDeal]"], unfollowed := true, recurses := true, apart := false, narrowed := true }
def FnMktRefusedUptoSaid : Prop := fnMktRefusedUptoRow.holds Try.pinned (OpenSpec.upto fnMktRefusedSpec)

/-- 'laws.FnMktStays', WHERE WHAT IT READS IS OF BULK AT MOST 1048576: true; the input reads as it did. -/
def fnMktStaysUptoRow : OpenClaim := { program := "ytimpagcanengoaa", sum := "4cd7d366edf4231ed5be95597b8b9bbe06ace4983c95f915d582ad1ddba16499", func := "loop.example/stileway/laws.FnMktStays", spec := "fnMktStays", inPlace := ["slices.overlaps[loop.example/stileway/impl.MktDeal]"], unfollowed := true, recurses := true, apart := false, narrowed := true }
def FnMktStaysUptoSaid : Prop := fnMktStaysUptoRow.holds Try.pinned (OpenSpec.upto fnMktStaysSpec)

/-- 'laws.FnMktTwice', WHERE WHAT IT READS IS OF BULK AT MOST 1048576: true; the input reads as it did. -/
def fnMktTwiceUptoRow : OpenClaim := { program := "ytimpagcanengoaa", sum := "4cd7d366edf4231ed5be95597b8b9bbe06ace4983c95f915d582ad1ddba16499", func := "loop.example/stileway/laws.FnMktTwice", spec := "fnMktTwice", inPlace := ["slices.overlaps[loop.example/stileway/impl.MktDeal]"], unfollowed := true, recurses := true, apart := false, narrowed := true }
def FnMktTwiceUptoSaid : Prop := fnMktTwiceUptoRow.holds Try.pinned (OpenSpec.upto fnMktTwiceSpec)

/-- 'laws.FnMktApart', WHERE WHAT IT READS IS OF BULK AT MOST 1048576: true; the input reads as it did. -/
def fnMktApartUptoRow : OpenClaim := { program := "ytimpagcanengoaa", sum := "4cd7d366edf4231ed5be95597b8b9bbe06ace4983c95f915d582ad1ddba16499", func := "loop.example/stileway/laws.FnMktApart", spec := "fnMktApart", inPlace := ["slices.overlaps[loop.example/stileway/impl.MktDeal]"], unfollowed := true, recurses := true, apart := false, narrowed := true }
def FnMktApartUptoSaid : Prop := fnMktApartUptoRow.holds Try.pinned (OpenSpec.upto fnMktApartSpec)

/-- 'laws.FnMktDrop', WHERE WHAT IT READS IS OF BULK AT MOST 1048576: true; the input reads as it did. -/
def fnMktDropUptoRow : OpenClaim := { program := "ytimpagcanengoaa", sum := "4cd7d366edf4231ed5be95597b8b9bbe06ace4983c95f915d582ad1ddba16499", func := "loop.example/stileway/laws.FnMktDrop", spec := "fnMktDrop", inPlace := ["slices.overlaps[loop.example/stileway/impl.MktDeal]"], unfollowed := true, recurses := true, apart := false, narrowed := true }
def FnMktDropUptoSaid : Prop := fnMktDropUptoRow.holds Try.pinned (OpenSpec.upto fnMktDropSpec)

/-- 'laws.FnMktBoth', WHERE WHAT IT READS IS OF BULK AT MOST 1048576: true; the input reads as it did. -/
def fnMktBothUptoRow : OpenClaim := { program := "ytimpagcanengoaa", sum := "4cd7d366edf4231ed5be95597b8b9bbe06ace4983c95f915d582ad1ddba16499", func := "loop.example/stileway/laws.FnMktBoth", spec := "fnMktBoth", inPlace := ["slices.overlaps[loop.example/stileway/impl.MktDeal]"], unfollowed := true, recurses := true, apart := false, narrowed := true }
def FnMktBothUptoSaid : Prop := fnMktBothUptoRow.holds Try.pinned (OpenSpec.upto fnMktBothSpec)

/-- 'laws.FnMktMoney', WHERE WHAT IT READS IS OF BULK AT MOST 1048576: true; the input reads as it did. -/
def fnMktMoneyUptoRow : OpenClaim := { program := "ytimpagcanengoaa", sum := "4cd7d366edf4231ed5be95597b8b9bbe06ace4983c95f915d582ad1ddba16499", func := "loop.example/stileway/laws.FnMktMoney", spec := "fnMktMoney", inPlace := ["slices.overlaps[loop.example/stileway/impl.MktDeal]"], unfollowed := true, recurses := true, apart := false, narrowed := true }
def FnMktMoneyUptoSaid : Prop := fnMktMoneyUptoRow.holds Try.pinned (OpenSpec.upto fnMktMoneySpec)

/-- 'laws.FnMktFund', WHERE WHAT IT READS IS OF BULK AT MOST 1048576: true; the input reads as it did. -/
def fnMktFundUptoRow : OpenClaim := { program := "ytimpagcanengoaa", sum := "4cd7d366edf4231ed5be95597b8b9bbe06ace4983c95f915d582ad1ddba16499", func := "loop.example/stileway/laws.FnMktFund", spec := "fnMktFund", inPlace := ["slices.overlaps[loop.example/stileway/impl.MktDeal]"], unfollowed := true, recurses := true, apart := false, narrowed := true }
def FnMktFundUptoSaid : Prop := fnMktFundUptoRow.holds Try.pinned (OpenSpec.upto fnMktFundSpec)

end Rows
end Go.Proofs.Ytimpagcanengoaa
