/-
  No cell of these rows narrows 'for every input' (looked for: loops, veiled, ifaces, maps, wideKeys, modest, calm, conditions, laid).
  DERIVED. THE GIVEN ROWS OF THIS SEAT. 3 by the template 'for every input the law returns true; each argument reads behind the call as it read before'; 0 by the template 'total and deterministic' (their statements: YtdbnbembjebfhaaGreatTotals.lean).
  GIVEN WITH THE SEED: the statements are not yours to turn. If you find one false, say at which input.
  Laid BY PROGRAM, IN A SANDBOX (cutbox-rows.mjs): the forced cells as the released guide's own fill.sh prints them over the translation fe89cf2154a576d8… (all of the seat's roots in one cut). By AI agents, Wed Nov 11 2026. No macro, syntax, notation, axiom, sorry.
-/
import Derived.Test.YtdbnbembjebfhaaGreatChecked
import GoSem.Claim
import GoSem.ClaimJoined
import GoSem.ClaimMapViews
import Derived.JoinedTies
import Derived.KernelRfl
namespace Go.Proofs.YtdbnbembjebfhaaGreat
/- THE CELL 'sum', in the pinned program and in every row, IS THE sha256 OF THE DUMP (.gsa) THAT YtdbnbembjebfhaaGreatProg.lean LOADS. Nothing in Lean hashes anything: it is a label: what it is worth is what the hold of that sum in a sandbox is worth. -/
noncomputable def Tryz.pinned : Pinned := { name := "ytdbnbembjebfhaagreat", sum := "fe89cf2154a576d82aad5e1da91ae119325791f122ac83679af4afd1b4e17e72", checked := Tryz.checked }
namespace Rows
def none {H : Type} : Left H := { results := [], args := [] }

/-- 'laws.FnGatHonest': WHATEVER THE INPUT: true; the input reads as it did. -/
def fnGatHonestSpec : ChangeSpec := { name := "fnGatHonest", fn := fun _ => fun
  | [d1, d2] => { results := [.lit (.bool true)], args := [d1, d2] }
  | _ => none }
def fnGatHonestRow : OpenClaim := { program := "ytdbnbembjebfhaagreat", sum := "fe89cf2154a576d82aad5e1da91ae119325791f122ac83679af4afd1b4e17e72", func := "loop.example/stileway/laws.FnGatHonest", spec := "fnGatHonest", unfollowed := true, recurses := true, apart := false }
def FnGatHonestSaid : Prop := fnGatHonestRow.holds Tryz.pinned (OpenSpec.ofChange fnGatHonestSpec)

/-- ITS FALSE NEIGHBOUR: 'it returns false'. Refute it at one input. -/
def fnGatHonestWrong : ChangeSpec := { name := "fnGatHonest", fn := fun _ => fun
  | [d1, d2] => { results := [.lit (.bool false)], args := [d1, d2] }
  | _ => none }
def FnGatHonestWrongFalsely : Prop := fnGatHonestRow.holds Tryz.pinned (OpenSpec.ofChange fnGatHonestWrong)

/-- 'laws.FnExactWldStep': WHATEVER THE INPUT: true; the input reads as it did. -/
def fnExactWldStepSpec : ChangeSpec := { name := "fnExactWldStep", fn := fun _ => fun
  | [d1, d2] => { results := [.lit (.bool true)], args := [d1, d2] }
  | _ => none }
def fnExactWldStepRow : OpenClaim := { program := "ytdbnbembjebfhaagreat", sum := "fe89cf2154a576d82aad5e1da91ae119325791f122ac83679af4afd1b4e17e72", func := "loop.example/stileway/laws.FnExactWldStep", spec := "fnExactWldStep", inPlace := ["slices.overlaps[loop.example/stileway/impl.MktDeal]"], unfollowed := true, recurses := true, apart := false }
def FnExactWldStepSaid : Prop := fnExactWldStepRow.holds Tryz.pinned (OpenSpec.ofChange fnExactWldStepSpec)

/-- ITS FALSE NEIGHBOUR: 'it returns false'. Refute it at one input. -/
def fnExactWldStepWrong : ChangeSpec := { name := "fnExactWldStep", fn := fun _ => fun
  | [d1, d2] => { results := [.lit (.bool false)], args := [d1, d2] }
  | _ => none }
def FnExactWldStepWrongFalsely : Prop := fnExactWldStepRow.holds Tryz.pinned (OpenSpec.ofChange fnExactWldStepWrong)

/-- 'laws.FnExactWldRun': WHATEVER THE INPUT: true; the input reads as it did. -/
def fnExactWldRunSpec : ChangeSpec := { name := "fnExactWldRun", fn := fun _ => fun
  | [d1, d2] => { results := [.lit (.bool true)], args := [d1, d2] }
  | _ => none }
def fnExactWldRunRow : OpenClaim := { program := "ytdbnbembjebfhaagreat", sum := "fe89cf2154a576d82aad5e1da91ae119325791f122ac83679af4afd1b4e17e72", func := "loop.example/stileway/laws.FnExactWldRun", spec := "fnExactWldRun", inPlace := ["slices.overlaps[loop.example/stileway/impl.MktDeal]"], unfollowed := true, recurses := true, apart := false }
def FnExactWldRunSaid : Prop := fnExactWldRunRow.holds Tryz.pinned (OpenSpec.ofChange fnExactWldRunSpec)

/-- ITS FALSE NEIGHBOUR: 'it returns false'. Refute it at one input. -/
def fnExactWldRunWrong : ChangeSpec := { name := "fnExactWldRun", fn := fun _ => fun
  | [d1, d2] => { results := [.lit (.bool false)], args := [d1, d2] }
  | _ => none }
def FnExactWldRunWrongFalsely : Prop := fnExactWldRunRow.holds Tryz.pinned (OpenSpec.ofChange fnExactWldRunWrong)

/- THE SECOND FORM. 'bulk': how many values and letters a reading holds, each counted each time it is reached (what is shared counts as often as it is met; a slice's spare places count too). A statement '..UptoSaid' is the law's where the arguments, and the package variables that the reading takes, are together of bulk at most 1048576: NARROWER than '..Said'. Prove '..Said' where nothing that the law and all that it calls make is longer than what came in: it says more and counts as full. Else prove '..UptoSaid'. A law counts once. -/
mutual
def uptoBulk {H : Type} : DataW H → Nat
  | .lit (.string bytes) => bytes.length + 1
  | .lit _ => 1
  | .nil => 1
  | .ptr d => uptoBulk d + 1
  | .slice elems spare => uptoBulkAll elems + uptoBulkAll spare + 1
  | .agg parts => uptoBulkAll parts + 1
  | .iface _ d => uptoBulk d + 1
  | .map entries => uptoBulkEntries entries + 1
  | .held _ => 1
def uptoBulkAll {H : Type} : List (DataW H) → Nat
  | [] => 0
  | d :: r => uptoBulk d + uptoBulkAll r
def uptoBulkEntries {H : Type} : List (Lit × DataW H) → Nat
  | [] => 0
  | x :: r => uptoBulkEntry x + uptoBulkEntries r
def uptoBulkEntry {H : Type} : Lit × DataW H → Nat
  | (.string bytes, d) => bytes.length + uptoBulk d + 1
  | (_, d) => uptoBulk d + 1
 end
def uptoSmall : (H : Type) → List (DataW H) → Bool := fun _ ds => decide (uptoBulkAll ds ≤ 1048576)
def OpenSpec.upto (s : _root_.Go.ChangeSpec) : _root_.Go.OpenSpec := { _root_.Go.OpenSpec.ofChange s with cond := some uptoSmall }

/-- 'laws.FnGatHonest', WHERE WHAT IT READS IS OF BULK AT MOST 1048576: true; the input reads as it did. -/
def fnGatHonestUptoRow : OpenClaim := { program := "ytdbnbembjebfhaagreat", sum := "fe89cf2154a576d82aad5e1da91ae119325791f122ac83679af4afd1b4e17e72", func := "loop.example/stileway/laws.FnGatHonest", spec := "fnGatHonest", unfollowed := true, recurses := true, apart := false, narrowed := true }
def FnGatHonestUptoSaid : Prop := fnGatHonestUptoRow.holds Tryz.pinned (OpenSpec.upto fnGatHonestSpec)

/-- 'laws.FnExactWldStep', WHERE WHAT IT READS IS OF BULK AT MOST 1048576: true; the input reads as it did. -/
def fnExactWldStepUptoRow : OpenClaim := { program := "ytdbnbembjebfhaagreat", sum := "fe89cf2154a576d82aad5e1da91ae119325791f122ac83679af4afd1b4e17e72", func := "loop.example/stileway/laws.FnExactWldStep", spec := "fnExactWldStep", inPlace := ["slices.overlaps[loop.example/stileway/impl.MktDeal]"], unfollowed := true, recurses := true, apart := false, narrowed := true }
def FnExactWldStepUptoSaid : Prop := fnExactWldStepUptoRow.holds Tryz.pinned (OpenSpec.upto fnExactWldStepSpec)

/-- 'laws.FnExactWldRun', WHERE WHAT IT READS IS OF BULK AT MOST 1048576: true; the input reads as it did. -/
def fnExactWldRunUptoRow : OpenClaim := { program := "ytdbnbembjebfhaagreat", sum := "fe89cf2154a576d82aad5e1da91ae119325791f122ac83679af4afd1b4e17e72", func := "loop.example/stileway/laws.FnExactWldRun", spec := "fnExactWldRun", inPlace := ["slices.overlaps[loop.example/stileway/impl.MktDeal]"], unfollowed := true, recurses := true, apart := false, narrowed := true }
def FnExactWldRunUptoSaid : Prop := fnExactWldRunUptoRow.holds Tryz.pinned (OpenSpec.upto fnExactWldRunSpec)

end Rows
end Go.Proofs.YtdbnbembjebfhaaGreat
