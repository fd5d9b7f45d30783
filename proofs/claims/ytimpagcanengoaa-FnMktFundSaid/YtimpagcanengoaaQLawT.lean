/-
  Walks: what is offered of a ticket: one deal, or none.
-/
import Derived.Test.YtimpagcanengoaaPk17
namespace Go.Proofs.Ytimpagcanengoaa
set_option maxRecDepth 100000
set_option linter.unusedSimpArgs false
set_option linter.unusedVariables false
open Go.RowKit Go
set_option maxHeartbeats 2000000

theorem iDealS_c (aL : Option Addr) (aLc aLn : Nat) (aP : Option Addr) (aPc aPn : Nat) (aD : Option Addr) (aDc aDn : Nat) (aN : Option Addr) (aNc aNn : Nat) (aS : Option Addr) (aSc aSn : Nat) (m : Sw.Mkt) (t : Int) (d : Sw.Deal) (w : World) (hD : RDl w 0 aD aDc aDn m.deals) (ho : Sw.dealOf m.deals t = some d) : Calls Try.prog 36 #[.agg #[.slice aL aLn aLc, .slice aP aPn aPc, .slice aD aDn aDc, .int .i64 m.clock, .slice aN aNn aNc, .slice aS aSn aSc], .int .i64 t] w fun E w' => E = .returned (.tuple #[.agg #[.int .i64 d.ticket, .int .i64 d.seller, .int .i64 d.price, .int .i64 d.buyer, .int .i64 d.due], .bool true]) ∧ Ex w w' :=
  iDealOf_c _ _ _ _ _ _ _ _ _ _ _ _ _ _ _ m t (some d) w hD ho
theorem iDealN_c (aL : Option Addr) (aLc aLn : Nat) (aP : Option Addr) (aPc aPn : Nat) (aD : Option Addr) (aDc aDn : Nat) (aN : Option Addr) (aNc aNn : Nat) (aS : Option Addr) (aSc aSn : Nat) (m : Sw.Mkt) (t : Int) (w : World) (hD : RDl w 0 aD aDc aDn m.deals) (ho : Sw.dealOf m.deals t = none) : Calls Try.prog 36 #[.agg #[.slice aL aLn aLc, .slice aP aPn aPc, .slice aD aDn aDc, .int .i64 m.clock, .slice aN aNn aNc, .slice aS aSn aSc], .int .i64 t] w fun E w' => E = .returned (.tuple #[.agg #[.int .i64 0, .int .i64 0, .int .i64 0, .int .i64 0, .int .i64 0], .bool false]) ∧ Ex w w' :=
  iDealOf_c _ _ _ _ _ _ _ _ _ _ _ _ _ _ _ m t none w hD ho
theorem monHas_bd (p : List Int) (u : Int) : 0 ≤ Sw.monHas p u ∧ Sw.monHas p u ≤ 100000 := by
  unfold Sw.monHas
  split
  · rename_i h
    rw [Bool.and_eq_true] at h
    exact Sw.purse_bd h.1 u
  · omega
theorem mktHeld_bd {m : Sw.Mkt} {rows : List Sw.Row} (h : Sw.MOk m rows) : 0 ≤ Sw.mktHeld m ∧ Sw.mktHeld m ≤ 1000 := by
  have h1 := Sw.heldSum_bd h.deals.1
  have h2 := h.dlen
  rw [Sw.mktHeld, Sw.heldOf_eq h.deals h.dlen]
  omega
theorem rowAt_of {rows : List Sw.Row} {k : Nat} {y : Sw.Row} (h : rows[k]? = some y) : Sw.rowAt rows (k : Int) = y := by
  unfold Sw.rowAt
  rw [Int.toNat_natCast]
  exact Sw.getD_of h
end Go.Proofs.Ytimpagcanengoaa

