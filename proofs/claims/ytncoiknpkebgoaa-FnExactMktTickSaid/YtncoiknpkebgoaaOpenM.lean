/-
  Openers: markets.
-/
import Derived.Test.YtncoiknpkebgoaaOpen
import Derived.Test.YtncoiknpkebgoaaRows
namespace Go.Proofs.Ytncoiknpkebgoaa
set_option maxRecDepth 100000
set_option linter.unusedSimpArgs false
set_option linter.unusedVariables false
open Go.ChangeShapes Go.WideShapes Go.ChangeAt Go.RowKit Go

theorem cells_i : Try.prog.cellsOf 3 = 1 := by kernel_rfl
section
variable {H : Type} {enc : TypeId × Value → H} {W : World}
theorem o_int {n : Nat} {cs : List Value} {y : DataW H × List MemPlace} (h : DataW.trod enc Try.prog W 0 (fun _ => true) true n 3 cs = some y) : ∃ a : Int, cs = [.int .i64 a] := by
  obtain ⟨a, ha, _⟩ := DataW.trod_int Try.underlying3 h
  exact ⟨a, ha⟩
theorem o_ent {n : Nat} {cs : List Value} {y : DataW H × List MemPlace} (h : DataW.trod enc Try.prog W 0 (fun _ => true) true n 198 cs = some y) : ∃ z : Sw.Ent, cs = z.enc ∧ True := by
  obtain ⟨zs, hl, rfl⟩ := ints_of_trod Try.underlying198 Try.underlying3 cells_i (by kernel_rfl) (by kernel_rfl) h
  match zs, hl with
  | [a, b, c, d], _ => exact ⟨⟨a, b, c, d⟩, rfl, trivial⟩
theorem o_deal {n : Nat} {cs : List Value} {y : DataW H × List MemPlace} (h : DataW.trod enc Try.prog W 0 (fun _ => true) true n 200 cs = some y) : ∃ z : Sw.Deal, cs = z.enc ∧ True := by
  obtain ⟨zs, hl, rfl⟩ := ints_of_trod Try.underlying200 Try.underlying3 cells_i (by kernel_rfl) (by kernel_rfl) h
  match zs, hl with
  | [a, b, c, d, e], _ => exact ⟨⟨a, b, c, d, e⟩, rfl, trivial⟩
theorem o_ents {n : Nat} {cs : List Value} {y : DataW H × List MemPlace} (h : DataW.trod enc Try.prog W 0 (fun _ => true) true n 23 cs = some y) : ∃ A c n xs, cs = [.slice A n c] ∧ RE W 0 A c n xs := by
  obtain ⟨A, c, n, xs, h1, h2, _⟩ := rs_of_trod Try.underlying23 (sz := 4) (by kernel_rfl) (by omega) (fun _ => rfl) (fun n cs y h => o_ent h) h
  exact ⟨A, c, n, xs, h1, h2⟩
theorem o_deals {n : Nat} {cs : List Value} {y : DataW H × List MemPlace} (h : DataW.trod enc Try.prog W 0 (fun _ => true) true n 24 cs = some y) : ∃ A c n xs, cs = [.slice A n c] ∧ RDl W 0 A c n xs := by
  obtain ⟨A, c, n, xs, h1, h2, _⟩ := rs_of_trod Try.underlying24 (sz := 5) (by kernel_rfl) (by omega) (fun _ => rfl) (fun n cs y h => o_deal h) h
  exact ⟨A, c, n, xs, h1, h2⟩
theorem o_ints {n : Nat} {cs : List Value} {y : DataW H × List MemPlace} (h : DataW.trod enc Try.prog W 0 (fun _ => true) true n 22 cs = some y) : ∃ A c n xs, cs = [.slice A n c] ∧ RI W 0 A c n xs :=
  ri_of_trod Try.underlying22 Try.underlying3 cells_i h
theorem o_mkt {n : Nat} {cs : List Value} {y : DataW H × List MemPlace} (h : DataW.trod enc Try.prog W 0 (fun _ => true) true n 26 cs = some y) :
    ∃ aL aLc aLn aP aPc aPn aD aDc aDn aN aNc aNn aS aSc aSn, ∃ m : Sw.Mkt, cs = [.slice aL aLn aLc, .slice aP aPn aPc, .slice aD aDn aDc, .int .i64 m.clock, .slice aN aNn aNc, .slice aS aSn aSc] ∧ RM W 0 aL aLc aLn aP aPc aPn aD aDc aDn aN aNc aNn aS aSc aSn m := by
  have hl := struct_len Try.underlying26 h
  rw [show Try.prog.cellsOf 26 = 6 from by kernel_rfl] at hl
  match cs, hl with
  | [c0, c1, c2, c3, c4, c5], _ =>
    obtain ⟨_, _, k0⟩ := field_of_trod Try.underlying26 h (i := 0) rfl rfl rfl (show _ = 1 by kernel_rfl)
    obtain ⟨_, _, k1⟩ := field_of_trod Try.underlying26 h (i := 1) rfl rfl rfl (show _ = 1 by kernel_rfl)
    obtain ⟨_, _, k2⟩ := field_of_trod Try.underlying26 h (i := 2) rfl rfl rfl (show _ = 1 by kernel_rfl)
    obtain ⟨_, _, k3⟩ := field_of_trod Try.underlying26 h (i := 3) rfl rfl rfl (show _ = 1 by kernel_rfl)
    obtain ⟨_, _, k4⟩ := field_of_trod Try.underlying26 h (i := 4) rfl rfl rfl (show _ = 1 by kernel_rfl)
    obtain ⟨_, _, k5⟩ := field_of_trod Try.underlying26 h (i := 5) rfl rfl rfl (show _ = 1 by kernel_rfl)
    obtain ⟨A0, d0, n0, x0, e0, r0⟩ := o_ents k0
    obtain ⟨A1, d1, n1, x1, e1, r1⟩ := o_ints k1
    obtain ⟨A2, d2, n2, x2, e2, r2⟩ := o_deals k2
    obtain ⟨z, e3⟩ := o_int k3
    obtain ⟨A4, d4, n4, x4, e4, r4⟩ := o_ints k4
    obtain ⟨A5, d5, n5, x5, e5, r5⟩ := o_ints k5
    simp at e0 e1 e2 e3 e4 e5
    exact ⟨A0, d0, n0, A1, d1, n1, A2, d2, n2, A4, d4, n4, A5, d5, n5, ⟨x0, x1, x2, z, x4, x5⟩, by rw [e0, e1, e2, e3, e4, e5], ⟨r0, r1, r2, r4, r5⟩⟩
end
end Go.Proofs.Ytncoiknpkebgoaa
