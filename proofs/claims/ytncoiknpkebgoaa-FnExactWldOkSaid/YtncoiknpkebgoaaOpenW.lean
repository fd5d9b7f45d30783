/-
  Openers: worlds.
-/
import Derived.Test.YtncoiknpkebgoaaOpenM
namespace Go.Proofs.Ytncoiknpkebgoaa
set_option maxRecDepth 100000
set_option linter.unusedSimpArgs false
set_option linter.unusedVariables false
open Go.ChangeShapes Go.WideShapes Go.ChangeAt Go.RowKit Go
section
variable {H : Type} {enc : TypeId × Value → H} {W : World}
theorem o_req {n : Nat} {cs : List Value} {y : DataW H × List MemPlace} (h : DataW.trod enc Try.prog W 0 (fun _ => true) true n 173 cs = some y) : ∃ z : Sw.Req, cs = z.enc := by
  obtain ⟨zs, hl, rfl⟩ := ints_of_trod Try.underlying173 Try.underlying3 cells_i (by kernel_rfl) (by kernel_rfl) h
  match zs, hl with
  | [a, b, c, d, e, f], _ => exact ⟨⟨a, b, c, d, e, f⟩, rfl⟩
theorem o_line {n : Nat} {cs : List Value} {y : DataW H × List MemPlace} (h : DataW.trod enc Try.prog W 0 (fun _ => true) true n 175 cs = some y) : ∃ z : Sw.Req, cs = z.enc ∧ True := by
  have hl := struct_len Try.underlying175 h
  rw [show Try.prog.cellsOf 175 = 6 from by kernel_rfl] at hl
  obtain ⟨_, _, k0⟩ := field_of_trod Try.underlying175 h (i := 0) rfl rfl rfl (show _ = 6 by kernel_rfl)
  obtain ⟨z, hz⟩ := o_req k0
  replace hz : (cs.drop 0).take 6 = z.enc := hz
  rw [List.drop_zero, List.take_of_length_le (by omega)] at hz
  exact ⟨z, hz, trivial⟩
theorem o_lines {n : Nat} {cs : List Value} {y : DataW H × List MemPlace} (h : DataW.trod enc Try.prog W 0 (fun _ => true) true n 27 cs = some y) : ∃ A c n xs, cs = [.slice A n c] ∧ RQ W 0 A c n xs := by
  obtain ⟨A, c, n, xs, h1, h2, _⟩ := rs_of_trod Try.underlying27 (sz := 6) (by kernel_rfl) (by omega) (fun _ => rfl) (fun n cs y h => o_line h) h
  exact ⟨A, c, n, xs, h1, h2⟩
theorem o_head {n : Nat} {cs : List Value} {y : DataW H × List MemPlace} (h : DataW.trod enc Try.prog W 0 (fun _ => true) true n 85 cs = some y) : ∃ z : Sw.Head, cs = z.enc := by
  obtain ⟨zs, hl, rfl⟩ := ints_of_trod Try.underlying85 Try.underlying3 cells_i (by kernel_rfl) (by kernel_rfl) h
  match zs, hl with
  | [a, b, c], _ => exact ⟨⟨a, b, c⟩, rfl⟩
theorem o_gate {n : Nat} {cs : List Value} {y : DataW H × List MemPlace} (h : DataW.trod enc Try.prog W 0 (fun _ => true) true n 87 cs = some y) : ∃ z : GV, cs = z.enc ∧ ∃ xs, RI W 0 z.A z.c z.n xs := by
  have hl := struct_len Try.underlying87 h
  rw [show Try.prog.cellsOf 87 = 4 from by kernel_rfl] at hl
  match cs, hl with
  | [c0, c1, c2, c3], _ =>
    obtain ⟨_, _, k0⟩ := field_of_trod Try.underlying87 h (i := 0) rfl rfl rfl (show _ = 3 by kernel_rfl)
    obtain ⟨_, _, k1⟩ := field_of_trod Try.underlying87 h (i := 1) rfl rfl rfl (show _ = 1 by kernel_rfl)
    obtain ⟨z, hz⟩ := o_head k0
    obtain ⟨A, d, n, xs, e, r⟩ := o_ints k1
    simp [Sw.Head.enc] at hz e
    exact ⟨⟨z, A, d, n⟩, by rw [hz.1, hz.2.1, hz.2.2, e]; rfl, xs, r⟩
theorem o_msg {n : Nat} {cs : List Value} {y : DataW H × List MemPlace} (h : DataW.trod enc Try.prog W 0 (fun _ => true) true n 171 cs = some y) : ∃ z : XV, cs = z.enc ∧ ∃ xs, RI W 0 z.A z.c z.n xs := by
  have hl := struct_len Try.underlying171 h
  rw [show Try.prog.cellsOf 171 = 5 from by kernel_rfl] at hl
  match cs, hl with
  | [c0, c1, c2, c3, c4], _ =>
    obtain ⟨_, _, k0⟩ := field_of_trod Try.underlying171 h (i := 0) rfl rfl rfl (show _ = 1 by kernel_rfl)
    obtain ⟨_, _, k1⟩ := field_of_trod Try.underlying171 h (i := 1) rfl rfl rfl (show _ = 3 by kernel_rfl)
    obtain ⟨_, _, k2⟩ := field_of_trod Try.underlying171 h (i := 2) rfl rfl rfl (show _ = 1 by kernel_rfl)
    obtain ⟨q, hq⟩ := o_int k0
    obtain ⟨z, hz⟩ := o_head k1
    obtain ⟨A, d, n, xs, e, r⟩ := o_ints k2
    simp [Sw.Head.enc] at hq hz e
    exact ⟨⟨q, z, A, d, n⟩, by rw [hq, hz.1, hz.2.1, hz.2.2, e]; rfl, xs, r⟩
theorem o_gates {n : Nat} {cs : List Value} {y : DataW H × List MemPlace} (h : DataW.trod enc Try.prog W 0 (fun _ => true) true n 28 cs = some y) : ∃ A c n xs, cs = [.slice A n c] ∧ RG W 0 A c n xs := by
  obtain ⟨A, c, n, vs, h1, h2, h3⟩ := rs_of_trod Try.underlying28 (sz := 4) (by kernel_rfl) (by omega) (fun _ => rfl) (fun n cs y h => o_gate h) h
  have key : ∀ vs : List GV, (∀ y ∈ vs, ∃ xs, RI W 0 y.A y.c y.n xs) → ∃ gs : List Sw.Gate, gs.length = vs.length ∧ ∀ (k : Nat) (v : GV) (g : Sw.Gate), vs[k]? = some v → gs[k]? = some g → v.h = g.head ∧ RI W 0 v.A v.c v.n g.done := by
    intro vs
    induction vs with
    | nil => intro _; exact ⟨[], rfl, by simp⟩
    | cons v vs ih =>
      intro hv
      obtain ⟨gs, hl, hg⟩ := ih (fun y hy => hv y (List.mem_cons_of_mem _ hy))
      obtain ⟨xs, hxs⟩ := hv v (List.mem_cons_self ..)
      refine ⟨⟨v.h, xs⟩ :: gs, by simp [hl], fun k v' g h1 h2 => ?_⟩
      cases k with
      | zero => simp at h1 h2; subst h1 h2; exact ⟨rfl, hxs⟩
      | succ k => exact hg k v' g (by simpa using h1) (by simpa using h2)
  obtain ⟨gs, hl, hg⟩ := key vs h3
  exact ⟨A, c, n, gs, h1, vs, h2, by rw [h2.1, hl], hg⟩
theorem o_msgs {n : Nat} {cs : List Value} {y : DataW H × List MemPlace} (h : DataW.trod enc Try.prog W 0 (fun _ => true) true n 29 cs = some y) : ∃ A c n xs, cs = [.slice A n c] ∧ RX W 0 A c n xs := by
  obtain ⟨A, c, n, vs, h1, h2, h3⟩ := rs_of_trod Try.underlying29 (sz := 5) (by kernel_rfl) (by omega) (fun _ => rfl) (fun n cs y h => o_msg h) h
  have key : ∀ vs : List XV, (∀ y ∈ vs, ∃ xs, RI W 0 y.A y.c y.n xs) → ∃ gs : List Sw.Msg, gs.length = vs.length ∧ ∀ (k : Nat) (v : XV) (g : Sw.Msg), vs[k]? = some v → gs[k]? = some g → v.g = g.gate ∧ v.h = g.head ∧ RI W 0 v.A v.c v.n g.proof := by
    intro vs
    induction vs with
    | nil => intro _; exact ⟨[], rfl, by simp⟩
    | cons v vs ih =>
      intro hv
      obtain ⟨gs, hl, hg⟩ := ih (fun y hy => hv y (List.mem_cons_of_mem _ hy))
      obtain ⟨xs, hxs⟩ := hv v (List.mem_cons_self ..)
      refine ⟨⟨v.g, v.h, xs⟩ :: gs, by simp [hl], fun k v' g h1 h2 => ?_⟩
      cases k with
      | zero => simp at h1 h2; subst h1 h2; exact ⟨rfl, rfl, hxs⟩
      | succ k => exact hg k v' g (by simpa using h1) (by simpa using h2)
  obtain ⟨gs, hl, hg⟩ := key vs h3
  exact ⟨A, c, n, gs, h1, vs, h2, by rw [h2.1, hl], hg⟩
theorem o_world {n : Nat} {cs : List Value} {y : DataW H × List MemPlace} (h : DataW.trod enc Try.prog W 0 (fun _ => true) true n 31 cs = some y) :
    ∃ aF aFc aFn aL aLc aLn aP aPc aPn aD aDc aDn aN aNc aNn aS aSc aSn aI aIc aIn aG aGc aGn aB aBc aBn, ∃ x : Sw.World, cs = [.slice aF aFn aFc, .slice aL aLn aLc, .slice aP aPn aPc, .slice aD aDn aDc, .int .i64 x.market.clock, .slice aN aNn aNc, .slice aS aSn aSc, .slice aI aIn aIc, .slice aG aGn aGc, .slice aB aBn aBc] ∧ RW W 0 aF aFc aFn aL aLc aLn aP aPc aPn aD aDc aDn aN aNc aNn aS aSc aSn aI aIc aIn aG aGc aGn aB aBc aBn x := by
  have hl := struct_len Try.underlying31 h
  rw [show Try.prog.cellsOf 31 = 10 from by kernel_rfl] at hl
  match cs, hl with
  | [c0, c1, c2, c3, c4, c5, c6, c7, c8, c9], _ =>
    obtain ⟨_, _, k0⟩ := field_of_trod Try.underlying31 h (i := 0) rfl rfl rfl (show _ = 1 by kernel_rfl)
    obtain ⟨_, _, k1⟩ := field_of_trod Try.underlying31 h (i := 1) rfl rfl rfl (show _ = 6 by kernel_rfl)
    obtain ⟨_, _, k2⟩ := field_of_trod Try.underlying31 h (i := 2) rfl rfl rfl (show _ = 1 by kernel_rfl)
    obtain ⟨_, _, k3⟩ := field_of_trod Try.underlying31 h (i := 3) rfl rfl rfl (show _ = 1 by kernel_rfl)
    obtain ⟨_, _, k4⟩ := field_of_trod Try.underlying31 h (i := 4) rfl rfl rfl (show _ = 1 by kernel_rfl)
    obtain ⟨A0, d0, n0, x0, e0, r0⟩ := o_ints k0
    obtain ⟨aL, aLc, aLn, aP, aPc, aPn, aD, aDc, aDn, aN, aNc, aNn, aS, aSc, aSn, m, e1, r1⟩ := o_mkt k1
    obtain ⟨A2, d2, n2, x2, e2, r2⟩ := o_lines k2
    obtain ⟨A3, d3, n3, x3, e3, r3⟩ := o_gates k3
    obtain ⟨A4, d4, n4, x4, e4, r4⟩ := o_msgs k4
    simp at e0 e1 e2 e3 e4
    obtain ⟨p0, p1, p2, p3, p4, p5⟩ := e1
    exact ⟨A0, d0, n0, aL, aLc, aLn, aP, aPc, aPn, aD, aDc, aDn, aN, aNc, aNn, aS, aSc, aSn, A2, d2, n2, A3, d3, n3, A4, d4, n4, ⟨x0, m, x2, x3, x4⟩, by rw [e0, p0, p1, p2, p3, p4, p5, e2, e3, e4], ⟨r0, r1, r2, r3, r4⟩⟩
end
end Go.Proofs.Ytncoiknpkebgoaa
