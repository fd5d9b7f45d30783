/-
  Texts joined: EndExMktDo.
-/
import Derived.Test.YtgceeggfdomdjaaPkD11
namespace Go.Proofs.Ytgceeggfdomdjaa
set_option maxRecDepth 100000
set_option linter.unusedSimpArgs false
set_option linter.unusedVariables false
open Go.ChangeShapes Go.WideShapes Go.ChangeAt Go.RowKit Go
theorem o_req {H : Type} {enc : TypeId × Value → H} {W : World} {n : Nat} {cs : List Value} {y : DataW H × List MemPlace} (h : DataW.trod enc Try.prog W 0 (fun _ => true) true n 80 cs = some y) : ∃ q : Sw.Req, cs = q.enc := by
  obtain ⟨zs, hl, rfl⟩ := ints_of_trod Try.underlying80 Try.underlying3 cells_i (by kernel_rfl) (by kernel_rfl) h
  match zs, hl with
  | [a, b, c, d, e, f], _ => exact ⟨⟨a, b, c, d, e, f⟩, rfl⟩
theorem exMktDo_holds_lifted (os : Os) (started : os.Started) (H : Type) (enc : TypeId × Value → H) :
    ReturnsInHanded {} Try.checked os 8 .any (Rows.fnExactMktDoSpec.pre6 enc Try.prog Try.f8 Rows.fnExactMktDoRow.domain false) (Rows.fnExactMktDoSpec.post enc Try.prog Try.f8 false true false false) := by
  refine returnsInHanded_of_change (C := Try.checked) own_knob started (by kernel_rfl) Try.func8
    (ChangeSpec.witness6 (enc := enc) (C := Try.checked) false ⟨#[], #[.agg #[.slice none 0 0, .slice none 0 0, .slice none 0 0, .int .i64 0, .slice none 0 0, .slice none 0 0], .agg #[.int .i64 0, .int .i64 0, .int .i64 0, .int .i64 0, .int .i64 0, .int .i64 0]], []⟩ 8 (by kernel_rfl) (by kernel_rfl) (by kernel_rfl) (by kernel_rfl)) ?_
  intro W base args ds gs before hval0 hW hcnd _
  have hval : ∀ (j : Nat) t v, Try.f8.params[j]? = some t → args[j]? = some v → Value.okWide Try.prog W .any base t v := hval0
  have hW' := hW
  obtain ⟨p, q, hA0, hV, rfl, hfz, hnd⟩ := hW
  have hA : DataW.TrodAll enc Try.prog W 0 (fun _ => true) true Try.f8.params.toList args.toList ds p := hA0
  rw [Try.params8] at hA hval
  obtain ⟨v0, vs0, d0, ds0, p0, q0, hargs, rfl, rfl, ⟨u0, h0⟩, r0⟩ := trodAll_cons hA
  obtain ⟨v1, vs1, d1, ds1, p1, q1, rfl, rfl, rfl, ⟨u1, h1⟩, r1⟩ := trodAll_cons r0
  obtain ⟨rfl, rfl, rfl⟩ := trodAll_nil r1
  obtain rfl : args = #[v0, v1] := by cases args; simp_all
  obtain ⟨k0, rfl, n0⟩ := okWide_struct Try.underlying78 (hval 0 _ v0 rfl rfl)
  obtain ⟨aL, aLc, aLn, aP, aPc, aPn, aD, aDc, aDn, aN, aNc, aNn, aS, aSc, aSn, x, e0, hr0⟩ := o_mkt h0
  obtain rfl : k0 = #[.slice aL aLn aLc, .slice aP aPn aPc, .slice aD aDn aDc, .int .i64 x.clock, .slice aN aNn aNc, .slice aS aSn aSc] := by
    have := congrArg List.toArray e0
    simpa [Value.cells] using this
  obtain ⟨k1, rfl, n1⟩ := okWide_struct Try.underlying80 (hval 1 _ v1 rfl rfl)
  obtain ⟨q, e1⟩ := o_req h1
  obtain rfl : k1 = #[.int .i64 q.user, .int .i64 q.n, .int .i64 q.kind, .int .i64 q.ticket, .int .i64 q.who, .int .i64 q.price] := by
    have := congrArg List.toArray e1
    simpa [Value.cells, Sw.Req.enc] using this
  refine (exMktDo_c (rq := q) (hx := hr0)).mono fun E W' ⟨he, hb⟩ => ?_
  subst he
  exact ⟨_, rfl, law_post laid_out (by kernel_rfl) rfl Try.underlying4 rfl ⟨rfl, rfl, rfl⟩ hW' hb⟩

theorem exMktDo_holds : Rows.FnExactMktDoSaid :=
  OpenClaim.holds_of_wide 8 Try.f8 rfl rfl rfl rfl rfl rfl rfl ⟨rfl, rfl, rfl, rfl, rfl⟩ rfl rfl rfl rfl rfl (by kernel_rfl) Try.func8 (by kernel_rfl)
    (of_decide_eq_true (by kernel_rfl)) (by unfold Func.isWrapper; first | (rw [if_pos (by decide +kernel)]; kernel_rfl) | (rw [if_neg (by decide +kernel)]; exact ⟨rfl, rfl⟩))
    (fun os started H enc _ => exMktDo_holds_lifted os started H enc)
#print axioms exMktDo_holds
end Go.Proofs.Ytgceeggfdomdjaa

