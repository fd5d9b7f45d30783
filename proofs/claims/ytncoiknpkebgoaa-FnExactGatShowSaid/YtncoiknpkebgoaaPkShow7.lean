/-
  Texts joined: EndExGatShow.
-/
import Derived.Test.YtncoiknpkebgoaaPkShow6
import Derived.Test.YtncoiknpkebgoaaRows
namespace Go.Proofs.Ytncoiknpkebgoaa
set_option maxRecDepth 100000
set_option linter.unusedSimpArgs false
set_option linter.unusedVariables false
open Go.ChangeShapes Go.WideShapes Go.ChangeAt Go.RowKit Go

theorem cells_I : Try.prog.cellsOf 3 = 1 := by kernel_rfl
theorem cells_H : Try.prog.cellsOf 85 = 3 := by kernel_rfl
theorem cells_G : Try.prog.cellsOf 87 = 4 := by kernel_rfl
theorem cells_SI : Try.prog.cellsOf 22 = 1 := by kernel_rfl
theorem o_row {H : Type} {enc : TypeId × Value → H} {W : World} {n : Nat} {cs : List Value} {y : DataW H × List MemPlace} (h : DataW.trod enc Try.prog W 0 (fun _ => true) true n 89 cs = some y) : ∃ (a b : Int) (u : Bool), cs = [.int .i64 a, .int .i64 b, .bool u] := by
  have hl := struct_len Try.underlying89 h
  rw [show Try.prog.cellsOf 89 = 3 from by kernel_rfl] at hl
  match cs, hl with
  | [c0, c1, c2], _ =>
    obtain ⟨_, _, k0⟩ := field_of_trod Try.underlying89 h (i := 0) rfl rfl rfl (show _ = 1 by kernel_rfl)
    obtain ⟨_, _, k1⟩ := field_of_trod Try.underlying89 h (i := 1) rfl rfl rfl (show _ = 1 by kernel_rfl)
    obtain ⟨_, _, k2⟩ := field_of_trod Try.underlying89 h (i := 2) rfl rfl rfl (show _ = 1 by kernel_rfl)
    obtain ⟨a, ha, _⟩ := DataW.trod_int Try.underlying3 k0
    obtain ⟨b, hb, _⟩ := DataW.trod_int Try.underlying3 k1
    obtain ⟨u, hu, _⟩ := DataW.trod_bool Try.underlying4 k2
    simp at ha hb hu
    exact ⟨a, b, u, by rw [ha, hb, hu]⟩

theorem exGatShow_lifted (os : Os) (started : os.Started) (H : Type) (enc : TypeId × Value → H) :
    ReturnsInHanded {} Try.checked os 8 .any (Rows.fnExactGatShowSpec.pre6 enc Try.prog Try.f8 Rows.fnExactGatShowRow.domain false) (Rows.fnExactGatShowSpec.post enc Try.prog Try.f8 false true false false) := by
  refine returnsInHanded_of_change (C := Try.checked) own_knob started (by kernel_rfl) Try.func8
    (ChangeSpec.witness6 (enc := enc) (C := Try.checked) false ⟨#[], #[.agg #[.int .i64 0, .int .i64 0, .int .i64 0, .slice none 0 0], .int .i64 0, .int .i64 0, .agg #[.int .i64 0, .int .i64 0, .bool false], .slice none 0 0], []⟩ 8 (by kernel_rfl) (by kernel_rfl) (by kernel_rfl) (by kernel_rfl)) ?_
  intro W base args ds gs before hval0 hW hcnd _
  have hval : ∀ (j : Nat) t v, Try.f8.params[j]? = some t → args[j]? = some v → Value.okWide Try.prog W .any base t v := hval0
  have hW' := hW
  obtain ⟨p, q, hA0, hV, rfl, hfz, hnd⟩ := hW
  have hA : DataW.TrodAll enc Try.prog W 0 (fun _ => true) true Try.f8.params.toList args.toList ds p := hA0
  rw [Try.params8] at hA hval
  obtain ⟨v0, vs0, d0, ds0, p0, q0, hargs, rfl, rfl, ⟨u0, h0⟩, r0⟩ := trodAll_cons hA
  obtain ⟨v1, vs1, d1, ds1, p1, q1, rfl, rfl, rfl, ⟨u1, h1⟩, r1⟩ := trodAll_cons r0
  obtain ⟨v2, vs2, d2, ds2, p2, q2, rfl, rfl, rfl, ⟨u2, h2⟩, r2⟩ := trodAll_cons r1
  obtain ⟨v3, vs3, d3, ds3, p3, q3, rfl, rfl, rfl, ⟨u3, h3⟩, r3⟩ := trodAll_cons r2
  obtain ⟨v4, vs4, d4, ds4, p4, q4, rfl, rfl, rfl, ⟨u4, h4⟩, r4⟩ := trodAll_cons r3
  obtain ⟨rfl, rfl, rfl⟩ := trodAll_nil r4
  obtain rfl : args = #[v0, v1, v2, v3, v4] := by cases args; simp_all
  obtain ⟨k0, rfl, n0⟩ := okWide_struct Try.underlying87 (hval 0 _ v0 rfl rfl)
  obtain ⟨k, rfl⟩ := okWide_int Try.underlying3 (hval 1 _ v1 rfl rfl)
  obtain ⟨who, rfl⟩ := okWide_int Try.underlying3 (hval 2 _ v2 rfl rfl)
  obtain ⟨k1, rfl, n1⟩ := okWide_struct Try.underlying89 (hval 3 _ v3 rfl rfl)
  obtain ⟨a, b, c, A, d, n, xs, e0, hxs⟩ := gate_of_trod Try.underlying87 Try.underlying85 Try.underlying22 Try.underlying3 cells_I cells_H cells_SI cells_G ⟨rfl, rfl⟩ ⟨rfl, rfl⟩ ⟨rfl, rfl⟩ ⟨rfl, rfl⟩ ⟨rfl, rfl⟩ h0
  obtain ⟨a', b', u', e1⟩ := o_row h3
  obtain ⟨B, e, m, ps, e2, hps⟩ := ri_of_trod Try.underlying22 Try.underlying3 cells_I h4
  obtain rfl : k0 = #[.int .i64 a, .int .i64 b, .int .i64 c, .slice A n d] := by
    have := congrArg List.toArray e0
    simpa [Value.cells] using this
  obtain rfl : k1 = #[.int .i64 a', .int .i64 b', .bool u'] := by
    have := congrArg List.toArray e1
    simpa [Value.cells] using this
  obtain rfl := slice_form Try.underlying22 (hval 4 _ v4 rfl rfl) e2
  refine (exGatShow_c ⟨a, b, c⟩ A d n xs k who ⟨a', b', u'⟩ B e m ps W hxs hps).mono fun E W' ⟨he, hb⟩ => ?_
  subst he
  exact ⟨_, rfl, law_post laid_out (by kernel_rfl) rfl Try.underlying4 rfl ⟨rfl, rfl, rfl⟩ hW' hb⟩

theorem exGatShow_holds : Rows.FnExactGatShowSaid :=
  OpenClaim.holds_of_wide 8 Try.f8 rfl rfl rfl rfl rfl rfl rfl ⟨rfl, rfl, rfl, rfl, rfl⟩ rfl rfl rfl rfl rfl (by kernel_rfl) Try.func8 (by kernel_rfl)
    (of_decide_eq_true (by kernel_rfl)) (by unfold Func.isWrapper; first | (rw [if_pos (by decide +kernel)]; kernel_rfl) | (rw [if_neg (by decide +kernel)]; exact ⟨rfl, rfl⟩))
    (fun os started H enc _ => exGatShow_lifted os started H enc)
#print axioms exGatShow_holds
end Go.Proofs.Ytncoiknpkebgoaa

