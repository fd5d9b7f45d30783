/-
  For every input the law ExactWldFold returns true: the program's WldFold returns what the reference's returns, leaves its arguments as they are, and hands out memory of its own.
  No condition.
-/
import Derived.Test.YtdcjadgflenejaaQExWldFold
import Derived.Test.YtdcjadgflenejaaPk47
namespace Go.Proofs.Ytdcjadgflenejaa
set_option maxRecDepth 100000
set_option linter.unusedSimpArgs false
set_option linter.unusedVariables false
open Go.ChangeShapes Go.WideShapes Go.ChangeAt Go.RowKit Go
section
variable {H : Type} {enc : TypeId × Value → H} {W : World}
theorem o_req {n : Nat} {cs : List Value} {y : DataW H × List MemPlace} (h : DataW.trod enc Try.prog W 0 (fun _ => true) true n 52 cs = some y) : ∃ z : Sw.Req, cs = z.enc := by
  obtain ⟨zs, hl, rfl⟩ := ints_of_trod Try.underlying52 Try.underlying3 cells_i (by kernel_rfl) (by kernel_rfl) h
  match zs, hl with
  | [a, b, c, d, e, f], _ => exact ⟨⟨a, b, c, d, e, f⟩, rfl⟩
theorem o_line {n : Nat} {cs : List Value} {y : DataW H × List MemPlace} (h : DataW.trod enc Try.prog W 0 (fun _ => true) true n 54 cs = some y) : ∃ z : Sw.Req, cs = z.enc ∧ True := by
  have hl := struct_len Try.underlying54 h
  rw [show Try.prog.cellsOf 54 = 6 from by kernel_rfl] at hl
  obtain ⟨_, _, k0⟩ := field_of_trod Try.underlying54 h (i := 0) rfl rfl rfl (show _ = 6 by kernel_rfl)
  obtain ⟨z, hz⟩ := o_req k0
  replace hz : (cs.drop 0).take 6 = z.enc := hz
  rw [List.drop_zero, List.take_of_length_le (by omega)] at hz
  exact ⟨z, hz, trivial⟩
theorem o_lines {n : Nat} {cs : List Value} {y : DataW H × List MemPlace} (h : DataW.trod enc Try.prog W 0 (fun _ => true) true n 23 cs = some y) : ∃ A c n xs, cs = [.slice A n c] ∧ RQ W 0 A c n xs := by
  obtain ⟨A, c, n, xs, h1, h2, _⟩ := rs_of_trod Try.underlying23 (sz := 6) (by kernel_rfl) (by omega) (fun _ => rfl) (fun n cs y h => o_line h) h
  exact ⟨A, c, n, xs, h1, h2⟩
end
theorem exWldFold_holds_lifted (os : Os) (started : os.Started) (H : Type) (enc : TypeId × Value → H) :
    ReturnsInHanded {} Try.checked os 3 .any (Rows.fnExactWldFoldSpec.pre6 enc Try.prog Try.f3 Rows.fnExactWldFoldRow.domain false) (Rows.fnExactWldFoldSpec.post enc Try.prog Try.f3 false true false false) := by
  refine returnsInHanded_of_change (C := Try.checked) own_knob started (by kernel_rfl) Try.func3
    (ChangeSpec.witness6 (enc := enc) (C := Try.checked) false ⟨#[], #[.slice none 0 0, .slice none 0 0], []⟩ 8 (by kernel_rfl) (by kernel_rfl) (by kernel_rfl) (by kernel_rfl)) ?_
  intro W base args ds gs before hval0 hW hcnd _
  have hval : ∀ (j : Nat) t v, Try.f3.params[j]? = some t → args[j]? = some v → Value.okWide Try.prog W .any base t v := hval0
  have hW' := hW
  obtain ⟨p, q, hA0, hV, rfl, hfz, hnd⟩ := hW
  have hA : DataW.TrodAll enc Try.prog W 0 (fun _ => true) true Try.f3.params.toList args.toList ds p := hA0
  rw [Try.params3] at hA hval
  obtain ⟨v0, vs0, d0, ds0, p0, q0, hargs, rfl, rfl, ⟨u0, h0⟩, r0⟩ := trodAll_cons hA
  obtain ⟨v1, vs1, d1, ds1, p1, q1, rfl, rfl, rfl, ⟨u1, h1⟩, r1⟩ := trodAll_cons r0
  obtain ⟨rfl, rfl, rfl⟩ := trodAll_nil r1
  obtain rfl : args = #[v0, v1] := by cases args; simp_all
  obtain ⟨A0, c0, n0, xs0, e0, hr0⟩ := o_ints h0
  obtain rfl := slice_form Try.underlying22 (hval 0 _ v0 rfl rfl) e0
  obtain ⟨A1, c1, n1, xs1, e1, hr1⟩ := o_lines h1
  obtain rfl := slice_form Try.underlying23 (hval 1 _ v1 rfl rfl) e1
  refine (exWldFold_c (hxs := hr0) (hls := hr1)).mono fun E W' ⟨he, hb⟩ => ?_
  subst he
  exact ⟨_, rfl, law_post laid_out (by kernel_rfl) rfl Try.underlying4 rfl ⟨rfl, rfl, rfl⟩ hW' hb⟩

theorem exWldFold_holds : Rows.FnExactWldFoldSaid :=
  OpenClaim.holds_of_wide 3 Try.f3 rfl rfl rfl rfl rfl rfl rfl ⟨rfl, rfl, rfl, rfl, rfl⟩ rfl rfl rfl rfl rfl (by kernel_rfl) Try.func3 (by kernel_rfl)
    (of_decide_eq_true (by kernel_rfl)) (by unfold Func.isWrapper; first | (rw [if_pos (by decide +kernel)]; kernel_rfl) | (rw [if_neg (by decide +kernel)]; exact ⟨rfl, rfl⟩))
    (fun os started H enc _ => exWldFold_holds_lifted os started H enc)
#print axioms exWldFold_holds
end Go.Proofs.Ytdcjadgflenejaa

