/-
 For every input the law WldPurse returns true.
 No condition.
-/
import Derived.Test.YtnnoiagommiapaaGreatQFnWldPurse
import Derived.Test.YtnnoiagommiapaaGreatPy13
import Derived.Test.YtnnoiagommiapaaGreatPy7
set_option maxRecDepth 100000
set_option linter.unusedSimpArgs false
set_option linter.unusedVariables false
namespace Go.Proofs.YtnnoiagommiapaaGreat
open Go.ChangeShapes Go.WideShapes Go.ChangeAt Go.RowKit Go
theorem fnWldPurse_holds_lifted (os : Os) (started : os.Started) (H : Type) (enc : TypeId × Value → H) :
   ReturnsInHanded {} Tryz.checked os 6 .any (Rows.fnWldPurseSpec.pre6 enc Tryz.prog Tryz.f6 Rows.fnWldPurseRow.domain false) (Rows.fnWldPurseSpec.post enc Tryz.prog Tryz.f6 false true false false) := by
 refine returnsInHanded_of_change (C := Tryz.checked) own_knob started (by kernel_rfl) Tryz.func6
   (ChangeSpec.witness6 (enc := enc) (C := Tryz.checked) false ⟨#[], #[.slice none 0 0], []⟩ 8 (by kernel_rfl) (by kernel_rfl) (by kernel_rfl) (by kernel_rfl)) ?_
 intro W base args ds gs before hval0 hW hcnd _
 have hval : ∀ (j : Nat) t v, Tryz.f6.params[j]? = some t → args[j]? = some v → Value.okWide Tryz.prog W .any base t v := hval0
 have hW' := hW
 obtain ⟨p, q, hA0, hV, rfl, hfz, hnd⟩ := hW
 have hA : DataW.TrodAll enc Tryz.prog W 0 (fun _ => true) true Tryz.f6.params.toList args.toList ds p := hA0
 rw [Tryz.params6] at hA hval
 obtain ⟨v0, vs0, d0, ds0, p0, q0, hargs, rfl, rfl, ⟨u0, h0⟩, r0⟩ := trodAll_cons hA
 obtain ⟨rfl, rfl, rfl⟩ := trodAll_nil r0
 obtain rfl : args = #[v0] := by cases args; simp_all
 obtain ⟨A0, c0, n0, xs0, e0, hr0, hq0⟩ := o_bytes h0
 obtain rfl := slice_form Tryz.underlying64 (hval 0 _ v0 rfl rfl) e0
 refine (fnWldPurse_c (hxs := hr0) (hq := hq0)).mono fun E W' ⟨he, hb⟩ => ?_
 subst he
 exact ⟨_, rfl, law_post laid_out (by kernel_rfl) rfl Tryz.underlying4 rfl ⟨rfl, rfl, rfl⟩ hW' hb⟩
theorem fnWldPurse_holds_j0 : (Rows.fnWldPurseRow.inPlace == Tryz.pinned.checked.prog.inPlace 6) = true := by kernel_rfl
theorem fnWldPurse_holds_j1 : (Rows.fnWldPurseRow.unfollowed == Tryz.pinned.checked.prog.unfollowed 6) = true := by kernel_rfl
theorem fnWldPurse_holds_j2 : (Rows.fnWldPurseRow.recurses == Tryz.pinned.checked.prog.recurses 6) = true := by kernel_rfl
theorem fnWldPurse_holds_j3 : (Rows.fnWldPurseRow.named == Tryz.pinned.checked.prog.varsNamed 6) = true := by kernel_rfl
theorem fnWldPurse_holds_j4 : laidOutB Tryz.pinned.checked.prog = true := by kernel_rfl
theorem fnWldPurse_holds_j5 : mapsRowed Tryz.pinned.checked.prog = true := by kernel_rfl
theorem fnWldPurse_holds_j6 : Tryz.pinned.checked.prog.stopsHeard = true := by kernel_rfl
theorem fnWldPurse_holds_j7 : Tryz.pinned.checked.prog.mayEnter = true := by kernel_rfl
theorem fnWldPurse_holds_j : joinedFacts Tryz.pinned.checked.prog 6 Tryz.f6 Rows.fnWldPurseSpec Rows.fnWldPurseRow = true := by
 unfold joinedFacts
 rw [fnWldPurse_holds_j0, fnWldPurse_holds_j1, fnWldPurse_holds_j2, fnWldPurse_holds_j3, fnWldPurse_holds_j4, fnWldPurse_holds_j5, fnWldPurse_holds_j6, fnWldPurse_holds_j7]
 kernel_rfl
theorem fnWldPurse_holds : Rows.FnWldPurseSaid :=
 OpenClaim.holds_of_wide 6 Tryz.f6 rfl rfl rfl rfl rfl rfl rfl ⟨rfl, rfl, rfl, rfl, rfl⟩ rfl rfl rfl rfl rfl (by kernel_rfl) Tryz.func6 fnWldPurse_holds_j
   (of_decide_eq_true (by kernel_rfl)) (by unfold Func.isWrapper; first | (rw [if_pos (by decide +kernel)]; kernel_rfl) | (rw [if_neg (by decide +kernel)]; exact ⟨rfl, rfl⟩))
   (fun os started H enc _ => fnWldPurse_holds_lifted os started H enc)
#print axioms fnWldPurse_holds
end Go.Proofs.YtnnoiagommiapaaGreat
