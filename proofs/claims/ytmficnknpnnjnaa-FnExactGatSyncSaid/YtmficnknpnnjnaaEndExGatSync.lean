/-
  For every input the law ExactGatSync returns true: the program's GatSync returns what the reference's returns, leaves its arguments as they are, and hands out memory of its own.
  No condition.
-/
import Derived.Test.YtmficnknpnnjnaaExGatSync
import Derived.Test.YtmficnknpnnjnaaFrame
import Derived.Handed
import Derived.JoinedOf
namespace Go.Proofs.Ytmficnknpnnjnaa
open Go.ChangeShapes Go.WideShapes Go.ChangeAt Go.RowKit Go
set_option maxRecDepth 100000

theorem own_knob : ownKnob Try.prog.godebug = none := by kernel_rfl
theorem laid_out : laidOutB Try.prog = true := by kernel_rfl
theorem cells_I : Try.prog.cellsOf 3 = 1 := by kernel_rfl
theorem cells_H : Try.prog.cellsOf 23 = 3 := by kernel_rfl
theorem cells_G : Try.prog.cellsOf 26 = 4 := by kernel_rfl
theorem cells_SI : Try.prog.cellsOf 24 = 1 := by kernel_rfl

theorem exGatSync_lifted (os : Os) (started : os.Started) (H : Type) (enc : TypeId × Value → H) :
    ReturnsInHanded {} Try.checked os 3 .any (Rows.fnExactGatSyncSpec.pre6 enc Try.prog Try.f3 Rows.fnExactGatSyncRow.domain false) (Rows.fnExactGatSyncSpec.post enc Try.prog Try.f3 false true false false) := by
  refine returnsInHanded_of_change (C := Try.checked) own_knob started (by kernel_rfl) Try.func3
    (ChangeSpec.witness6 (enc := enc) (C := Try.checked) false ⟨#[], #[.agg #[.int .i64 0, .int .i64 0, .int .i64 0, .slice none 0 0], .agg #[.int .i64 0, .int .i64 0, .int .i64 0], .slice none 0 0], []⟩ 8 (by kernel_rfl) (by kernel_rfl) (by kernel_rfl) (by kernel_rfl)) ?_
  intro W base args ds gs before hval0 hW hcnd _
  have hval : ∀ (j : Nat) t v, Try.f3.params[j]? = some t → args[j]? = some v → Value.okWide Try.prog W .any base t v := hval0
  have hW' := hW
  obtain ⟨p, q, hA0, hV, rfl, hfz, hnd⟩ := hW
  have hA : DataW.TrodAll enc Try.prog W 0 (fun _ => true) true Try.f3.params.toList args.toList ds p := hA0
  rw [Try.params3] at hA hval
  obtain ⟨v0, vs0, d0, ds0, p0, q0, hargs, rfl, rfl, ⟨u0, h0⟩, r0⟩ := trodAll_cons hA
  obtain ⟨v1, vs1, d1, ds1, p1, q1, rfl, rfl, rfl, ⟨u1, h1⟩, r1⟩ := trodAll_cons r0
  obtain ⟨v2, vs2, d2, ds2, p2, q2, rfl, rfl, rfl, ⟨u2, h2⟩, r2⟩ := trodAll_cons r1
  obtain ⟨rfl, rfl, rfl⟩ := trodAll_nil r2
  obtain rfl : args = #[v0, v1, v2] := by cases args; simp_all
  obtain ⟨k0, rfl, n0⟩ := okWide_struct Try.underlying26 (hval 0 _ v0 rfl rfl)
  obtain ⟨k1, rfl, n1⟩ := okWide_struct Try.underlying23 (hval 1 _ v1 rfl rfl)
  obtain ⟨a, b, c, A, d, n, xs, e0, hxs⟩ := gate_of_trod Try.underlying26 Try.underlying23 Try.underlying24 Try.underlying3 cells_I cells_H cells_SI cells_G ⟨rfl, rfl⟩ ⟨rfl, rfl⟩ ⟨rfl, rfl⟩ ⟨rfl, rfl⟩ ⟨rfl, rfl⟩ h0
  obtain ⟨a', b', c', e1⟩ := head_of_trod Try.underlying23 Try.underlying3 cells_I cells_H ⟨rfl, rfl⟩ ⟨rfl, rfl⟩ ⟨rfl, rfl⟩ h1
  obtain ⟨B, e, m, ps, e2, hps⟩ := ri_of_trod Try.underlying24 Try.underlying3 cells_I h2
  obtain rfl : k0 = #[.int .i64 a, .int .i64 b, .int .i64 c, .slice A n d] := by
    have := congrArg List.toArray e0
    simpa [Value.cells] using this
  obtain rfl : k1 = #[.int .i64 a', .int .i64 b', .int .i64 c'] := by
    have := congrArg List.toArray e1
    simpa [Value.cells] using this
  obtain rfl := slice_form Try.underlying24 (hval 2 _ v2 rfl rfl) e2
  refine (exGatSync_c ⟨a, b, c⟩ ⟨a', b', c'⟩ A d n xs B e m ps W hxs hps).mono fun E W' ⟨he, hb⟩ => ?_
  subst he
  exact ⟨_, rfl, law_post laid_out (by kernel_rfl) rfl Try.underlying4 rfl ⟨rfl, rfl, rfl⟩ hW' hb⟩

theorem exGatSync_holds : Rows.FnExactGatSyncSaid :=
  OpenClaim.holds_of_wide 3 Try.f3 rfl rfl rfl rfl rfl rfl rfl ⟨rfl, rfl, rfl, rfl, rfl⟩ rfl rfl rfl rfl rfl (by kernel_rfl) Try.func3 (by kernel_rfl)
    (of_decide_eq_true (by kernel_rfl)) (by unfold Func.isWrapper; first | (rw [if_pos (by decide +kernel)]; kernel_rfl) | (rw [if_neg (by decide +kernel)]; exact ⟨rfl, rfl⟩))
    (fun os started H enc _ => exGatSync_lifted os started H enc)
#print axioms exGatSync_holds
end Go.Proofs.Ytmficnknpnnjnaa
