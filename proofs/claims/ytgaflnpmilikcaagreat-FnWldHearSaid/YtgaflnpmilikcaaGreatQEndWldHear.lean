/-
 For every input the law gJ returns true.
 No condition.
-/
import Derived.Test.YtgaflnpmilikcaaGreatQFnWldHear
import Derived.Test.YtgaflnpmilikcaaGreatPx9
import Derived.Test.YtgaflnpmilikcaaGreatPx5
set_option maxRecDepth 100000
set_option linter.unusedSimpArgs false
set_option linter.unusedVariables false
namespace Go.Proofs.YtgaflnpmilikcaaGreat
open Go.ChangeShapes Go.WideShapes Go.ChangeAt Go.RowKit Go
theorem LX (os:Os) (started:os.Started) (H:Type) (enc:TypeId × Value→H) :
  ReturnsInHanded {} Tryz.checked os 9 .any (Rows.fnWldHearSpec.pre6 enc Tryz.prog Tryz.f9 Rows.fnWldHearRow.domain false) (Rows.fnWldHearSpec.post enc Tryz.prog Tryz.f9 false true false false):=by
 refine returnsInHanded_of_change (C:=Tryz.checked) JK started (by kernel_rfl) Tryz.func9
  (ChangeSpec.witness6 (enc:=enc) (C:=Tryz.checked) false ⟨#[],#[.slice none 0 0],[]⟩ 8 (by kernel_rfl) (by kernel_rfl) (by kernel_rfl) (by kernel_rfl)) ?_
 intro W base args ds gs before hval0 hW hcnd _
 have hval:∀ (j:Nat) t v,Tryz.f9.params[j]?=some t→args[j]?=some v→Value.okWide Tryz.prog W .any base t v:=hval0
 have hW':=hW
 obtain⟨p,q,QE,hV,rfl,hfz,hnd⟩:=hW
 have hA:DataW.TrodAll enc Tryz.prog W 0 (fun _=>true) true Tryz.f9.params.toList args.toList ds p:=QE
 rw[Tryz.params9] at hA hval
 obtain⟨v0,gW,d0,ds0,p0,q0,hargs,rfl,rfl,⟨u0,h0⟩,r0⟩:=trodAll_cons hA
 obtain⟨rfl,rfl,rfl⟩:=trodAll_nil r0
 obtain rfl:args=#[v0]:=by cases args;simp_all
 obtain⟨A0,c0,n0,iW,e0,hr0,hq0⟩:=KM h0
 obtain rfl:=slice_form Tryz.underlying22 (hval 0 _ v0 rfl rfl) e0
 refine (U5 (hxs:=hr0) (hq:=hq0)).mono fun E W' ⟨he,hb⟩=>?_
 subst he
 exact⟨_,rfl,JL JM (by kernel_rfl) rfl Tryz.underlying4 rfl ⟨rfl,rfl,rfl⟩ hW' hb⟩
theorem OB:(Rows.fnWldHearRow.inPlace==Tryz.pinned.checked.prog.inPlace 9)=true:=by kernel_rfl
theorem OA:(Rows.fnWldHearRow.unfollowed==Tryz.pinned.checked.prog.unfollowed 9)=true:=by kernel_rfl
theorem N_:(Rows.fnWldHearRow.recurses==Tryz.pinned.checked.prog.recurses 9)=true:=by kernel_rfl
theorem N9:(Rows.fnWldHearRow.named==Tryz.pinned.checked.prog.varsNamed 9)=true:=by kernel_rfl
theorem N8:laidOutB Tryz.pinned.checked.prog=true:=by kernel_rfl
theorem N7:mapsRowed Tryz.pinned.checked.prog=true:=by kernel_rfl
theorem Nz:Tryz.pinned.checked.prog.stopsHeard=true:=by kernel_rfl
theorem Ny:Tryz.pinned.checked.prog.mayEnter=true:=by kernel_rfl
theorem Oo:joinedFacts Tryz.pinned.checked.prog 9 Tryz.f9 Rows.fnWldHearSpec Rows.fnWldHearRow=true:=by
 unfold joinedFacts
 rw[OB,OA,N_,N9,N8,N7,Nz,Ny]
 kernel_rfl
theorem fnWldHear_holds:Rows.FnWldHearSaid:=
 OpenClaim.holds_of_wide 9 Tryz.f9 rfl rfl rfl rfl rfl rfl rfl ⟨rfl,rfl,rfl,rfl,rfl⟩ rfl rfl rfl rfl rfl (by kernel_rfl) Tryz.func9 Oo
  (of_decide_eq_true (by kernel_rfl)) (by unfold Func.isWrapper;first|(rw[if_pos (by decide +kernel)];kernel_rfl)|(rw[if_neg (by decide +kernel)];exact⟨rfl,rfl⟩))
  (fun os started H enc _=>LX os started H enc)
#print axioms fnWldHear_holds
end Go.Proofs.YtgaflnpmilikcaaGreat
