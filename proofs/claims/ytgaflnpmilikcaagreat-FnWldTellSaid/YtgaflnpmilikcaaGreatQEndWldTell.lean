/-
 For every input the law fw returns true.
 No condition.
-/
import Derived.Test.YtgaflnpmilikcaaGreatQFnWldTell
import Derived.Test.YtgaflnpmilikcaaGreatPx9
import Derived.Test.YtgaflnpmilikcaaGreatPx5
set_option maxRecDepth 100000
set_option linter.unusedSimpArgs false
set_option linter.unusedVariables false
namespace Go.Proofs.YtgaflnpmilikcaaGreat
open Go.ChangeShapes Go.WideShapes Go.ChangeAt Go.RowKit Go
theorem LU (os:Os) (started:os.Started) (H:Type) (enc:TypeId × Value→H) :
  ReturnsInHanded {} Tryz.checked os 10 .any (Rows.fnWldTellSpec.pre6 enc Tryz.prog Tryz.f10 Rows.fnWldTellRow.domain false) (Rows.fnWldTellSpec.post enc Tryz.prog Tryz.f10 false true false false):=by
 refine returnsInHanded_of_change (C:=Tryz.checked) JK started (by kernel_rfl) Tryz.func10
  (ChangeSpec.witness6 (enc:=enc) (C:=Tryz.checked) false ⟨#[],#[.slice none 0 0],[]⟩ 8 (by kernel_rfl) (by kernel_rfl) (by kernel_rfl) (by kernel_rfl)) ?_
 intro W base args ds gs before hval0 hW hcnd _
 have hval:∀ (j:Nat) t v,Tryz.f10.params[j]?=some t→args[j]?=some v→Value.okWide Tryz.prog W .any base t v:=hval0
 have hW':=hW
 obtain⟨p,q,QE,hV,rfl,hfz,hnd⟩:=hW
 have hA:DataW.TrodAll enc Tryz.prog W 0 (fun _=>true) true Tryz.f10.params.toList args.toList ds p:=QE
 rw[Tryz.params10] at hA hval
 obtain⟨v0,gW,d0,ds0,p0,q0,hargs,rfl,rfl,⟨u0,h0⟩,r0⟩:=trodAll_cons hA
 obtain⟨rfl,rfl,rfl⟩:=trodAll_nil r0
 obtain rfl:args=#[v0]:=by cases args;simp_all
 obtain⟨A0,c0,n0,iW,e0,hr0,hq0⟩:=KM h0
 obtain rfl:=slice_form Tryz.underlying22 (hval 0 _ v0 rfl rfl) e0
 refine (U2 (hxs:=hr0) (hq:=hq0)).mono fun E W' ⟨he,hb⟩=>?_
 subst he
 exact⟨_,rfl,JL JM (by kernel_rfl) rfl Tryz.underlying4 rfl ⟨rfl,rfl,rfl⟩ hW' hb⟩
theorem Nb:(Rows.fnWldTellRow.inPlace==Tryz.pinned.checked.prog.inPlace 10)=true:=by kernel_rfl
theorem Na:(Rows.fnWldTellRow.unfollowed==Tryz.pinned.checked.prog.unfollowed 10)=true:=by kernel_rfl
theorem NZ:(Rows.fnWldTellRow.recurses==Tryz.pinned.checked.prog.recurses 10)=true:=by kernel_rfl
theorem NY:(Rows.fnWldTellRow.named==Tryz.pinned.checked.prog.varsNamed 10)=true:=by kernel_rfl
theorem NW:laidOutB Tryz.pinned.checked.prog=true:=by kernel_rfl
theorem NV:mapsRowed Tryz.pinned.checked.prog=true:=by kernel_rfl
theorem NU:Tryz.pinned.checked.prog.stopsHeard=true:=by kernel_rfl
theorem NT:Tryz.pinned.checked.prog.mayEnter=true:=by kernel_rfl
theorem Oj:joinedFacts Tryz.pinned.checked.prog 10 Tryz.f10 Rows.fnWldTellSpec Rows.fnWldTellRow=true:=by
 unfold joinedFacts
 rw[Nb,Na,NZ,NY,NW,NV,NU,NT]
 kernel_rfl
theorem fnWldTell_holds:Rows.FnWldTellSaid:=
 OpenClaim.holds_of_wide 10 Tryz.f10 rfl rfl rfl rfl rfl rfl rfl ⟨rfl,rfl,rfl,rfl,rfl⟩ rfl rfl rfl rfl rfl (by kernel_rfl) Tryz.func10 Oj
  (of_decide_eq_true (by kernel_rfl)) (by unfold Func.isWrapper;first|(rw[if_pos (by decide +kernel)];kernel_rfl)|(rw[if_neg (by decide +kernel)];exact⟨rfl,rfl⟩))
  (fun os started H enc _=>LU os started H enc)
#print axioms fnWldTell_holds
end Go.Proofs.YtgaflnpmilikcaaGreat
