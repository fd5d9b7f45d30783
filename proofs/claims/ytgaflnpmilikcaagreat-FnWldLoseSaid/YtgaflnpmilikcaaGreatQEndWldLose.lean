/-
 For every input the law gH returns true.
 No condition.
-/
import Derived.Test.YtgaflnpmilikcaaGreatQFnWldLose
import Derived.Test.YtgaflnpmilikcaaGreatPx9
import Derived.Test.YtgaflnpmilikcaaGreatPx5
set_option maxRecDepth 100000
set_option linter.unusedSimpArgs false
set_option linter.unusedVariables false
namespace Go.Proofs.YtgaflnpmilikcaaGreat
open Go.ChangeShapes Go.WideShapes Go.ChangeAt Go.RowKit Go
theorem LW (os:Os) (started:os.Started) (H:Type) (enc:TypeId × Value→H) :
  ReturnsInHanded {} Tryz.checked os 7 .any (Rows.fnWldLoseSpec.pre6 enc Tryz.prog Tryz.f7 Rows.fnWldLoseRow.domain false) (Rows.fnWldLoseSpec.post enc Tryz.prog Tryz.f7 false true false false):=by
 refine returnsInHanded_of_change (C:=Tryz.checked) JK started (by kernel_rfl) Tryz.func7
  (ChangeSpec.witness6 (enc:=enc) (C:=Tryz.checked) false ⟨#[],#[.slice none 0 0],[]⟩ 8 (by kernel_rfl) (by kernel_rfl) (by kernel_rfl) (by kernel_rfl)) ?_
 intro W base args ds gs before hval0 hW hcnd _
 have hval:∀ (j:Nat) t v,Tryz.f7.params[j]?=some t→args[j]?=some v→Value.okWide Tryz.prog W .any base t v:=hval0
 have hW':=hW
 obtain⟨p,q,QE,hV,rfl,hfz,hnd⟩:=hW
 have hA:DataW.TrodAll enc Tryz.prog W 0 (fun _=>true) true Tryz.f7.params.toList args.toList ds p:=QE
 rw[Tryz.params7] at hA hval
 obtain⟨v0,gW,d0,ds0,p0,q0,hargs,rfl,rfl,⟨u0,h0⟩,r0⟩:=trodAll_cons hA
 obtain⟨rfl,rfl,rfl⟩:=trodAll_nil r0
 obtain rfl:args=#[v0]:=by cases args;simp_all
 obtain⟨A0,c0,n0,iW,e0,hr0,hq0⟩:=KM h0
 obtain rfl:=slice_form Tryz.underlying22 (hval 0 _ v0 rfl rfl) e0
 refine (U4 (hxs:=hr0) (hq:=hq0)).mono fun E W' ⟨he,hb⟩=>?_
 subst he
 exact⟨_,rfl,JL JM (by kernel_rfl) rfl Tryz.underlying4 rfl ⟨rfl,rfl,rfl⟩ hW' hb⟩
theorem Nv:(Rows.fnWldLoseRow.inPlace==Tryz.pinned.checked.prog.inPlace 7)=true:=by kernel_rfl
theorem Nu:(Rows.fnWldLoseRow.unfollowed==Tryz.pinned.checked.prog.unfollowed 7)=true:=by kernel_rfl
theorem Nt:(Rows.fnWldLoseRow.recurses==Tryz.pinned.checked.prog.recurses 7)=true:=by kernel_rfl
theorem Ns:(Rows.fnWldLoseRow.named==Tryz.pinned.checked.prog.varsNamed 7)=true:=by kernel_rfl
theorem Nr:laidOutB Tryz.pinned.checked.prog=true:=by kernel_rfl
theorem Nq:mapsRowed Tryz.pinned.checked.prog=true:=by kernel_rfl
theorem Np:Tryz.pinned.checked.prog.stopsHeard=true:=by kernel_rfl
theorem Nn:Tryz.pinned.checked.prog.mayEnter=true:=by kernel_rfl
theorem Om:joinedFacts Tryz.pinned.checked.prog 7 Tryz.f7 Rows.fnWldLoseSpec Rows.fnWldLoseRow=true:=by
 unfold joinedFacts
 rw[Nv,Nu,Nt,Ns,Nr,Nq,Np,Nn]
 kernel_rfl
theorem fnWldLose_holds:Rows.FnWldLoseSaid:=
 OpenClaim.holds_of_wide 7 Tryz.f7 rfl rfl rfl rfl rfl rfl rfl ⟨rfl,rfl,rfl,rfl,rfl⟩ rfl rfl rfl rfl rfl (by kernel_rfl) Tryz.func7 Om
  (of_decide_eq_true (by kernel_rfl)) (by unfold Func.isWrapper;first|(rw[if_pos (by decide +kernel)];kernel_rfl)|(rw[if_neg (by decide +kernel)];exact⟨rfl,rfl⟩))
  (fun os started H enc _=>LW os started H enc)
#print axioms fnWldLose_holds
end Go.Proofs.YtgaflnpmilikcaaGreat
