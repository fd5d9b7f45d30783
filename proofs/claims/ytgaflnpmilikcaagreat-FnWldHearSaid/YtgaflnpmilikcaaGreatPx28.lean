/- Texts joined: Mkt1. -/
import Derived.Test.YtgaflnpmilikcaaGreatPx12
set_option maxRecDepth 100000
set_option linter.unusedSimpArgs false
set_option linter.unusedVariables false
namespace Go.Proofs.YtgaflnpmilikcaaGreat
open Go.RowKit Go
set_option maxHeartbeats 8000000
theorem Ih (aL:Option Addr) (Ae AU:Nat) (aP:Option Addr) (Ag AY:Nat) (aD:Option Addr) (Ac AQ:Nat) (aN:Option Addr) (Ad Aa:Nat) (aS:Option Addr) (Af Ab:Nat) (m:Sw.CV) (w:World) (hm:RM w 0 aL Ae AU aP Ag AY aD Ac AQ aN Ad Aa aS Af Ab m):Calls Tryz.prog 45 #[.agg #[.slice aL AU Ae,.slice aP AY Ag,.slice aD AQ Ac,.int .i64 m.clock,.slice aN Aa Ad,.slice aS Ab Af]] w fun E w'=>E=.returned (.bool (Sw.GX m))∧Ex w w':=by
 obtain⟨m1,m2,m3,m4,m5⟩:=hm
 have hm':RM w 0 aL Ae AU aP Ag AY aD Ac AQ aN Ad Aa aS Af Ab m:=⟨m1,m2,m3,m4,m5⟩
 have b3:=Rs.big m3
 have b4:=Rs.big m4
 have b5:=Rs.big m5
 have l3:=Lib.hid m3.1
 have l4:=Lib.hid m4.1
 have l5:=Lib.hid m5.1
 have e:=P6 m
 have He:=Lib.hid e;clear e
 cases hfs:(Sw.Bq m.log).isSome
 case false=>
  go_enter Tryz.func45,Tryz.ntmps45
  go_wp2_with (go_at_call 105;apply Calls.mono;apply EO;(exact Co);rintro E w1 ⟨A',c',n',rfl,hr,hb⟩;obtain⟨hc,hf,hz⟩:=xy hb)
  go_ret
  exact⟨Ar (by rw[He.out];simp[Ez,hfs]),AA⟩
 cases g1:Sw.DR m.Ai
 case false=>
  go_enter Tryz.func45,Tryz.ntmps45
  go_wp2_with (first|(go_at_call 105;apply Calls.mono;apply EO;(exact Co);rintro E w1 ⟨A',c',n',rfl,hr,hb⟩;obtain⟨hc,hf,hz⟩:=xy hb)|(go_at_call 46;apply Calls.mono;apply D5;(exact Co);rintro E w' ⟨rfl,rfl⟩))
  go_ret
  exact⟨Ar (by rw[He.out];simp[Ez,g1]),AA⟩
 by_cases g2:AQ≤8
 case neg=>
  go_enter Tryz.func45,Tryz.ntmps45
  go_wp2_with (first|(go_at_call 105;apply Calls.mono;apply EO;(exact Co);rintro E w1 ⟨A',c',n',rfl,hr,hb⟩;obtain⟨hc,hf,hz⟩:=xy hb)|(go_at_call 46;apply Calls.mono;apply D5;(exact Co);rintro E w' ⟨rfl,rfl⟩))
  go_ret
  exact⟨Ar (by rw[He.out,Ez,← l3.out];simp[g2]),AA⟩
 cases g3:Sw.Br m.clock 0 99999
 case false=>
  go_enter Tryz.func45,Tryz.ntmps45
  go_wp2_with (first|(go_at_call 105;apply Calls.mono;apply EO;(exact Co);rintro E w1 ⟨A',c',n',rfl,hr,hb⟩;obtain⟨hc,hf,hz⟩:=xy hb)|(go_at_call 46;apply Calls.mono;apply D5;(exact Co);rintro E w' ⟨rfl,rfl⟩)|(go_at_call 48;refine (Aw _ _ _ _).mono ?_;rintro E w' ⟨rfl,rfl⟩))
  go_ret
  exact⟨Ar (by rw[He.out,Ez,g3];simp),AA⟩
 by_cases g4:Aa=5
 case neg=>
  have q4:((Aa:Int) != 5)=true:=by rw[bne_iff_ne];omega
  go_enter Tryz.func45,Tryz.ntmps45
  go_wp2_with (first|(go_at_call 105;apply Calls.mono;apply EO;(exact Co);rintro E w1 ⟨A',c',n',rfl,hr,hb⟩;obtain⟨hc,hf,hz⟩:=xy hb)|(go_at_call 46;apply Calls.mono;apply D5;(exact Co);rintro E w' ⟨rfl,rfl⟩)|(go_at_call 48;refine (Aw _ _ _ _).mono ?_;rintro E w' ⟨rfl,rfl⟩))
  go_ret
  exact⟨Ar (by rw[He.out,Ez,← l4.out];simp[g4]),AA⟩
 subst g4
 by_cases g5:Ab=5
 case neg=>
  have q5:((Ab:Int) != 5)=true:=by rw[bne_iff_ne];omega
  go_enter Tryz.func45,Tryz.ntmps45
  go_wp2_with (first|(go_at_call 105;apply Calls.mono;apply EO;(exact Co);rintro E w1 ⟨A',c',n',rfl,hr,hb⟩;obtain⟨hc,hf,hz⟩:=xy hb)|(go_at_call 46;apply Calls.mono;apply D5;(exact Co);rintro E w' ⟨rfl,rfl⟩)|(go_at_call 48;refine (Aw _ _ _ _).mono ?_;rintro E w' ⟨rfl,rfl⟩))
  go_ret
  exact⟨Ar (by rw[He.out,Ez,← l5.out];simp[g5]),AA⟩
 subst g5
 have hgate:Ez m=true:=by simp[Ez,hfs,g1,g3,← l3.out,← l4.out,← l5.out,g2]
 obtain⟨rows,hrows⟩:=Option.isSome_iff_exists.1 hfs
 have hro:=Sw.Bv hrows
 have h8:=Sw.Ct hro
 have hg:(Sw.Bq m.log).getD []=rows:=by rw[hrows];rfl
 have e2:=He.out
 rw[hgate,Sw.Cu hrows,Bool.true_and] at e2
 have HE:=Lib.hid e2
 have HG:=Lib.hid hg
 have H8:=Lib.hid h8
 have HR:=Lib.hid hrows
 have HO:=Lib.hid hro
 obtain⟨xE,ck1⟩:=Sw.BB.1 g3
 clear e2 hg h8 He hgate hrows hro
 go_enter Tryz.func45,Tryz.ntmps45
 go_wp2_with (first|(go_at_call 105;apply Calls.mono;apply EO;(exact Co);rintro E w1 ⟨A1,c1,n1,rfl,ho1,hb⟩;rw[HG.out] at ho1;have hst:=xr hb;(try simp only[zA,zC,zD] at hst);obtain⟨hc,hf,hz⟩:=hst;obtain rfl:n1=8:=by rw[ho1.1,H8.out])|(go_at_call 46;apply Calls.mono;apply D5;(exact Co);rintro E w' ⟨rfl,rfl⟩)|(go_at_call 48;refine (Aw _ _ _ _).mono ?_;rintro E w' ⟨rfl,rfl⟩))
 have hrr:=ho1.rs
 go_loopw [5] (fun i wr=>∃ (k:Nat) (p:Int),k≤AQ∧i=.int .i64 k∧Ex w1 wr∧Rn m.AJ k p∧Sw.FP m.clock rows (-1) m.AJ=Sw.FP m.clock rows p (m.AJ.drop k)) (fun i _=>AQ-(intOf i).toNat)
 case atStart=>exact⟨0,-1,Nat.zero_le _,rfl,Ch.refl _ _,.inl ⟨rfl,rfl⟩,rfl⟩
 case round=>
  obtain⟨k,p,hk,rfl,hb2,hp,hrel⟩:=hrel
  have hst:=xr hb2
  obtain⟨hc2,hf2,hz2⟩:=hst
  by_cases hlt:k<AQ
  ·obtain⟨g,off,y,rfl,hg0,hg,hd,hy,q0,q1,q2,q3,q4⟩:=OQ m3 hlt
   rw[hd,O9] at hrel
   have BI:=Lib.hid hrel
   have Hy:=Lib.hid hy
   clear hd hy hrel
   cases c1:Sw.Br y.ticket 0 7
   case false=>
    have DB:=VB (clock:=m.clock) (d:=y) HO.out rfl
    have DB:=Lib.hid DB
    clear hp
    go_wp2_with fail
    go_quiet ((first|(go_at_call 48;exact Calls.AR (Aw _ _ _ _))|(go_at_call 106;exact Calls.AR (Bw _ _))))
    go_wp2
    go_ret
    exact⟨Ar (by rw[HE.out,BI.out,DB.out,c1];simp),AA⟩
   obtain⟨y0,y7⟩:=Sw.BB.1 c1
   obtain⟨t,ht⟩:=Int.eq_ofNat_of_zero_le y0
   have e0:y.ticket.toNat=t:=by omega
   have uH:t<8:=by omega
   have y8:y.ticket<8:=by omega
   have HT:=Lib.hid ht
   clear ht
   obtain⟨gr,tK,r,hA1,ug,hgr,hdr,dY,r0,r1,r2⟩:=VF hrr uH
   cases hA1
   have hrow:Sw.rowAt rows y.ticket=r:=by simp[Sw.rowAt,e0,dY]
   have DB:=VB (clock:=m.clock) HO.out hrow
   have DB:=Lib.hid DB
   clear hdr dY hrow
   obtain⟨yt,ys,yp,yb,yd⟩:=y
   obtain⟨JU,rf,ru⟩:=r
   dsimp only at q0 q1 q2 q3 q4 r0 r1 r2 c1 y0 y7 y8 e0
   have hpp:(∃ j:Nat,∃ yj:Sw.BC,k=j+1∧p=yj.ticket∧m.AJ[j]?=some yj∧yt≤p)∨p<yt:=by
    rcases hp with⟨rfl,rfl⟩ | ⟨j,yj,rfl,hj,rfl,hj0⟩
    ·exact .inr (by omega)
    ·by_cases h:yt≤yj.ticket
     ·exact .inl ⟨j,yj,rfl,rfl,hj,h⟩
     ·exact .inr (by omega)
   rcases hpp with⟨j,yj,rfl,rfl,hj,hle⟩|hpy
   ·obtain⟨g',off',aO,hA',_,_,_,Ry,p0,_⟩:=OQ m3 (show j<AQ by omega)
    cases hA'
    obtain rfl:aO=yj:=by rw[hj] at Ry;exact (Option.some.inj Ry).symm
    clear hj Ry hp
    have t1:((j:Int)+1).toNat=j+1:=by omega
    have t2:IntKind.i64.wrap ((j:Int)+1-1)=j:=by rw[IntWalk.i64_in _ (by omega)];omega
    have t3:(0:Int)≤(j:Int)+1:=by omega
    have t4:(j:Int)+1<(AQ:Int):=by omega
    have t5:(j:Int)<(AQ:Int):=by omega
    have t6:(0:Int)<(j:Int)+1:=by omega
    go_wp2_with fail
    go_quiet ((first|(go_at_call 48;exact Calls.AR (Aw _ _ _ _))|(go_at_call 106;exact Calls.AR (Bw _ _))))
    go_wp2
    go_ret
    exact⟨Ar (by rw[HE.out,BI.out,show decide (aO.ticket<yt)=false from by simp;omega];simp),AA⟩
   have hgd:k=0∨∃ j:Nat,∃ pj:Int,k=j+1∧w.cell? ⟨g,off+j*5,none⟩=some (.int .i64 pj)∧¬(yt≤pj):=by
    rcases hp with⟨rfl,rfl⟩ | ⟨j,yj,rfl,hj,rfl,hj0⟩
    ·exact .inl rfl
    ·obtain⟨g',off',aO,hA',_,_,_,Ry,p0,_⟩:=OQ m3 (show j<AQ by omega)
     cases hA'
     obtain rfl:aO=yj:=by rw[hj] at Ry;exact (Option.some.inj Ry).symm
     exact .inr ⟨j,aO.ticket,rfl,p0,by omega⟩
   clear hp
   have fin:∀ b:Bool,Sw.Ew m.clock rows ⟨yt,ys,yp,yb,yd⟩=b→(b=false→false=Sw.GX m)∧(b=true→Sw.FP m.clock rows (-1) m.AJ=Sw.FP m.clock rows yt (m.AJ.drop (k+1))):=by
    intro b hb
    refine⟨fun h=>?_,fun h=>?_⟩
    ·rw[HE.out,BI.out,hb,h];simp
    ·rw[BI.out,hb,h];simp[hpy]
   have Fin:=Lib.hid fin
   have Xd:Rn m.AJ (k+1) yt:=.inr ⟨k,_,rfl,Hy.out,rfl,y0⟩
   have Xd:=Lib.hid Xd
   clear fin hpy BI
   rcases hgd with rfl | ⟨j,pj,rfl,p0,hpj⟩
   ·simp only[Nat.zero_mul,Nat.add_zero] at q0 q1 q2 q3 q4
    cases c3:decide (JU=ys)
    case false=>
     have c3':(JU != ys)=true:=by rw[bne_iff_ne];exact of_decide_eq_false c3
     (go_wp2_with fail;go_quiet ((first|(go_at_call 48;exact Calls.AR (Aw _ _ _ _))|(go_at_call 106;exact Calls.AR (Bw _ _))));go_wp2;go_ret)
     exact⟨Ar ((Fin.out _ rfl).1 (by rw[DB.out];simp[c3])),(by exact AA)⟩
    have c3':(JU != ys)=false:=by rw[bne_eq_false_iff_eq];exact of_decide_eq_true c3
    cases c4:(ys==0)
    case true=>
     (go_wp2_with fail;go_quiet ((first|(go_at_call 48;exact Calls.AR (Aw _ _ _ _))|(go_at_call 106;exact Calls.AR (Bw _ _))));go_wp2;go_ret)
     exact⟨Ar ((Fin.out _ rfl).1 (by rw[DB.out];simp[(show ys=0 by simpa using c4)])),(by exact AA)⟩
    cases ru
    case true=>
     (go_wp2_with fail;go_quiet ((first|(go_at_call 48;exact Calls.AR (Aw _ _ _ _))|(go_at_call 106;exact Calls.AR (Bw _ _))));go_wp2;go_ret)
     exact⟨Ar ((Fin.out _ rfl).1 (by rw[DB.out];simp[])),(by exact AA)⟩
    cases c6:Sw.Br yp 1 (Sw.C9 rf)
    case false=>
     (go_wp2_with fail;go_quiet ((first|(go_at_call 48;exact Calls.AR (Aw _ _ _ _))|(go_at_call 106;exact Calls.AR (Bw _ _))));go_wp2;go_ret)
     exact⟨Ar ((Fin.out _ rfl).1 (by rw[DB.out];simp[c6])),(by exact AA)⟩
    have fe:ys≠0:=by simpa using c4
    have C4:=Lib.hid fe
    clear fe
    by_cases b0:yb=0
    ·have b1:(yb==0)=true:=by simp[b0]
     have b2:(yb != 0)=false:=by simp[b0]
     have B0:=Lib.hid b0
     clear b0
     by_cases d0:yd=0
     ·have d1:(yd != 0)=false:=by simp[d0]
      have D0:=Lib.hid d0
      clear d0
      (go_wp2_with fail;go_quiet ((first|(go_at_call 48;exact Calls.AR (Aw _ _ _ _))|(go_at_call 106;exact Calls.AR (Bw _ _))));go_wp2_with (go_at_call 48;refine (Aw _ _ _ _).mono ?_;rintro E w' ⟨rfl,rfl⟩))
      exact⟨⟨0+1,yt,by omega,by go_num,(by exact AA),Xd.out,(Fin.out _ rfl).2 (by rw[DB.out];simp[c3,c6,GZ,B0.out,D0.out,C4.out] <;> first|done|omega)⟩,by simp[intOf];omega⟩
     ·have d1:(yd != 0)=true:=by simp[d0]
      have D0:=Lib.hid d0
      clear d0
      (go_wp2_with fail;go_quiet ((first|(go_at_call 48;exact Calls.AR (Aw _ _ _ _))|(go_at_call 106;exact Calls.AR (Bw _ _))));go_wp2_with (go_at_call 48;refine (Aw _ _ _ _).mono ?_;rintro E w' ⟨rfl,rfl⟩))
      (go_ret;exact⟨Ar ((Fin.out _ rfl).1 (by rw[DB.out];simp[GZ,B0.out,D0.out,C4.out])),(by exact AA)⟩)
    have b1:(yb==0)=false:=by simp[b0]
    have b2:(yb != 0)=true:=by simp[b0]
    have B0:=Lib.hid b0
    clear b0
    cases c7:Sw.Br yb 1 5
    case false=>
     (go_wp2_with fail;go_quiet ((first|(go_at_call 48;exact Calls.AR (Aw _ _ _ _))|(go_at_call 106;exact Calls.AR (Bw _ _))));go_wp2_with (go_at_call 48;refine (Aw _ _ _ _).mono ?_;rintro E w' ⟨rfl,rfl⟩))
     (go_ret;exact⟨Ar ((Fin.out _ rfl).1 (by rw[DB.out];simp[GZ,B0.out,c7])),(by exact AA)⟩)
    by_cases d0:yb=ys
    ·have d1:(yb==ys)=true:=by simp[d0]
     have D0:=Lib.hid d0
     clear d0
     (go_wp2_with fail;go_quiet ((first|(go_at_call 48;exact Calls.AR (Aw _ _ _ _))|(go_at_call 106;exact Calls.AR (Bw _ _))));go_wp2_with (go_at_call 48;refine (Aw _ _ _ _).mono ?_;rintro E w' ⟨rfl,rfl⟩))
     (go_ret;exact⟨Ar ((Fin.out _ rfl).1 (by rw[DB.out];simp[GZ,B0.out,D0.out,C4.out])),(by exact AA)⟩)
    have d1:(yb==ys)=false:=by simp[d0]
    have D0:=Lib.hid d0
    clear d0
    cases c9:Sw.Br yd m.clock (m.clock+5)
    case false=>
     (go_wp2_with fail;go_quiet ((first|(go_at_call 48;exact Calls.AR (Aw _ _ _ _))|(go_at_call 106;exact Calls.AR (Bw _ _))));go_wp2_with (go_at_call 48;refine (Aw _ _ _ _).mono ?_;rintro E w' ⟨rfl,rfl⟩))
     (go_ret;exact⟨Ar ((Fin.out _ rfl).1 (by rw[DB.out];simp[GZ,B0.out,c9])),(by exact AA)⟩)
    (go_wp2_with fail;go_quiet ((first|(go_at_call 48;exact Calls.AR (Aw _ _ _ _))|(go_at_call 106;exact Calls.AR (Bw _ _))));go_wp2_with (go_at_call 48;refine (Aw _ _ _ _).mono ?_;rintro E w' ⟨rfl,rfl⟩))
    exact⟨⟨0+1,yt,by omega,by go_num,(by exact AA),Xd.out,(Fin.out _ rfl).2 (by rw[DB.out];simp[c3,c6,GZ,B0.out,D0.out,C4.out,c7,c9] <;> first|done|omega)⟩,by simp[intOf];omega⟩
   ·have t1:((j:Int)+1).toNat=j+1:=by omega
    have t2:IntKind.i64.wrap ((j:Int)+1-1)=j:=by rw[IntWalk.i64_in _ (by omega)];omega
    have t3:(0:Int)≤(j:Int)+1:=by omega
    have t4:(j:Int)+1<(AQ:Int):=by omega
    have t5:(j:Int)<(AQ:Int):=by omega
    have t6:(0:Int)<(j:Int)+1:=by omega
    have t7:decide (yt≤pj)=false:=by simp;omega
    cases c3:decide (JU=ys)
    case false=>
     have c3':(JU != ys)=true:=by rw[bne_iff_ne];exact of_decide_eq_false c3
     (go_wp2_with fail;go_quiet ((first|(go_at_call 48;exact Calls.AR (Aw _ _ _ _))|(go_at_call 106;exact Calls.AR (Bw _ _))));go_wp2;go_ret)
     exact⟨Ar ((Fin.out _ rfl).1 (by rw[DB.out];simp[c3])),(by exact AA)⟩
    have c3':(JU != ys)=false:=by rw[bne_eq_false_iff_eq];exact of_decide_eq_true c3
    cases c4:(ys==0)
    case true=>
     (go_wp2_with fail;go_quiet ((first|(go_at_call 48;exact Calls.AR (Aw _ _ _ _))|(go_at_call 106;exact Calls.AR (Bw _ _))));go_wp2;go_ret)
     exact⟨Ar ((Fin.out _ rfl).1 (by rw[DB.out];simp[(show ys=0 by simpa using c4)])),(by exact AA)⟩
    cases ru
    case true=>
     (go_wp2_with fail;go_quiet ((first|(go_at_call 48;exact Calls.AR (Aw _ _ _ _))|(go_at_call 106;exact Calls.AR (Bw _ _))));go_wp2;go_ret)
     exact⟨Ar ((Fin.out _ rfl).1 (by rw[DB.out];simp[])),(by exact AA)⟩
    cases c6:Sw.Br yp 1 (Sw.C9 rf)
    case false=>
     (go_wp2_with fail;go_quiet ((first|(go_at_call 48;exact Calls.AR (Aw _ _ _ _))|(go_at_call 106;exact Calls.AR (Bw _ _))));go_wp2;go_ret)
     exact⟨Ar ((Fin.out _ rfl).1 (by rw[DB.out];simp[c6])),(by exact AA)⟩
    have fe:ys≠0:=by simpa using c4
    have C4:=Lib.hid fe
    clear fe
    by_cases b0:yb=0
    ·have b1:(yb==0)=true:=by simp[b0]
     have b2:(yb != 0)=false:=by simp[b0]
     have B0:=Lib.hid b0
     clear b0
     by_cases d0:yd=0
     ·have d1:(yd != 0)=false:=by simp[d0]
      have D0:=Lib.hid d0
      clear d0
      (go_wp2_with fail;go_quiet ((first|(go_at_call 48;exact Calls.AR (Aw _ _ _ _))|(go_at_call 106;exact Calls.AR (Bw _ _))));go_wp2_with (go_at_call 48;refine (Aw _ _ _ _).mono ?_;rintro E w' ⟨rfl,rfl⟩))
      exact⟨⟨j+1+1,yt,by omega,by go_num,(by exact AA),Xd.out,(Fin.out _ rfl).2 (by rw[DB.out];simp[c3,c6,GZ,B0.out,D0.out,C4.out] <;> first|done|omega)⟩,by simp[intOf];omega⟩
     ·have d1:(yd != 0)=true:=by simp[d0]
      have D0:=Lib.hid d0
      clear d0
      (go_wp2_with fail;go_quiet ((first|(go_at_call 48;exact Calls.AR (Aw _ _ _ _))|(go_at_call 106;exact Calls.AR (Bw _ _))));go_wp2_with (go_at_call 48;refine (Aw _ _ _ _).mono ?_;rintro E w' ⟨rfl,rfl⟩))
      (go_ret;exact⟨Ar ((Fin.out _ rfl).1 (by rw[DB.out];simp[GZ,B0.out,D0.out,C4.out])),(by exact AA)⟩)
    have b1:(yb==0)=false:=by simp[b0]
    have b2:(yb != 0)=true:=by simp[b0]
    have B0:=Lib.hid b0
    clear b0
    cases c7:Sw.Br yb 1 5
    case false=>
     (go_wp2_with fail;go_quiet ((first|(go_at_call 48;exact Calls.AR (Aw _ _ _ _))|(go_at_call 106;exact Calls.AR (Bw _ _))));go_wp2_with (go_at_call 48;refine (Aw _ _ _ _).mono ?_;rintro E w' ⟨rfl,rfl⟩))
     (go_ret;exact⟨Ar ((Fin.out _ rfl).1 (by rw[DB.out];simp[GZ,B0.out,c7])),(by exact AA)⟩)
    by_cases d0:yb=ys
    ·have d1:(yb==ys)=true:=by simp[d0]
     have D0:=Lib.hid d0
     clear d0
     (go_wp2_with fail;go_quiet ((first|(go_at_call 48;exact Calls.AR (Aw _ _ _ _))|(go_at_call 106;exact Calls.AR (Bw _ _))));go_wp2_with (go_at_call 48;refine (Aw _ _ _ _).mono ?_;rintro E w' ⟨rfl,rfl⟩))
     (go_ret;exact⟨Ar ((Fin.out _ rfl).1 (by rw[DB.out];simp[GZ,B0.out,D0.out,C4.out])),(by exact AA)⟩)
    have d1:(yb==ys)=false:=by simp[d0]
    have D0:=Lib.hid d0
    clear d0
    cases c9:Sw.Br yd m.clock (m.clock+5)
    case false=>
     (go_wp2_with fail;go_quiet ((first|(go_at_call 48;exact Calls.AR (Aw _ _ _ _))|(go_at_call 106;exact Calls.AR (Bw _ _))));go_wp2_with (go_at_call 48;refine (Aw _ _ _ _).mono ?_;rintro E w' ⟨rfl,rfl⟩))
     (go_ret;exact⟨Ar ((Fin.out _ rfl).1 (by rw[DB.out];simp[GZ,B0.out,c9])),(by exact AA)⟩)
    (go_wp2_with fail;go_quiet ((first|(go_at_call 48;exact Calls.AR (Aw _ _ _ _))|(go_at_call 106;exact Calls.AR (Bw _ _))));go_wp2_with (go_at_call 48;refine (Aw _ _ _ _).mono ?_;rintro E w' ⟨rfl,rfl⟩))
    exact⟨⟨j+1+1,yt,by omega,by go_num,(by exact AA),Xd.out,(Fin.out _ rfl).2 (by rw[DB.out];simp[c3,c6,GZ,B0.out,D0.out,C4.out,c7,c9] <;> first|done|omega)⟩,by simp[intOf];omega⟩
  ·rw[List.drop_of_length_le (by have:=l3.out;omega)] at hrel
   have hdk:Sw.QM m.clock rows m.AJ:=Sw.LZ.1 hrel
   have hS:=Sw.SF g1
   have hH:=Sw.JB hdk.1
   rw[← Sw.K4 hdk (by have:=l3.out;omega),← l3.out] at hH
   have hsum:IntKind.i64.wrap (Sw.DV m.Ai+Sw.Ef m)=Sw.DV m.Ai+Sw.Ef m:=by
    rw[IntWalk.i64_in _ (by unfold Sw.Ef;omega)]
   have lC:=Lib.hid hsum
   have BI:=Lib.hid hrel;clear hrel hp hdk hS hH hsum
   go_wp2_with fail
   go_loopw [7] (fun i wx=>∃ (k:Nat),k≤5∧i=.int .i64 k∧Ex w1 wx∧Sw.GR m.nums m.said=Sw.GR (m.nums.drop k) (m.said.drop k)) (fun i _=>5-(intOf i).toNat)
   case atStart=>exact⟨0,Nat.zero_le _,rfl,AA,rfl⟩
   case round=>
    obtain⟨k',hk',rfl,hb3,hrel⟩:=hrel
    have hst:=xr hb3
    obtain⟨hc3,hf3,hz3⟩:=hst
    by_cases hlt':k'<5
    ·obtain⟨gn,tL,a,rfl,ui,hgn,hdn,hyn,hcn⟩:=G8 m4 hlt'
     obtain⟨gs,tJ,b,rfl,hgs0,hgs,hds,hys,hcs⟩:=G8 m5 hlt'
     rw[SC hdn hds] at hrel
     have HN:=Lib.hid hrel
     clear hdn hyn hds hys hrel
     cases c1:Sw.Br a 0 99999
     case false=>
      go_wp2_with fail
      go_quiet ((go_at_call 48;exact Calls.AR (Aw _ _ _ _)))
      go_wp2
      go_ret
      exact⟨Ar (by rw[HE.out,HN.out,Sw.J6,c1];simp),AA⟩
     cases c2:Sw.Br b 0 6
     case false=>
      go_wp2_with fail
      go_quiet ((go_at_call 48;exact Calls.AR (Aw _ _ _ _)))
      go_wp2
      go_ret
      exact⟨Ar (by rw[HE.out,HN.out,Sw.J6,c2];simp),AA⟩
     cases c3:(a==0)
     all_goals cases c4:(b==0)
     all_goals
      go_wp2_with fail
      go_quiet ((go_at_call 48;exact Calls.AR (Aw _ _ _ _)))
      go_wp2
      first
       | exact⟨⟨k'+1,by omega,by go_num,AA,by rw[HN.out,Sw.J6,c1,c2,← Em,← Em,c3,c4];simp⟩,by simp[intOf];omega⟩|(go_ret;exact⟨Ar (by rw[HE.out,HN.out,Sw.J6,← Em,← Em,c3,c4];simp),AA⟩)
    ·have HN:=Lib.hid hrel;clear hrel
     go_wp2_with fail
     (refine CF fun W0 hb0 hc0 hf0 hz0=>?_;go_region_held3 (fun w'=>Held W0 w') ((exact FU)) ((first|(go_at_call 107;apply Calls.mono;apply PT;(exact Co);rintro E w' ⟨rfl,rfl⟩)|(go_at_call 108;apply Calls.mono;apply VX;((apply RM.A8;assumption);exact AO);rintro E w1 ⟨rfl,hb⟩;obtain⟨hc,hf,hz⟩:=xy hb)));all_goals (obtain⟨hb,hc,hf,hz⟩:=xh (by assumption:Held W0 _)))
     go_wp2
     go_ret
     refine⟨Ar ?_,AA⟩
     rw[HE.out,HN.out,BI.out,List.drop_of_length_le (by have:=l4.out;omega),lC.out]
     simp[Sw.FP,Sw.GR]
end Go.Proofs.YtgaflnpmilikcaaGreat
