/-
 Walk: the law Ww.
-/
import Derived.Test.YtgaflnpmilikcaaGreatPx52
import Derived.Test.YtgaflnpmilikcaaGreatPx6
set_option maxRecDepth 100000
set_option linter.unusedSimpArgs false
set_option linter.unusedVariables false
namespace Go.Proofs.YtgaflnpmilikcaaGreat
open Go.RowKit Go
set_option maxHeartbeats 20000000
theorem Rb (A:Option Addr) (c n:Nat) (bs:List Int) (w:World) (hxs:RB w 0 A c n bs) (hq:∀ x∈bs,0≤x∧x≤255):Calls Tryz.prog 5 #[.slice A n c] w fun E w'=>E=.returned (.bool true)∧Ex w w':=by
 have hbig:=Rs.big hxs
 by_cases hn:n≤1048576
 case neg=>
  go_enter Tryz.func5,Tryz.ntmps5
  go_wp2_with fail
  go_ret
  exact⟨rfl,AA⟩
 go_enter Tryz.func5,Tryz.ntmps5
 go_wp2_with fail
 apply Calls.mono
 apply GQ
 ·apply Rs.A8 hxs;(exact AO)
 ·exact hq
 rintro E w1 ⟨aF,BD,A_,aL,Ae,AU,aP,Ag,AY,aD,Ac,AQ,aN,Ad,Aa,aS,Af,Ab,aI,BF,A7,aG,BA,Az,aB,aBc,Ao,z,e,rfl,hz1,hzn,hb⟩
 obtain⟨hc,hf,hz⟩:=xy hb
 clear hxs hq
 go_upto_region 4 with fail
 (refine CF fun W0 hb0 hc0 hf0 hz0=>?_)
 have hA:Fw W0 w1.heap.size aF BD A_ aL Ae AU aP Ag AY aD Ac AQ aN Ad Aa aS Af Ab aI BF A7 aG BA Az aB aBc Ao z.AB.clock:=Fw.new
 have hV:K_ W0 (w1.heap.size+1) e:=K_.new
 have hk1:KF 0 w1 W0:=AO
 have hg1:w1.heap.size≤w1.heap.size:=Nat.le_refl _
 have hg0:w.heap.size≤w1.heap.size:=hb.size
 have HE:Mq w W0:=⟨AA⟩
 generalize hgw:w1.heap.size=gw at hA hV hg0 ⊢
 rw[hgw] at hg1
 replace hg1:w1.heap.size≤gw:=Nat.le_of_eq hgw
 clear hgw hb hb0 hc hc0 hf hf0 hz hz0
 have J9:=Lib.hid hk1
 ((repeat (rename Ch _ _ _=>zz;clear zz));(repeat (rename Be _ _ _=>zz;clear zz));(repeat (rename (∀ (b o:Nat),¬((⟨b,0,none⟩:Addr)=⟨b-_+_,0,none⟩)→_)=>zz;clear zz)))
 have hk1:=J9.out
 clear J9
 have hb:=HE.out
 clear HE
 obtain⟨Wd,hWd⟩:∃ z,z=W0:=⟨_,rfl⟩
 subst hWd
 have D8:RW Wd 0 aF BD A_ aL Ae AU aP Ag AY aD Ac AQ aN Ad Aa aS Af Ab aI BF A7 aG BA Az aB aBc Ao z:=hz1.keep hk1
 clear hz1 hk1
 obtain⟨X,hX0⟩:∃ X,X=Sw.Cg z e:=⟨_,rfl⟩
 have HX:=Lib.hid hX0
 have jE:(X.2 != X.2)=false:=by simp
 clear hX0
 obtain⟨Wq,CE⟩:∃ z,z=Wd:=⟨_,rfl⟩
 subst CE
 have HB:Mq w Wq:=⟨hb⟩
 have HA:=Lib.hid hA
 have HV:=Lib.hid hV
 obtain⟨a0,a1,a2,a3,a4,a5,a6,a7,a8,a9,KG,af⟩:=hA
 obtain⟨v0,v1,v2,v3,v4,v5,v6,v7,v8,v9,v10,vf⟩:=hV
 clear hb
 go_upto_region 5 with (go_at_call 20;apply Calls.mono;apply (Gq (x:=z) (e:=e));(apply RW.A8 D8;(exact AO));rintro E w2 ⟨bF,Di,DZ,bL,Bg,BR,bP,Bf,BV,bD,Bh,Ba,bN,Bd,Bb,bS,Bc,BZ,bI,Dg,bIn,bG,Dh,DL,bB,Dj,Cy,τ2,rfl,hox,hb⟩;rw[← HX.out] at hox;rw[← HX.out];obtain⟨hc,hf,hz⟩:=xy hb)
 (refine CF fun W0 hb0 hc0 hf0 hz0=>?_)
 have hX:Fw W0 w2.heap.size bF Di DZ bL Bg BR bP Bf BV bD Bh Ba bN Bd Bb bS Bc BZ bI Dg bIn bG Dh DL bB Dj Cy X.1.AB.clock:=Fw.new
 have hxw:RW W0 0 bF Di DZ bL Bg BR bP Bf BV bD Bh Ba bN Bd Bb bS Bc BZ bI Dg bIn bG Dh DL bB Dj Cy X.1:=(hox.JU.keep AO).less (Nat.zero_le _)
 have hE1:Ex Wq W0:=AA
 have HA:=Lib.hid (HA.out.ex hE1)
 have HV:=Lib.hid (HV.out.ex hE1)
 have D8:RW W0 0 aF BD A_ aL Ae AU aP Ag AY aD Ac AQ aN Ad Aa aS Af Ab aI BF A7 aG BA Az aB aBc Ao z:=D8.A8 (by exact kE hE1 (kR _ _))
 have HB:Mq w W0:=⟨Ch.trans' HB.out hE1 (fun _ _ h=>h)⟩
 obtain⟨gx,hgx⟩:∃ g,g=w2.heap.size:=⟨_,rfl⟩
 rw[← hgx] at hX
 (try rw[← hgx])
 clear hgx hb hb0 hc hc0 hf hf0 hz hz0 hox hE1 a0 a1 a2 a3 a4 a5 a6 a7 a8 a9 KG af v0 v1 v2 v3 v4 v5 v6 v7 v8 v9 v10 vf
 ((repeat (rename Ch _ _ _=>zz;clear zz));(repeat (rename Be _ _ _=>zz;clear zz));(repeat (rename (∀ (b o:Nat),¬((⟨b,0,none⟩:Addr)=⟨b-_+_,0,none⟩)→_)=>zz;clear zz)))
 obtain⟨Wp,YD⟩:∃ z,z=W0:=⟨_,rfl⟩
 subst YD
 have HP:=Lib.hid hX
 obtain⟨a0,a1,a2,a3,a4,a5,a6,a7,a8,a9,KG,af⟩:=HA.out
 obtain⟨v0,v1,v2,v3,v4,v5,v6,v7,v8,v9,v10,vf⟩:=HV.out
 obtain⟨x0,x1,x2,x3,x4,x5,x6,x7,x8,x9,x10,xf⟩:=hX
 go_upto_region 8 with (first|(go_at_call 25;apply Calls.mono;apply (I8 (x:=z) (e:=e));(apply RW.A8 D8;(exact AO));rintro E w3 ⟨vF,l7,l6,vL,lZ,lY,vP,lV,lU,vD,l9,l8,vN,lX,lW,vS,lT,lS,vI,lq,lh,vG,lv,lu,vB,mD,l_,rfl,hoy,hb⟩;rw[← HX.out] at hoy;rw[← HX.out];obtain⟨hc,hf,hz⟩:=xy hb)|(go_at_call 13;apply Calls.mono;apply (Dv (x:=X.1) (y:=X.1));(apply RW.A8 hxw;(exact AO));(apply RW.A8 hoy;(exact AO));rintro E w4 ⟨rfl,hb⟩;rw[show decide (X.1=X.1)=true from decide_eq_true rfl];obtain⟨hc,hf,hz⟩:=xy hb))
 (refine CF fun W0 hb0 hc0 hf0 hz0=>?_)
 have hE1:Ex Wp W0:=AA
 have HA:=Lib.hid (HA.out.ex hE1)
 have HV:=Lib.hid (HV.out.ex hE1)
 have HP:=Lib.hid (HP.out.ex hE1)
 have D8:RW W0 0 aF BD A_ aL Ae AU aP Ag AY aD Ac AQ aN Ad Aa aS Af Ab aI BF A7 aG BA Az aB aBc Ao z:=D8.A8 (by exact kE hE1 (kR _ _))
 have hxw:RW W0 0 bF Di DZ bL Bg BR bP Bf BV bD Bh Ba bN Bd Bb bS Bc BZ bI Dg bIn bG Dh DL bB Dj Cy X.1:=hxw.A8 (by exact kE hE1 (kR _ _))
 have hb:=Ch.trans' HB.out hE1 (fun _ _ h=>h)
 clear HB hb0 hc hc0 hf hf0 hz hz0 hoy hE1 a0 a1 a2 a3 a4 a5 a6 a7 a8 a9 KG af v0 v1 v2 v3 v4 v5 v6 v7 v8 v9 v10 vf x0 x1 x2 x3 x4 x5 x6 x7 x8 x9 x10 xf
 have HB:Mq w W0:=⟨hb⟩
 clear hb
 ((repeat (rename Ch _ _ _=>zz;clear zz));(repeat (rename Be _ _ _=>zz;clear zz));(repeat (rename (∀ (b o:Nat),¬((⟨b,0,none⟩:Addr)=⟨b-_+_,0,none⟩)→_)=>zz;clear zz)))
 have hb:=HB.out
 clear HB
 obtain⟨Wq,CE⟩:∃ z,z=W0:=⟨_,rfl⟩
 subst CE
 obtain⟨a0,a1,a2,a3,a4,a5,a6,a7,a8,a9,KG,af⟩:=HA.out
 obtain⟨v0,v1,v2,v3,v4,v5,v6,v7,v8,v9,v10,vf⟩:=HV.out
 obtain⟨x0,x1,x2,x3,x4,x5,x6,x7,x8,x9,x10,xf⟩:=HP.out
 have hX:=HX.out
 cases g:Sw.Cc z
 ·rw[Jy g] at hX
  have HZ:=Lib.hid (show X.1=Sw.Cz by rw[hX])
  clear hX
  go_wp2_with (first|(go_at_call 16;refine (Ie _).mono ?_;rintro E w' ⟨rfl,rfl⟩)|(go_at_call 15;apply Calls.mono;apply (CW (x:=z));(apply RW.A8 D8;(exact AO));rintro E w6 ⟨rfl,hb⟩;rw[g];obtain⟨hc,hf,hz⟩:=xy hb)|(go_at_call 13;apply Calls.mono;apply (Fz (x:=X.1));(apply RW.A8 hxw;(exact AO));rintro E w7 ⟨rfl,hb⟩;rw[show decide (X.1=Sw.Cz)=true from decide_eq_true HZ.out];obtain⟨hc,hf,hz⟩:=xy hb))
  go_ret
  exact⟨rfl,AA⟩
 ·clear hX
  have HB:=Lib.hid hb
  have HG:=Lib.hid g
  go_wp2_with (go_at_call 15;apply Calls.mono;apply (CW (x:=z));(apply RW.A8 D8;(exact AO));rintro E w6 ⟨rfl,hb⟩;rw[g];obtain⟨hc,hf,hz⟩:=xy hb)
  go_loopw [9] (fun i wr=>∃ k:Nat,k≤12∧i=.int .i64 k∧Ex Wq wr) (fun i _=>12-(intOf i).toNat)
  case atStart=>exact⟨0,by omega,rfl,AA⟩
  case round=>
   clear hb hc hf hz g
   obtain⟨k,hk,rfl,hb2⟩:=hrel
   have hst:=xr hb2
   (try simp only[BO] at hst)
   obtain⟨hc2,hf2,hz2⟩:=hst
   by_cases hlt:k<12
   ·have t2:(k:Int)<12:=by omega
    by_cases hk2:k=2∨k=3
    ·have HK:=Lib.hid (show ((k:Int) != 2&&(k:Int) != 3)=false by rcases hk2 with rfl|rfl <;> rfl)
     rcases hk2 with rfl|rfl
     all_goals
      go_wp2_with (go_at_call 20;apply Calls.mono;apply (MN (x:=z));(apply RW.A8 D8;(exact AO));rintro E w8 ⟨dF,GL,F8,dL,Ep,Ec,dP,Eo,Eg,dD,Er,Ed,dN,Ej,Eb,dS,Ei,Ea,dI,GJ,Fj,dG,GK,Fv,dB,GN,Fq,τ8,rfl,hod,hb⟩;obtain⟨hc,hf,hz⟩:=xy hb)
      go_roundw
      case rel=>first|exact⟨3,by omega,rfl,AA⟩|exact⟨4,by omega,rfl,AA⟩
      case measure=>simp[intOf]
    ·have n2:((k:Int) != 2)=true:=by simp;omega
     have n3:((k:Int) != 3)=true:=by simp;omega
     have HN:=Lib.hid (Sw.Sz HG.out (k:=(k:Int)) (by omega) (by omega))
     go_wp2_with (first|(go_at_call 20;apply Calls.mono;apply (MN (x:=z) (k:=(k:Int)) (i:=9) (t:=0) (u:=0));(apply RW.A8 D8;(exact AO));rintro E w8 ⟨dF,GL,F8,dL,Ep,Ec,dP,Eo,Eg,dD,Er,Ed,dN,Ej,Eb,dS,Ei,Ea,dI,GJ,Fj,dG,GK,Fv,dB,GN,Fq,τ8,rfl,hod,hb⟩;rw[HN.out] at hod;rw[HN.out];obtain⟨hc,hf,hz⟩:=xy hb)|(go_at_call 13;apply Calls.mono;apply (Dv (x:=z) (y:=z));(apply RW.A8 hod.JU;(exact AO));(apply RW.A8 D8;(exact AO));rintro E w9 ⟨rfl,hb⟩;rw[show decide (z=z)=true from decide_eq_true rfl];obtain⟨hc,hf,hz⟩:=xy hb))
     go_roundw
     case rel=>exact⟨k+1,by omega,by go_num,AA⟩
     case measure=>simp[intOf];omega
   ·obtain rfl:k=12:=by omega
    go_wp2_with (go_at_call 16;refine (Ie _).mono ?_;rintro E w' ⟨rfl,rfl⟩)
    go_ret
    exact⟨rfl,Ch.trans' HB.out (by exact AA) (fun _ _ h=>h)⟩
end Go.Proofs.YtgaflnpmilikcaaGreat
