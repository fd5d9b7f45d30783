/-
 Walk: the law kg.
-/
import Derived.Test.YtgaflnpmilikcaaGreatPx52
import Derived.Test.YtgaflnpmilikcaaGreatPx6
set_option maxRecDepth 100000
set_option linter.unusedSimpArgs false
set_option linter.unusedVariables false
namespace Go.Proofs.YtgaflnpmilikcaaGreat
open Go.RowKit Go
set_option maxHeartbeats 20000000
theorem WZ (A:Option Addr) (c n:Nat) (bs:List Int) (w:World) (hxs:RB w 0 A c n bs) (hq:∀ x∈bs,0≤x∧x≤255):Calls Tryz.prog 6 #[.slice A n c] w fun E w'=>E=.returned (.bool true)∧Ex w w':=by
 have hbig:=Rs.big hxs
 by_cases hn:n≤1048576
 case neg=>
  go_enter Tryz.func6,Tryz.ntmps6
  go_wp2_with fail
  go_ret
  exact⟨rfl,AA⟩
 go_enter Tryz.func6,Tryz.ntmps6
 go_wp2_with fail
 apply Calls.mono
 apply GQ
 ·apply Rs.A8 hxs;(exact AO)
 ·exact hq
 rintro E w1 ⟨aF,BD,A_,aL,Ae,AU,aP,Ag,AY,aD,Ac,AQ,aN,Ad,Aa,aS,Af,Ab,aI,BF,A7,aG,BA,Az,aB,aBc,Ao,z,e,rfl,hz1,hzn,hb⟩
 obtain⟨hc,hf,hz⟩:=xy hb
 clear hxs hq
 go_upto_region 4 with fail
 (refine CF fun W0 hb0 hc0 hf0 hz0=>?_)
 have hA:Fw W0 w1.heap.size aF BD A_ aL Ae AU aP Ag AY aD Ac AQ aN Ad Aa aS Af Ab aI BF A7 aG BA Az aB aBc Ao z.AB.clock:=Fw.new
 have hV:K_ W0 (w1.heap.size+1) e:=K_.new
 have hk1:KF 0 w1 W0:=AO
 have hg1:w1.heap.size≤w1.heap.size:=Nat.le_refl _
 have hg0:w.heap.size≤w1.heap.size:=hb.size
 have HE:Mq w W0:=⟨AA⟩
 generalize hgw:w1.heap.size=gw at hA hV hg0 ⊢
 rw[hgw] at hg1
 replace hg1:w1.heap.size≤gw:=Nat.le_of_eq hgw
 clear hgw hb hb0 hc hc0 hf hf0 hz hz0
 have J9:=Lib.hid hk1
 ((repeat (rename Ch _ _ _=>zz;clear zz));(repeat (rename Be _ _ _=>zz;clear zz));(repeat (rename (∀ (b o:Nat),¬((⟨b,0,none⟩:Addr)=⟨b-_+_,0,none⟩)→_)=>zz;clear zz)))
 have hk1:=J9.out
 clear J9
 have hb:=HE.out
 clear HE
 obtain⟨Wd,hWd⟩:∃ z,z=W0:=⟨_,rfl⟩
 subst hWd
 have D8:RW Wd 0 aF BD A_ aL Ae AU aP Ag AY aD Ac AQ aN Ad Aa aS Af Ab aI BF A7 aG BA Az aB aBc Ao z:=hz1.keep hk1
 clear hz1 hk1
 obtain⟨X,hX0⟩:∃ X,X=Sw.Cg z e:=⟨_,rfl⟩
 have HX:=Lib.hid hX0
 have jE:(X.2 != X.2)=false:=by simp
 clear hX0
 obtain⟨Wq,CE⟩:∃ z,z=Wd:=⟨_,rfl⟩
 subst CE
 have HB:Mq w Wq:=⟨hb⟩
 have HA:=Lib.hid hA
 have HV:=Lib.hid hV
 obtain⟨a0,a1,a2,a3,a4,a5,a6,a7,a8,a9,KG,af⟩:=hA
 obtain⟨v0,v1,v2,v3,v4,v5,v6,v7,v8,v9,v10,vf⟩:=hV
 clear hb
 go_upto_region 5 with (go_at_call 20;apply Calls.mono;apply (Gq (x:=z) (e:=e));(apply RW.A8 D8;(exact AO));rintro E w2 ⟨bF,Di,DZ,bL,Bg,BR,bP,Bf,BV,bD,Bh,Ba,bN,Bd,Bb,bS,Bc,BZ,bI,Dg,bIn,bG,Dh,DL,bB,Dj,Cy,τ2,rfl,hox,hb⟩;rw[← HX.out] at hox;rw[← HX.out];obtain⟨hc,hf,hz⟩:=xy hb)
 (refine CF fun W0 hb0 hc0 hf0 hz0=>?_)
 have hX:Fw W0 w2.heap.size bF Di DZ bL Bg BR bP Bf BV bD Bh Ba bN Bd Bb bS Bc BZ bI Dg bIn bG Dh DL bB Dj Cy X.1.AB.clock:=Fw.new
 have hxw:RW W0 0 bF Di DZ bL Bg BR bP Bf BV bD Bh Ba bN Bd Bb bS Bc BZ bI Dg bIn bG Dh DL bB Dj Cy X.1:=(hox.JU.keep AO).less (Nat.zero_le _)
 have hE1:Ex Wq W0:=AA
 have HA:=Lib.hid (HA.out.ex hE1)
 have HV:=Lib.hid (HV.out.ex hE1)
 have D8:RW W0 0 aF BD A_ aL Ae AU aP Ag AY aD Ac AQ aN Ad Aa aS Af Ab aI BF A7 aG BA Az aB aBc Ao z:=D8.A8 (by exact kE hE1 (kR _ _))
 have HB:Mq w W0:=⟨Ch.trans' HB.out hE1 (fun _ _ h=>h)⟩
 obtain⟨gx,hgx⟩:∃ g,g=w2.heap.size:=⟨_,rfl⟩
 rw[← hgx] at hX
 (try rw[← hgx])
 clear hgx hb hb0 hc hc0 hf hf0 hz hz0 hox hE1 a0 a1 a2 a3 a4 a5 a6 a7 a8 a9 KG af v0 v1 v2 v3 v4 v5 v6 v7 v8 v9 v10 vf
 ((repeat (rename Ch _ _ _=>zz;clear zz));(repeat (rename Be _ _ _=>zz;clear zz));(repeat (rename (∀ (b o:Nat),¬((⟨b,0,none⟩:Addr)=⟨b-_+_,0,none⟩)→_)=>zz;clear zz)))
 obtain⟨Wp,YD⟩:∃ z,z=W0:=⟨_,rfl⟩
 subst YD
 have HP:=Lib.hid hX
 obtain⟨a0,a1,a2,a3,a4,a5,a6,a7,a8,a9,KG,af⟩:=HA.out
 obtain⟨v0,v1,v2,v3,v4,v5,v6,v7,v8,v9,v10,vf⟩:=HV.out
 obtain⟨x0,x1,x2,x3,x4,x5,x6,x7,x8,x9,x10,xf⟩:=hX
 go_upto_region 8 with (first|(go_at_call 25;apply Calls.mono;apply (I8 (x:=z) (e:=e));(apply RW.A8 D8;(exact AO));rintro E w3 ⟨vF,l7,l6,vL,lZ,lY,vP,lV,lU,vD,l9,l8,vN,lX,lW,vS,lT,lS,vI,lq,lh,vG,lv,lu,vB,mD,l_,rfl,hoy,hb⟩;rw[← HX.out] at hoy;rw[← HX.out];obtain⟨hc,hf,hz⟩:=xy hb)|(go_at_call 13;apply Calls.mono;apply (Dv (x:=X.1) (y:=X.1));(apply RW.A8 hxw;(exact AO));(apply RW.A8 hoy;(exact AO));rintro E w4 ⟨rfl,hb⟩;rw[show decide (X.1=X.1)=true from decide_eq_true rfl];obtain⟨hc,hf,hz⟩:=xy hb))
 (refine CF fun W0 hb0 hc0 hf0 hz0=>?_)
 have hE1:Ex Wp W0:=AA
 have HA:=Lib.hid (HA.out.ex hE1)
 have HV:=Lib.hid (HV.out.ex hE1)
 have HP:=Lib.hid (HP.out.ex hE1)
 have D8:RW W0 0 aF BD A_ aL Ae AU aP Ag AY aD Ac AQ aN Ad Aa aS Af Ab aI BF A7 aG BA Az aB aBc Ao z:=D8.A8 (by exact kE hE1 (kR _ _))
 have hxw:RW W0 0 bF Di DZ bL Bg BR bP Bf BV bD Bh Ba bN Bd Bb bS Bc BZ bI Dg bIn bG Dh DL bB Dj Cy X.1:=hxw.A8 (by exact kE hE1 (kR _ _))
 have hb:=Ch.trans' HB.out hE1 (fun _ _ h=>h)
 clear HB hb0 hc hc0 hf hf0 hz hz0 hoy hE1 a0 a1 a2 a3 a4 a5 a6 a7 a8 a9 KG af v0 v1 v2 v3 v4 v5 v6 v7 v8 v9 v10 vf x0 x1 x2 x3 x4 x5 x6 x7 x8 x9 x10 xf
 have HB:Mq w W0:=⟨hb⟩
 clear hb
 ((repeat (rename Ch _ _ _=>zz;clear zz));(repeat (rename Be _ _ _=>zz;clear zz));(repeat (rename (∀ (b o:Nat),¬((⟨b,0,none⟩:Addr)=⟨b-_+_,0,none⟩)→_)=>zz;clear zz)))
 have hb:=HB.out
 clear HB
 obtain⟨Wq,CE⟩:∃ z,z=W0:=⟨_,rfl⟩
 subst CE
 obtain⟨a0,a1,a2,a3,a4,a5,a6,a7,a8,a9,KG,af⟩:=HA.out
 obtain⟨v0,v1,v2,v3,v4,v5,v6,v7,v8,v9,v10,vf⟩:=HV.out
 obtain⟨x0,x1,x2,x3,x4,x5,x6,x7,x8,x9,x10,xf⟩:=HP.out
 have hX:=HX.out
 cases g:Sw.Cc z
 ·rw[Jy g] at hX
  have HZ:=Lib.hid (show X.1=Sw.Cz by rw[hX])
  have hx2:(X.2==0)=true:=by rw[hX];rfl
  clear hX
  go_wp2_with (first|(go_at_call 16;refine (Ie _).mono ?_;rintro E w' ⟨rfl,rfl⟩)|(go_at_call 15;apply Calls.mono;apply (CW (x:=z));(apply RW.A8 D8;(exact AO));rintro E w6 ⟨rfl,hb⟩;rw[g];obtain⟨hc,hf,hz⟩:=xy hb)|(go_at_call 13;apply Calls.mono;apply (Fz (x:=X.1));(apply RW.A8 hxw;(exact AO));rintro E w7 ⟨rfl,hb⟩;rw[show decide (X.1=Sw.Cz)=true from decide_eq_true HZ.out];obtain⟨hc,hf,hz⟩:=xy hb))
  go_ret
  exact⟨rfl,AA⟩
 rw[Km g] at hX
 by_cases hk:e.kind=1
 case neg=>
  have hk':(e.kind != 1)=true:=by simpa using hk
  clear hX hk
  go_wp2_with (first|(go_at_call 16;refine (Ie _).mono ?_;rintro E w' ⟨rfl,rfl⟩)|(go_at_call 15;apply Calls.mono;apply (CW (x:=z));(apply RW.A8 D8;(exact AO));rintro E w6 ⟨rfl,hb⟩;rw[g];obtain⟨hc,hf,hz⟩:=xy hb))
  go_ret
  exact⟨rfl,AA⟩
 have hk':(e.kind != 1)=false:=by simpa using hk
 rw[Sw.ic hk] at hX
 by_cases hno:Sw.CR e.EK=false∨z.lines.length=300
 ·rw[Sw.fq hno] at hX
  have HZ:=Lib.hid (show X.1=z by rw[hX])
  have hx2:(X.2==0)=true:=by rw[hX];rfl
  have hlen:A7=z.lines.length:=D8.lines.1
  have hno':Sw.CR e.EK=false∨(Sw.CR e.EK=true∧((A7:Int)==300)=true):=by
   cases hr:Sw.CR e.EK
   ·exact .inl rfl
   ·rcases hno with h|h
    ·rw[h] at hr;cases hr
    ·exact .inr ⟨rfl,by rw[hlen,h];rfl⟩
  clear hX hk hno hlen
  rcases hno' with hr | ⟨hr,hl⟩
  all_goals
   go_wp2_with (first|(go_at_call 16;refine (Ie _).mono ?_;rintro E w' ⟨rfl,rfl⟩)|(go_at_call 15;apply Calls.mono;apply (CW (x:=z));(apply RW.A8 D8;(exact AO));rintro E w6 ⟨rfl,hb⟩;rw[g];obtain⟨hc,hf,hz⟩:=xy hb)|(go_at_call 26;refine (JJ e.EK _).mono ?_;rintro E w7 ⟨rfl,hb⟩;rw[hr];obtain⟨hc,hf,hz⟩:=xy hb)|(go_at_call 13;apply Calls.mono;apply (Dv (x:=X.1) (y:=z));(apply RW.A8 hxw;(exact AO));(apply RW.A8 D8;(exact AO));rintro E w8 ⟨rfl,hb⟩;rw[show decide (X.1=z)=true from decide_eq_true HZ.out];obtain⟨hc,hf,hz⟩:=xy hb))
   go_ret
   exact⟨rfl,AA⟩
 have hr:Sw.CR e.EK=true:=by
  cases hh:Sw.CR e.EK
  ·exact absurd (.inl hh) hno
  ·rfl
 have hl:z.lines.length≠300:=fun h=>hno (.inr h)
 have hl':((A7:Int)==300)=false:=by have:=D8.lines.1;simp;omega
 obtain⟨k1,k2,k3,k4⟩:=Sw.fo g hr hl
 rw[← hX] at k1 k2 k3 k4
 obtain⟨y,hy⟩:∃ y,y=Sw.KN z.AB e.EK:=⟨_,rfl⟩
 rw[← hy] at k1 k2
 have HY:=Lib.hid hy
 have K1:=Lib.hid k1
 have k2':(X.2==y.2)=true:=by rw[k2];simp
 have hxg:=hxw.AV
 rw[k3] at hxg
 have hxm:=hxw.Dt
 have hzg:=D8.AV
 have ZT:=D8.Dt
 have hgl:Az=2:=by have h1:=hzg.len.1;have h2:=(Sw.Am.1 g).GU;omega
 have hbl:DL=2:=by have h1:=hxg.len.1;have h2:=(Sw.Am.1 g).GU;omega
 have hbb:Cy=Ao:=by have h1:=hxw.BS.len.1;have h2:=D8.BS.len.1;rw[k4] at h1;omega
 have jd:((Cy:Int)==(Ao:Int))=true:=by rw[hbb];simp
 have hlm:AU+AY+AQ+Aa+Ab≤1048576:=by have:=Fb D8 (Sw.Am.1 g);omega
 subst hgl hbl
 clear hX hk hno k1 k2 k3 k4 hy hl hbb
 go_upto_region 14 with (first|(go_at_call 15;apply Calls.mono;apply (CW (x:=z));(apply RW.A8 D8;(exact AO));rintro E w6 ⟨rfl,hb⟩;rw[g];obtain⟨hc,hf,hz⟩:=xy hb)|(go_at_call 26;refine (JJ e.EK _).mono ?_;rintro E w7 ⟨rfl,hb⟩;rw[hr];obtain⟨hc,hf,hz⟩:=xy hb)|(go_at_call 27;apply Calls.mono;apply (ZL (m:=z.AB) (r:=e.EK));(apply RM.A8 ZT;(exact AO));omega;rintro E w8 ⟨dL,Ep,Ec,dP,Eo,Eg,dD,Er,Ed,dN,Ej,Eb,dS,Ei,Ea,τ8,rfl,hod,hb⟩;rw[← HY.out] at hod;rw[← HY.out];obtain⟨hc,hf,hz⟩:=xy hb))
 (refine CF fun W0 hb0 hc0 hf0 hz0=>?_)
 have hM:Cs W0 w8.heap.size 0 dL Ep Ec dP Eo Eg dD Er Ed dN Ej Eb dS Ei Ea y.1.clock:=⟨Aq,Ak,Ak,Ak,Ak,Ak,Ak,fun i=>Ak⟩
 have hmd:RM W0 0 dL Ep Ec dP Eo Eg dD Er Ed dN Ej Eb dS Ei Ea y.1:=Cn.rE hod AO
 have hE1:Ex Wq W0:=AA
 have hA:=HA.out.ex hE1
 have hP:=HP.out.ex hE1
 have hzg:=hzg.A8 (by exact kE hE1 (kR _ _))
 have hxg:=hxg.A8 (by exact kE hE1 (kR _ _))
 have hxm:=hxm.A8 (by exact kE hE1 (kR _ _))
 have HE:Mq w W0:=⟨AA⟩
 clear a0 a1 a2 a3 a4 a5 a6 a7 a8 a9 KG af v0 v1 v2 v3 v4 v5 v6 v7 v8 v9 v10 vf x0 x1 x2 x3 x4 x5 x6 x7 x8 x9 x10 xf hb hb0 hc hc0 hf hf0 hz hz0 hod hE1 HV HA HP D8 hxw ZT
 ((repeat (rename Ch _ _ _=>zz;clear zz));(repeat (rename Be _ _ _=>zz;clear zz));(repeat (rename (∀ (b o:Nat),¬((⟨b,0,none⟩:Addr)=⟨b-_+_,0,none⟩)→_)=>zz;clear zz)))
 generalize w8.heap.size=gm at hM ⊢
 obtain⟨Wr,YC⟩:∃ z,z=W0:=⟨_,rfl⟩
 subst YC
 obtain⟨m0,m1,m2,m3,m4,m5,m6,mf⟩:=hM
 simp only[Nat.zero_add] at m1 m2 m3 m4 m5 m6
 obtain⟨a0,a1,a2,a3,a4,a5,a6,a7,a8,a9,KG,af⟩:=hA
 obtain⟨x0,x1,x2,x3,x4,x5,x6,x7,x8,x9,x10,xf⟩:=hP
 go_wp2_with fail
 go_loopw [11] (fun i wr=>∃ k:Nat,k≤2∧i=.int .i64 k∧Ex Wr wr) (fun i _=>2-(intOf i).toNat)
 case atStart=>exact⟨0,by omega,rfl,Ch.refl _ _⟩
 case round=>
  obtain⟨k,hk,rfl,hb2⟩:=hrel
  have hst:=xr hb2
  (try simp only[BO] at hst)
  obtain⟨hc2,hf2,hz2⟩:=hst
  by_cases hlt:k<2
  ·have t1:(0:Int)≤(k:Int):=by omega
   have t2:(k:Int)<2:=by omega
   have X5:=hzg.A8 (by exact kE hb2 (kR _ _))
   have dZ:=hxg.A8 (by exact kE hb2 (kR _ _))
   obtain⟨g1,o1,u,B1,d1,n1,rfl,hg0,hg,hd,hy,q0,q1,q2,q3,hr1⟩:=Ld X5 hlt
   obtain⟨g2,o2,u',B2,d2,n2,rfl,hg0',hg',hd',hy',p0,p1,p2,p3,hr2⟩:=Ld dZ hlt
   obtain rfl:u'=u:=Option.some.inj (hy'.symm.trans hy)
   clear hd hd' hy hy'
   go_wp2_with fail
   (focus (refine CF fun W0 hb0 hc0 hf0 hz0=>?_;refine Aj [] (S:=fun w'=>Held W0 w') DC (fun hHeld=>?_);(repeat' (first|(revert hK;intro hK;go_simp;(try ((go_at_call 28;apply Calls.mono;apply (Ho (t:=u'.head) (xs:=u'.done) (u:=u'.head) (ys:=u'.done));(apply Rs.A8 hr2;(exact AO));(apply Rs.A8 hr1;(exact AO));rintro E w9 ⟨rfl,hb⟩;rw[show (decide (u'.head=u'.head)&&decide (u'.done=u'.done))=true from by simp];obtain⟨hc,hf,hz⟩:=xy hb);(try go_wp2_with fail)));refine CQ hK DC (h:=?_);clear hK K hHeld;intro hHeld)|refine FQ [] [] hHeld (h:=?_)|refine FW (fun K hK=>?_) ?_|refine FV ?_|exact Cf|refine FT (fun K hK=>?_) ?_));all_goals (refine FR ?_);all_goals (obtain⟨hb,hc,hf,hz⟩:=xh (by assumption:Held W0 _))))
   all_goals go_wp2_with fail
   all_goals go_roundw
   repeat (case measure=>(simp[intOf];omega))
   all_goals exact⟨k+1,by omega,by go_num,AA⟩
  ·obtain rfl:k=2:=by omega
   go_wp2_with (go_at_call 29;apply Calls.mono;apply (EN (x:=X.1.AB) (y:=y.1));(apply RM.A8 hxm;(exact AO));(apply RM.A8 hmd;(exact AO));rintro E w9 ⟨rfl,hb⟩;rw[show decide (X.1.AB=y.1)=true from decide_eq_true K1.out];obtain⟨hc,hf,hz⟩:=xy hb)
   go_ret
   exact⟨rfl,Ch.trans' HE.out (by exact AA) (fun _ _ h=>h)⟩
end Go.Proofs.YtgaflnpmilikcaaGreat
