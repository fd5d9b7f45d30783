/-
 Walk: the law fw.
-/
import Derived.Test.YtgaflnpmilikcaaGreatPx52
import Derived.Test.YtgaflnpmilikcaaGreatPx6
set_option maxRecDepth 100000
set_option linter.unusedSimpArgs false
set_option linter.unusedVariables false
namespace Go.Proofs.YtgaflnpmilikcaaGreat
open Go.RowKit Go
set_option maxHeartbeats 20000000
theorem U2 (A:Option Addr) (c n:Nat) (bs:List Int) (w:World) (hxs:RB w 0 A c n bs) (hq:∀ x∈bs,0≤x∧x≤255):Calls Tryz.prog 10 #[.slice A n c] w fun E w'=>E=.returned (.bool true)∧Ex w w':=by
 have hbig:=Rs.big hxs
 by_cases hn:n≤1048576
 case neg=>
  go_enter Tryz.func10,Tryz.ntmps10
  go_wp2_with fail
  go_ret
  exact⟨rfl,AA⟩
 go_enter Tryz.func10,Tryz.ntmps10
 go_wp2_with fail
 apply Calls.mono
 apply GQ
 ·apply Rs.A8 hxs;(exact AO)
 ·exact hq
 rintro E w1 ⟨aF,BD,A_,aL,Ae,AU,aP,Ag,AY,aD,Ac,AQ,aN,Ad,Aa,aS,Af,Ab,aI,BF,A7,aG,BA,Az,aB,aBc,Ao,z,e,rfl,hz1,hzn,hb⟩
 obtain⟨hc,hf,hz⟩:=xy hb
 clear hxs hq
 go_upto_region 4 with fail
 (refine CF fun W0 hb0 hc0 hf0 hz0=>?_)
 have hA:Fw W0 w1.heap.size aF BD A_ aL Ae AU aP Ag AY aD Ac AQ aN Ad Aa aS Af Ab aI BF A7 aG BA Az aB aBc Ao z.AB.clock:=Fw.new
 have hV:K_ W0 (w1.heap.size+1) e:=K_.new
 have hk1:KF 0 w1 W0:=AO
 have hg1:w1.heap.size≤w1.heap.size:=Nat.le_refl _
 have hg0:w.heap.size≤w1.heap.size:=hb.size
 have HE:Mq w W0:=⟨AA⟩
 generalize hgw:w1.heap.size=gw at hA hV hg0 ⊢
 rw[hgw] at hg1
 replace hg1:w1.heap.size≤gw:=Nat.le_of_eq hgw
 clear hgw hb hb0 hc hc0 hf hf0 hz hz0
 have J9:=Lib.hid hk1
 ((repeat (rename Ch _ _ _=>zz;clear zz));(repeat (rename Be _ _ _=>zz;clear zz));(repeat (rename (∀ (b o:Nat),¬((⟨b,0,none⟩:Addr)=⟨b-_+_,0,none⟩)→_)=>zz;clear zz)))
 have hk1:=J9.out
 clear J9
 have hb:=HE.out
 clear HE
 obtain⟨Wd,hWd⟩:∃ z,z=W0:=⟨_,rfl⟩
 subst hWd
 obtain⟨k,hk⟩:∃ k:Nat,(n:Int).tmod 2=k:=⟨((n:Int).tmod 2).toNat,by have:=Ib (x:=(n:Int)) (n:=2) (by omega) (by omega);omega⟩
 have hk2:k<2:=by have:=Ib (x:=(n:Int)) (n:=2) (by omega) (by omega);omega
 obtain⟨a0,a1,a2,a3,a4,a5,a6,a7,a8,a9,KG,af⟩:=hA
 obtain⟨v0,v1,v2,v3,v4,v5,v6,v7,v8,v9,v10,vf⟩:=hV
 go_upto_region 6 with fail
 (refine CF fun W0 hb0 hc0 hf0 hz0=>?_)
 obtain⟨e,hV,hE⟩:∃ e':Sw.Ev,K_ W0 (gw+1) e'∧e'.kind=9∧e'.at_=(k:Int):=⟨⟨9,e.EK,(k:Int),e.ticket,e.who⟩,K_.new,⟨rfl,rfl⟩⟩
 have hA:Fw W0 gw aF BD A_ aL Ae AU aP Ag AY aD Ac AQ aN Ad Aa aS Af Ab aI BF A7 aG BA Az aB aBc Ao z.AB.clock:=Fw.new
 have J9:=Lib.hid (show KF 0 w1 W0 by with_reducible repeat (first|exact hk1|apply kD|(apply kE;assumption)|(refine kS ?_ (by dsimp only;omega))))
 have HE:Mq w W0:=⟨AA⟩
 clear hk1 hb hb0 hc0 hf0 hz0
 ((repeat (rename Ch _ _ _=>zz;clear zz));(repeat (rename Be _ _ _=>zz;clear zz));(repeat (rename (∀ (b o:Nat),¬((⟨b,0,none⟩:Addr)=⟨b-_+_,0,none⟩)→_)=>zz;clear zz)))
 have hk1:=J9.out
 have hb:=HE.out
 clear HE J9
 obtain⟨Wd,hWd⟩:∃ z,z=W0:=⟨_,rfl⟩
 subst hWd
 clear a0 a1 a2 a3 a4 a5 a6 a7 a8 a9 KG af v0 v1 v2 v3 v4 v5 v6 v7 v8 v9 v10 vf hk
 have ak:=Lib.hid hE
 clear hE
 have D8:RW Wd 0 aF BD A_ aL Ae AU aP Ag AY aD Ac AQ aN Ad Aa aS Af Ab aI BF A7 aG BA Az aB aBc Ao z:=hz1.keep hk1
 clear hz1 hk1
 obtain⟨X,hX0⟩:∃ X,X=Sw.Cg z e:=⟨_,rfl⟩
 have HX:=Lib.hid hX0
 have jE:(X.2 != X.2)=false:=by simp
 clear hX0
 obtain⟨Wq,CE⟩:∃ z,z=Wd:=⟨_,rfl⟩
 subst CE
 have HB:Mq w Wq:=⟨hb⟩
 have HA:=Lib.hid hA
 have HV:=Lib.hid hV
 obtain⟨a0,a1,a2,a3,a4,a5,a6,a7,a8,a9,KG,af⟩:=hA
 obtain⟨v0,v1,v2,v3,v4,v5,v6,v7,v8,v9,v10,vf⟩:=hV
 clear hb
 go_upto_region 7 with (go_at_call 20;apply Calls.mono;apply (Gq (x:=z) (e:=e));(apply RW.A8 D8;(exact AO));rintro E w2 ⟨bF,Di,DZ,bL,Bg,BR,bP,Bf,BV,bD,Bh,Ba,bN,Bd,Bb,bS,Bc,BZ,bI,Dg,bIn,bG,Dh,DL,bB,Dj,Cy,τ2,rfl,hox,hb⟩;rw[← HX.out] at hox;rw[← HX.out];obtain⟨hc,hf,hz⟩:=xy hb)
 (refine CF fun W0 hb0 hc0 hf0 hz0=>?_)
 have hX:Fw W0 w2.heap.size bF Di DZ bL Bg BR bP Bf BV bD Bh Ba bN Bd Bb bS Bc BZ bI Dg bIn bG Dh DL bB Dj Cy X.1.AB.clock:=Fw.new
 have hxw:RW W0 0 bF Di DZ bL Bg BR bP Bf BV bD Bh Ba bN Bd Bb bS Bc BZ bI Dg bIn bG Dh DL bB Dj Cy X.1:=(hox.JU.keep AO).less (Nat.zero_le _)
 have hE1:Ex Wq W0:=AA
 have HA:=Lib.hid (HA.out.ex hE1)
 have HV:=Lib.hid (HV.out.ex hE1)
 have D8:RW W0 0 aF BD A_ aL Ae AU aP Ag AY aD Ac AQ aN Ad Aa aS Af Ab aI BF A7 aG BA Az aB aBc Ao z:=D8.A8 (by exact kE hE1 (kR _ _))
 have HB:Mq w W0:=⟨Ch.trans' HB.out hE1 (fun _ _ h=>h)⟩
 obtain⟨gx,hgx⟩:∃ g,g=w2.heap.size:=⟨_,rfl⟩
 rw[← hgx] at hX
 (try rw[← hgx])
 clear hgx hb hb0 hc hc0 hf hf0 hz hz0 hox hE1 a0 a1 a2 a3 a4 a5 a6 a7 a8 a9 KG af v0 v1 v2 v3 v4 v5 v6 v7 v8 v9 v10 vf
 ((repeat (rename Ch _ _ _=>zz;clear zz));(repeat (rename Be _ _ _=>zz;clear zz));(repeat (rename (∀ (b o:Nat),¬((⟨b,0,none⟩:Addr)=⟨b-_+_,0,none⟩)→_)=>zz;clear zz)))
 obtain⟨Wp,YD⟩:∃ z,z=W0:=⟨_,rfl⟩
 subst YD
 have HP:=Lib.hid hX
 obtain⟨a0,a1,a2,a3,a4,a5,a6,a7,a8,a9,KG,af⟩:=HA.out
 obtain⟨v0,v1,v2,v3,v4,v5,v6,v7,v8,v9,v10,vf⟩:=HV.out
 obtain⟨x0,x1,x2,x3,x4,x5,x6,x7,x8,x9,x10,xf⟩:=hX
 go_upto_region 10 with (first|(go_at_call 25;apply Calls.mono;apply (I8 (x:=z) (e:=e));(apply RW.A8 D8;(exact AO));rintro E w3 ⟨vF,l7,l6,vL,lZ,lY,vP,lV,lU,vD,l9,l8,vN,lX,lW,vS,lT,lS,vI,lq,lh,vG,lv,lu,vB,mD,l_,rfl,hoy,hb⟩;rw[← HX.out] at hoy;rw[← HX.out];obtain⟨hc,hf,hz⟩:=xy hb)|(go_at_call 13;apply Calls.mono;apply (Dv (x:=X.1) (y:=X.1));(apply RW.A8 hxw;(exact AO));(apply RW.A8 hoy;(exact AO));rintro E w4 ⟨rfl,hb⟩;rw[show decide (X.1=X.1)=true from decide_eq_true rfl];obtain⟨hc,hf,hz⟩:=xy hb))
 (refine CF fun W0 hb0 hc0 hf0 hz0=>?_)
 have hE1:Ex Wp W0:=AA
 have HA:=Lib.hid (HA.out.ex hE1)
 have HV:=Lib.hid (HV.out.ex hE1)
 have HP:=Lib.hid (HP.out.ex hE1)
 have D8:RW W0 0 aF BD A_ aL Ae AU aP Ag AY aD Ac AQ aN Ad Aa aS Af Ab aI BF A7 aG BA Az aB aBc Ao z:=D8.A8 (by exact kE hE1 (kR _ _))
 have hxw:RW W0 0 bF Di DZ bL Bg BR bP Bf BV bD Bh Ba bN Bd Bb bS Bc BZ bI Dg bIn bG Dh DL bB Dj Cy X.1:=hxw.A8 (by exact kE hE1 (kR _ _))
 have hb:=Ch.trans' HB.out hE1 (fun _ _ h=>h)
 clear HB hb0 hc hc0 hf hf0 hz hz0 hoy hE1 a0 a1 a2 a3 a4 a5 a6 a7 a8 a9 KG af v0 v1 v2 v3 v4 v5 v6 v7 v8 v9 v10 vf x0 x1 x2 x3 x4 x5 x6 x7 x8 x9 x10 xf
 have HB:Mq w W0:=⟨hb⟩
 clear hb
 ((repeat (rename Ch _ _ _=>zz;clear zz));(repeat (rename Be _ _ _=>zz;clear zz));(repeat (rename (∀ (b o:Nat),¬((⟨b,0,none⟩:Addr)=⟨b-_+_,0,none⟩)→_)=>zz;clear zz)))
 have hb:=HB.out
 clear HB
 obtain⟨Wq,CE⟩:∃ z,z=W0:=⟨_,rfl⟩
 subst CE
 obtain⟨a0,a1,a2,a3,a4,a5,a6,a7,a8,a9,KG,af⟩:=HA.out
 obtain⟨v0,v1,v2,v3,v4,v5,v6,v7,v8,v9,v10,vf⟩:=HV.out
 obtain⟨x0,x1,x2,x3,x4,x5,x6,x7,x8,x9,x10,xf⟩:=HP.out
 have hX:=HX.out
 cases g:Sw.Cc z
 ·rw[Jy g] at hX
  have HZ:=Lib.hid (show X.1=Sw.Cz by rw[hX])
  clear hX
  go_wp2_with (first|(go_at_call 16;refine (Ie _).mono ?_;rintro E w' ⟨rfl,rfl⟩)|(go_at_call 15;apply Calls.mono;apply (CW (x:=z));(apply RW.A8 D8;(exact AO));rintro E w6 ⟨rfl,hb⟩;rw[g];obtain⟨hc,hf,hz⟩:=xy hb)|(go_at_call 13;apply Calls.mono;apply (Fz (x:=X.1));(apply RW.A8 hxw;(exact AO));rintro E w7 ⟨rfl,hb⟩;rw[show decide (X.1=Sw.Cz)=true from decide_eq_true HZ.out];obtain⟨hc,hf,hz⟩:=xy hb))
  go_ret
  exact⟨rfl,AA⟩
 rw[Km g] at hX
 have hok:=Sw.Am.1 g
 have nU:Sw.Iu X.1:=by rw[hX];exact Sw.step_ok hok e
 rw[Sw.iX ak.out.1,ak.out.2] at hX
 have hX1:X.1=Sw.tell z k:=by rw[hX]
 obtain⟨-,-,-,e1,e2,-⟩:=Sw.VR hok (k:Int)
 obtain⟨rows,hmo⟩:=Sw.BU.1 nU.Dt
 have hrw:Sw.CS X.1.AB=rows:=Sw.Cu hmo.fold
 have yU:=Sw.Ct (Sw.Bv hmo.fold)
 have HRO:=Lib.hid (fun t=>Sw.J4 (Sw.Bv hmo.fold) t)
 have HNL:=Lib.hid hmo.NL
 have hxg:=hxw.AV
 rw[show X.1.AV=z.AV by rw[hX1];exact e1] at hxg
 have hzg:=D8.AV
 have hgl:Az=2:=by have h1:=hzg.len.1;have h2:=hok.GU;omega
 have hgm:DL=2:=by have h1:=hxg.len.1;have h2:=hok.GU;omega
 have hxl:=hxw.BS.len.1
 rw[show X.1.BS=z.BS by rw[hX1];exact e2] at hxl
 have hbb:Cy=Ao:=by have:=D8.BS.len.1;omega
 have jd:((Cy:Int)==(Ao:Int))=true:=by rw[hbb];simp
 have hxm:=hxw.Dt
 have ZT:=D8.Dt
 have zn:=Lib.hid (And.intro hxw.Dt.log.1 hxw.lines.1)
 have hnn:Bb=5:=by have h1:=hxm.nums.1;have h2:=hmo.NL;omega
 subst hgl hgm hnn
 rw[ak.out.2] at v8
 have hk':(k:Int)<2:=by omega
 have hk0:(0:Int)≤(k:Int):=by omega
 obtain⟨g1,o1,u,B1,d1,n1,rfl,vC,hg1',hd1,hy1,r0,r1,r2,r3,hr1⟩:=Ld hzg hk2
 have hgu:Sw.Cb z (k:Int)=u:=by unfold Sw.Cb;exact Sw.CP hy1
 have HGU:=Lib.hid hgu
 have HUD:=Lib.hid ((Sw.K8.1 (hok.Yd u (List.mem_of_getElem? hy1))).2.1)
 have qp:=Lib.hid hX1
 have Li:=Lib.hid hok
 have HY:=Lib.hid hy1
 have HRW:=Lib.hid hrw
 have HR8:=Lib.hid yU
 clear hX hX1 e1 e2 nU hmo hrw yU hok hxl hbb hd1 hy1 hgu
 go_upto_region 15 with (first|(go_at_call 15;apply Calls.mono;apply (CW (x:=z));(apply RW.A8 D8;(exact AO));rintro E w6 ⟨rfl,hb⟩;rw[g];obtain⟨hc,hf,hz⟩:=xy hb)|(go_at_call 32;apply Calls.mono;apply (XL (m:=X.1.AB));(apply Rs.A8 hxm.log;(exact AO));rintro E w5 ⟨A5,c5,n5,rfl,hrow,hb⟩;obtain⟨hc,hf,hz⟩:=xy hb))
 (refine CF fun W0 hb0 hc0 hf0 hz0=>?_)
 have m0:W0.cell? ⟨w6.heap.size,0,none⟩=some (.int .i64 u.head.size):=(Ak);have m1:W0.cell? ⟨w6.heap.size,1,none⟩=some (.int .i64 u.head.log):=(Ak);have m2:W0.cell? ⟨w6.heap.size,2,none⟩=some (.int .i64 u.head.own):=(Ak);have m3:W0.cell? ⟨w6.heap.size,3,none⟩=some (.slice B1 n1 d1):=(Ak)
 have hE1:Ex Wq W0:=AA
 have hA:=HA.out.ex hE1
 have hP:=HP.out.ex hE1
 have hV:=HV.out.ex hE1
 have hxg:=hxg.A8 (by exact kE hE1 (kR _ _))
 have hxn:=hxm.nums.A8 (by exact kE hE1 (kR _ _))
 have hzd:=ZT.AJ.A8 (by exact kE hE1 (kR _ _))
 have hr1:=Rs.A8 hr1 (by exact kE hE1 (kR _ _))
 have hbn:=Rs.big hr1
 rw[HRW.out] at hrow
 obtain rfl:n5=8:=hrow.1.trans HR8.out
 have uK:=hrow.keep (kE hb0 (kR _ _))
 have HE:Mq w W0:=⟨AA⟩
 have hgt:w6.heap.size<W0.heap.size:=Aq
 clear a0 a1 a2 a3 a4 a5 a6 a7 a8 a9 KG af v0 v1 v2 v3 v4 v5 v6 v7 v8 v9 v10 vf x0 x1 x2 x3 x4 x5 x6 x7 x8 x9 x10 xf r0 r1 r2 r3 hb hb0 hc hc0 hf hf0 hz hz0 hE1 HV HA HP D8 hxw hxm ZT hzg hrow
 ((repeat (rename Ch _ _ _=>zz;clear zz));(repeat (rename Be _ _ _=>zz;clear zz));(repeat (rename (∀ (b o:Nat),¬((⟨b,0,none⟩:Addr)=⟨b-_+_,0,none⟩)→_)=>zz;clear zz)))
 generalize w6.heap.size=gt at m0 m1 m2 m3 hgt ⊢
 obtain⟨Wr,YC⟩:∃ z,z=W0:=⟨_,rfl⟩
 subst YC
 obtain⟨a0,a1,a2,a3,a4,a5,a6,a7,a8,a9,KG,af⟩:=hA
 obtain⟨x0,x1,x2,x3,x4,x5,x6,x7,x8,x9,x10,xf⟩:=hP
 obtain⟨v0,v1,v2,v3,v4,v5,v6,v7,v8,v9,v10,vf⟩:=hV
 rw[ak.out.2] at v8
 go_loopw [11] (fun i wr=>∃ j:Nat,j≤n1∧i=.int .i64 j∧Ex Wr wr) (fun i _=>n1-(intOf i).toNat)
 case atStart=>exact⟨0,by omega,rfl,Ch.refl _ _⟩
 case round=>
  obtain⟨j,hj,rfl,hb2⟩:=hrel
  have hst:=xr hb2
  (try simp only[BO] at hst)
  obtain⟨hc2,hf2,hz2⟩:=hst
  by_cases hlt:j<n1
  ·have t1:(0:Int)≤(j:Int):=by omega
   have t2:(j:Int)<(n1:Int):=by omega
   have hr2:=Rs.A8 hr1 (by exact kE hb2 (kR _ _))
   obtain⟨g3,o3,t,rfl,oP,hg3,-,ht,ht0⟩:=G8 hr2 hlt
   have htr:=HUD.out t (List.mem_of_getElem? ht)
   have HTM:=Lib.hid (show t∈(Sw.Cb z (k:Int)).done by rw[HGU.out];exact List.mem_of_getElem? ht)
   obtain⟨tn,rfl⟩:∃ tn:Nat,t=(tn:Int):=⟨t.toNat,by omega⟩
   have htn:tn<8:=by omega
   have s1:(0:Int)≤(tn:Int):=by omega
   have s2:(tn:Int)<8:=by omega
   obtain⟨gR,y,rfl,FY,hgR,hy,p0,p1,p2,-⟩:=ND (uK.keep (kE hb2 (kR _ _))) htn
   have dY:Sw.rowAt rows (tn:Int)=y:=Yz hy
   have h_:=HRO.out (tn:Int)
   rw[dY] at h_
   have xW:=Lib.hid dY
   obtain⟨o,ho⟩:∃ o,o=Sw.La z.AB.AJ (tn:Int):=⟨_,rfl⟩
   have HO:=Lib.hid ho
   have hwho:0<y.who→∃ q:Nat,y.who=(q:Int)+1∧q<5:=by
    intro h0
    simp only[Sw.rowOk,Bool.or_eq_true,Bool.and_eq_true,Sw.BB,decide_eq_true_eq] at h_
    rcases h_ with⟨⟨h1,_⟩,_⟩ | ⟨h1,_⟩
    ·omega
    ·exact⟨(y.who-1).toNat,by omega,by omega⟩
   have HW:=Lib.hid hwho
   clear ht htr hy dY h_ ho hwho
   have uD:=hxn.A8 (by exact kE hb2 (kR _ _))
   go_upto_region 19 with (go_at_call 33;apply Calls.mono;apply (X4 (m:=z.AB) (t:=(tn:Int)) (o:=o));(apply Rs.A8 hzd;(exact AO));exact HO.out.symm;rintro E w9 ⟨rfl,hb⟩;obtain⟨hc,hf,hz⟩:=xy hb)
   have j1:0≤0:=Nat.le_refl _
   by_cases a1:0<y.who
   case neg=>
    have b1:decide (0<y.who)=false:=decide_eq_false a1
    clear FY
    go_quiet ((first|fail))
    all_goals go_wp2
    all_goals go_roundw
    case rel=>exact⟨j+1,by omega,by go_num,AA⟩
    case measure=>simp[intOf];omega
   obtain⟨q,hq,hq5⟩:=HW.out a1
   have HQ:=Lib.hid hq
   have q1:(0:Int)<(q:Int)+1:=by omega
   have b1:decide ((0:Int)<(q:Int)+1)=true:=decide_eq_true q1
   have q2:(0:Int)≤(q:Int):=by omega
   have q3:(q:Int)<5:=by omega
   have wv:IntKind.i64.wrap ((q:Int)+1-1)=(q:Int):=by rw[IntWalk.i64_in _ (by omega)];omega
   rw[hq] at p0
   clear a1 hq
   cases a2:y.used
   case true=>
    rw[a2] at p2
    clear a2
    go_quiet ((first|fail))
    all_goals go_wp2
    all_goals go_roundw
    case rel=>exact⟨j+1,by omega,by go_num,AA⟩
    case measure=>simp[intOf];omega
   rw[a2] at p2
   have HU:=Lib.hid a2
   clear a2
   cases o with
   | some d=>
    have b3:(some d).isSome=true:=rfl
    go_quiet ((first|fail))
    all_goals go_wp2
    all_goals go_roundw
    case rel=>exact⟨j+1,by omega,by go_num,AA⟩
    case measure=>simp[intOf];omega
   | none=>
    by_cases a4:BR<40
    case neg=>
     have b4:¬(BR:Int)<40:=by omega
     have b4':decide ((BR:Int)<40)=false:=decide_eq_false b4
     clear a4
     go_quiet ((first|fail))
     all_goals go_wp2
     all_goals go_roundw
     case rel=>exact⟨j+1,by omega,by go_num,AA⟩
     case measure=>simp[intOf];omega
    have b4:(BR:Int)<40:=by omega
    have b4':decide ((BR:Int)<40)=true:=decide_eq_true b4
    by_cases a5:bIn<300
    case neg=>
     have b5:¬(bIn:Int)<300:=by omega
     have b5':decide ((bIn:Int)<300)=false:=decide_eq_false b5
     clear a5
     go_quiet ((first|fail))
     all_goals go_wp2
     all_goals go_roundw
     case rel=>exact⟨j+1,by omega,by go_num,AA⟩
     case measure=>simp[intOf];omega
    have b5:(bIn:Int)<300:=by omega
    have b5':decide ((bIn:Int)<300)=true:=decide_eq_true b5
    obtain⟨gN,oN,nv,rfl,d_,hgN,-,iC,hcN⟩:=G8 uD hq5
    by_cases a6:nv<99999
    case neg=>
     have b6:decide (nv<99999)=false:=decide_eq_false a6
     clear iC
     go_quiet ((first|fail))
     all_goals go_wp2
     all_goals go_roundw
     case rel=>exact⟨j+1,by omega,by go_num,AA⟩
     case measure=>simp[intOf];omega
    exfalso
    refine Sw.Xi Li.out (k:=(k:Int)) (by omega) HTM.out ?_ ?_ HO.out.symm ?_ ?_ ?_
    ·rw[← qp.out,HRW.out,xW.out,HQ.out];omega
    ·rw[← qp.out,HRW.out,xW.out];exact HU.out
    ·rw[← qp.out,← zn.out.1];exact a4
    ·rw[← qp.out,← zn.out.2];exact a5
    ·rw[← qp.out,HRW.out,xW.out,HQ.out]
     have:Sw.lastOf X.1.AB.nums ((q:Int)+1)=nv:=by
      unfold Sw.lastOf;rw[show (((q:Int)+1)-1).toNat=q from by omega];exact Sw.CP iC
     omega
  ·have t3:¬(j:Int)<(n1:Int):=by omega
   have X5:=hxg.A8 (by exact kE hb2 (kR _ _))
   obtain⟨g2,o2,u',B2,d2,n2,rfl,hg0',hg',hd',hy',p0,p1,p2,p3,hr2⟩:=Ld X5 hk2
   obtain rfl:u'=u:=Option.some.inj (hy'.symm.trans HY.out)
   clear hd' hy'
   go_wp2_with fail
   (focus (refine CF fun W0 hb0 hc0 hf0 hz0=>?_;refine Aj [] (S:=fun w'=>Held W0 w') DC (fun hHeld=>?_);(repeat' (first|(revert hK;intro hK;go_simp;(try ((go_at_call 28;apply Calls.mono;apply (Ho (t:=u'.head) (xs:=u'.done) (u:=u'.head) (ys:=u'.done));(apply Rs.A8 hr2;(exact AO));(apply Rs.A8 hr1;(exact AO));rintro E w9 ⟨rfl,hb⟩;rw[show (decide (u'.head=u'.head)&&decide (u'.done=u'.done))=true from by simp];obtain⟨hc,hf,hz⟩:=xy hb);(try go_wp2_with fail)));refine CQ hK DC (h:=?_);clear hK K hHeld;intro hHeld)|refine FQ [] [] hHeld (h:=?_)|refine aQ [] [] hHeld (h:=?_)|refine FW (fun K hK=>?_) ?_|refine FV ?_|exact Cf|refine FT (fun K hK=>?_) ?_));all_goals (refine FR ?_);all_goals (obtain⟨hb,hc,hf,hz⟩:=xh (by assumption:Held W0 _))))
   all_goals go_wp2_with fail
   all_goals go_ret
   all_goals exact⟨rfl,Ch.trans' HE.out (by exact AA) (fun _ _ h=>h)⟩
end Go.Proofs.YtgaflnpmilikcaaGreat
