/-
 Walk: the law gJ.
-/
import Derived.Test.YtgaflnpmilikcaaGreatPx60
import Derived.Test.YtgaflnpmilikcaaGreatPx52
import Derived.Test.YtgaflnpmilikcaaGreatPx6
set_option maxRecDepth 100000
set_option linter.unusedSimpArgs false
set_option linter.unusedVariables false
namespace Go.Proofs.YtgaflnpmilikcaaGreat
open Go.RowKit Go
set_option maxHeartbeats 20000000
theorem U5 (A:Option Addr) (c n:Nat) (bs:List Int) (w:World) (hxs:RB w 0 A c n bs) (hq:∀ x∈bs,0≤x∧x≤255):Calls Tryz.prog 9 #[.slice A n c] w fun E w'=>E=.returned (.bool true)∧Ex w w':=by
 have hbig:=Rs.big hxs
 by_cases hn:n≤1048576
 case neg=>
  go_enter Tryz.func9,Tryz.ntmps9
  go_wp2_with fail
  go_ret
  exact⟨rfl,AA⟩
 go_enter Tryz.func9,Tryz.ntmps9
 go_wp2_with fail
 apply Calls.mono
 apply GQ
 ·apply Rs.A8 hxs;(exact AO)
 ·exact hq
 rintro E w1 ⟨aF,BD,A_,aL,Ae,AU,aP,Ag,AY,aD,Ac,AQ,aN,Ad,Aa,aS,Af,Ab,aI,BF,A7,aG,BA,Az,aB,aBc,Ao,z,e,rfl,hz1,hzn,hb⟩
 obtain⟨hc,hf,hz⟩:=xy hb
 clear hxs hq
 go_upto_region 4 with fail
 (refine CF fun W0 hb0 hc0 hf0 hz0=>?_)
 have hA:Fw W0 w1.heap.size aF BD A_ aL Ae AU aP Ag AY aD Ac AQ aN Ad Aa aS Af Ab aI BF A7 aG BA Az aB aBc Ao z.AB.clock:=Fw.new
 have hV:K_ W0 (w1.heap.size+1) e:=K_.new
 have hk1:KF 0 w1 W0:=AO
 have hg1:w1.heap.size≤w1.heap.size:=Nat.le_refl _
 have hg0:w.heap.size≤w1.heap.size:=hb.size
 have HE:Mq w W0:=⟨AA⟩
 generalize hgw:w1.heap.size=gw at hA hV hg0 ⊢
 rw[hgw] at hg1
 replace hg1:w1.heap.size≤gw:=Nat.le_of_eq hgw
 clear hgw hb hb0 hc hc0 hf hf0 hz hz0
 have J9:=Lib.hid hk1
 ((repeat (rename Ch _ _ _=>zz;clear zz));(repeat (rename Be _ _ _=>zz;clear zz));(repeat (rename (∀ (b o:Nat),¬((⟨b,0,none⟩:Addr)=⟨b-_+_,0,none⟩)→_)=>zz;clear zz)))
 have hk1:=J9.out
 clear J9
 have hb:=HE.out
 clear HE
 obtain⟨Wd,hWd⟩:∃ z,z=W0:=⟨_,rfl⟩
 subst hWd
 obtain⟨a0,a1,a2,a3,a4,a5,a6,a7,a8,a9,KG,af⟩:=hA
 obtain⟨v0,v1,v2,v3,v4,v5,v6,v7,v8,v9,v10,vf⟩:=hV
 go_upto_if 25 with fail
 go_cut [] (fun wx=>∃ e':Sw.Ev,K_ wx (gw+1) e'∧e'.kind=5∧(Ao=0∨∃ i:Nat,i<Ao∧e'.at_=(i:Int))∧Fw wx gw aF BD A_ aL Ae AU aP Ag AY aD Ac AQ aN Ad Aa aS Af Ab aI BF A7 aG BA Az aB aBc Ao z.AB.clock∧KF 0 w1 wx∧Ex w wx)
 case first=>
  by_cases hbz:Ao=0
  ·have c1:¬(0:Int)<(Ao:Int):=by omega
   have c2:decide ((0:Int)<(Ao:Int))=false:=decide_eq_false c1
   go_wp2_with fail
   go_meet
   exact⟨⟨5,e.EK,e.at_,e.ticket,e.who⟩,K_.new,rfl,.inl hbz,Fw.new,(by with_reducible repeat (first|exact hk1|apply kD|(apply kE;assumption)|(refine kS ?_ (by dsimp only;omega)))),AA⟩
  ·have c1:(0:Int)<(Ao:Int):=by omega
   have c2:decide ((0:Int)<(Ao:Int))=true:=decide_eq_true c1
   have c3:((Ao:Int)==0)=false:=by simp;omega
   have hm:=Ib (x:=(n:Int)) (n:=(Ao:Int)) (by omega) (by omega)
   obtain⟨i,hi⟩:∃ i:Nat,(n:Int).tmod (Ao:Int)=i:=⟨((n:Int).tmod (Ao:Int)).toNat,by omega⟩
   rw[hi] at hm
   go_wp2_with fail
   go_meet
   exact⟨⟨5,e.EK,(i:Int),e.ticket,e.who⟩,K_.new,rfl,.inr ⟨i,by omega,rfl⟩,Fw.new,(by with_reducible repeat (first|exact hk1|apply kD|(apply kE;assumption)|(refine kS ?_ (by dsimp only;omega)))),AA⟩
 case rest=>
  clear a0 a1 a2 a3 a4 a5 a6 a7 a8 a9 KG af v0 v1 v2 v3 v4 v5 v6 v7 v8 v9 v10 vf hk1 hb
  ((repeat (rename Ch _ _ _=>zz;clear zz));(repeat (rename Be _ _ _=>zz;clear zz));(repeat (rename (∀ (b o:Nat),¬((⟨b,0,none⟩:Addr)=⟨b-_+_,0,none⟩)→_)=>zz;clear zz)))
  obtain⟨e,hV,oW,VL,hA,hk1,hb⟩:=hcut
  have mi:=Lib.hid oW
  have yA:=Lib.hid VL
  clear oW VL
  obtain⟨Wd,hWd⟩:∃ z,z=wc:=⟨_,rfl⟩
  subst hWd
  have D8:RW Wd 0 aF BD A_ aL Ae AU aP Ag AY aD Ac AQ aN Ad Aa aS Af Ab aI BF A7 aG BA Az aB aBc Ao z:=hz1.keep hk1
  clear hz1 hk1
  obtain⟨X,hX0⟩:∃ X,X=Sw.Cg z e:=⟨_,rfl⟩
  have HX:=Lib.hid hX0
  have jE:(X.2 != X.2)=false:=by simp
  clear hX0
  obtain⟨Wq,CE⟩:∃ z,z=Wd:=⟨_,rfl⟩
  subst CE
  have HB:Mq w Wq:=⟨hb⟩
  have HA:=Lib.hid hA
  have HV:=Lib.hid hV
  obtain⟨a0,a1,a2,a3,a4,a5,a6,a7,a8,a9,KG,af⟩:=hA
  obtain⟨v0,v1,v2,v3,v4,v5,v6,v7,v8,v9,v10,vf⟩:=hV
  clear hb
  go_upto_region 8 with (go_at_call 20;apply Calls.mono;apply (Gq (x:=z) (e:=e));(apply RW.A8 D8;(exact AO));rintro E w2 ⟨bF,Di,DZ,bL,Bg,BR,bP,Bf,BV,bD,Bh,Ba,bN,Bd,Bb,bS,Bc,BZ,bI,Dg,bIn,bG,Dh,DL,bB,Dj,Cy,τ2,rfl,hox,hb⟩;rw[← HX.out] at hox;rw[← HX.out];obtain⟨hc,hf,hz⟩:=xy hb)
  (refine CF fun W0 hb0 hc0 hf0 hz0=>?_)
  have hX:Fw W0 w2.heap.size bF Di DZ bL Bg BR bP Bf BV bD Bh Ba bN Bd Bb bS Bc BZ bI Dg bIn bG Dh DL bB Dj Cy X.1.AB.clock:=Fw.new
  have hxw:RW W0 0 bF Di DZ bL Bg BR bP Bf BV bD Bh Ba bN Bd Bb bS Bc BZ bI Dg bIn bG Dh DL bB Dj Cy X.1:=(hox.JU.keep AO).less (Nat.zero_le _)
  have hE1:Ex Wq W0:=AA
  have HA:=Lib.hid (HA.out.ex hE1)
  have HV:=Lib.hid (HV.out.ex hE1)
  have D8:RW W0 0 aF BD A_ aL Ae AU aP Ag AY aD Ac AQ aN Ad Aa aS Af Ab aI BF A7 aG BA Az aB aBc Ao z:=D8.A8 (by exact kE hE1 (kR _ _))
  have HB:Mq w W0:=⟨Ch.trans' HB.out hE1 (fun _ _ h=>h)⟩
  obtain⟨gx,hgx⟩:∃ g,g=w2.heap.size:=⟨_,rfl⟩
  rw[← hgx] at hX
  (try rw[← hgx])
  clear hgx hb hb0 hc hc0 hf hf0 hz hz0 hox hE1 a0 a1 a2 a3 a4 a5 a6 a7 a8 a9 KG af v0 v1 v2 v3 v4 v5 v6 v7 v8 v9 v10 vf
  ((repeat (rename Ch _ _ _=>zz;clear zz));(repeat (rename Be _ _ _=>zz;clear zz));(repeat (rename (∀ (b o:Nat),¬((⟨b,0,none⟩:Addr)=⟨b-_+_,0,none⟩)→_)=>zz;clear zz)))
  obtain⟨Wp,YD⟩:∃ z,z=W0:=⟨_,rfl⟩
  subst YD
  have HP:=Lib.hid hX
  obtain⟨a0,a1,a2,a3,a4,a5,a6,a7,a8,a9,KG,af⟩:=HA.out
  obtain⟨v0,v1,v2,v3,v4,v5,v6,v7,v8,v9,v10,vf⟩:=HV.out
  obtain⟨x0,x1,x2,x3,x4,x5,x6,x7,x8,x9,x10,xf⟩:=hX
  go_upto_region 11 with (first|(go_at_call 25;apply Calls.mono;apply (I8 (x:=z) (e:=e));(apply RW.A8 D8;(exact AO));rintro E w3 ⟨vF,l7,l6,vL,lZ,lY,vP,lV,lU,vD,l9,l8,vN,lX,lW,vS,lT,lS,vI,lq,lh,vG,lv,lu,vB,mD,l_,rfl,hoy,hb⟩;rw[← HX.out] at hoy;rw[← HX.out];obtain⟨hc,hf,hz⟩:=xy hb)|(go_at_call 13;apply Calls.mono;apply (Dv (x:=X.1) (y:=X.1));(apply RW.A8 hxw;(exact AO));(apply RW.A8 hoy;(exact AO));rintro E w4 ⟨rfl,hb⟩;rw[show decide (X.1=X.1)=true from decide_eq_true rfl];obtain⟨hc,hf,hz⟩:=xy hb))
  (refine CF fun W0 hb0 hc0 hf0 hz0=>?_)
  have hE1:Ex Wp W0:=AA
  have HA:=Lib.hid (HA.out.ex hE1)
  have HV:=Lib.hid (HV.out.ex hE1)
  have HP:=Lib.hid (HP.out.ex hE1)
  have D8:RW W0 0 aF BD A_ aL Ae AU aP Ag AY aD Ac AQ aN Ad Aa aS Af Ab aI BF A7 aG BA Az aB aBc Ao z:=D8.A8 (by exact kE hE1 (kR _ _))
  have hxw:RW W0 0 bF Di DZ bL Bg BR bP Bf BV bD Bh Ba bN Bd Bb bS Bc BZ bI Dg bIn bG Dh DL bB Dj Cy X.1:=hxw.A8 (by exact kE hE1 (kR _ _))
  have hb:=Ch.trans' HB.out hE1 (fun _ _ h=>h)
  clear HB hb0 hc hc0 hf hf0 hz hz0 hoy hE1 a0 a1 a2 a3 a4 a5 a6 a7 a8 a9 KG af v0 v1 v2 v3 v4 v5 v6 v7 v8 v9 v10 vf x0 x1 x2 x3 x4 x5 x6 x7 x8 x9 x10 xf
  have HB:Mq w W0:=⟨hb⟩
  clear hb
  ((repeat (rename Ch _ _ _=>zz;clear zz));(repeat (rename Be _ _ _=>zz;clear zz));(repeat (rename (∀ (b o:Nat),¬((⟨b,0,none⟩:Addr)=⟨b-_+_,0,none⟩)→_)=>zz;clear zz)))
  have hb:=HB.out
  clear HB
  obtain⟨Wq,CE⟩:∃ z,z=W0:=⟨_,rfl⟩
  subst CE
  obtain⟨a0,a1,a2,a3,a4,a5,a6,a7,a8,a9,KG,af⟩:=HA.out
  obtain⟨v0,v1,v2,v3,v4,v5,v6,v7,v8,v9,v10,vf⟩:=HV.out
  obtain⟨x0,x1,x2,x3,x4,x5,x6,x7,x8,x9,x10,xf⟩:=HP.out
  have hX:=HX.out
  cases g:Sw.Cc z
  ·rw[Jy g] at hX
   have HZ:=Lib.hid (show X.1=Sw.Cz by rw[hX])
   clear hX
   go_wp2_with (first|(go_at_call 16;refine (Ie _).mono ?_;rintro E w' ⟨rfl,rfl⟩)|(go_at_call 15;apply Calls.mono;apply (CW (x:=z));(apply RW.A8 D8;(exact AO));rintro E w6 ⟨rfl,hb⟩;rw[g];obtain⟨hc,hf,hz⟩:=xy hb)|(go_at_call 13;apply Calls.mono;apply (Fz (x:=X.1));(apply RW.A8 hxw;(exact AO));rintro E w7 ⟨rfl,hb⟩;rw[show decide (X.1=Sw.Cz)=true from decide_eq_true HZ.out];obtain⟨hc,hf,hz⟩:=xy hb))
   go_ret
   exact⟨rfl,AA⟩
  rw[Km g,Sw.iY mi.out] at hX
  have hok:=Sw.Am.1 g
  have hbl:=D8.BS.len.1
  rcases yA.out with hz0 | ⟨i,hi,VL⟩
  ·have HZ:=Lib.hid (show X.1=z by rw[hX,Sw.XJ (by omega)];rfl)
   have hge:(0:Int)≤e.at_→(Ao:Int)≤e.at_:=fun h=>by omega
   clear hX hok hbl hz0
   by_cases hneg:e.at_<0
   ·have c1:decide (e.at_<0)=true:=decide_eq_true hneg
    go_wp2_with (first|(go_at_call 16;refine (Ie _).mono ?_;rintro E w' ⟨rfl,rfl⟩)|(go_at_call 15;apply Calls.mono;apply (CW (x:=z));(apply RW.A8 D8;(exact AO));rintro E w6 ⟨rfl,hb⟩;rw[g];obtain⟨hc,hf,hz⟩:=xy hb)|(go_at_call 13;apply Calls.mono;apply (Dv (x:=X.1) (y:=z));(apply RW.A8 hxw;(exact AO));(apply RW.A8 D8;(exact AO));rintro E w8 ⟨rfl,hb⟩;rw[show decide (X.1=z)=true from decide_eq_true HZ.out];obtain⟨hc,hf,hz⟩:=xy hb))
    go_ret
    exact⟨rfl,AA⟩
   ·have c1:decide (e.at_<0)=false:=decide_eq_false hneg
    have c2:(Ao:Int)≤e.at_:=hge (by omega)
    have c3:decide ((Ao:Int)≤e.at_)=true:=decide_eq_true c2
    go_wp2_with (first|(go_at_call 16;refine (Ie _).mono ?_;rintro E w' ⟨rfl,rfl⟩)|(go_at_call 15;apply Calls.mono;apply (CW (x:=z));(apply RW.A8 D8;(exact AO));rintro E w6 ⟨rfl,hb⟩;rw[g];obtain⟨hc,hf,hz⟩:=xy hb)|(go_at_call 13;apply Calls.mono;apply (Dv (x:=X.1) (y:=z));(apply RW.A8 hxw;(exact AO));(apply RW.A8 D8;(exact AO));rintro E w8 ⟨rfl,hb⟩;rw[show decide (X.1=z)=true from decide_eq_true HZ.out];obtain⟨hc,hf,hz⟩:=xy hb))
    go_ret
    exact⟨rfl,AA⟩
  rw[Sw.Vr (by omega),if_pos rfl,VL] at hX
  rw[VL] at v8
  have c1:¬(i:Int)<0:=by omega
  have c1':decide ((i:Int)<0)=false:=decide_eq_false c1
  have c2:¬(Ao:Int)≤(i:Int):=by omega
  have c2':decide ((Ao:Int)≤(i:Int))=false:=decide_eq_false c2
  have hi0:(0:Int)≤(i:Int):=by omega
  have hi1:(i:Int)<(Ao:Int):=by omega
  have hab:Ao≤6:=by have:=hok.Ir;omega
  obtain⟨m,k,gg,y1,-,y2,hk2,y3,y4,yg,y5,y6,y7⟩:=Sw.eX g (i:=i) (by omega)
  obtain⟨gh,gd⟩:=gg
  obtain⟨G,hG⟩:∃ G,G=Sw.Ck ⟨gh,gd⟩ m.head m.proof:=⟨_,rfl⟩
  rw[← hG] at y5
  have HG:=Lib.hid hG
  have K2:=Lib.hid (show X.1.AB=z.AB by rw[hX];exact y7)
  have hxg:=hxw.AV
  rw[show X.1.AV=z.AV.set k G.1 by rw[hX];exact y5] at hxg
  have hzg:=D8.AV
  have hgl:Az=2:=by have h1:=hzg.len.1;omega
  have hgm:DL=2:=by have h1:=hxg.len.1;rw[List.length_set] at h1;omega
  have hxl:=hxw.BS.len.1
  rw[show X.1.BS.length=z.BS.length-1 by rw[hX];exact y6] at hxl
  have hbb:(Cy:Int)=(Ao:Int)-1:=by omega
  have jd:((Cy:Int)==(Ao:Int)-1)=true:=by rw[hbb];simp
  have wm:IntKind.i64.wrap ((Ao:Int)-1)=(Ao:Int)-1:=IntWalk.i64_in _ (by omega)
  have hxm:=hxw.Dt
  have ZT:=D8.Dt
  subst hgl hgm
  obtain⟨g4,o4,u4,B4,d4,n4,rfl,u_,hg4,hd4,hy4,p0,p1,p2,p3,p4,hr4⟩:=QU D8.BS (k:=i) hi
  obtain rfl:u4=m:=Option.some.inj (hy4.symm.trans y1)
  rw[y2] at p0
  have Y3:=Lib.hid y4
  have YS:=Lib.hid (show ∀ j:Nat,j≠k→(z.AV.set k G.1)[j]?=z.AV[j]? from fun j hj=>List.getElem?_set_ne (fun h=>hj h.symm))
  have YK:=Lib.hid (show (z.AV.set k G.1)[k]?=some G.1 from List.getElem?_set_self (by omega))
  have zo:=Lib.hid (show G.2=false→G.1=⟨gh,gd⟩ from fun h=>by rw[hG] at h ⊢;exact Sw.WU yg h)
  clear hX hG yg y1 y2 y3 y4 y5 y6 y7 hok hbl VL hxl hbb hd4 hy4
  go_upto_region 15 with (go_at_call 15;apply Calls.mono;apply (CW (x:=z));(apply RW.A8 D8;(exact AO));rintro E w6 ⟨rfl,hb⟩;rw[g];obtain⟨hc,hf,hz⟩:=xy hb)
  (refine CF fun W0 hb0 hc0 hf0 hz0=>?_)
  have m0:W0.cell? ⟨w6.heap.size,0,none⟩=some (.int .i64 k):=(Ak);have m1:W0.cell? ⟨w6.heap.size,1,none⟩=some (.int .i64 u4.head.size):=(Ak);have m2:W0.cell? ⟨w6.heap.size,2,none⟩=some (.int .i64 u4.head.log):=(Ak);have m3:W0.cell? ⟨w6.heap.size,3,none⟩=some (.int .i64 u4.head.own):=(Ak);have m4:W0.cell? ⟨w6.heap.size,4,none⟩=some (.slice B4 n4 d4):=(Ak)
  have hE1:Ex Wq W0:=AA
  have hA:=HA.out.ex hE1
  have hP:=HP.out.ex hE1
  have hzg:=hzg.A8 (by exact kE hE1 (kR _ _))
  have hxg:=hxg.A8 (by exact kE hE1 (kR _ _))
  have hxm:=hxm.A8 (by exact kE hE1 (kR _ _))
  have ZT:=ZT.A8 (by exact kE hE1 (kR _ _))
  have hr4:=Rs.A8 hr4 (by exact kE hE1 (kR _ _))
  have HE:Mq w W0:=⟨AA⟩
  have hgt:w6.heap.size<W0.heap.size:=Aq
  clear a0 a1 a2 a3 a4 a5 a6 a7 a8 a9 KG af v0 v1 v2 v3 v4 v5 v6 v7 v8 v9 v10 vf x0 x1 x2 x3 x4 x5 x6 x7 x8 x9 x10 xf p0 p1 p2 p3 p4 hb hb0 hc hc0 hf hf0 hz hz0 hE1 HV HA HP D8 hxw
  ((repeat (rename Ch _ _ _=>zz;clear zz));(repeat (rename Be _ _ _=>zz;clear zz));(repeat (rename (∀ (b o:Nat),¬((⟨b,0,none⟩:Addr)=⟨b-_+_,0,none⟩)→_)=>zz;clear zz)))
  have c4:decide (Ao≤i)=false:=by simp;omega
  (try simp only[c4])
  clear c4
  clear c1 c1' c2 c2' hi hi0 hi1
  generalize w6.heap.size=gt at m0 m1 m2 m3 m4 hgt ⊢
  obtain⟨Wr,YC⟩:∃ z,z=W0:=⟨_,rfl⟩
  subst YC
  obtain⟨a0,a1,a2,a3,a4,a5,a6,a7,a8,a9,KG,af⟩:=hA
  obtain⟨x0,x1,x2,x3,x4,x5,x6,x7,x8,x9,x10,xf⟩:=hP
  go_loopw [10] (fun i wr=>∃ j:Nat,j≤2∧i=.int .i64 j∧Ex Wr wr) (fun i _=>2-(intOf i).toNat)
  case atStart=>exact⟨0,by omega,rfl,Ch.refl _ _⟩
  case round=>
   obtain⟨j,hj,rfl,hb2⟩:=hrel
   have hst:=xr hb2
   (try simp only[BO] at hst)
   obtain⟨hc2,hf2,hz2⟩:=hst
   have X5:=hzg.A8 (by exact kE hb2 (kR _ _))
   have dZ:=hxg.A8 (by exact kE hb2 (kR _ _))
   by_cases hlt:j<2
   ·have t1:(0:Int)≤(j:Int):=by omega
    have t2:(j:Int)<2:=by omega
    by_cases hjk:j=k
    ·have t3:((j:Int) != (k:Int))=false:=by simp[hjk]
     clear hjk
     go_wp2_with fail
     (focus (refine CF fun W0 hb0 hc0 hf0 hz0=>?_;refine Aj [] (S:=fun w'=>Held W0 w') DC (fun hHeld=>?_);(repeat' (first|(revert hK;intro hK;go_simp;refine CQ hK DC (h:=?_);clear hK K hHeld;intro hHeld)|refine tkB [] [5,6,7,8,9,10,11,12,13,14,15,16] hHeld (h:=?_)|refine skB [] [5,6,7,8,9,10,11,12,13,14,15,16] hHeld (h:=?_)|refine FW (fun K hK=>?_) ?_|refine FV ?_|exact Cf|refine FT (fun K hK=>?_) ?_));all_goals (refine FR ?_);all_goals (obtain⟨hb,hc,hf,hz⟩:=xh (by assumption:Held W0 _))))
     all_goals go_wp2_with fail
     all_goals go_roundw
     repeat (case measure=>(simp[intOf];omega))
     all_goals exact⟨j+1,by omega,by go_num,AA⟩
    ·have t3:((j:Int) != (k:Int))=true:=by simp;omega
     obtain⟨g1,o1,u,B1,d1,n1,rfl,hg0,hg,hd,hy,q0,q1,q2,q3,hr1⟩:=Ld X5 hlt
     obtain⟨g2,o2,u',B2,d2,n2,rfl,hg0',hg',hd',hy',p0,p1,p2,p3,hr2⟩:=Ld dZ hlt
     rw[YS.out j hjk] at hy'
     obtain rfl:u'=u:=Option.some.inj (hy'.symm.trans hy)
     clear hd hd' hy hy' hjk
     go_wp2_with fail
     (focus (refine CF fun W0 hb0 hc0 hf0 hz0=>?_;refine Aj [] (S:=fun w'=>Held W0 w') DC (fun hHeld=>?_);(repeat' (first|(revert hK;intro hK;go_simp;(try ((go_at_call 28;apply Calls.mono;apply (Ho (t:=u'.head) (xs:=u'.done) (u:=u'.head) (ys:=u'.done));(apply Rs.A8 hr2;(exact AO));(apply Rs.A8 hr1;(exact AO));rintro E w9 ⟨rfl,hb⟩;rw[show (decide (u'.head=u'.head)&&decide (u'.done=u'.done))=true from by simp];obtain⟨hc,hf,hz⟩:=xy hb);(try go_wp2_with fail)));refine CQ hK DC (h:=?_);clear hK K hHeld;intro hHeld)|refine tkB [] [] hHeld (h:=?_)|refine skB [] [] hHeld (h:=?_)|refine FW (fun K hK=>?_) ?_|refine FV ?_|exact Cf|refine FT (fun K hK=>?_) ?_));all_goals (refine FR ?_);all_goals (obtain⟨hb,hc,hf,hz⟩:=xh (by assumption:Held W0 _))))
     all_goals go_wp2_with fail
     all_goals go_roundw
     repeat (case measure=>(simp[intOf];omega))
     all_goals exact⟨j+1,by omega,by go_num,AA⟩
   ·have t3:¬(j:Int)<2:=by omega
    have t4:(0:Int)≤(k:Int):=by omega
    have t5:(k:Int)<2:=by omega
    obtain⟨g1,o1,u,B1,d1,n1,rfl,hg0,hg,hd,hy,q0,q1,q2,q3,hr1⟩:=Ld X5 hk2
    obtain⟨g2,o2,u',B2,d2,n2,rfl,hg0',hg',hd',hy',p0,p1,p2,p3,hr2⟩:=Ld dZ hk2
    rw[YK.out] at hy'
    obtain rfl:=Option.some.inj hy'
    obtain rfl:u=⟨gh,gd⟩:=Option.some.inj (hy.symm.trans Y3.out)
    dsimp only at q0 q1 q2 q3 hr1
    clear hd hd' hy hy'
    go_wp2_with fail
    (focus (refine CF fun W0 hb0 hc0 hf0 hz0=>?_;refine Aj [12,13,15,16] (S:=fun w'=>Held W0 w') DC (fun hHeld=>?_);(repeat' (first|(revert hK;intro hK;go_simp;(try ((go_at_call 31;apply Calls.mono;apply (RJ (t:=gh) (u:=u4.head) (xs:=gd) (ps:=u4.proof));(apply Rs.A8 hr1;(exact AO));(apply Rs.A8 hr4;(exact AO));rintro E w9 ⟨A5,c5,n5,rfl,Oe,hb⟩;rw[← HG.out] at Oe;rw[← HG.out];obtain⟨hc,hf,hz⟩:=xy hb);(try go_wp2_with fail)));(first|(refine ER hK (h:=?_);clear hK K;(try clear hHeld))|(refine CQ hK DC (h:=?_);clear hK K hHeld;intro hHeld)))|refine Mc [] [] (h:=?_)|refine tkB [] [] hHeld (h:=?_)|refine Mo (fun K hK=>?_) ?_|refine FW (fun K hK=>?_) ?_|refine FV ?_|exact Cf|refine Mh (fun K hK=>?_) ?_|refine FT (fun K hK=>?_) ?_));all_goals (refine FR ?_)))
    all_goals
     cases hG2:G.2
     ·go_wp2_with fail
      (focus (refine CF fun W0 hb0 hc0 hf0 hz0=>?_;refine Aj [] (S:=fun w'=>Held W0 w') DC (fun hHeld=>?_);(repeat' (first|(revert hK;intro hK;go_simp;(try ((first|(go_at_call 28;apply Calls.mono;(with_reducible apply (Ho G.1.head B2 d2 n2 G.1.done G.1.head A5 c5 n5 G.1.done));(apply Rs.A8 hr2;(exact AO));(apply Rs.A8 Oe.rs;(exact AO));rintro E yE ⟨rfl,hb⟩;rw[show (decide (G.1.head=G.1.head)&&decide (G.1.done=G.1.done))=true from by simp];obtain⟨hc,hf,hz⟩:=xy hb)|(go_at_call 28;apply Calls.mono;(with_reducible apply (Ho G.1.head A5 c5 n5 G.1.done gh B1 d1 n1 gd));(apply Rs.A8 Oe.rs;(exact AO));(apply Rs.A8 hr1;(exact AO));rintro E w12 ⟨rfl,hb⟩;rw[show (decide (G.1.head=gh)&&decide (G.1.done=gd))=true from by rw[zo.out hG2];simp];obtain⟨hc,hf,hz⟩:=xy hb)|(go_at_call 29;apply Calls.mono;apply (EN (x:=X.1.AB) (y:=z.AB));(apply RM.A8 hxm;(exact AO));(apply RM.A8 ZT;(exact AO));rintro E w11 ⟨rfl,hb⟩;rw[show decide (X.1.AB=z.AB)=true from decide_eq_true K2.out];obtain⟨hc,hf,hz⟩:=xy hb));(try go_wp2_with fail)));refine CQ hK DC (h:=?_);clear hK K hHeld;intro hHeld)|refine tkB [] [] hHeld (h:=?_)|refine skB [] [] hHeld (h:=?_)|refine FW (fun K hK=>?_) ?_|refine FV ?_|exact Cf|refine FT (fun K hK=>?_) ?_));all_goals (refine FR ?_);all_goals (obtain⟨hb,hc,hf,hz⟩:=xh (by assumption:Held W0 _))))
      all_goals go_wp2_with fail
      all_goals go_ret
      all_goals exact⟨rfl,Ch.trans' HE.out (by exact AA) (fun _ _ h=>h)⟩
     ·go_wp2_with fail
      (focus (refine CF fun W0 hb0 hc0 hf0 hz0=>?_;refine Aj [] (S:=fun w'=>Held W0 w') DC (fun hHeld=>?_);(repeat' (first|(revert hK;intro hK;go_simp;(try ((first|(go_at_call 28;apply Calls.mono;(with_reducible apply (Ho G.1.head B2 d2 n2 G.1.done G.1.head A5 c5 n5 G.1.done));(apply Rs.A8 hr2;(exact AO));(apply Rs.A8 Oe.rs;(exact AO));rintro E yE ⟨rfl,hb⟩;rw[show (decide (G.1.head=G.1.head)&&decide (G.1.done=G.1.done))=true from by simp];obtain⟨hc,hf,hz⟩:=xy hb)|(go_at_call 28;apply Calls.mono;(with_reducible apply (Ho G.1.head A5 c5 n5 G.1.done gh B1 d1 n1 gd));(apply Rs.A8 Oe.rs;(exact AO));(apply Rs.A8 hr1;(exact AO));rintro E w12 ⟨rfl,hb⟩;rw[show (decide (G.1.head=gh)&&decide (G.1.done=gd))=true from by rw[zo.out hG2];simp];obtain⟨hc,hf,hz⟩:=xy hb)|(go_at_call 29;apply Calls.mono;apply (EN (x:=X.1.AB) (y:=z.AB));(apply RM.A8 hxm;(exact AO));(apply RM.A8 ZT;(exact AO));rintro E w11 ⟨rfl,hb⟩;rw[show decide (X.1.AB=z.AB)=true from decide_eq_true K2.out];obtain⟨hc,hf,hz⟩:=xy hb));(try go_wp2_with fail)));refine CQ hK DC (h:=?_);clear hK K hHeld;intro hHeld)|refine tkB [] [21,22,23,24,25,26,27,28] hHeld (h:=?_)|refine skB [] [21,22,23,24,25,26,27,28] hHeld (h:=?_)|refine FW (fun K hK=>?_) ?_|refine FV ?_|exact Cf|refine FT (fun K hK=>?_) ?_));all_goals (refine FR ?_);all_goals (obtain⟨hb,hc,hf,hz⟩:=xh (by assumption:Held W0 _))))
      all_goals go_wp2_with fail
      all_goals go_ret
      all_goals exact⟨rfl,Ch.trans' HE.out (by exact AA) (fun _ _ h=>h)⟩
end Go.Proofs.YtgaflnpmilikcaaGreat
