/-
 Walk: the law f_.
-/
import Derived.Test.YtgaflnpmilikcaaGreatPx52
import Derived.Test.YtgaflnpmilikcaaGreatPx6
set_option maxRecDepth 100000
set_option linter.unusedSimpArgs false
set_option linter.unusedVariables false
namespace Go.Proofs.YtgaflnpmilikcaaGreat
open Go.RowKit Go
set_option maxHeartbeats 20000000
theorem U3 (A:Option Addr) (c n:Nat) (bs:List Int) (w:World) (hxs:RB w 0 A c n bs) (hq:∀ x∈bs,0≤x∧x≤255):Calls Tryz.prog 8 #[.slice A n c] w fun E w'=>E=.returned (.bool true)∧Ex w w':=by
 have hbig:=Rs.big hxs
 by_cases hn:n≤1048576
 case neg=>
  go_enter Tryz.func8,Tryz.ntmps8
  go_wp2_with fail
  go_ret
  exact⟨rfl,AA⟩
 go_enter Tryz.func8,Tryz.ntmps8
 go_wp2_with fail
 apply Calls.mono
 apply GQ
 ·apply Rs.A8 hxs;(exact AO)
 ·exact hq
 rintro E w1 ⟨aF,BD,A_,aL,Ae,AU,aP,Ag,AY,aD,Ac,AQ,aN,Ad,Aa,aS,Af,Ab,aI,BF,A7,aG,BA,Az,aB,aBc,Ao,z,e,rfl,hz1,hzn,hb⟩
 obtain⟨hc,hf,hz⟩:=xy hb
 clear hxs hq
 go_upto_region 4 with fail
 (refine CF fun W0 hb0 hc0 hf0 hz0=>?_)
 have hA:Fw W0 w1.heap.size aF BD A_ aL Ae AU aP Ag AY aD Ac AQ aN Ad Aa aS Af Ab aI BF A7 aG BA Az aB aBc Ao z.AB.clock:=Fw.new
 have hV:K_ W0 (w1.heap.size+1) e:=K_.new
 have hk1:KF 0 w1 W0:=AO
 have hg1:w1.heap.size≤w1.heap.size:=Nat.le_refl _
 have hg0:w.heap.size≤w1.heap.size:=hb.size
 have HE:Mq w W0:=⟨AA⟩
 generalize hgw:w1.heap.size=gw at hA hV hg0 ⊢
 rw[hgw] at hg1
 replace hg1:w1.heap.size≤gw:=Nat.le_of_eq hgw
 clear hgw hb hb0 hc hc0 hf hf0 hz hz0
 have J9:=Lib.hid hk1
 ((repeat (rename Ch _ _ _=>zz;clear zz));(repeat (rename Be _ _ _=>zz;clear zz));(repeat (rename (∀ (b o:Nat),¬((⟨b,0,none⟩:Addr)=⟨b-_+_,0,none⟩)→_)=>zz;clear zz)))
 have hk1:=J9.out
 clear J9
 have hb:=HE.out
 clear HE
 obtain⟨Wd,hWd⟩:∃ z,z=W0:=⟨_,rfl⟩
 subst hWd
 obtain⟨k,hk⟩:∃ k:Nat,(n:Int).tmod 2=k:=⟨((n:Int).tmod 2).toNat,by have:=Ib (x:=(n:Int)) (n:=2) (by omega) (by omega);omega⟩
 have hk2:k<2:=by have:=Ib (x:=(n:Int)) (n:=2) (by omega) (by omega);omega
 obtain⟨a0,a1,a2,a3,a4,a5,a6,a7,a8,a9,KG,af⟩:=hA
 obtain⟨v0,v1,v2,v3,v4,v5,v6,v7,v8,v9,v10,vf⟩:=hV
 go_upto_region 6 with fail
 (refine CF fun W0 hb0 hc0 hf0 hz0=>?_)
 obtain⟨e,hV,hE⟩:∃ e':Sw.Ev,K_ W0 (gw+1) e'∧e'.kind=4∧e'.at_=(k:Int):=⟨⟨4,e.EK,(k:Int),e.ticket,e.who⟩,K_.new,⟨rfl,rfl⟩⟩
 have hA:Fw W0 gw aF BD A_ aL Ae AU aP Ag AY aD Ac AQ aN Ad Aa aS Af Ab aI BF A7 aG BA Az aB aBc Ao z.AB.clock:=Fw.new
 have J9:=Lib.hid (show KF 0 w1 W0 by with_reducible repeat (first|exact hk1|apply kD|(apply kE;assumption)|(refine kS ?_ (by dsimp only;omega))))
 have HE:Mq w W0:=⟨AA⟩
 clear hk1 hb hb0 hc0 hf0 hz0
 ((repeat (rename Ch _ _ _=>zz;clear zz));(repeat (rename Be _ _ _=>zz;clear zz));(repeat (rename (∀ (b o:Nat),¬((⟨b,0,none⟩:Addr)=⟨b-_+_,0,none⟩)→_)=>zz;clear zz)))
 have hk1:=J9.out
 have hb:=HE.out
 clear HE J9
 obtain⟨Wd,hWd⟩:∃ z,z=W0:=⟨_,rfl⟩
 subst hWd
 clear a0 a1 a2 a3 a4 a5 a6 a7 a8 a9 KG af v0 v1 v2 v3 v4 v5 v6 v7 v8 v9 v10 vf hk
 have ak:=Lib.hid hE
 clear hE
 have D8:RW Wd 0 aF BD A_ aL Ae AU aP Ag AY aD Ac AQ aN Ad Aa aS Af Ab aI BF A7 aG BA Az aB aBc Ao z:=hz1.keep hk1
 clear hz1 hk1
 obtain⟨X,hX0⟩:∃ X,X=Sw.Cg z e:=⟨_,rfl⟩
 have HX:=Lib.hid hX0
 have jE:(X.2 != X.2)=false:=by simp
 clear hX0
 obtain⟨Wq,CE⟩:∃ z,z=Wd:=⟨_,rfl⟩
 subst CE
 have HB:Mq w Wq:=⟨hb⟩
 have HA:=Lib.hid hA
 have HV:=Lib.hid hV
 obtain⟨a0,a1,a2,a3,a4,a5,a6,a7,a8,a9,KG,af⟩:=hA
 obtain⟨v0,v1,v2,v3,v4,v5,v6,v7,v8,v9,v10,vf⟩:=hV
 clear hb
 go_upto_region 7 with (go_at_call 20;apply Calls.mono;apply (Gq (x:=z) (e:=e));(apply RW.A8 D8;(exact AO));rintro E w2 ⟨bF,Di,DZ,bL,Bg,BR,bP,Bf,BV,bD,Bh,Ba,bN,Bd,Bb,bS,Bc,BZ,bI,Dg,bIn,bG,Dh,DL,bB,Dj,Cy,τ2,rfl,hox,hb⟩;rw[← HX.out] at hox;rw[← HX.out];obtain⟨hc,hf,hz⟩:=xy hb)
 (refine CF fun W0 hb0 hc0 hf0 hz0=>?_)
 have hX:Fw W0 w2.heap.size bF Di DZ bL Bg BR bP Bf BV bD Bh Ba bN Bd Bb bS Bc BZ bI Dg bIn bG Dh DL bB Dj Cy X.1.AB.clock:=Fw.new
 have hxw:RW W0 0 bF Di DZ bL Bg BR bP Bf BV bD Bh Ba bN Bd Bb bS Bc BZ bI Dg bIn bG Dh DL bB Dj Cy X.1:=(hox.JU.keep AO).less (Nat.zero_le _)
 have hE1:Ex Wq W0:=AA
 have HA:=Lib.hid (HA.out.ex hE1)
 have HV:=Lib.hid (HV.out.ex hE1)
 have D8:RW W0 0 aF BD A_ aL Ae AU aP Ag AY aD Ac AQ aN Ad Aa aS Af Ab aI BF A7 aG BA Az aB aBc Ao z:=D8.A8 (by exact kE hE1 (kR _ _))
 have HB:Mq w W0:=⟨Ch.trans' HB.out hE1 (fun _ _ h=>h)⟩
 obtain⟨gx,hgx⟩:∃ g,g=w2.heap.size:=⟨_,rfl⟩
 rw[← hgx] at hX
 (try rw[← hgx])
 clear hgx hb hb0 hc hc0 hf hf0 hz hz0 hox hE1 a0 a1 a2 a3 a4 a5 a6 a7 a8 a9 KG af v0 v1 v2 v3 v4 v5 v6 v7 v8 v9 v10 vf
 ((repeat (rename Ch _ _ _=>zz;clear zz));(repeat (rename Be _ _ _=>zz;clear zz));(repeat (rename (∀ (b o:Nat),¬((⟨b,0,none⟩:Addr)=⟨b-_+_,0,none⟩)→_)=>zz;clear zz)))
 obtain⟨Wp,YD⟩:∃ z,z=W0:=⟨_,rfl⟩
 subst YD
 have HP:=Lib.hid hX
 obtain⟨a0,a1,a2,a3,a4,a5,a6,a7,a8,a9,KG,af⟩:=HA.out
 obtain⟨v0,v1,v2,v3,v4,v5,v6,v7,v8,v9,v10,vf⟩:=HV.out
 obtain⟨x0,x1,x2,x3,x4,x5,x6,x7,x8,x9,x10,xf⟩:=hX
 go_upto_region 10 with (first|(go_at_call 25;apply Calls.mono;apply (I8 (x:=z) (e:=e));(apply RW.A8 D8;(exact AO));rintro E w3 ⟨vF,l7,l6,vL,lZ,lY,vP,lV,lU,vD,l9,l8,vN,lX,lW,vS,lT,lS,vI,lq,lh,vG,lv,lu,vB,mD,l_,rfl,hoy,hb⟩;rw[← HX.out] at hoy;rw[← HX.out];obtain⟨hc,hf,hz⟩:=xy hb)|(go_at_call 13;apply Calls.mono;apply (Dv (x:=X.1) (y:=X.1));(apply RW.A8 hxw;(exact AO));(apply RW.A8 hoy;(exact AO));rintro E w4 ⟨rfl,hb⟩;rw[show decide (X.1=X.1)=true from decide_eq_true rfl];obtain⟨hc,hf,hz⟩:=xy hb))
 (refine CF fun W0 hb0 hc0 hf0 hz0=>?_)
 have hE1:Ex Wp W0:=AA
 have HA:=Lib.hid (HA.out.ex hE1)
 have HV:=Lib.hid (HV.out.ex hE1)
 have HP:=Lib.hid (HP.out.ex hE1)
 have D8:RW W0 0 aF BD A_ aL Ae AU aP Ag AY aD Ac AQ aN Ad Aa aS Af Ab aI BF A7 aG BA Az aB aBc Ao z:=D8.A8 (by exact kE hE1 (kR _ _))
 have hxw:RW W0 0 bF Di DZ bL Bg BR bP Bf BV bD Bh Ba bN Bd Bb bS Bc BZ bI Dg bIn bG Dh DL bB Dj Cy X.1:=hxw.A8 (by exact kE hE1 (kR _ _))
 have hb:=Ch.trans' HB.out hE1 (fun _ _ h=>h)
 clear HB hb0 hc hc0 hf hf0 hz hz0 hoy hE1 a0 a1 a2 a3 a4 a5 a6 a7 a8 a9 KG af v0 v1 v2 v3 v4 v5 v6 v7 v8 v9 v10 vf x0 x1 x2 x3 x4 x5 x6 x7 x8 x9 x10 xf
 have HB:Mq w W0:=⟨hb⟩
 clear hb
 ((repeat (rename Ch _ _ _=>zz;clear zz));(repeat (rename Be _ _ _=>zz;clear zz));(repeat (rename (∀ (b o:Nat),¬((⟨b,0,none⟩:Addr)=⟨b-_+_,0,none⟩)→_)=>zz;clear zz)))
 have hb:=HB.out
 clear HB
 obtain⟨Wq,CE⟩:∃ z,z=W0:=⟨_,rfl⟩
 subst CE
 obtain⟨a0,a1,a2,a3,a4,a5,a6,a7,a8,a9,KG,af⟩:=HA.out
 obtain⟨v0,v1,v2,v3,v4,v5,v6,v7,v8,v9,v10,vf⟩:=HV.out
 obtain⟨x0,x1,x2,x3,x4,x5,x6,x7,x8,x9,x10,xf⟩:=HP.out
 have hX:=HX.out
 cases g:Sw.Cc z
 ·rw[Jy g] at hX
  have HZ:=Lib.hid (show X.1=Sw.Cz by rw[hX])
  clear hX
  go_wp2_with (first|(go_at_call 16;refine (Ie _).mono ?_;rintro E w' ⟨rfl,rfl⟩)|(go_at_call 15;apply Calls.mono;apply (CW (x:=z));(apply RW.A8 D8;(exact AO));rintro E w6 ⟨rfl,hb⟩;rw[g];obtain⟨hc,hf,hz⟩:=xy hb)|(go_at_call 13;apply Calls.mono;apply (Fz (x:=X.1));(apply RW.A8 hxw;(exact AO));rintro E w7 ⟨rfl,hb⟩;rw[show decide (X.1=Sw.Cz)=true from decide_eq_true HZ.out];obtain⟨hc,hf,hz⟩:=xy hb))
  go_ret
  exact⟨rfl,AA⟩
 rw[Km g,Sw.iZ ak.out.1,ak.out.2] at hX
 have hok:=Sw.Am.1 g
 have hbl:=D8.BS.len.1
 by_cases h6:Ao=6
 ·have HZ:=Lib.hid (show X.1=z by rw[hX];exact Sw.Xm (by omega))
  have h6':((Ao:Int)==6)=true:=by rw[h6];rfl
  clear hX h6 hbl hok
  go_wp2_with (first|(go_at_call 15;apply Calls.mono;apply (CW (x:=z));(apply RW.A8 D8;(exact AO));rintro E w6 ⟨rfl,hb⟩;rw[g];obtain⟨hc,hf,hz⟩:=xy hb)|(go_at_call 13;apply Calls.mono;apply (Dv (x:=X.1) (y:=z));(apply RW.A8 hxw;(exact AO));(apply RW.A8 D8;(exact AO));rintro E w8 ⟨rfl,hb⟩;rw[show decide (X.1=z)=true from decide_eq_true HZ.out];obtain⟨hc,hf,hz⟩:=xy hb))
  go_ret
  exact⟨rfl,AA⟩
 have h6':((Ao:Int)==6)=false:=by simp;omega
 have hx2:(X.2==0)=true:=by rw[hX];rfl
 obtain⟨e1,e2,e3⟩:=Sw.iw (z:=z) (k:=(k:Int)) (by omega) (by have:=hok.Ir;omega)
 have k1:X.1.BS=z.BS ++ [⟨(k:Int),(Sw.Cw z.AB.log).getD Sw.DX,Sw.Dn z.AB.log (Sw.Cb z k).head.size⟩]:=by rw[hX];exact e1
 have K2:=Lib.hid (show X.1.AB=z.AB by rw[hX];exact e2)
 have hxg:=hxw.AV
 rw[show X.1.AV=z.AV by rw[hX];exact e3] at hxg
 have hzg:=D8.AV
 have hgl:Az=2:=by have h1:=hzg.len.1;have h2:=hok.GU;omega
 have hgm:DL=2:=by have h1:=hxg.len.1;have h2:=hok.GU;omega
 have hxl:=hxw.BS.len.1
 rw[k1,List.length_append,List.length_singleton] at hxl
 have hbb:Cy=Ao+1:=by omega
 have hb6:Ao<6:=by have:=hok.Ir;omega
 subst hgl hgm hbb
 obtain⟨g3,o3,u,B3,d3,n3,rfl,oP,hg3,hd3,hy3,q0,q1,q2,q3,q4,hr3⟩:=QU hxw.BS (k:=Ao) (by omega)
 rw[k1,List.getElem?_append_right (by omega),show Ao-z.BS.length=0 by omega] at hy3
 obtain rfl:=Option.some.inj hy3
 obtain⟨g1,o1,u1,B1,d1,n1,rfl,vC,hg1',hd1,hy1,r0,r1,r2,r3,hr1⟩:=Ld hzg hk2
 obtain⟨g2,o2,u2,B2,d2,n2,rfl,ABM,hg2,hd2,hy2,p0,p1,p2,p3,hr2⟩:=Ld hxg hk2
 obtain rfl:u2=u1:=Option.some.inj (hy2.symm.trans hy1)
 have hk':(k:Int)<2:=by omega
 have hk0:(0:Int)≤(k:Int):=by omega
 have wv:IntKind.i64.wrap ((Ao:Int)+1)=(Ao:Int)+1:=IntWalk.i64_in _ (by omega)
 have hj0:(0:Int)≤(Ao:Int):=by omega
 have hj1:(Ao:Int)<(Ao:Int)+1:=by omega
 have hkk:((k:Int)==(k:Int))=true:=by simp
 rw[ak.out.2] at v8
 clear hX e1 e2 e3 k1 h6 hbl hok hxl hd3 hy3 hd1 hy1 hd2 hy2
 go_upto_region 16 with (first|(go_at_call 15;apply Calls.mono;apply (CW (x:=z));(apply RW.A8 D8;(exact AO));rintro E w6 ⟨rfl,hb⟩;rw[g];obtain⟨hc,hf,hz⟩:=xy hb)|(go_at_call 30;apply Calls.mono;apply Ui;(apply Rs.A8 D8.Dt.log;(exact AO));rintro E w5 ⟨rfl,hb⟩;obtain⟨hc,hf,hz⟩:=xy hb))
 generalize (Sw.Cw z.AB.log).getD Sw.DX=H at *
 (focus (refine CF fun W0 hb0 hc0 hf0 hz0=>?_;refine Aj [] (S:=fun w'=>Held W0 w') DC (fun hHeld=>?_);(repeat' (first|(revert hK;intro hK;go_simp;(try ((first|(go_at_call 29;apply Calls.mono;apply (EN (x:=X.1.AB) (y:=z.AB));(apply RM.A8 hxw.Dt;(exact AO));(apply RM.A8 D8.Dt;(exact AO));rintro E w9 ⟨rfl,hb⟩;rw[show decide (X.1.AB=z.AB)=true from decide_eq_true K2.out];obtain⟨hc,hf,hz⟩:=xy hb)|(go_at_call 28;apply Calls.mono;apply (Ho (t:=u2.head) (xs:=u2.done) (u:=u2.head) (ys:=u2.done));(apply Rs.A8 hr2;(exact AO));(apply Rs.A8 hr1;(exact AO));rintro E yE ⟨rfl,hb⟩;rw[show (decide (u2.head=u2.head)&&decide (u2.done=u2.done))=true from by simp];obtain⟨hc,hf,hz⟩:=xy hb));(try go_wp2_with fail)));refine CQ hK DC (h:=?_);clear hK K hHeld;intro hHeld)|refine FQ [] [] hHeld (h:=?_)|refine aQ [] [] hHeld (h:=?_)|refine FW (fun K hK=>?_) ?_|refine FV ?_|exact Cf|refine FT (fun K hK=>?_) ?_));all_goals (refine FR ?_);all_goals (obtain⟨hb,hc,hf,hz⟩:=xh (by assumption:Held W0 _))))
 all_goals go_wp2_with fail
 all_goals go_ret
 all_goals exact⟨rfl,AA⟩
end Go.Proofs.YtgaflnpmilikcaaGreat
