/- Texts joined: WldG. -/
import Derived.Test.YtgaflnpmilikcaaGreatPx41
import Derived.Test.YtgaflnpmilikcaaGreatPx15
set_option maxRecDepth 100000
set_option linter.unusedSimpArgs false
set_option linter.unusedVariables false
namespace Go.Proofs.YtgaflnpmilikcaaGreat
open Go.RowKit Go
set_option maxHeartbeats 20000000
def QL (x:Sw.World) (kind i:Int):Sw.World:=if Sw.Br i 0 (x.BS.length-1) then (if kind=7 then Sw.twice x i else if kind=5 then Sw.hear x i else Sw.lose x i) else x
theorem Ve (aF:Option Addr) (BD A_:Nat) (aL:Option Addr) (Ae AU:Nat) (aP:Option Addr) (Ag AY:Nat) (aD:Option Addr) (Ac AQ:Nat) (aN:Option Addr) (Ad Aa:Nat) (aS:Option Addr) (Af Ab:Nat) (aI:Option Addr) (BF A7:Nat) (aG:Option Addr) (BA Az:Nat) (aB:Option Addr) (aBc Ao:Nat) (x:Sw.World) (kind i:Int) (lo:Nat) (τ:Nat→Nat) (w:World) (hW:Eh Jk I4 τ w lo aF BD A_ aL Ae AU aP Ag AY aD Ac AQ aN Ad Aa aS Af Ab aI BF A7 aG BA Az aB aBc Ao x) (hok:Sw.Cc x=true) (hlo:lo≤w.heap.size):Calls Tryz.prog 102 #[.agg #[.slice aF A_ BD,.slice aL AU Ae,.slice aP AY Ag,.slice aD AQ Ac,.int .i64 x.AB.clock,.slice aN Aa Ad,.slice aS Ab Af,.slice aI A7 BF,.slice aG Az BA,.slice aB Ao aBc],.int .i64 kind,.int .i64 i] w fun E w'=>Sd lo τ w w' (fun u=>u) E (QL x kind i):=by
 obtain⟨-,-,hG2,TL,nu,-⟩:=IP hok
 have hl4:=hW.AV.rg.len.1
 have hl5:=hW.BS.rx.len.1
 have L5:=Lib.hid hl5
 have hB4:Ao≤6:=by omega
 have L4:=Lib.hid (show Az=2 by omega)
 have hBb:=hW.Z4
 have wv:IntKind.i64.wrap ((Ao:Int)-1)=(Ao:Int)-1:=IntWalk.i64_in _ (by omega)
 rw[show QL x kind i=if Sw.Br i 0 ((Ao:Int)-1) then (if kind=7 then Sw.twice x i else if kind=5 then Sw.hear x i else Sw.lose x i) else x from by unfold QL;rw[hl5]]
 clear hl4 hG2 hl5
 cases g1:Sw.Br i 0 ((Ao:Int)-1)
 case false=>
  simp only[Bool.false_eq_true,if_false]
  go_enter Tryz.func102,Tryz.ntmps102
  go_wp2_with (go_at_call 48;refine (Aw _ _ _ _).mono ?_;rintro E w' ⟨rfl,rfl⟩)
  refine bodyPost_ret (v:=.agg #[.slice aF A_ BD,.slice aL AU Ae,.slice aP AY Ag,.slice aD AQ Ac,.int .i64 x.AB.clock,.slice aN Aa Ad,.slice aS Ab Af,.slice aI A7 BF,.slice aG Az BA,.slice aB Ao aBc]) (by simp[results,Tryz.results102,go_sem, *]) rfl ?_
  exact⟨aF,BD,A_,aL,Ae,AU,aP,Ag,AY,aD,Ac,AQ,aN,Ad,Aa,aS,Af,Ab,aI,BF,A7,aG,BA,Az,aB,aBc,Ao,rfl,fun w'' hz=>((hW.Av AO).zeros hz).JU,AA⟩
 simp only[if_true]
 have uZ:=Sw.BB.1 g1
 obtain⟨ii,rfl⟩:∃ ii:Nat,i=ii:=⟨i.toNat,by omega⟩
 have hii:ii<Ao:=by omega
 have hG:=hW.CX (τ':=fun _=>0) (Nat.le_refl _)
 obtain⟨gW,hu1,hu2,hu3⟩:=hW.BS.ex
 obtain⟨gg,xv,rfl,hg0,hg1,hxv,q0,q1,q2,q3,q4,hfB⟩:=Wv hu1.ow hii
 obtain⟨m,hy⟩:∃ m,x.BS[ii]?=some m:=⟨_,List.getElem?_eq_getElem (by have:=L5.out;omega)⟩
 obtain⟨zS,zR,dm⟩:=hu3 ii xv m hxv hy
 obtain⟨xvg,xvh,B1,d1,m1⟩:=xv
 dsimp only at zS zR dm q0 q1 q2 q3 q4
 subst zS zR
 have hr:=dm.rs
 have hmo:=nu m (List.mem_of_getElem? hy)
 have iE:Sw.Gj x ii=m:=by unfold Sw.Gj;rw[Int.toNat_natCast];exact Sw.CP hy
 have xk:=Lib.hid iE
 have HMO:=Lib.hid hmo
 have zm:=Lib.hid (show ∃ KD:Nat,m.gate=KD∧KD<2 from by
  have h1:=hmo
  simp only[Sw.Fs,Bool.and_eq_true] at h1
  have h2:=Sw.BB.1 h1.1.1
  exact⟨m.gate.toNat,by omega,by omega⟩)
 have HY:=Lib.hid hy
 have t1:(0:Int)≤(ii:Int):=by omega
 have t2:(ii:Int)<(Ao:Int):=by omega
 clear hy iE hmo nu uZ hu1 hu2 hu3 hxv hfB
 by_cases k7:kind=7
 ·subst k7
  simp only[if_true]
  by_cases g2:Ao=6
  ·have g2':¬(Ao:Int)<6:=by omega
   have e:Sw.twice x ii=x:=by unfold Sw.twice;rw[if_neg (by rw[← L5.out];omega)]
   rw[e];clear e g2
   go_enter Tryz.func102,Tryz.ntmps102
   go_wp2_with (go_at_call 48;refine (Aw _ _ _ _).mono ?_;rintro E w' ⟨rfl,rfl⟩)
   refine bodyPost_ret (v:=.agg #[.slice aF A_ BD,.slice aL AU Ae,.slice aP AY Ag,.slice aD AQ Ac,.int .i64 x.AB.clock,.slice aN Aa Ad,.slice aS Ab Af,.slice aI A7 BF,.slice aG Az BA,.slice (some ⟨gg,0,none⟩) Ao aBc]) (by simp[results,Tryz.results102,go_sem, *]) rfl ?_
   exact⟨aF,BD,A_,aL,Ae,AU,aP,Ag,AY,aD,Ac,AQ,aN,Ad,Aa,aS,Af,Ab,aI,BF,A7,aG,BA,Az,some ⟨gg,0,none⟩,aBc,Ao,rfl,fun w'' hz=>((hW.Av AO).zeros hz).JU,AA⟩
  have g2':(Ao:Int)<6:=by omega
  have e:Sw.twice x ii={ x with BS:=x.BS ++ [m] }:=by unfold Sw.twice;rw[if_pos (by rw[← L5.out];omega),xk.out]
  rw[e];clear e g2
  have hm1:m1≤4194304:=by
   have h1:=HMO.out
   have h2:=hr.1
   simp only[Sw.Fs,Sw.DW,Bool.and_eq_true,decide_eq_true_eq] at h1
   omega
  obtain⟨mg,mh,mp⟩:=m
  dsimp only at q0 q1 q2 q3 q4 hr
  go_enter Tryz.func102,Tryz.ntmps102
  go_upto_region 6 with (go_at_call 48;refine (Aw _ _ _ _).mono ?_;rintro E w' ⟨rfl,rfl⟩)
  (refine CF fun W0 hb0 hc0 hf0 hz0=>?_)
  have p0:W0.cell? ⟨w.heap.size,0,none⟩=some (.slice aF A_ BD):=(Ak);have p1:W0.cell? ⟨w.heap.size,1,none⟩=some (.slice aL AU Ae):=(Ak);have p2:W0.cell? ⟨w.heap.size,2,none⟩=some (.slice aP AY Ag):=(Ak);have p3:W0.cell? ⟨w.heap.size,3,none⟩=some (.slice aD AQ Ac):=(Ak);have p4:W0.cell? ⟨w.heap.size,4,none⟩=some (.int .i64 x.AB.clock):=(Ak);have p5:W0.cell? ⟨w.heap.size,5,none⟩=some (.slice aN Aa Ad):=(Ak);have p6:W0.cell? ⟨w.heap.size,6,none⟩=some (.slice aS Ab Af):=(Ak);have p7:W0.cell? ⟨w.heap.size,7,none⟩=some (.slice aI A7 BF):=(Ak);have p8:W0.cell? ⟨w.heap.size,8,none⟩=some (.slice aG Az BA):=(Ak);have p9:W0.cell? ⟨w.heap.size,9,none⟩=some (.slice (some ⟨gg,0,none⟩) Ao aBc):=(Ak)
  have pf:∀ i:Nat,W0.frozen? ⟨w.heap.size,i,none⟩=false:=fun i=>Ak
  have Fu:Lb W0 (w.heap.size+1) 10:=Dw
  have r0:W0.cell? ⟨w.heap.size+1+1,0,none⟩=some (.int .i64 mg):=(Ak);have r1:W0.cell? ⟨w.heap.size+1+1,1,none⟩=some (.int .i64 mh.size):=(Ak);have r2:W0.cell? ⟨w.heap.size+1+1,2,none⟩=some (.int .i64 mh.log):=(Ak);have r3:W0.cell? ⟨w.heap.size+1+1,3,none⟩=some (.int .i64 mh.own):=(Ak);have r4:W0.cell? ⟨w.heap.size+1+1,4,none⟩=some (.slice B1 m1 d1):=(Ak)
  have RV:=hG.Av (show KF lo w W0 from AO)
  have hrq:RI W0 0 B1 d1 m1 mp:=hr.A8 AO
  have hcq:Ex w W0:=AA
  have QA:w.heap.size+3≤W0.heap.size:=Aq
  clear hb0 hc0 hf0
  obtain⟨Wq,CE⟩:∃ z,z=W0:=⟨_,rfl⟩
  subst CE
  obtain⟨vs,hv1,hv2,hv3⟩:=RV.BS.ex
  have PD:=Lib.hid hv3
  have PE:=Lib.hid hv2
  clear hv3 hv2
  obtain⟨hcz,hfz⟩:=Lb.rules Fu
  (focus (refine CF fun W0 hb0 hc0 hf0 hz0=>?_;refine Aj [5,6,7] (S:=fun w'=>Held W0 w') DC (fun hHeld=>?_);(repeat' (first|refine Mc [] [] (h:=?_)|refine FQ [] [] hHeld (h:=?_)|refine Mo (fun K hK=>?_) ?_|refine FW (fun K hK=>?_) ?_|refine FV ?_|exact Cf|refine Mh (fun K hK=>?_) ?_|refine FT (fun K hK=>?_) ?_|((apply BM (lo:=lo) Pv Kq rfl rfl rfl rfl;(exact Ow.keep hv1.ow AO);(refine Rs.new [⟨mg,mh,B2,d2,m1⟩] (by (first|with_reducible rfl|(simp only[BO];done)|(simp only[BO];omega))) rfl rfl (fun _=>rfl) (by omega));omega;(exact Aq);intro A1 c1 w4 ho1 Ap Bo Ay Ah;clear Ay Ah;obtain⟨hC0,hG0⟩:=Ch.DK Ap (g:=w.heap.size) (by exact Aq) (fun a ha=>by have:=hBb a ha;omega);obtain⟨Zo,hG1⟩:=Ch.DK Ap (g:=w.heap.size+1) (by exact Aq) (fun a ha=>by have:=hBb a ha;omega);have QB:=Ap.size;(try simp only[BO] at QB));(first|(refine CQ hK DC (h:=?_);clear hK K hHeld;intro hHeld)|(refine ER hK (h:=?_);clear hK K)))|(revert hK;intro hK;go_simp;(try ((go_at_call 97;apply Calls.mono;apply (Yq (q:=mg) (t:=mh) (xs:=mp));(apply Rs.A8 hrq;(exact AO));omega;rintro E w3 ⟨B2,d2,rfl,LK,hb⟩;obtain⟨hc,hf,hz⟩:=xy hb);(try go_wp2_with fail)));(first|(refine CQ hK DC (h:=?_);clear hK K hHeld;intro hHeld)|(refine ER hK (h:=?_);clear hK K)))));all_goals (refine FR ?_)))
  go_wp2_with fail
  refine bodyPost_ret (v:=.agg #[.slice aF A_ BD,.slice aL AU Ae,.slice aP AY Ag,.slice aD AQ Ac,.int .i64 x.AB.clock,.slice aN Aa Ad,.slice aS Ab Af,.slice aI A7 BF,.slice aG Az BA,.slice A1 (Ao+1) c1]) (by simp[results,Tryz.results102,go_sem, *]) rfl ?_
  have hbl:=hW.Z0
  have hS:=Ch.trans' (show Ch (JD lo τ) w _ from AA) Ap (fun i _ ⟨a,ha,e⟩=>by rw[e];exact hbl a ha)
  exact⟨aF,BD,A_,aL,Ae,AU,aP,Ag,AY,aD,Ac,AQ,aN,Ad,Aa,aS,Af,Ab,aI,BF,A7,aG,BA,Az,A1,c1,Ao+1,rfl,fun w'' hz=>Eh.sent (m:=⟨mg,mh,mp⟩) RV hv1 PE.out PD.out (by exact AA) ((LK.keep AO).less Aq) Aq ho1 Ap Bo (Zr.of (g1:=w.heap.size+2) KA hz Aq Aq),AA⟩
 have k7':(kind==7)=false:=by simp[k7]
 rw[if_neg k7]
 have hcap:Ao≤aBc:=hW.BS.cap
 have hc4:aBc≤9223372036854775807:=hW.BS.xJ
 have z1:(ii:Int)≤(aBc:Int):=by omega
 have z2:(ii:Int)+1≤(Ao:Int):=by omega
 have z3:(Ao:Int)≤(aBc:Int):=by omega
 have z4:(0:Int)≤(ii:Int)+1:=by omega
 have wv2:IntKind.i64.wrap ((ii:Int)+1)=(ii:Int)+1:=IntWalk.i64_in _ (by omega)
 by_cases hcc:aBc=ii+1
 ·obtain rfl:Ao=ii+1:=by omega
  subst hcc
  have z5:(ii:Int)≤(ii:Int)+1:=by omega
  have g1':Sw.Br (ii:Int) 0 (ii:Int)=true:=Sw.BB.2 (by omega)
  go_enter Tryz.func102,Tryz.ntmps102
  go_upto_region 8 with (go_at_call 48;refine (Aw _ _ _ _).mono ?_;rintro E w' ⟨rfl,rfl⟩)
  (refine CF fun W0 hb0 hc0 hf0 hz0=>?_)
  have p0:W0.cell? ⟨w.heap.size,0,none⟩=some (.slice aF A_ BD):=(Ak);have p1:W0.cell? ⟨w.heap.size,1,none⟩=some (.slice aL AU Ae):=(Ak);have p2:W0.cell? ⟨w.heap.size,2,none⟩=some (.slice aP AY Ag):=(Ak);have p3:W0.cell? ⟨w.heap.size,3,none⟩=some (.slice aD AQ Ac):=(Ak);have p4:W0.cell? ⟨w.heap.size,4,none⟩=some (.int .i64 x.AB.clock):=(Ak);have p5:W0.cell? ⟨w.heap.size,5,none⟩=some (.slice aN Aa Ad):=(Ak);have p6:W0.cell? ⟨w.heap.size,6,none⟩=some (.slice aS Ab Af):=(Ak);have p7:W0.cell? ⟨w.heap.size,7,none⟩=some (.slice aI A7 BF):=(Ak);have p8:W0.cell? ⟨w.heap.size,8,none⟩=some (.slice aG Az BA):=(Ak);have p9:W0.cell? ⟨w.heap.size,9,none⟩=some (.slice (some ⟨gg,0,none⟩) (ii+1) (ii+1)):=(Ak)
  have pf:∀ i:Nat,W0.frozen? ⟨w.heap.size,i,none⟩=false:=fun i=>Ak
  have Fu:Lb W0 (w.heap.size+1) 10:=Dw
  have r0:W0.cell? ⟨w.heap.size+1+1,0,none⟩=some (.int .i64 m.gate):=(Ak);have r1:W0.cell? ⟨w.heap.size+1+1,1,none⟩=some (.int .i64 m.head.size):=(Ak);have r2:W0.cell? ⟨w.heap.size+1+1,2,none⟩=some (.int .i64 m.head.log):=(Ak);have r3:W0.cell? ⟨w.heap.size+1+1,3,none⟩=some (.int .i64 m.head.own):=(Ak);have r4:W0.cell? ⟨w.heap.size+1+1,4,none⟩=some (.slice B1 m1 d1):=(Ak)
  have RV:=hG.Av (show KF lo w W0 from AO)
  have hrq:RI W0 0 B1 d1 m1 m.proof:=hr.A8 AO
  have hcq:Ex w W0:=AA
  have QA:w.heap.size+3≤W0.heap.size:=Aq
  clear hb0 hc0 hf0
  obtain⟨Wq,CE⟩:∃ z,z=W0:=⟨_,rfl⟩
  subst CE
  obtain⟨vs,hv1,hv2,hv3⟩:=RV.BS.ex
  have PD:=Lib.hid hv3
  have PE:=Lib.hid hv2
  have hT:=Rs.take hv1.ow.rs (fun _=>rfl) (k:=ii) (by omega)
  have hD:=Rs.drop hv1.ow.rs (fun _=>rfl) (k:=ii+1) (by omega)
  clear hv3 hv2
  obtain⟨hcz,hfz⟩:=Lb.rules Fu
  rw[if_pos rfl] at hD
  simp only[Nat.sub_self] at hD
  go_wp2_with fail
  (focus (refine CF fun W0 hb0 hc0 hf0 hz0=>?_;refine Aj [13] (S:=fun w'=>Held W0 w') DC (fun hHeld=>?_);(repeat' (first|refine Mc [] [] (h:=?_)|refine FQ [] [] hHeld (h:=?_)|refine Mo (fun K hK=>?_) ?_|refine FW (fun K hK=>?_) ?_|refine FV ?_|exact Cf|refine Mh (fun K hK=>?_) ?_|refine FT (fun K hK=>?_) ?_|((first|(apply BM (lo:=W0.heap.size) Pv Kq rfl rfl rfl rfl;(exact Nw.ow rF Aq);(apply Rs.A8 hT;exact AO);omega;(exact Aq);intro A1 c1 w3 ho1 Ap Bo Ay Ah;have LP:=Held.of (Ay (fun _=>False) W0 (And.right (by assumption:Held W0 _)) (Nat.le_refl _));have oM:=Ch.sD Ap;obtain⟨yx,yc,yQ⟩:=xd oM;clear Ay Ah Bo Ap)|(apply BM (lo:=W0.heap.size) Pv Kq rfl rfl rfl rfl;(exact Ow.keep ho1 AO);(apply Rs.A8 hD;exact AO);omega;(exact Aq);intro A2 c2 w4 ho2 jb jh Ze Za;have WI:=Ze (fun _=>False) W0 (And.right (by assumption:Held W0 _)) (Nat.le_refl _);have LP:=Held.of WI;obtain⟨hcG,eO,hzG⟩:=xy WI;clear Ze Za jh jb));(first|(refine CQ hK DC (h:=?_);clear hK K hHeld;intro hHeld)|(refine ER hK (h:=?_);clear hK K)))|(revert hK;intro hK;go_simp;(first|(refine CQ hK DC (h:=?_);clear hK K hHeld;intro hHeld)|(refine ER hK (h:=?_);clear hK K)))));all_goals (refine FR ?_)))
  by_cases k5:kind=5
  case neg=>
   have k5':(kind==5)=false:=by simp[k5]
   go_wp2_with fail
   refine bodyPost_ret (v:=.agg #[.slice aF A_ BD,.slice aL AU Ae,.slice aP AY Ag,.slice aD AQ Ac,.int .i64 x.AB.clock,.slice aN Aa Ad,.slice aS Ab Af,.slice aI A7 BF,.slice aG Az BA,.slice A2 (0+ii+0) c2]) (by simp[results,Tryz.results102,go_sem, *]) rfl ?_
   (try rw[if_neg k5])
   rw[show Sw.lose x (ii:Int)={ x with BS:=x.BS.eraseIdx ii } from by unfold Sw.lose;rw[Int.toNat_natCast]]
   exact⟨aF,BD,A_,aL,Ae,AU,aP,Ag,AY,aD,Ac,AQ,aN,Ad,Aa,aS,Af,Ab,aI,BF,A7,aG,BA,Az,A2,c2,0+ii+0,rfl,fun w'' hz=>Eh.lost (w1:=w4) RV hv1 PE.out PD.out (by exact AA) (Zr.of (g1:=w.heap.size+3) KA hz Aq Aq) Aq (by rw[List.nil_append] at ho2;exact ho2) Aq (by omega) (by omega),AA⟩
  case pos=>
   subst k5
   obtain⟨KD,ZY,uU⟩:=zm.out
   obtain⟨vg,Jj,Pf,Kz⟩:=RV.AV.ex
   obtain⟨gG,xg,rfl,Ut,WH,hxg,c0,c1',c2',c3',eO⟩:=Lc Jj.ow (show KD<Az by have:=L4.out;omega)
   obtain⟨y,hy2⟩:∃ y,x.AV[KD]?=some y:=⟨_,List.getElem?_eq_getElem (by have:=L4.out;omega)⟩
   obtain⟨e1,hdone⟩:=Kz KD xg y hxg hy2
   obtain⟨xh,xA,xc,xn⟩:=xg
   dsimp only at e1 hdone c0 c1' c2' c3'
   subst e1
   have hgx:=hW.Ux _ rfl
   dsimp only at hgx
   obtain⟨z,hz0⟩:∃ z,z=Sw.Ck ⟨y.head,y.done⟩ m.head m.proof:=⟨_,rfl⟩
   have e:Sw.hear x ii={ x with AV:=x.AV.set KD z.1,BS:=x.BS.eraseIdx ii }:=by
    unfold Sw.hear Sw.heard Sw.lose
    rw[xk.out,ZY,Int.toNat_natCast,Int.toNat_natCast,hz0]
    have hga:Sw.Cb { x with BS:=x.BS.eraseIdx ii } KD=y:=by unfold Sw.Cb;rw[Int.toNat_natCast];exact Sw.CP hy2
    rw[hga]
   have HE:=Lib.hid e
   have HZ:=Lib.hid hz0
   have u1:(0:Int)≤(KD:Int):=by omega
   have u2:(KD:Int)<(Az:Int):=by have:=L4.out;omega
   clear e hz0 hy2 hxg Jj Pf Kz
   go_upto_region 10 with fail
   (refine CF fun W0 hb0 hc0 hf0 hz0=>?_)
   have p0:W0.cell? ⟨w.heap.size,0,none⟩=some (.slice aF A_ BD):=(Ak);have p1:W0.cell? ⟨w.heap.size,1,none⟩=some (.slice aL AU Ae):=(Ak);have p2:W0.cell? ⟨w.heap.size,2,none⟩=some (.slice aP AY Ag):=(Ak);have p3:W0.cell? ⟨w.heap.size,3,none⟩=some (.slice aD AQ Ac):=(Ak);have p4:W0.cell? ⟨w.heap.size,4,none⟩=some (.int .i64 x.AB.clock):=(Ak);have p5:W0.cell? ⟨w.heap.size,5,none⟩=some (.slice aN Aa Ad):=(Ak);have p6:W0.cell? ⟨w.heap.size,6,none⟩=some (.slice aS Ab Af):=(Ak);have p7:W0.cell? ⟨w.heap.size,7,none⟩=some (.slice aI A7 BF):=(Ak);have p8:W0.cell? ⟨w.heap.size,8,none⟩=some (.slice (some ⟨gG,0,none⟩) Az BA):=(Ak);have p9:W0.cell? ⟨w.heap.size,9,none⟩=some (.slice A2 (0+ii+0) c2):=(Ak)
   have pf:∀ i:Nat,W0.frozen? ⟨w.heap.size,i,none⟩=false:=fun i=>Ak
   have r0:W0.cell? ⟨w.heap.size+1+1,0,none⟩=some (.int .i64 KD):=by rw[← ZY];(go_simp;first|done|simp[*])
   have r1:W0.cell? ⟨w.heap.size+1+1,1,none⟩=some (.int .i64 m.head.size):=Ak
   have r2:W0.cell? ⟨w.heap.size+1+1,2,none⟩=some (.int .i64 m.head.log):=Ak
   have r3:W0.cell? ⟨w.heap.size+1+1,3,none⟩=some (.int .i64 m.head.own):=Ak
   have r4:W0.cell? ⟨w.heap.size+1+1,4,none⟩=some (.slice B1 m1 d1):=Ak
   have s0:W0.cell? ⟨gG,KD*4,none⟩=some (.int .i64 y.head.size):=Ak
   have s1:W0.cell? ⟨gG,KD*4+1,none⟩=some (.int .i64 y.head.log):=Ak
   have s2:W0.cell? ⟨gG,KD*4+2,none⟩=some (.int .i64 y.head.own):=Ak
   have s3:W0.cell? ⟨gG,KD*4+3,none⟩=some (.slice xA xn xc):=Ak
   have sf:∀ i:Nat,W0.frozen? ⟨gG,i,none⟩=false:=fun i=>Ak
   have eQ:Ch (BX w.heap.size (w.heap.size+3)) w4 W0:=KA
   have jq:Lb W0 (w.heap.size+1) 10:=by
    refine Lb.ex ?_ hb0
    apply Lb.set
    exact Lb.ex Fu AA
   have hZ:Ch (Zr (glue τ w.heap.size (fun _=>0)) Wq.heap.size) w4 W0:=Zr.of (w:=w) (g1:=w.heap.size+3) eQ (Ch.refl _ _) Aq Aq
   have hKr:=RV.still (show Ex Wq w4 from AA) hZ
   have wo:=(RV.Av (show KF lo Wq w4 from AO)).zeros hZ
   have jG:=hv1.keep (hKr 9 (by decide))
   have lG:=Lib.hid (SE PD.out hKr)
   have hdr:=(hdone.keep (hKr _ (by unfold Jk;omega))).rs
   have hpr:=(((dm.CX (τ':=fun _=>0) (Nat.le_refl _)).Av (show KF lo w Wq from kE hcq (kR _ _))).keep (hKr _ (by unfold I4;omega))).rs
   have ZX:=ho2.keep (show KF _ w4 W0 from AO)
   have XM:Wq.heap.size≤W0.heap.size:=Aq
   have hcr:Ex w W0:=AA
   clear hb0 hc0 hf0
   obtain⟨Wr,YC⟩:∃ z,z=W0:=⟨_,rfl⟩
   subst YC
   obtain⟨hcz2,vE⟩:=Lb.rules jq
   (focus (refine CF fun W0 hb0 hc0 hf0 hz0=>?_;refine Aj [] (S:=fun w'=>Held W0 w') DC (fun hHeld=>?_);(repeat' (first|refine FQ [] [] hHeld (h:=?_)|refine FW (fun K hK=>?_) ?_|refine FV ?_|exact Cf|refine FT (fun K hK=>?_) ?_|(revert hK;intro hK;go_simp;(try ((go_at_call 146;apply Calls.mono;apply (Qr (t:=y.head) (u:=m.head) (xs:=y.done) (ps:=m.proof));(apply Rs.A8 hdr;(exact AO));(apply Rs.A8 hpr;(exact AO));rintro E w5 ⟨B3,d3,n3,rfl,Ki,hb⟩;rw[← HZ.out] at Ki;rw[← HZ.out];obtain⟨hc,hf,hz⟩:=xy hb);(try go_wp2_with fail)));refine CQ hK DC (h:=?_);clear hK K hHeld;intro hHeld)));all_goals (refine FR ?_);all_goals (obtain⟨hb,hc,hf,hz⟩:=xh (by assumption:Held W0 _))))
   all_goals go_upto_region 11 with fail
   all_goals (refine CF fun W0 hb0 hc0 hf0 hz0=>?_)
   all_goals go_wp2_with fail
   all_goals refine bodyPost_ret (v:=.agg #[.slice aF A_ BD,.slice aL AU Ae,.slice aP AY Ag,.slice aD AQ Ac,.int .i64 x.AB.clock,.slice aN Aa Ad,.slice aS Ab Af,.slice aI A7 BF,.slice (some ⟨gG,0,none⟩) Az BA,.slice A2 (0+ii+0) c2]) (by simp[results,Tryz.results102,go_sem, *]) rfl ?_
   all_goals rw[HE.out]
   all_goals have Rz:Ga W0 _ B3 d3 n3 z.1.done:=Ki.keep AO
   all_goals have Lp:Ex Wr W0:=AA
   all_goals have hbx:Ch (BX w.heap.size (w.heap.size+3)) (setCells W0 gG (KD*4) (GV.enc ⟨z.1.head,B3,d3,n3⟩)) ((((W0.setCell ⟨gG,KD*4,none⟩ (.int .i64 z.1.head.size)).setCell ⟨gG,KD*4+1,none⟩ (.int .i64 z.1.head.log)).setCell ⟨gG,KD*4+2,none⟩ (.int .i64 z.1.head.own)).setCell ⟨gG,KD*4+3,none⟩ (.slice B3 n3 d3)):=Ch.refl _ _
   all_goals have Og:JD lo τ gG:=hW.RZ ⟨gG,0,none⟩ rfl
   all_goals have oV:Ch (JD lo τ) w ((((W0.setCell ⟨gG,KD*4,none⟩ (.int .i64 z.1.head.size)).setCell ⟨gG,KD*4+1,none⟩ (.int .i64 z.1.head.log)).setCell ⟨gG,KD*4+2,none⟩ (.int .i64 z.1.head.own)).setCell ⟨gG,KD*4+3,none⟩ (.slice B3 n3 d3)):=cS (cS (cS (cS (Ex.ch (cE Lp hcr)) (.inl Og) _) (.inl Og) _) (.inl Og) _) (.inl Og) _
   all_goals exact⟨aF,BD,A_,aL,Ae,AU,aP,Ag,AY,aD,Ac,AQ,aN,Ad,Aa,aS,Af,Ab,aI,BF,A7,some ⟨gG,0,none⟩,BA,Az,A2,c2,0+ii+0,rfl,fun w'' hz=>Eh.heard (w1:=W0) (wz:=Wr) (y:=z.1) (k0:=w.heap.size+3) wo jG PE.out lG.out rfl (by have:=L4.out;omega) Lp (Rz.less Aq) (Zr.of (w:=w) (g1:=w.heap.size+3) (hbx.trans KA) hz (Nat.le_refl _) (by omega)) Aq (by rw[List.nil_append] at ZX;exact ZX) Lp Aq Aq Aq Aq (by omega) (by omega),AA⟩
 ·have z6:ii≤aBc:=by omega
  go_enter Tryz.func102,Tryz.ntmps102
  go_upto_region 8 with (go_at_call 48;refine (Aw _ _ _ _).mono ?_;rintro E w' ⟨rfl,rfl⟩)
  (refine CF fun W0 hb0 hc0 hf0 hz0=>?_)
  have p0:W0.cell? ⟨w.heap.size,0,none⟩=some (.slice aF A_ BD):=(Ak);have p1:W0.cell? ⟨w.heap.size,1,none⟩=some (.slice aL AU Ae):=(Ak);have p2:W0.cell? ⟨w.heap.size,2,none⟩=some (.slice aP AY Ag):=(Ak);have p3:W0.cell? ⟨w.heap.size,3,none⟩=some (.slice aD AQ Ac):=(Ak);have p4:W0.cell? ⟨w.heap.size,4,none⟩=some (.int .i64 x.AB.clock):=(Ak);have p5:W0.cell? ⟨w.heap.size,5,none⟩=some (.slice aN Aa Ad):=(Ak);have p6:W0.cell? ⟨w.heap.size,6,none⟩=some (.slice aS Ab Af):=(Ak);have p7:W0.cell? ⟨w.heap.size,7,none⟩=some (.slice aI A7 BF):=(Ak);have p8:W0.cell? ⟨w.heap.size,8,none⟩=some (.slice aG Az BA):=(Ak);have p9:W0.cell? ⟨w.heap.size,9,none⟩=some (.slice (some ⟨gg,0,none⟩) Ao aBc):=(Ak)
  have pf:∀ i:Nat,W0.frozen? ⟨w.heap.size,i,none⟩=false:=fun i=>Ak
  have Fu:Lb W0 (w.heap.size+1) 10:=Dw
  have r0:W0.cell? ⟨w.heap.size+1+1,0,none⟩=some (.int .i64 m.gate):=(Ak);have r1:W0.cell? ⟨w.heap.size+1+1,1,none⟩=some (.int .i64 m.head.size):=(Ak);have r2:W0.cell? ⟨w.heap.size+1+1,2,none⟩=some (.int .i64 m.head.log):=(Ak);have r3:W0.cell? ⟨w.heap.size+1+1,3,none⟩=some (.int .i64 m.head.own):=(Ak);have r4:W0.cell? ⟨w.heap.size+1+1,4,none⟩=some (.slice B1 m1 d1):=(Ak)
  have RV:=hG.Av (show KF lo w W0 from AO)
  have hrq:RI W0 0 B1 d1 m1 m.proof:=hr.A8 AO
  have hcq:Ex w W0:=AA
  have QA:w.heap.size+3≤W0.heap.size:=Aq
  clear hb0 hc0 hf0
  obtain⟨Wq,CE⟩:∃ z,z=W0:=⟨_,rfl⟩
  subst CE
  obtain⟨vs,hv1,hv2,hv3⟩:=RV.BS.ex
  have PD:=Lib.hid hv3
  have PE:=Lib.hid hv2
  have hT:=Rs.take hv1.ow.rs (fun _=>rfl) (k:=ii) (by omega)
  have hD:=Rs.drop hv1.ow.rs (fun _=>rfl) (k:=ii+1) (by omega)
  clear hv3 hv2
  obtain⟨hcz,hfz⟩:=Lb.rules Fu
  rw[if_neg hcc] at hD
  simp only[Option.map_some,Addr.add_lit,Nat.zero_add] at hD
  go_wp2_with fail
  (focus (refine CF fun W0 hb0 hc0 hf0 hz0=>?_;refine Aj [13] (S:=fun w'=>Held W0 w') DC (fun hHeld=>?_);(repeat' (first|refine Mc [] [] (h:=?_)|refine FQ [] [] hHeld (h:=?_)|refine Mo (fun K hK=>?_) ?_|refine FW (fun K hK=>?_) ?_|refine FV ?_|exact Cf|refine Mh (fun K hK=>?_) ?_|refine FT (fun K hK=>?_) ?_|((first|(apply BM (lo:=W0.heap.size) Pv Kq rfl rfl rfl rfl;(exact Nw.ow rF Aq);(apply Rs.A8 hT;exact AO);omega;(exact Aq);intro A1 c1 w3 ho1 Ap Bo Ay Ah;have LP:=Held.of (Ay (fun _=>False) W0 (And.right (by assumption:Held W0 _)) (Nat.le_refl _));have oM:=Ch.sD Ap;obtain⟨yx,yc,yQ⟩:=xd oM;clear Ay Ah Bo Ap)|(apply BM (lo:=W0.heap.size) Pv Kq rfl rfl rfl rfl;(exact Ow.keep ho1 AO);(apply Rs.A8 hD;exact AO);omega;(exact Aq);intro A2 c2 w4 ho2 jb jh Ze Za;have WI:=Ze (fun _=>False) W0 (And.right (by assumption:Held W0 _)) (Nat.le_refl _);have LP:=Held.of WI;obtain⟨hcG,eO,hzG⟩:=xy WI;clear Ze Za jh jb));(first|(refine CQ hK DC (h:=?_);clear hK K hHeld;intro hHeld)|(refine ER hK (h:=?_);clear hK K)))|(revert hK;intro hK;go_simp;(first|(refine CQ hK DC (h:=?_);clear hK K hHeld;intro hHeld)|(refine ER hK (h:=?_);clear hK K)))));all_goals (refine FR ?_)))
  by_cases k5:kind=5
  case neg=>
   have k5':(kind==5)=false:=by simp[k5]
   go_wp2_with fail
   refine bodyPost_ret (v:=.agg #[.slice aF A_ BD,.slice aL AU Ae,.slice aP AY Ag,.slice aD AQ Ac,.int .i64 x.AB.clock,.slice aN Aa Ad,.slice aS Ab Af,.slice aI A7 BF,.slice aG Az BA,.slice A2 (0+ii+(Ao-(ii+1))) c2]) (by simp[results,Tryz.results102,go_sem, *]) rfl ?_
   (try rw[if_neg k5])
   rw[show Sw.lose x (ii:Int)={ x with BS:=x.BS.eraseIdx ii } from by unfold Sw.lose;rw[Int.toNat_natCast]]
   exact⟨aF,BD,A_,aL,Ae,AU,aP,Ag,AY,aD,Ac,AQ,aN,Ad,Aa,aS,Af,Ab,aI,BF,A7,aG,BA,Az,A2,c2,0+ii+(Ao-(ii+1)),rfl,fun w'' hz=>Eh.lost (w1:=w4) RV hv1 PE.out PD.out (by exact AA) (Zr.of (g1:=w.heap.size+3) KA hz Aq Aq) Aq (by rw[List.nil_append] at ho2;exact ho2) Aq (by omega) (by omega),AA⟩
  case pos=>
   subst k5
   obtain⟨KD,ZY,uU⟩:=zm.out
   obtain⟨vg,Jj,Pf,Kz⟩:=RV.AV.ex
   obtain⟨gG,xg,rfl,Ut,WH,hxg,c0,c1',c2',c3',eO⟩:=Lc Jj.ow (show KD<Az by have:=L4.out;omega)
   obtain⟨y,hy2⟩:∃ y,x.AV[KD]?=some y:=⟨_,List.getElem?_eq_getElem (by have:=L4.out;omega)⟩
   obtain⟨e1,hdone⟩:=Kz KD xg y hxg hy2
   obtain⟨xh,xA,xc,xn⟩:=xg
   dsimp only at e1 hdone c0 c1' c2' c3'
   subst e1
   have hgx:=hW.Ux _ rfl
   dsimp only at hgx
   obtain⟨z,hz0⟩:∃ z,z=Sw.Ck ⟨y.head,y.done⟩ m.head m.proof:=⟨_,rfl⟩
   have e:Sw.hear x ii={ x with AV:=x.AV.set KD z.1,BS:=x.BS.eraseIdx ii }:=by
    unfold Sw.hear Sw.heard Sw.lose
    rw[xk.out,ZY,Int.toNat_natCast,Int.toNat_natCast,hz0]
    have hga:Sw.Cb { x with BS:=x.BS.eraseIdx ii } KD=y:=by unfold Sw.Cb;rw[Int.toNat_natCast];exact Sw.CP hy2
    rw[hga]
   have HE:=Lib.hid e
   have HZ:=Lib.hid hz0
   have u1:(0:Int)≤(KD:Int):=by omega
   have u2:(KD:Int)<(Az:Int):=by have:=L4.out;omega
   clear e hz0 hy2 hxg Jj Pf Kz
   go_upto_region 10 with fail
   (refine CF fun W0 hb0 hc0 hf0 hz0=>?_)
   have p0:W0.cell? ⟨w.heap.size,0,none⟩=some (.slice aF A_ BD):=(Ak);have p1:W0.cell? ⟨w.heap.size,1,none⟩=some (.slice aL AU Ae):=(Ak);have p2:W0.cell? ⟨w.heap.size,2,none⟩=some (.slice aP AY Ag):=(Ak);have p3:W0.cell? ⟨w.heap.size,3,none⟩=some (.slice aD AQ Ac):=(Ak);have p4:W0.cell? ⟨w.heap.size,4,none⟩=some (.int .i64 x.AB.clock):=(Ak);have p5:W0.cell? ⟨w.heap.size,5,none⟩=some (.slice aN Aa Ad):=(Ak);have p6:W0.cell? ⟨w.heap.size,6,none⟩=some (.slice aS Ab Af):=(Ak);have p7:W0.cell? ⟨w.heap.size,7,none⟩=some (.slice aI A7 BF):=(Ak);have p8:W0.cell? ⟨w.heap.size,8,none⟩=some (.slice (some ⟨gG,0,none⟩) Az BA):=(Ak);have p9:W0.cell? ⟨w.heap.size,9,none⟩=some (.slice A2 (0+ii+(Ao-(ii+1))) c2):=(Ak)
   have pf:∀ i:Nat,W0.frozen? ⟨w.heap.size,i,none⟩=false:=fun i=>Ak
   have r0:W0.cell? ⟨w.heap.size+1+1,0,none⟩=some (.int .i64 KD):=by rw[← ZY];(go_simp;first|done|simp[*])
   have r1:W0.cell? ⟨w.heap.size+1+1,1,none⟩=some (.int .i64 m.head.size):=Ak
   have r2:W0.cell? ⟨w.heap.size+1+1,2,none⟩=some (.int .i64 m.head.log):=Ak
   have r3:W0.cell? ⟨w.heap.size+1+1,3,none⟩=some (.int .i64 m.head.own):=Ak
   have r4:W0.cell? ⟨w.heap.size+1+1,4,none⟩=some (.slice B1 m1 d1):=Ak
   have s0:W0.cell? ⟨gG,KD*4,none⟩=some (.int .i64 y.head.size):=Ak
   have s1:W0.cell? ⟨gG,KD*4+1,none⟩=some (.int .i64 y.head.log):=Ak
   have s2:W0.cell? ⟨gG,KD*4+2,none⟩=some (.int .i64 y.head.own):=Ak
   have s3:W0.cell? ⟨gG,KD*4+3,none⟩=some (.slice xA xn xc):=Ak
   have sf:∀ i:Nat,W0.frozen? ⟨gG,i,none⟩=false:=fun i=>Ak
   have eQ:Ch (BX w.heap.size (w.heap.size+3)) w4 W0:=KA
   have jq:Lb W0 (w.heap.size+1) 10:=by
    refine Lb.ex ?_ hb0
    apply Lb.set
    exact Lb.ex Fu AA
   have hZ:Ch (Zr (glue τ w.heap.size (fun _=>0)) Wq.heap.size) w4 W0:=Zr.of (w:=w) (g1:=w.heap.size+3) eQ (Ch.refl _ _) Aq Aq
   have hKr:=RV.still (show Ex Wq w4 from AA) hZ
   have wo:=(RV.Av (show KF lo Wq w4 from AO)).zeros hZ
   have jG:=hv1.keep (hKr 9 (by decide))
   have lG:=Lib.hid (SE PD.out hKr)
   have hdr:=(hdone.keep (hKr _ (by unfold Jk;omega))).rs
   have hpr:=(((dm.CX (τ':=fun _=>0) (Nat.le_refl _)).Av (show KF lo w Wq from kE hcq (kR _ _))).keep (hKr _ (by unfold I4;omega))).rs
   have ZX:=ho2.keep (show KF _ w4 W0 from AO)
   have XM:Wq.heap.size≤W0.heap.size:=Aq
   have hcr:Ex w W0:=AA
   clear hb0 hc0 hf0
   obtain⟨Wr,YC⟩:∃ z,z=W0:=⟨_,rfl⟩
   subst YC
   obtain⟨hcz2,vE⟩:=Lb.rules jq
   (focus (refine CF fun W0 hb0 hc0 hf0 hz0=>?_;refine Aj [] (S:=fun w'=>Held W0 w') DC (fun hHeld=>?_);(repeat' (first|refine FQ [] [] hHeld (h:=?_)|refine FW (fun K hK=>?_) ?_|refine FV ?_|exact Cf|refine FT (fun K hK=>?_) ?_|(revert hK;intro hK;go_simp;(try ((go_at_call 146;apply Calls.mono;apply (Qr (t:=y.head) (u:=m.head) (xs:=y.done) (ps:=m.proof));(apply Rs.A8 hdr;(exact AO));(apply Rs.A8 hpr;(exact AO));rintro E w5 ⟨B3,d3,n3,rfl,Ki,hb⟩;rw[← HZ.out] at Ki;rw[← HZ.out];obtain⟨hc,hf,hz⟩:=xy hb);(try go_wp2_with fail)));refine CQ hK DC (h:=?_);clear hK K hHeld;intro hHeld)));all_goals (refine FR ?_);all_goals (obtain⟨hb,hc,hf,hz⟩:=xh (by assumption:Held W0 _))))
   all_goals go_upto_region 11 with fail
   all_goals (refine CF fun W0 hb0 hc0 hf0 hz0=>?_)
   all_goals go_wp2_with fail
   all_goals refine bodyPost_ret (v:=.agg #[.slice aF A_ BD,.slice aL AU Ae,.slice aP AY Ag,.slice aD AQ Ac,.int .i64 x.AB.clock,.slice aN Aa Ad,.slice aS Ab Af,.slice aI A7 BF,.slice (some ⟨gG,0,none⟩) Az BA,.slice A2 (0+ii+(Ao-(ii+1))) c2]) (by simp[results,Tryz.results102,go_sem, *]) rfl ?_
   all_goals rw[HE.out]
   all_goals have Rz:Ga W0 _ B3 d3 n3 z.1.done:=Ki.keep AO
   all_goals have Lp:Ex Wr W0:=AA
   all_goals have hbx:Ch (BX w.heap.size (w.heap.size+3)) (setCells W0 gG (KD*4) (GV.enc ⟨z.1.head,B3,d3,n3⟩)) ((((W0.setCell ⟨gG,KD*4,none⟩ (.int .i64 z.1.head.size)).setCell ⟨gG,KD*4+1,none⟩ (.int .i64 z.1.head.log)).setCell ⟨gG,KD*4+2,none⟩ (.int .i64 z.1.head.own)).setCell ⟨gG,KD*4+3,none⟩ (.slice B3 n3 d3)):=Ch.refl _ _
   all_goals have Og:JD lo τ gG:=hW.RZ ⟨gG,0,none⟩ rfl
   all_goals have oV:Ch (JD lo τ) w ((((W0.setCell ⟨gG,KD*4,none⟩ (.int .i64 z.1.head.size)).setCell ⟨gG,KD*4+1,none⟩ (.int .i64 z.1.head.log)).setCell ⟨gG,KD*4+2,none⟩ (.int .i64 z.1.head.own)).setCell ⟨gG,KD*4+3,none⟩ (.slice B3 n3 d3)):=cS (cS (cS (cS (Ex.ch (cE Lp hcr)) (.inl Og) _) (.inl Og) _) (.inl Og) _) (.inl Og) _
   all_goals exact⟨aF,BD,A_,aL,Ae,AU,aP,Ag,AY,aD,Ac,AQ,aN,Ad,Aa,aS,Af,Ab,aI,BF,A7,some ⟨gG,0,none⟩,BA,Az,A2,c2,0+ii+(Ao-(ii+1)),rfl,fun w'' hz=>Eh.heard (w1:=W0) (wz:=Wr) (y:=z.1) (k0:=w.heap.size+3) wo jG PE.out lG.out rfl (by have:=L4.out;omega) Lp (Rz.less Aq) (Zr.of (w:=w) (g1:=w.heap.size+3) (hbx.trans KA) hz (Nat.le_refl _) (by omega)) Aq (by rw[List.nil_append] at ZX;exact ZX) Lp Aq Aq Aq Aq (by omega) (by omega),AA⟩
end Go.Proofs.YtgaflnpmilikcaaGreat
