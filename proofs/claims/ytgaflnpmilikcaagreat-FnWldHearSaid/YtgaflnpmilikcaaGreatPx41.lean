/- Texts joined: WldF, PtrY, DrawA, LawS, LawT. -/
import Derived.Test.YtgaflnpmilikcaaGreatPx38
import Derived.Test.YtgaflnpmilikcaaGreatPx10
import Derived.Test.YtgaflnpmilikcaaGreatPx26
import Derived.Test.YtgaflnpmilikcaaGreatPx25
import Derived.Test.YtgaflnpmilikcaaGreatPx31
import Derived.Test.YtgaflnpmilikcaaGreatPx16
import Derived.Test.YtgaflnpmilikcaaGreatPx40
import Derived.Test.YtgaflnpmilikcaaGreatPx11
import Derived.Test.YtgaflnpmilikcaaGreatPx34
import Derived.Test.YtgaflnpmilikcaaGreatPx28
import Derived.Test.YtgaflnpmilikcaaGreatPx29
import Derived.Test.YtgaflnpmilikcaaGreatPx5
import Derived.Test.YtgaflnpmilikcaaGreatPx20
import Derived.Test.YtgaflnpmilikcaaGreatPx23
import Derived.Deep.DeepCutAuto
set_option maxRecDepth 100000
set_option linter.unusedSimpArgs false
set_option linter.unusedVariables false
namespace Go.Proofs.YtgaflnpmilikcaaGreat
open Go.RowKit Go
set_option maxHeartbeats 4000000
theorem IP {x:Sw.World} (h:Sw.Cc x=true):(∃ rows,Sw.IL x.AB rows)∧x.lines.length≤300∧x.AV.length=2∧x.BS.length≤6∧(∀ m∈x.BS,Sw.Fs m=true)∧(∀ g∈x.AV,Sw.DF g=true):=by
 simp only[Sw.Cc,Bool.and_eq_true,decide_eq_true_eq,List.all_eq_true] at h
 obtain⟨⟨⟨⟨⟨⟨⟨h1,h2⟩,h3⟩,h4⟩,h5⟩,h6⟩,h7⟩,h8⟩:=h
 exact⟨Sw.BU.1 h1,h3,h4,h5,h8,h7⟩
theorem bW (aF:Option Addr) (BD A_:Nat) (aL:Option Addr) (Ae AU:Nat) (aP:Option Addr) (Ag AY:Nat) (aD:Option Addr) (Ac AQ:Nat) (aN:Option Addr) (Ad Aa:Nat) (aS:Option Addr) (Af Ab:Nat) (aI:Option Addr) (BF A7:Nat) (aG:Option Addr) (BA Az:Nat) (aB:Option Addr) (aBc Ao:Nat) (x:Sw.World) (k:Int) (lo:Nat) (τ:Nat→Nat) (w:World) (hW:Eh Jk I4 τ w lo aF BD A_ aL Ae AU aP Ag AY aD Ac AQ aN Ad Aa aS Af Ab aI BF A7 aG BA Az aB aBc Ao x) (hok:Sw.Cc x=true) (hlo:lo≤w.heap.size):Calls Tryz.prog 101 #[.agg #[.slice aF A_ BD,.slice aL AU Ae,.slice aP AY Ag,.slice aD AQ Ac,.int .i64 x.AB.clock,.slice aN Aa Ad,.slice aS Ab Af,.slice aI A7 BF,.slice aG Az BA,.slice aB Ao aBc],.int .i64 k] w fun E w'=>Sd lo τ w w' (fun u=>u) E (Sw.send x k):=by
 obtain⟨-,-,hG2,TL,-,-⟩:=IP hok
 have hl4:=hW.AV.rg.len.1
 have hl5:=hW.BS.rx.len.1
 have L5:=Lib.hid hl5
 have hB4:Ao≤6:=by omega
 have L4:=Lib.hid (show Az=2 by omega)
 clear hl4 hG2
 have hBb:=hW.Z4
 cases g1:Sw.Br k 0 1
 case false=>
  have e:Sw.send x k=x:=by simp[Sw.send,g1]
  rw[e];clear e
  go_enter Tryz.func101,Tryz.ntmps101
  go_wp2_with (go_at_call 48;refine (Aw _ _ _ _).mono ?_;rintro E w' ⟨rfl,rfl⟩)
  refine bodyPost_ret (v:=.agg #[.slice aF A_ BD,.slice aL AU Ae,.slice aP AY Ag,.slice aD AQ Ac,.int .i64 x.AB.clock,.slice aN Aa Ad,.slice aS Ab Af,.slice aI A7 BF,.slice aG Az BA,.slice aB Ao aBc]) (by simp[results,Tryz.results101,go_sem, *]) rfl ?_
  exact⟨aF,BD,A_,aL,Ae,AU,aP,Ag,AY,aD,Ac,AQ,aN,Ad,Aa,aS,Af,Ab,aI,BF,A7,aG,BA,Az,aB,aBc,Ao,rfl,fun w'' hz=>((hW.Av AO).zeros hz).JU,AA⟩
 by_cases g2:Ao=6
 ·have g2':((Ao:Int)==6)=true:=by simp;omega
  have e:Sw.send x k=x:=by simp[Sw.send,← hl5,g2]
  rw[e];clear e g2
  go_enter Tryz.func101,Tryz.ntmps101
  go_wp2_with (go_at_call 48;refine (Aw _ _ _ _).mono ?_;rintro E w' ⟨rfl,rfl⟩)
  refine bodyPost_ret (v:=.agg #[.slice aF A_ BD,.slice aL AU Ae,.slice aP AY Ag,.slice aD AQ Ac,.int .i64 x.AB.clock,.slice aN Aa Ad,.slice aS Ab Af,.slice aI A7 BF,.slice aG Az BA,.slice aB Ao aBc]) (by simp[results,Tryz.results101,go_sem, *]) rfl ?_
  exact⟨aF,BD,A_,aL,Ae,AU,aP,Ag,AY,aD,Ac,AQ,aN,Ad,Aa,aS,Af,Ab,aI,BF,A7,aG,BA,Az,aB,aBc,Ao,rfl,fun w'' hz=>((hW.Av AO).zeros hz).JU,AA⟩
 have g2':((Ao:Int)==6)=false:=by simp;omega
 obtain rfl:=L4.out
 have Zb:=Sw.BB.1 g1
 obtain⟨kk,rfl⟩:∃ kk:Nat,k=kk:=⟨k.toNat,by omega⟩
 have hkk:kk<2:=by omega
 have hG:=hW.CX (τ':=fun _=>0) (Nat.le_refl _)
 obtain⟨gg,off,y,B1,d1,m1,rfl,hg0,hg1,hd,hy,q0,q1,q2,q3,hr⟩:=Ld hW.AV.rg hkk
 have e:Sw.send x kk={ x with BS:=x.BS ++ [⟨kk,(Sw.Cw x.AB.log).getD Sw.DX,Sw.Dn x.AB.log y.head.size⟩] }:=by
  have h6:x.BS.length<6:=by omega
  have hgt:Sw.Cb x kk=y:=by unfold Sw.Cb;rw[Int.toNat_natCast];exact Sw.CP hy
  simp[Sw.send,g1,h6,hgt]
 rw[e]
 clear e hd hy q1 q2 q3 hr Zb hl5
 obtain⟨hh,jT⟩:∃ hh,hh=(Sw.Cw x.AB.log).getD Sw.DX:=⟨_,rfl⟩
 rw[← jT]
 have HH:=Lib.hid jT
 clear jT
 have t1:(0:Int)≤(kk:Int):=by omega
 have t2:(kk:Int)<2:=by omega
 go_enter Tryz.func101,Tryz.ntmps101
 go_wp2_with (first|(go_at_call 48;refine (Aw _ _ _ _).mono ?_;rintro E w' ⟨rfl,rfl⟩)|(go_at_call 134;apply Calls.mono;apply (Qq (xs:=x.AB.log));(apply Rs.A8 hW.Dt.log.rs;(exact AO));rintro E w1 ⟨rfl,hb⟩;rw[← HH.out];obtain⟨hc,hf,hz⟩:=xy hb))
 (refine CF fun W0 hb0 hc0 hf0 hz0=>?_)
 have p0:W0.cell? ⟨w.heap.size,0,none⟩=some (.slice aF A_ BD):=(Ak);have p1:W0.cell? ⟨w.heap.size,1,none⟩=some (.slice aL AU Ae):=(Ak);have p2:W0.cell? ⟨w.heap.size,2,none⟩=some (.slice aP AY Ag):=(Ak);have p3:W0.cell? ⟨w.heap.size,3,none⟩=some (.slice aD AQ Ac):=(Ak);have p4:W0.cell? ⟨w.heap.size,4,none⟩=some (.int .i64 x.AB.clock):=(Ak);have p5:W0.cell? ⟨w.heap.size,5,none⟩=some (.slice aN Aa Ad):=(Ak);have p6:W0.cell? ⟨w.heap.size,6,none⟩=some (.slice aS Ab Af):=(Ak);have p7:W0.cell? ⟨w.heap.size,7,none⟩=some (.slice aI A7 BF):=(Ak);have p8:W0.cell? ⟨w.heap.size,8,none⟩=some (.slice (some ⟨gg,off,none⟩) 2 BA):=(Ak);have p9:W0.cell? ⟨w.heap.size,9,none⟩=some (.slice aB Ao aBc):=(Ak)
 have pf:∀ i:Nat,W0.frozen? ⟨w.heap.size,i,none⟩=false:=fun i=>Ak
 have tC:W0.cell? ⟨gg,off+kk*4,none⟩=some (.int .i64 y.head.size):=Ak
 have Fu:Lb W0 (w.heap.size+1) 10:=Dw
 have r0:W0.cell? ⟨w1.heap.size,0,none⟩=some (.int .i64 hh.size):=(Ak);have r1:W0.cell? ⟨w1.heap.size,1,none⟩=some (.int .i64 hh.log):=(Ak);have r2:W0.cell? ⟨w1.heap.size,2,none⟩=some (.int .i64 hh.own):=(Ak)
 have RV:=hG.Av (show KF lo w W0 from AO)
 have hcq:Ex w W0:=AA
 have QA:w.heap.size+2≤w1.heap.size:=Aq
 have nS:w1.heap.size+1≤W0.heap.size:=Aq
 clear hb hc hf hb0 hc0 hf0
 obtain⟨Wq,CE⟩:∃ z,z=W0:=⟨_,rfl⟩
 subst CE
 obtain⟨vs,hv1,hv2,hv3⟩:=RV.BS.ex
 have PD:=Lib.hid hv3
 have PE:=Lib.hid hv2
 clear hv3 hv2
 obtain⟨hcz,hfz⟩:=Lb.rules Fu
 (focus (refine CF fun W0 hb0 hc0 hf0 hz0=>?_;refine Aj [17,18,19] (S:=fun w'=>Held W0 w') DC (fun hHeld=>?_);(repeat' (first|refine Mc [] [] (h:=?_)|refine FQ [] [] hHeld (h:=?_)|refine Mo (fun K hK=>?_) ?_|refine FW (fun K hK=>?_) ?_|refine FV ?_|exact Cf|refine Mh (fun K hK=>?_) ?_|refine FT (fun K hK=>?_) ?_|((apply BM (lo:=lo) Pv Kq rfl rfl rfl rfl;(exact Ow.keep hv1.ow AO);(refine Rs.new [⟨kk,hh,B2,d2,n2⟩] (by (first|with_reducible rfl|(simp only[BO];done)|(simp only[BO];omega))) rfl rfl (fun _=>rfl) (by omega));omega;(exact Aq);intro A1 c1 w4 ho1 Ap Bo Ay Ah;clear Ay Ah;obtain⟨hC0,hG0⟩:=Ch.DK Ap (g:=w.heap.size) (by exact Aq) (fun a ha=>by have:=hBb a ha;omega);obtain⟨Zo,hG1⟩:=Ch.DK Ap (g:=w.heap.size+1) (by exact Aq) (fun a ha=>by have:=hBb a ha;omega);have QB:=Ap.size;(try simp only[BO] at QB));(first|(refine CQ hK DC (h:=?_);clear hK K hHeld;intro hHeld)|(refine ER hK (h:=?_);clear hK K)))|(revert hK;intro hK;go_simp;(try ((go_at_call 145;apply Calls.mono;apply (Tu (xs:=x.AB.log));(apply Rs.A8 RV.Dt.log.rs;(exact AO));rintro E w3 ⟨B2,d2,n2,rfl,LK,hb⟩;obtain⟨hc,hf,hz⟩:=xy hb);(try go_wp2_with fail)));(first|(refine CQ hK DC (h:=?_);clear hK K hHeld;intro hHeld)|(refine ER hK (h:=?_);clear hK K)))));all_goals (refine FR ?_)))
 go_wp2_with fail
 refine bodyPost_ret (v:=.agg #[.slice aF A_ BD,.slice aL AU Ae,.slice aP AY Ag,.slice aD AQ Ac,.int .i64 x.AB.clock,.slice aN Aa Ad,.slice aS Ab Af,.slice aI A7 BF,.slice (some ⟨gg,off,none⟩) 2 BA,.slice A1 (Ao+1) c1]) (by simp[results,Tryz.results101,go_sem, *]) rfl ?_
 have hbl:=hW.Z0
 have hS:=Ch.trans' (show Ch (JD lo τ) w _ from AA) Ap (fun i _ ⟨a,ha,e⟩=>by rw[e];exact hbl a ha)
 exact⟨aF,BD,A_,aL,Ae,AU,aP,Ag,AY,aD,Ac,AQ,aN,Ad,Aa,aS,Af,Ab,aI,BF,A7,some ⟨gg,off,none⟩,BA,2,A1,c1,Ao+1,rfl,fun w'' hz=>Eh.sent (m:=⟨kk,hh,Sw.Dn x.AB.log y.head.size⟩) RV hv1 PE.out PD.out (by exact AA) ((LK.keep AO).less Aq) Aq ho1 Ap Bo (Zr.of (g1:=w.heap.size+2) KA hz Aq Aq),AA⟩
end Go.Proofs.YtgaflnpmilikcaaGreat
namespace Go.Proofs.YtgaflnpmilikcaaGreat
open Go.RowKit Go
set_option maxHeartbeats 4000000
section
variable {g lo:Nat} {τ0 τ:Nat→Nat} {w0 w:World} {aF aL aP aD aN aS aI aG aB:Option Addr} {BD A_ Ae AU Ag AY Ac AQ Ad Aa Af Ab BF A7 BA Az aBc Ao:Nat} {x:Sw.World}
theorem ZI (hS:WS g lo τ0 w0 aF BD A_ aL Ae AU aP Ag AY aD Ac AQ aN Ad Aa aS Af Ab aI BF A7 aG BA Az aB aBc Ao x τ w) (hok:Sw.Cc x=true) (ek:Int) (eq:Sw.Ee) (kk tt:Nat) (who:Int) (hkk:kk<2) (YV:tt<8) :
  Calls Tryz.prog 93 #[.pointer (some ⟨g,0,none⟩),.agg #[.int .i64 ek,.int .i64 eq.user,.int .i64 eq.n,.int .i64 eq.kind,.int .i64 eq.ticket,.int .i64 eq.who,.int .i64 eq.Al,.int .i64 kk,.int .i64 tt,.int .i64 who]] w fun E w'=>
   ∃ τ',E=.returned (.int .i64 (Sw.Da x kk tt who).2)∧WS g lo τ0 w0 aF BD A_ aL Ae AU aP Ag AY aD Ac AQ aN Ad Aa aS Af Ab aI BF A7 aG BA Az aB aBc Ao (Sw.Da x kk tt who).1 τ' w':=by
 obtain⟨-,-,hG2,-,-,RS⟩:=IP hok
 have hl4:=hS.ow.AV.rg.len.1
 have L4:=Lib.hid (show Az=2 by omega)
 have X8:=Lib.hid hS.ow.Dt.log.ow.1
 have Yb:AU≤Ae:=hS.ow.Dt.log.ow.rs.2.le
 have hbL:=Rs.big hS.ow.Dt.log.ow.rs
 clear hl4 hG2
 obtain⟨vg,Jj,Pf,Kz⟩:=hS.ow.AV.ex
 obtain⟨gG,xg,rfl,Ut,WH,hxg,c0,c1',c2',c3',eO⟩:=Lc Jj.ow (show kk<Az by have:=L4.out;omega)
 obtain⟨y,hy2⟩:∃ y,x.AV[kk]?=some y:=⟨_,List.getElem?_eq_getElem (by have:=L4.out;omega)⟩
 obtain⟨e1,hdone⟩:=Kz kk xg y hxg hy2
 obtain⟨xh,xA,xc,xn⟩:=xg
 dsimp only at e1 hdone c0 c1' c2' c3'
 subst e1
 have Ji:=RS y (List.mem_of_getElem? hy2)
 have hsz0:0≤y.head.size:=by
  have h1:=Ji
  simp only[Sw.DF,Sw.E9,Bool.and_eq_true] at h1
  exact (Sw.BB.1 h1.1.1.1).1
 obtain⟨ss,hss⟩:∃ ss:Nat,y.head.size=ss:=⟨y.head.size.toNat,by omega⟩
 rw[hss] at c0
 have hga:Sw.Cb x kk=y:=by unfold Sw.Cb;rw[Int.toNat_natCast];exact Sw.CP hy2
 have u1:(0:Int)≤(kk:Int):=by omega
 have u2:(kk:Int)<(Az:Int):=by have:=L4.out;omega
 have aK:=Lib.hid hss
 have lK:=Lib.hid hga
 have zb:=Lib.hid Ji
 have hne:gG≠g:=by have h1:=Jj.tag _ rfl;have h2:=hS.g0;rintro rfl;dsimp only at h1;omega
 have k8:=hS.AV
 have k1:=hS.at_.log
 have LM:=hS.at_.lt
 have hkl:=hS.ow.Dt.log.ow.rs
 have HS:=Lib.hid hS
 have g1:Sw.Br (kk:Int) 0 1=true:=Sw.BB.2 (by omega)
 have g2:Sw.Br (tt:Int) 0 7=true:=Sw.BB.2 (by omega)
 clear hss hga Ji hy2 hxg RS hsz0 Jj Pf Kz hS
 by_cases hgt:AU<ss
 ·have d1:decide ((AU:Int)<(ss:Int))=true:=by simp;omega
  have d2:(AU:Int)<(ss:Int):=by omega
  have e:Sw.Da x kk tt who=(x,0):=by
   unfold Sw.Da
   rw[lK.out,aK.out,if_neg (by rw[g1,g2];have:=X8.out;simp;omega)]
  rw[e];clear e
  go_enter Tryz.func93,Tryz.ntmps93
  go_wp2_with fail
  (go_quiet ((first|fail));all_goals (generalize CE:World.drewN _ nq=W0;have hb0:=Ex.Iz CE;clear CE;obtain⟨hc0,hf0,hz0⟩:=xy hb0))
  go_wp2_with fail
  (go_quiet ((first|fail));all_goals (generalize CE:World.drewN _ nq=W0;have hb0:=Ex.Iz CE;clear CE;obtain⟨hc0,hf0,hz0⟩:=xy hb0))
  go_wp2_with fail
  go_ret
  exact⟨τ,rfl,HS.out.ex AA⟩
 have d1:decide ((AU:Int)<(ss:Int))=false:=by simp;omega
 have d2:¬(AU:Int)<(ss:Int):=by omega
 have z1:(ss:Int)≤(Ae:Int):=by omega
 have z2:(0:Int)≤(ss:Int):=by omega
 have z3:ss≤Ae:=by omega
 have hT:=Rs.take hkl (fun _=>rfl) (k:=ss) (by omega)
 have hcond:(Sw.Br (kk:Int) 0 1&&Sw.Br (tt:Int) 0 7&&decide (y.head.size≤(x.AB.log.length:Int)))=true:=by
  rw[g1,g2,aK.out];have:=X8.out;simp;omega
 cases hf:Sw.Bq (x.AB.log.take ss) with
 | none=>
  have e:Sw.Da x kk tt who=(x,0):=by
   unfold Sw.Da
   rw[lK.out,if_pos hcond,aK.out,Int.toNat_natCast,hf]
  rw[e]
  have HF:=Lib.hid hf
  clear e hf hcond
  go_enter Tryz.func93,Tryz.ntmps93
  go_wp2_with fail
  (go_quiet ((first|fail));all_goals (generalize CE:World.drewN _ nq=W0;have hb0:=Ex.Iz CE;clear CE;obtain⟨hc0,hf0,hz0⟩:=xy hb0))
  go_wp2_with fail
  (go_quiet ((first|fail));all_goals (generalize CE:World.drewN _ nq=W0;have hb0:=Ex.Iz CE;clear CE;obtain⟨hc0,hf0,hz0⟩:=xy hb0))
  go_wp2_with fail
  (focus (refine CF fun W0 hb0 hc0 hf0 hz0=>?_;refine Aj [] (S:=fun w'=>Held W0 w') DC (fun hHeld=>?_);(repeat' (first|refine FQ [] [] hHeld (h:=?_)|refine FW (fun K hK=>?_) ?_|refine FV ?_|exact Cf|refine FT (fun K hK=>?_) ?_|(revert hK;intro hK;go_simp;(try ((go_at_call 64;apply Calls.mono;apply (ES (xs:=x.AB.log.take ss));(apply Rs.A8 hT;(exact AO));rintro E w1 ⟨A1,c1,n1,rfl,Gr,hb⟩;rw[HF.out];obtain⟨hc,hf,hz⟩:=xy hb);(try go_wp2_with fail)));refine CQ hK DC (h:=?_);clear hK K hHeld;intro hHeld)));all_goals (refine FR ?_);all_goals (obtain⟨hb,hc,hf,hz⟩:=xh (by assumption:Held W0 _))))
  go_wp2_with fail
  go_ret
  exact⟨τ,rfl,HS.out.ex AA⟩
 | some rows=>
  have h8:=Sw.Ct (Sw.Bv hf)
  obtain⟨row,hrow⟩:∃ row,rows[tt]?=some row:=⟨_,List.getElem?_eq_getElem (by omega)⟩
  have hra:Sw.rowAt rows tt=row:=by unfold Sw.rowAt;rw[Int.toNat_natCast];exact Sw.CP hrow
  obtain⟨z,hz0⟩:∃ z,z=Sw.CB ⟨y.head,y.done⟩ tt who row (Sw.Dl rows tt):=⟨_,rfl⟩
  have e:Sw.Da x kk tt who=if z.2=true then ({ x with AV:=x.AV.set kk z.1 },1) else (x,3):=by
   unfold Sw.Da
   rw[lK.out,if_pos hcond,aK.out,Int.toNat_natCast,hf]
   dsimp only
   rw[hra,Int.toNat_natCast,hz0]
  have HE:=Lib.hid e
  have HZ:=Lib.hid hz0
  have HF:=Lib.hid hf
  have H8:=Lib.hid h8
  have lH:=Lib.hid hrow
  clear e hf hcond hz0 h8 hrow hra
  go_enter Tryz.func93,Tryz.ntmps93
  go_wp2_with fail
  (go_quiet ((first|fail));all_goals (generalize CE:World.drewN _ nq=W0;have hb0:=Ex.Iz CE;clear CE;obtain⟨hc0,hf0,hz0⟩:=xy hb0))
  go_wp2_with fail
  (go_quiet ((first|fail));all_goals (generalize CE:World.drewN _ nq=W0;have hb0:=Ex.Iz CE;clear CE;obtain⟨hc0,hf0,hz0⟩:=xy hb0))
  go_wp2_with fail
  (focus (refine CF fun W0 hb0 hc0 hf0 hz0=>?_;refine Aj [] (S:=fun w'=>Held W0 w') DC (fun hHeld=>?_);(repeat' (first|refine FQ [] [] hHeld (h:=?_)|refine FW (fun K hK=>?_) ?_|refine FV ?_|exact Cf|refine FT (fun K hK=>?_) ?_|(revert hK;intro hK;go_simp;(try ((go_at_call 64;apply Calls.mono;apply (ES (xs:=x.AB.log.take ss));(apply Rs.A8 hT;(exact AO));rintro E w1 ⟨A1,c1,n1,rfl,Gr,hb⟩;rw[HF.out] at Gr;rw[HF.out];obtain⟨hc,hf,hz⟩:=xy hb);(try go_wp2_with fail)));refine CQ hK DC (h:=?_);clear hK K hHeld;intro hHeld)));all_goals (refine FR ?_);all_goals (obtain⟨hb,hc,hf,hz⟩:=xh (by assumption:Held W0 _))))
  obtain rfl:n1=8:=by have:=Gr.1;have:=H8.out;simp at *;omega
  obtain⟨gR,row',rfl,FY,uw,hrow',dR0,dR1,dR2,hfR⟩:=ND Gr YV
  obtain rfl:row'=row:=by have h:=lH.out;rw[Option.getD_some] at hrow';rw[hrow'] at h;exact Option.some.inj h
  have jH:PQ w1 _ (some ⟨gR,0,none⟩) c1 8 rows:=Gr
  have ut:(0:Int)≤(tt:Int):=by omega
  have ut2:(tt:Int)<8:=by omega
  clear hrow' Gr
  go_upto_region 7 with fail
  (refine CF fun W0 hb0 hc0 hf0 hz0=>?_)
  have s0:W0.cell? ⟨gG,kk*4,none⟩=some (.int .i64 y.head.size):=by rw[aK.out];(go_simp;first|done|simp[*])
  have s1:W0.cell? ⟨gG,kk*4+1,none⟩=some (.int .i64 y.head.log):=Ak
  have s2:W0.cell? ⟨gG,kk*4+2,none⟩=some (.int .i64 y.head.own):=Ak
  have s3:W0.cell? ⟨gG,kk*4+3,none⟩=some (.slice xA xn xc):=Ak
  have sf:∀ i:Nat,W0.frozen? ⟨gG,i,none⟩=false:=fun i=>Ak
  have se3:W0.cell? ⟨w.heap.size,8,none⟩=some (.int .i64 tt):=Ak
  have se4:W0.cell? ⟨w.heap.size,9,none⟩=some (.int .i64 who):=Ak
  have t0:W0.cell? ⟨gR,tt*3,none⟩=some (.int .i64 row'.who):=Ak
  have t1:W0.cell? ⟨gR,tt*3+1,none⟩=some (.int .i64 row'.EY):=Ak
  have t2:W0.cell? ⟨gR,tt*3+2,none⟩=some (.bool row'.used):=Ak
  have wO:RR W0 0 (some ⟨gR,0,none⟩) c1 8 rows:=by apply Ow.Es jH;(exact AO)
  have oZ:RI W0 0 xA xc xn y.done:=hdone.rs.A8 AO
  have hcq:Ex w W0:=AA
  have QA:w.heap.size+1≤W0.heap.size:=Aq
  have uq:gR<W0.heap.size:=Aq
  clear hb0 hc0 hf0
  obtain⟨Wq,CE⟩:∃ z,z=W0:=⟨_,rfl⟩
  subst CE
  (focus (refine CF fun W0 hb0 hc0 hf0 hz0=>?_;refine Aj [] (S:=fun w'=>Held W0 w') DC (fun hHeld=>?_);(repeat' (first|refine FQ [] [] hHeld (h:=?_)|refine FW (fun K hK=>?_) ?_|refine FV ?_|exact Cf|refine FT (fun K hK=>?_) ?_|(revert hK;intro hK;go_simp;(try ((first|(go_at_call 141;apply Calls.mono;apply (Ud (xs:=rows) (t:=tt));(apply Rs.A8 wO;(exact AO));omega;rintro E w3 ⟨A3,c3,n3,rfl,LK,hb⟩;obtain⟨hc,hf,hz⟩:=xy hb)|(go_at_call 140;apply Calls.mono;apply (V3 (t:=y.head) (xs:=y.done) (k:=tt) (who:=who) (r:=row') (ps:=Sw.Dl rows tt));(apply Rs.A8 oZ;(exact AO));(apply Ow.Es LK;(exact AO));rintro E w5 ⟨B3,d3,n5,rfl,Ki,hb⟩;rw[← HZ.out] at Ki;rw[← HZ.out];obtain⟨hc,hf,hz⟩:=xy hb));(try go_wp2_with fail)));refine CQ hK DC (h:=?_);clear hK K hHeld;intro hHeld)));all_goals (refine FR ?_);all_goals (obtain⟨hb,hc,hf,hz⟩:=xh (by assumption:Held W0 _))))
  all_goals go_upto_region 8 with fail
  all_goals (refine CF fun W0 hb0 hc0 hf0 hz0=>?_)
  all_goals have uS:Ga W0 _ B3 d3 n5 z.1.done:=Ki.keep AO
  all_goals have Lp:Ex w W0:=AA
  all_goals have Rz:Ga W0 w.heap.size B3 d3 n5 z.1.done:=uS.less Aq
  all_goals have uY:kk<Az:=by have:=L4.out;omega
  all_goals have m1:=WS.Zp (k:=kk) (y:=z.1) HS.out rfl uY Lp Rz
  all_goals have hm0:=HS.out.ex Lp
  all_goals have HE1:=Lib.hid (fun h:z.2=true=>HE.out.trans (if_pos h))
  all_goals have HE0:=Lib.hid (fun h:¬z.2=true=>HE.out.trans (if_neg h))
  all_goals clear HE
  all_goals (cases hz2:z.2;(focus (go_wp2_with fail;go_ret;rw[HE0.out (by rw[hz2];decide)];exact⟨τ,rfl,hm0⟩));(focus (go_wp2_with fail;go_ret;rw[HE1.out hz2];exact⟨_,rfl,m1⟩)))
end
end Go.Proofs.YtgaflnpmilikcaaGreat
namespace Go.Proofs.YtgaflnpmilikcaaGreat
open Go.RowKit Go
set_option maxHeartbeats 4000000
structure Mq (a b:World):Prop where
 out:Ex a b
set_option maxHeartbeats 2000000
structure QAt (w:World) (g:Nat) (r:Sw.Ee):Prop where
 lt:g<w.heap.size
 c0:w.cell? ⟨g,0,none⟩=some (.int .i64 r.user)
 c1:w.cell? ⟨g,1,none⟩=some (.int .i64 r.n)
 c2:w.cell? ⟨g,2,none⟩=some (.int .i64 r.kind)
 c3:w.cell? ⟨g,3,none⟩=some (.int .i64 r.ticket)
 c4:w.cell? ⟨g,4,none⟩=some (.int .i64 r.who)
 c5:w.cell? ⟨g,5,none⟩=some (.int .i64 r.Al)
 free:∀ i,w.frozen? ⟨g,i,none⟩=false
theorem Sc:∀ (ds:List Sw.BC) (t:Int),Sw.La ds t=(Sw.BH ds t).bind fun k=>ds[k]?
 | [],t=>rfl
 | d::ds,t=>by
  have ih:=Sc ds t
  unfold Sw.La Sw.BH at ih ⊢
  rw[List.find?_cons,List.findIdx?_cons]
  cases h:decide (d.ticket=t)
  ·dsimp only
   rw[ih]
   cases List.findIdx? (fun d=>decide (d.ticket=t)) ds <;> rfl
  ·rfl
theorem X4 (aL:Option Addr) (Ae AU:Nat) (aP:Option Addr) (Ag AY:Nat) (aD:Option Addr) (Ac AQ:Nat) (aN:Option Addr) (Ad Aa:Nat) (aS:Option Addr) (Af Ab:Nat) (m:Sw.CV) (t:Int) (o:Option Sw.BC) (w:World) (hD:VJ w 0 aD Ac AQ m.AJ) (ho:Sw.La m.AJ t=o):Calls Tryz.prog 33 #[.agg #[.slice aL AU Ae,.slice aP AY Ag,.slice aD AQ Ac,.int .i64 m.clock,.slice aN Aa Ad,.slice aS Ab Af],.int .i64 t] w fun E w'=>E=.returned (.tuple #[.agg #[.int .i64 (o.getD Sw.EE).ticket,.int .i64 (o.getD Sw.EE).BP,.int .i64 (o.getD Sw.EE).Al,.int .i64 (o.getD Sw.EE).BN,.int .i64 (o.getD Sw.EE).due],.bool o.isSome])∧Ex w w':=by
 rw[Sc] at ho
 cases hk:Sw.BH m.AJ t with
 | none=>
  rw[hk] at ho
  subst ho
  exact WB _ _ _ _ _ _ _ _ _ _ _ _ _ _ _ m t w hD (EJ hk)
 | some k=>
  obtain⟨d,hd,_⟩:=Sw.Dc hk
  rw[hk] at ho
  have ho':o=some d:=ho.symm.trans hd
  subst ho'
  exact WA _ _ _ _ _ _ _ _ _ _ _ _ _ _ _ m t k d w hD (EI hk) hd
set_option maxHeartbeats 2000000
theorem Yz {rows:List Sw.Row} {k:Nat} {y:Sw.Row} (h:rows[k]?=some y):Sw.rowAt rows (k:Int)=y:=by
 unfold Sw.rowAt
 rw[Int.toNat_natCast]
 exact Sw.CP h
end Go.Proofs.YtgaflnpmilikcaaGreat
