/- Texts joined: DrW, DrZ, PtrE2, PtrE3. -/
import Derived.Test.YtgaflnpmilikcaaGreatPx39
import Derived.Test.YtgaflnpmilikcaaGreatPx48
import Derived.Test.YtgaflnpmilikcaaGreatPx49
import Derived.Test.YtgaflnpmilikcaaGreatPx7
import Derived.Test.YtgaflnpmilikcaaGreatPx5
import Derived.Deep.DeepCutAuto
import Derived.Test.YtgaflnpmilikcaaGreatPx47
import Derived.Test.YtgaflnpmilikcaaGreatPx34
import Derived.Test.YtgaflnpmilikcaaGreatPx25
set_option maxRecDepth 100000
set_option linter.unusedSimpArgs false
set_option linter.unusedVariables false
namespace Go.Proofs.YtgaflnpmilikcaaGreat
open Go.RowKit Go
set_option maxHeartbeats 20000000
theorem qf:G9 Tryz.prog 33 47 10 80:=.mk' (z:=.agg #[.int .i64 0,.int .i64 0,.int .i64 0,.int .i64 0,.int .i64 0,.int .i64 0,.int .i64 0,.int .i64 0,.int .i64 0,.int .i64 0]) Tryz.underlying33 (by kernel_rfl) rfl (by omega)
theorem gu (x:Sw.Ev):∀ u∈x.enc,u.oneCell'=true:=by simp[Sw.Ev.enc,Value.oneCell']
abbrev kr:=Ow Sw.Ev.enc 10 47
set_option maxHeartbeats 20000000 in
theorem Q0 (rb P:Nat) (aF:Option Addr) (BD A_:Nat) (aL:Option Addr) (Ae AU:Nat) (aP:Option Addr) (Ag AY:Nat) (aD:Option Addr) (Ac AQ:Nat) (aN:Option Addr) (Ad Aa:Nat) (aS:Option Addr) (Af Ab:Nat) (aI:Option Addr) (BF A7:Nat) (aG:Option Addr) (BA Az:Nat) (aB:Option Addr) (aBc Ao:Nat) (x:Sw.World) (n:Int) (lo:Nat) (w:World) (hr:Be w rb P) (hok:Sw.Iu x) (hW:RW w lo aF BD A_ aL Ae AU aP Ag AY aD Ac AQ aN Ad Aa aS Af Ab aI BF A7 aG BA Az aB aBc Ao x) (hP:P≤100000) (hl0:rb<lo) (hl1:lo≤w.heap.size) (hn:n≤120):Calls Tryz.prog 36 #[.pointer (some ⟨rb,0,none⟩),.agg #[.slice aF A_ BD,.slice aL AU Ae,.slice aP AY Ag,.slice aD AQ Ac,.int .i64 x.AB.clock,.slice aN Aa Ad,.slice aS Ab Af,.slice aI A7 BF,.slice aG Az BA,.slice aB Ao aBc],.int .i64 n] w fun E w'=>∃ (V:Option Addr) (Vc Vn:Nat) (es:List Sw.Ev) (bF:Option Addr) (Di DZ:Nat) (bL:Option Addr) (Bg BR:Nat) (bP:Option Addr) (Bf BV:Nat) (bD:Option Addr) (Bh Ba:Nat) (bN:Option Addr) (Bd Bb:Nat) (bS:Option Addr) (Bc BZ:Nat) (bI:Option Addr) (Dg bIn:Nat) (bG:Option Addr) (Dh DL:Nat) (bB:Option Addr) (Dj Cy:Nat) (z:Sw.World),E=.returned (.tuple #[.slice V Vn Vc,.agg #[.slice bF DZ Di,.slice bL BR Bg,.slice bP BV Bf,.slice bD Ba Bh,.int .i64 z.AB.clock,.slice bN Bb Bd,.slice bS BZ Bc,.slice bI bIn Dg,.slice bG DL Dh,.slice bB Cy Dj]])∧kr w' w.heap.size V Vc Vn es∧Vn≤120∧RW w' lo bF Di DZ bL Bg BR bP Bf BV bD Bh Ba bN Bd Bb bS Bc BZ bI Dg bIn bG Dh DL bB Dj Cy z∧Sw.Iu z∧Be w' rb (P+12000)∧Ch (· = rb) w w':=by
 have hlt:=hr.lt
 have HW:=Lib.hid (O_.mk hW (kR lo w))
 have HO:=Lib.hid hok
 have HR:=Lib.hid hr
 clear hW hok hr
 go_enter Tryz.func36,Tryz.ntmps36
 go_wp2_with fail
 go_loopw [8,9] (fun v k wr=>∃ (V:Option Addr) (Vc:Nat) (es:List Sw.Ev) (kk lo':Nat) (wb:World) (bF:Option Addr) (Di DZ:Nat) (bL:Option Addr) (Bg BR:Nat) (bP:Option Addr) (Bf BV:Nat) (bD:Option Addr) (Bh Ba:Nat) (bN:Option Addr) (Bd Bb:Nat) (bS:Option Addr) (Bc BZ:Nat) (bI:Option Addr) (Dg bIn:Nat) (bG:Option Addr) (Dh DL:Nat) (bB:Option Addr) (Dj Cy:Nat) (y:Sw.World),v=.slice V kk Vc∧k=.int .i64 kk∧kk≤120 ∧
  kr wr (w.heap.size+2) V Vc kk es∧Ch (· = rb) w wr∧Be wr rb (P+100*kk)∧Fw wr w.heap.size bF Di DZ bL Bg BR bP Bf BV bD Bh Ba bN Bd Bb bS Bc BZ bI Dg bIn bG Dh DL bB Dj Cy y.AB.clock∧Fw wr (w.heap.size+1) none 0 0 none 0 0 none 0 0 none 0 0 none 0 0 none 0 0 none 0 0 none 0 0 none 0 0 0∧Sw.Iu y∧O_ wb lo' wr bF Di DZ bL Bg BR bP Bf BV bD Bh Ba bN Bd Bb bS Bc BZ bI Dg bIn bG Dh DL bB Dj Cy y∧lo≤lo' ∧
  (w.heap.size+1<lo'∨wb.heap.size≤w.heap.size)∧(∀ a,V=some a→a.block<lo'∨wb.heap.size≤a.block)) (fun _ k _=>120-(intOf k).toNat)
 case atStart=>
  refine⟨_,_,[],0,lo,w,aF,BD,A_,aL,Ae,AU,aP,Ag,AY,aD,Ac,AQ,aN,Ad,Aa,aS,Af,Ab,aI,BF,A7,aG,BA,Az,aB,aBc,Ao,x,rfl,rfl,by omega,?_,AA,?_,⟨Aq,Ak,Ak,Ak,Ak,Ak,Ak,Ak,Ak,Ak,Ak,fun i=>Ak⟩,⟨Aq,Ak,Ak,Ak,Ak,Ak,Ak,Ak,Ak,Ak,Ak,fun i=>Ak⟩,HO.out,⟨HW.out.rd,AO⟩,Nat.le_refl _,.inr (Nat.le_refl _),fun a ha=>?_⟩
  ·(refine PX)
  ·exact (Be.keep HR.out Cj).more (by omega)
  ·cases ha;exact .inr Aq
 case round=>
  obtain⟨V,Vc,es,kk,lo',wb,bF,Di,DZ,bL,Bg,BR,bP,Bf,BV,bD,Bh,Ba,bN,Bd,Bb,bS,Bc,BZ,bI,Dg,bIn,bG,Dh,DL,bB,Dj,Cy,y,rfl,rfl,hkk,hV,hb,hrd,hA,hZ,hok,hH,hll,wE,hva⟩:=hrel
  have hst:=xc hb
  obtain⟨hcr,hfr,XM⟩:=hst
  clear hcr hfr
  obtain⟨hgl,c0,c1,c2,c3,c4,c5,c6,c7,c8,c9,cf⟩:=hA
  obtain⟨hgz,z0,z1,z2,z3,z4,z5,z6,z7,z8,z9,zf⟩:=hZ
  have hwb:=hH.kf.size
  have HH:=Lib.hid hH
  have HY:=Lib.hid hok
  have hb2:DL=2:=by have h1:=hH.rd.AV.len.1;have h2:=hok.GU;omega
  have hn2:=Fb hH.rd hok
  have xX:=Lib.hid hva
  clear hH hok hva
  subst hb2
  have h22:((2:Int)==2)=true:=rfl
  have hlb:rb<lo':=by omega
  by_cases hgo:(kk:Int)<n
  ·have hk1:kk<120:=by omega
   go_upto_region 6 with (go_at_call 68;apply Calls.mono;apply (Q3 (x:=y));(apply Be.keep;assumption;(exact Cj));exact HY.out;(exact (HH.out.JU.keep AO).less (by omega));omega;rintro E w1 ⟨e,rfl,hrd,hb⟩;(obtain⟨hc,hf,hz⟩:=xd hb))
   go_upto_region 7 with ((at_builtin;apply BL (lo:=w.heap.size+2) qf gu rfl rfl rfl rfl;(exact Iy);(first|(refine Rs.new [e] (by (first|rfl|(simp only[BO];done)|omega)) rfl rfl (fun _=>rfl) (by omega)));omega;exact Aq;intro A1 c1 w2 ho1 Ap Bo Ay Ah;have hb:=Ay (· = rb) w (by exact AA) (by omega);have hrd:=Be.low (Be.keep (by assumption) (by exact Cj)) Ap.size Ah (by omega);have hz:=Ap.size;(try simp only[BO] at hz);obtain⟨hc,hf⟩:=BJ Ah;clear Ay);obtain⟨hC0,hG0⟩:=Ch.DK Ap (g:=w1.heap.size) (by exact Aq) (fun a ha=>by have:=(hV.blk ha).2;omega))
   have hH7:KF lo' wb w2:=KF.ch Ap (KF.trans HH.out.kf (by exact AO)) (fun i ⟨a,ha,e⟩=>by have:=xX.out a ha;omega)
   have wQ:=HH.out.rd.keep hH7
   (refine CF fun W0 hb0 hc0 hf0 hz0=>?_)
   have p0:W0.cell? ⟨w.heap.size,0,none⟩=some (.slice bF DZ Di):=(Ak);have p1:W0.cell? ⟨w.heap.size,1,none⟩=some (.slice bL BR Bg):=(Ak);have p2:W0.cell? ⟨w.heap.size,2,none⟩=some (.slice bP BV Bf):=(Ak);have p3:W0.cell? ⟨w.heap.size,3,none⟩=some (.slice bD Ba Bh):=(Ak);have p4:W0.cell? ⟨w.heap.size,4,none⟩=some (.int .i64 y.AB.clock):=(Ak);have p5:W0.cell? ⟨w.heap.size,5,none⟩=some (.slice bN Bb Bd):=(Ak);have p6:W0.cell? ⟨w.heap.size,6,none⟩=some (.slice bS BZ Bc):=(Ak);have p7:W0.cell? ⟨w.heap.size,7,none⟩=some (.slice bI bIn Dg):=(Ak);have p8:W0.cell? ⟨w.heap.size,8,none⟩=some (.slice bG 2 Dh):=(Ak);have p9:W0.cell? ⟨w.heap.size,9,none⟩=some (.slice bB Cy Dj):=(Ak)
   have uN:=hrd.keep (show KB rb w2 W0 from Cj)
   have hcq:Ch (· = rb) w W0:=AA
   have QA:w.heap.size+2≤W0.heap.size:=Aq
   have AAm:w2.heap.size≤W0.heap.size:=Aq
   have e0:W0.cell? ⟨w1.heap.size,0,none⟩=some (.int .i64 e.kind):=(Ak);have e1:W0.cell? ⟨w1.heap.size,1,none⟩=some (.int .i64 e.EK.user):=(Ak);have e2:W0.cell? ⟨w1.heap.size,2,none⟩=some (.int .i64 e.EK.n):=(Ak);have e3:W0.cell? ⟨w1.heap.size,3,none⟩=some (.int .i64 e.EK.kind):=(Ak);have e4:W0.cell? ⟨w1.heap.size,4,none⟩=some (.int .i64 e.EK.ticket):=(Ak);have e5:W0.cell? ⟨w1.heap.size,5,none⟩=some (.int .i64 e.EK.who):=(Ak);have e6:W0.cell? ⟨w1.heap.size,6,none⟩=some (.int .i64 e.EK.Al):=(Ak);have e7:W0.cell? ⟨w1.heap.size,7,none⟩=some (.int .i64 e.at_):=(Ak);have e8:W0.cell? ⟨w1.heap.size,8,none⟩=some (.int .i64 e.ticket):=(Ak);have e9:W0.cell? ⟨w1.heap.size,9,none⟩=some (.int .i64 e.who):=(Ak)
   (focus (refine CF fun W0 hb0 hc0 hf0 hz0=>?_;refine Aj [] (S:=fun w'=>Ce (w.heap.size) W0 w') mI (fun hHeld=>?_);(repeat' (first|refine FQ [0] [] hHeld (h:=?_)|refine FW (fun K hK=>?_) ?_|refine FV ?_|exact Cf|refine FT (fun K hK=>?_) ?_|(revert hK;intro hK;go_simp;(try ((first|(go_at_call 43;apply Calls.mono;apply (J2 (x:=y));(apply RW.A8 wQ;(exact AO));exact hn2;rintro E w7 ⟨dF,GL,F8,dL,Ep,Ec,dP,Eo,Eg,dD,Er,Ed,dN,Ej,Eb,dS,Ei,Ea,dI,GJ,Fj,dG,GK,Fv,dB,GN,Fq,τ7,rfl,ZW,hb⟩;obtain⟨hc,hf,hz⟩:=xy hb)|(go_at_call 44;apply Calls.mono;apply (Sq (x:=y) (e:=e) (τ:=τ7));(exact ZW.Av AO);(exact Sw.Am.2 HY.out);(exact Aq);rintro E w6 ⟨fF,PM,PL,fL,Jo,Jc,fP,Jm,Ja,fD,Jp,Jd,fN,Jn,Jb,fS,Jl,JZ,fI,PH,PG,fG,PK,PI,fB,PO,PN,rfl,hrw,hup⟩;have rQ:=hrw w6 (Ch.refl _ _);have hb:Ex W0 w6:=Ch.trans' (by exact AA) hup (fun i hi h=>(by have h1:=h.1;(try simp only[BO] at h1);omega));clear hrw hup;obtain⟨hc,hf,hz⟩:=xy hb));(try go_wp2_with fail)));refine CQ hK mI (h:=?_);clear hK K hHeld;intro hHeld)));all_goals (refine FR ?_);all_goals (have hb:=And.right (by assumption:Ce (w.heap.size) W0 _);obtain⟨hc,hf,hz⟩:=xd hb)))
   all_goals go_wp2_with fail
   all_goals go_roundw
   repeat (case measure=>(simp[intOf];omega))
   all_goals
    have hV1:kr w6 (w.heap.size+2) A1 c1 (kk+1) (es ++ [e]):=ho1.keep AO
    refine⟨A1,c1,es ++ [e],kk+1,_,w6,fF,PM,PL,fL,Jo,Jc,fP,Jm,Ja,fD,Jp,Jd,fN,Jn,Jb,fS,Jl,JZ,fI,PH,PG,fG,PK,PI,fB,PO,PN,(Sw.step y e).1,rfl,by go_num,by omega,?_,AA,?_,⟨Aq,Ak,Ak,Ak,Ak,Ak,Ak,Ak,Ak,Ak,Ak,fun i=>Ak⟩,⟨Aq,Ak,Ak,Ak,Ak,Ak,Ak,Ak,Ak,Ak,Ak,fun i=>Ak⟩,Sw.step_ok HY.out e,⟨rQ,AO⟩,Aq,.inl Aq,fun a ha=>.inl ?_⟩
    ·exact hV1.keep AO
    ·exact (Be.keep uN Cj).more (by omega)
    ·have:=(ho1.blk ha).2;exact Aq
  ·have hgo':¬(kk:Int)<n:=hgo
   have ABD:decide ((kk:Int)<n)=false:=decide_eq_false hgo
   go_upto_region 8 with fail
   (focus (refine CF fun W0 hb0 hc0 hf0 hz0=>?_;refine Aj [] (S:=fun w'=>Ce (w.heap.size+1) W0 w') mI (fun hHeld=>?_);(repeat' (first|refine FQ [] [] hHeld (h:=?_)|refine FW (fun K hK=>?_) ?_|refine FV ?_|exact Cf|refine FT (fun K hK=>?_) ?_|(revert hK;intro hK;go_simp;refine CQ hK mI (h:=?_);clear hK K hHeld;intro hHeld)));all_goals (refine FR ?_);all_goals (have hb:=And.right (by assumption:Ce (w.heap.size+1) W0 _);obtain⟨hc,hf,hz⟩:=xd hb)))
   all_goals have hk8:KF lo' wb W0:=KF.trans HH.out.kf (by exact AO)
   all_goals go_wp2_with fail
   all_goals refine bodyPost_ret (v:=.tuple #[.slice V kk Vc,.agg #[.slice bF DZ Di,.slice bL BR Bg,.slice bP BV Bf,.slice bD Ba Bh,.int .i64 y.AB.clock,.slice bN Bb Bd,.slice bS BZ Bc,.slice bI bIn Dg,.slice bG 2 Dh,.slice bB Cy Dj]]) (by simp[results,Tryz.results36,go_sem, *]) rfl ?_
   all_goals exact⟨V,Vc,kk,es,bF,Di,DZ,bL,Bg,BR,bP,Bf,BV,bD,Bh,Ba,bN,Bd,Bb,bS,Bc,BZ,bI,Dg,bIn,bG,Dh,2,bB,Dj,Cy,y,rfl,(hV.keep AO).less Aq,hkk,(HH.out.rd.keep (by with_reducible repeat (first|exact hk8|apply kD|(refine kS ?_ (by show w.heap.size+1<lo'∨wb.heap.size≤w.heap.size+1;omega))))).less hll,HY.out,(Be.keep hrd Cj).more (by omega),AA⟩
set_option maxHeartbeats 20000000
def gZ (v:Nat) (a b c:Value):Value:=if v=0 then a else if v=1 then b else c
theorem VV {v:Nat} (h:v<3) (W:World) (a b c:Value) (T:TypeId):(W.alloc (.cells #[a,b,c] T)).cell? ⟨W.heap.size,v,none⟩=some (gZ v a b c):=by
 rcases (show v=0∨v=1∨v=2 by omega) with rfl|rfl|rfl <;> simp[go_sem,gZ]
theorem Vo (rb P:Nat) (w:World) (hr:Be w rb P) (hP:P≤900000):Calls Tryz.prog 80 #[.pointer (some ⟨rb,0,none⟩)] w fun E w'=>∃ A c xs,E=.returned (.slice A 5 c)∧Ga w' w.heap.size A c 5 xs∧Sw.Y7 xs=true∧Be w' rb (P+1)∧Ch (· = rb) w w':=by
 have hlt:=hr.lt
 go_enter Tryz.func80,Tryz.ntmps80
 go_wp2_with (go_at_call 37;apply Calls.mono;apply (Gy (N:=3));(apply Be.keep;assumption;(exact Cj));omega;rfl;decide;rintro E w5 ⟨v5,rfl,hv5,hrd,hb⟩;have hsel:=VV hv5;have Um:(v5:Int)<3:=(by omega);(obtain⟨hc,hf,hz⟩:=xd hb))
 have o0:Ga  (w.alloc (.cells #[.int .i64 0,.int .i64 100,.int .i64 100,.int .i64 300,.int .i64 50] 3)) w.heap.size (some ⟨w.heap.size,0,none⟩) 5 5 [0,100,100,300,50]:=Ow.new (enc:=encI) (sz:=1) [0,100,100,300,50] (by simp) rfl rfl (fun _=>rfl) (by omega) (by decide)
 have o1:Ga  ((w.alloc (.cells #[.int .i64 0,.int .i64 100,.int .i64 100,.int .i64 300,.int .i64 50] 3)).alloc (.cells #[.int .i64 10,.int .i64 60,.int .i64 60,.int .i64 60,.int .i64 60] 3)) w.heap.size (some ⟨w.heap.size+1,0,none⟩) 5 5 [10,60,60,60,60]:=Ow.new (enc:=encI) (sz:=1) [10,60,60,60,60] (by simp) rfl rfl (fun _=>rfl) (by omega) (by decide)
 have o2:Ga  (((w.alloc (.cells #[.int .i64 0,.int .i64 100,.int .i64 100,.int .i64 300,.int .i64 50] 3)).alloc (.cells #[.int .i64 10,.int .i64 60,.int .i64 60,.int .i64 60,.int .i64 60] 3)).alloc (.cells #[.int .i64 0,.int .i64 1000,.int .i64 1000,.int .i64 1000,.int .i64 1000] 3)) w.heap.size (some ⟨w.heap.size+1+1,0,none⟩) 5 5 [0,1000,1000,1000,1000]:=Ow.new (enc:=encI) (sz:=1) [0,1000,1000,1000,1000] (by simp) rfl rfl (fun _=>rfl) (by omega) (by decide)
 rcases (show v5=0∨v5=1∨v5=2 by omega) with rfl|rfl|rfl
 ·go_ret
  exact⟨_,_,_,rfl,o0.keep AO,(by decide +kernel),hrd,AA⟩
 ·go_ret
  exact⟨_,_,_,rfl,o1.keep AO,(by decide +kernel),hrd,AA⟩
 ·go_ret
  exact⟨_,_,_,rfl,o2.keep AO,(by decide +kernel),hrd,AA⟩
theorem dK {p:List Int} (h:Sw.Y7 p=true):Sw.Iu (Sw.Jv p):=by
 simp only[Sw.Y7,Bool.and_eq_true,decide_eq_true_eq] at h
 exact Sw.Xh h.1 h.2
theorem NN (rb P:Nat) (w:World) (hr:Be w rb P) (hP:P≤80000):Calls Tryz.prog 35 #[.pointer (some ⟨rb,0,none⟩)] w fun E w'=>∃ (bF:Option Addr) (Di DZ:Nat) (bL:Option Addr) (Bg BR:Nat) (bP:Option Addr) (Bf BV:Nat) (bD:Option Addr) (Bh Ba:Nat) (bN:Option Addr) (Bd Bb:Nat) (bS:Option Addr) (Bc BZ:Nat) (bI:Option Addr) (Dg bIn:Nat) (bG:Option Addr) (Dh DL:Nat) (bB:Option Addr) (Dj Cy:Nat) (z:Sw.World),E=.returned (.agg #[.slice bF DZ Di,.slice bL BR Bg,.slice bP BV Bf,.slice bD Ba Bh,.int .i64 z.AB.clock,.slice bN Bb Bd,.slice bS BZ Bc,.slice bI bIn Dg,.slice bG DL Dh,.slice bB Cy Dj])∧RW w' w.heap.size bF Di DZ bL Bg BR bP Bf BV bD Bh Ba bN Bd Bb bS Bc BZ bI Dg bIn bG Dh DL bB Dj Cy z∧Sw.Iu z∧Be w' rb (P+12010)∧Ch (· = rb) w w':=by
 have hlt:=hr.lt
 go_enter Tryz.func35,Tryz.ntmps35
 go_wp2_with (first|(go_at_call 37;apply Calls.mono;apply (JG (fun x=>x≤80));(apply Be.keep;assumption;(exact Cj));omega;(first|rfl|(simp;done));(repeat (first|exact IM.nil|(refine IM.cons ⟨_,rfl,(by first|exact trivial|omega)⟩ ?_)));omega;(first|omega|(simp only[BO];omega));rintro E w1 ⟨v,x,rfl,hv,hq,hcx,hrd,hb⟩;(try simp only[BO] at hcx);obtain⟨hc,hf,hz⟩:=xd hb)|(go_at_call 37;apply Calls.mono;apply DU;(apply Be.keep;assumption;(exact Cj));(exact Bu);(exact Bu);rintro E w1 ⟨v,rfl,⟨hv0,hv1⟩,hrd,hb⟩;obtain⟨hc,hf,hz⟩:=xd hb)|(go_at_call 80;apply Calls.mono;apply Vo;(apply Be.keep;assumption;(exact Cj));omega;rintro E w2 ⟨A2,c2,yC,rfl,hA2,hnew,hrd,hb⟩;(obtain⟨hc,hf,hz⟩:=xd hb))|(go_at_call 79;apply Calls.mono;apply (Xp (xs:=yC));(apply Rs.A8 hA2.rs;(exact AO));rintro E w3 ⟨F,Fc,Fn,jL,jLc,jLn,jP,jPc,jPn,jD,jDc,jDn,jN,jNc,jNn,jS,jSc,jSn,G,Gc,Gn,τ3,rfl,hwn,hb⟩;obtain⟨hc,hf,hz⟩:=xy hb)|(go_at_call 36;apply Calls.mono;apply (Q0 (x:=Sw.Jv yC) (lo:=w.heap.size+1));(apply Be.keep;assumption;(exact Cj));(exact dK hnew);(exact (hwn.JU.keep AO).less Aq);omega;omega;(exact Aq);omega;rintro E w5 ⟨V,Vc,Vn,es,fF,PM,PL,fL,Jo,Jc,fP,Jm,Ja,fD,Jp,Jd,fN,Jn,Jb,fS,Jl,JZ,fI,PH,PG,fG,PK,PI,fB,PO,PN,z,rfl,hV,rq,XM,Lm,hrd,hb⟩;(obtain⟨hc,hf,hz⟩:=xd hb)))
 refine bodyPost_ret (v:=.agg #[.slice fF PL PM,.slice fL Jc Jo,.slice fP Ja Jm,.slice fD Jd Jp,.int .i64 z.AB.clock,.slice fN Jb Jn,.slice fS JZ Jl,.slice fI PG PH,.slice fG PI PK,.slice fB PN PO]) (by simp[results,Tryz.results35,go_sem, *]) rfl ?_
 exact⟨fF,PM,PL,fL,Jo,Jc,fP,Jm,Ja,fD,Jp,Jd,fN,Jn,Jb,fS,Jl,JZ,fI,PH,PG,fG,PK,PI,fB,PO,PN,z,rfl,(XM.keep AO).less Aq,Lm,(Be.keep hrd Cj).more (by omega),AA⟩
end Go.Proofs.YtgaflnpmilikcaaGreat
namespace Go.Proofs.YtgaflnpmilikcaaGreat
open Go.RowKit Go
set_option maxHeartbeats 20000000
theorem IB.of {g lo:Nat} {τ0:Nat→Nat} {w0 w':World} {E:Ending} {n n':Int} {z z':Sw.World} (h:IB g lo τ0 w0 w' E n z) (hn:n=n') (hz:z=z'):IB g lo τ0 w0 w' E n' z':=by subst hn hz;exact h
section
variable {g lo:Nat} {τ0 τ:Nat→Nat} {w0 w:World} {aF aL aP aD aN aS aI aG aB:Option Addr} {BD A_ Ae AU Ag AY Ac AQ Ad Aa Af Ab BF A7 BA Az aBc Ao:Nat} {x:Sw.World}
theorem UO (hS:WS g lo τ0 w0 aF BD A_ aL Ae AU aP Ag AY aD Ac AQ aN Ad Aa aS Af Ab aI BF A7 aG BA Az aB aBc Ao x τ w) (hok:Sw.Cc x=true) (e:Sw.Ev):Calls Tryz.prog 41 #[.pointer (some ⟨g,0,none⟩),.agg #[.int .i64 e.kind,.int .i64 e.EK.user,.int .i64 e.EK.n,.int .i64 e.EK.kind,.int .i64 e.EK.ticket,.int .i64 e.EK.who,.int .i64 e.EK.Al,.int .i64 e.at_,.int .i64 e.ticket,.int .i64 e.who]] w fun E w'=>IB g lo τ0 w0 w' E (Sw.step x e).2 (Sw.step x e).1:=by
 obtain⟨ek,eq,ea,et,ew⟩:=e
 have hbl:Ao=x.BS.length:=hS.ow.BS.rx.len.1
 dsimp only
 by_cases k1:ek=1
 ·subst k1;exact (Vy hS hok).mono fun _ _ h=>h.of (by simp[Sw.step]) (by simp[Sw.step])
 by_cases k2:ek=2
 ·subst k2;exact (UU hS hok).mono fun _ _ h=>h.of (by simp[Sw.step]) (by simp[Sw.step])
 by_cases k3:ek=3
 ·subst k3;exact (Uc hS hok).mono fun _ _ h=>h.of (by simp[Sw.step]) (by simp[Sw.step])
 by_cases k4:ek=4
 ·subst k4
  cases h:Sw.Br ea 0 1
  ·exact (Vx hS hok h).mono fun _ _ k=>k.of (by simp[Sw.step]) (by simp[Sw.step,Sw.send,h])
  ·exact (UY hS hok h).mono fun _ _ k=>k.of (by simp[Sw.step]) (by simp[Sw.step])
 by_cases k5:ek=5
 ·subst k5
  cases h:Sw.Br ea 0 ((Ao:Int)-1)
  ·exact (Vw hS hok h).mono fun _ _ k=>k.of (by simp[Sw.step]) (by rw[hbl] at h;simp[Sw.step,h])
  ·exact (Ub hS hok h).mono fun _ _ k=>k.of (by simp[Sw.step]) (by rw[hbl] at h;simp[Sw.step,h])
 by_cases k6:ek=6
 ·subst k6
  cases h:Sw.Br ea 0 ((Ao:Int)-1)
  ·exact (Vv hS hok h).mono fun _ _ k=>k.of (by simp[Sw.step]) (by rw[hbl] at h;simp[Sw.step,h])
  ·exact (Ua hS hok h).mono fun _ _ k=>k.of (by simp[Sw.step]) (by rw[hbl] at h;simp[Sw.step,h])
 by_cases k7:ek=7
 ·subst k7
  cases h:Sw.Br ea 0 ((Ao:Int)-1)
  ·exact (Vu hS hok h).mono fun _ _ k=>k.of (by simp[Sw.step]) (by rw[hbl] at h;simp[Sw.step,h])
  ·exact (TA hS hok h).mono fun _ _ k=>k.of (by simp[Sw.step]) (by rw[hbl] at h;simp[Sw.step,h])
 by_cases k8:ek=8
 ·subst k8
  cases h:Sw.Br ea 0 1
  ·exact (Vt hS hok h).mono fun _ _ k=>k.of (by simp[Sw.step,Sw.Da,h]) (by simp[Sw.step,Sw.Da,h])
  ·cases h2:Sw.Br et 0 7
   ·exact (UZ hS hok h h2).mono fun _ _ k=>k.of (by simp[Sw.step,Sw.Da,h2]) (by simp[Sw.step,Sw.Da,h2])
   ·exact (UX hS hok h h2).mono fun _ _ k=>k.of (by simp[Sw.step]) (by simp[Sw.step])
 by_cases k9:ek=9
 ·subst k9
  cases h:Sw.Br ea 0 1
  ·exact (Vs hS hok h).mono fun _ _ k=>k.of (by simp[Sw.step]) (by simp[Sw.step,Sw.tell,h])
  ·exact (UW hS hok h).mono fun _ _ k=>k.of (by simp[Sw.step]) (by simp[Sw.step])
 exact (Xx hS hok k1 k2 k3 k4 k5 k6 k7 k8 k9).mono fun _ _ k=>k.of (by simp[Sw.step,k1,k2,k3,k4,k5,k6,k7,k8,k9]) (by simp[Sw.step,k1,k2,k3,k4,k5,k6,k7,k8,k9])
end
end Go.Proofs.YtgaflnpmilikcaaGreat
namespace Go.Proofs.YtgaflnpmilikcaaGreat
open Go.RowKit Go
set_option maxHeartbeats 20000000
theorem Eh.Mv {fd fp τ:Nat→Nat} {w:World} {lo:Nat}:Eh fd fp τ w lo none 0 0 none 0 0 none 0 0 none 0 0 none 0 0 none 0 0 none 0 0 none 0 0 none 0 0 Sw.Cz:=
 ⟨CK.nil ..,⟨CK.nil ..,CK.nil ..,CK.nil ..,CK.nil ..,CK.nil ..⟩,CK.nil ..,Kj.nil,KH.nil⟩
theorem WS.start {g lo:Nat} {τ:Nat→Nat} {w:World} {aF aL aP aD aN aS aI aG aB:Option Addr} {BD A_ Ae AU Ag AY Ac AQ Ad Aa Af Ab BF A7 BA Az aBc Ao:Nat} {x:Sw.World} (h:Eh OM Oi τ w lo aF BD A_ aL Ae AU aP Ag AY aD Ac AQ aN Ad Aa aS Af Ab aI BF A7 aG BA Az aB aBc Ao x) (hA:Fw w g aF BD A_ aL Ae AU aP Ag AY aD Ac AQ aN Ad Aa aS Af Ab aI BF A7 aG BA Az aB aBc Ao x.AB.clock) (hL:Lb w g 10) (hg:τ g=0) (hlo:lo≤w.heap.size):WS g lo τ w aF BD A_ aL Ae AU aP Ag AY aD Ac AQ aN Ad Aa aS Af Ab aI BF A7 aG BA Az aB aBc Ao x τ w:=
 ⟨hA.c0,⟨hA.lt,hA.c1,hA.c2,hA.c3,hA.c4,hA.c5,hA.c6,hA.free⟩,hA.c7,hA.c8,hA.c9,hL,h,fun _ _=>rfl,Ch.refl _ _,hA.lt,hg,hlo⟩
theorem WS.sS {g lo:Nat} {τ0 τ:Nat→Nat} {w0 w:World} {aF aL aP aD aN aS aI aG aB:Option Addr} {BD A_ Ae AU Ag AY Ac AQ Ad Aa Af Ab BF A7 BA Az aBc Ao:Nat} {x:Sw.World} (h:WS g lo τ0 w0 aF BD A_ aL Ae AU aP Ag AY aD Ac AQ aN Ad Aa aS Af Ab aI BF A7 aG BA Az aB aBc Ao x τ w):Fw w g aF BD A_ aL Ae AU aP Ag AY aD Ac AQ aN Ad Aa aS Af Ab aI BF A7 aG BA Az aB aBc Ao x.AB.clock:=
 ⟨h.at_.lt,h.first,h.at_.log,h.at_.Ai,h.at_.AJ,h.at_.Qa,h.at_.nums,h.at_.said,h.lines,h.AV,h.BS,h.at_.free⟩
theorem WS.low {g lo:Nat} {τ0 τ:Nat→Nat} {w0 w:World} {aF aL aP aD aN aS aI aG aB:Option Addr} {BD A_ Ae AU Ag AY Ac AQ Ad Aa Af Ab BF A7 BA Az aBc Ao:Nat} {x:Sw.World} (h:WS g lo τ0 w0 aF BD A_ aL Ae AU aP Ag AY aD Ac AQ aN Ad Aa aS Af Ab aI BF A7 aG BA Az aB aBc Ao x τ w) (hg:lo≤g):∀ b,b<lo→w.heap[b]?=w0.heap[b]?:=fun b hb=>h.ch.block b (Nat.lt_of_lt_of_le hb h.UK) (by
 rintro (h1 | ⟨h1,_⟩)
 ·omega
 ·omega)
theorem WS.zQ {g lo:Nat} {τ0 τ:Nat→Nat} {w0 w wi:World} {aF aL aP aD aN aS aI aG aB:Option Addr} {BD A_ Ae AU Ag AY Ac AQ Ad Aa Af Ab BF A7 BA Az aBc Ao:Nat} {x:Sw.World} (h:WS g lo τ0 w0 aF BD A_ aL Ae AU aP Ag AY aD Ac AQ aN Ad Aa aS Af Ab aI BF A7 aG BA Az aB aBc Ao x τ w) (hb:Ex wi w0) (hg:wi.heap.size≤g) (hl:wi.heap.size≤lo):Ex wi w:=hb.trans' h.ch fun i hi hs=>by
 rcases hs with h1 | ⟨h1,_⟩
 ·omega
 ·omega
theorem WS.boxed {g lo:Nat} {τ:Nat→Nat} {w w1:World} {aF aL aP aD aN aS aI aG aB:Option Addr} {BD A_ Ae AU Ag AY Ac AQ Ad Aa Af Ab BF A7 BA Az aBc Ao:Nat} {x:Sw.World} (h:Eh Jk I4 τ w lo aF BD A_ aL Ae AU aP Ag AY aD Ac AQ aN Ad Aa aS Af Ab aI BF A7 aG BA Az aB aBc Ao x) (hb:Ex w w1) (hA:Fw w1 g aF BD A_ aL Ae AU aP Ag AY aD Ac AQ aN Ad Aa aS Af Ab aI BF A7 aG BA Az aB aBc Ao x.AB.clock) (hL:Lb w1 g 10) (hg:w.heap.size≤g) (hlo:lo≤w.heap.size):∃ τ',WS g lo τ' w1 aF BD A_ aL Ae AU aP Ag AY aD Ac AQ aN Ad Aa aS Af Ab aI BF A7 aG BA Az aB aBc Ao x τ' w1:=
 ⟨_,WS.start ((h.loose.retag (τ':=glue (fun b=>if 20≤τ b then 10+τ b%2 else τ b) w.heap.size (fun _=>0)) fun b hb=>if_pos hb).Av (kE hb (kR _ _))) hA hL (if_neg (by omega)) (Nat.le_trans hlo hb.size)⟩
theorem Gq (aF:Option Addr) (BD A_:Nat) (aL:Option Addr) (Ae AU:Nat) (aP:Option Addr) (Ag AY:Nat) (aD:Option Addr) (Ac AQ:Nat) (aN:Option Addr) (Ad Aa:Nat) (aS:Option Addr) (Af Ab:Nat) (aI:Option Addr) (BF A7:Nat) (aG:Option Addr) (BA Az:Nat) (aB:Option Addr) (aBc Ao:Nat) (x:Sw.World) (e:Sw.Ev) (w:World) (hx:RW w 0 aF BD A_ aL Ae AU aP Ag AY aD Ac AQ aN Ad Aa aS Af Ab aI BF A7 aG BA Az aB aBc Ao x):Calls Tryz.prog 20 #[.agg #[.slice aF A_ BD,.slice aL AU Ae,.slice aP AY Ag,.slice aD AQ Ac,.int .i64 x.AB.clock,.slice aN Aa Ad,.slice aS Ab Af,.slice aI A7 BF,.slice aG Az BA,.slice aB Ao aBc],.agg #[.int .i64 e.kind,.int .i64 e.EK.user,.int .i64 e.EK.n,.int .i64 e.EK.kind,.int .i64 e.EK.ticket,.int .i64 e.EK.who,.int .i64 e.EK.Al,.int .i64 e.at_,.int .i64 e.ticket,.int .i64 e.who]] w fun E w'=>∃ bF Di DZ bL Bg BR bP Bf BV bD Bh Ba bN Bd Bb bS Bc BZ bI Dg bIn bG Dh DL bB Dj Cy τ,E=.returned (.tuple #[.agg #[.slice bF DZ Di,.slice bL BR Bg,.slice bP BV Bf,.slice bD Ba Bh,.int .i64 ((Sw.Cg x e).1).AB.clock,.slice bN Bb Bd,.slice bS BZ Bc,.slice bI bIn Dg,.slice bG DL Dh,.slice bB Cy Dj],.int .i64 (Sw.Cg x e).2])∧Eh Jk I4 τ w' w.heap.size bF Di DZ bL Bg BR bP Bf BV bD Bh Ba bN Bd Bb bS Bc BZ bI Dg bIn bG Dh DL bB Dj Cy (Sw.Cg x e).1∧Ex w w':=by
 obtain⟨ek,eq,ea,et,ew⟩:=e
 dsimp only
 cases g1:Sw.Cc x
 case false=>
  have e:Sw.Cg x ⟨ek,eq,ea,et,ew⟩=(Sw.Cz,0):=by simp[Sw.Cg,g1]
  rw[e];clear e
  go_enter Tryz.func20,Tryz.ntmps20
  go_wp2_with (first|(go_at_call 19;apply Calls.mono;apply J8;((first|(apply RW.A8;assumption)|(apply Eh.cO;assumption));exact AO);rintro E w1 ⟨rfl,hb⟩;obtain⟨hc,hf,hz⟩:=xy hb))
  refine bodyPost_ret (v:=.tuple #[.agg #[.slice none 0 0,.slice none 0 0,.slice none 0 0,.slice none 0 0,.int .i64 0,.slice none 0 0,.slice none 0 0,.slice none 0 0,.slice none 0 0,.slice none 0 0],.int .i64 0]) (by simp[results,Tryz.results20,go_sem, *]) rfl ?_
  exact⟨none,0,0,none,0,0,none,0,0,none,0,0,none,0,0,none,0,0,none,0,0,none,0,0,none,0,0,fun _=>0,rfl,Eh.Mv,AA⟩
 have e:Sw.Cg x ⟨ek,eq,ea,et,ew⟩=Sw.step x ⟨ek,eq,ea,et,ew⟩:=by simp[Sw.Cg,g1]
 rw[e];clear e
 have hn:=Fb hx (Sw.Am.1 g1)
 have iU:=Lib.hid (Sw.step_ok (Sw.Am.1 g1) ⟨ek,eq,ea,et,ew⟩)
 obtain⟨z,hz⟩:∃ z,z=Sw.step x ⟨ek,eq,ea,et,ew⟩:=⟨_,rfl⟩
 rw[← hz] at iU ⊢
 have HZ:=Lib.hid hz
 clear hz
 go_enter Tryz.func20,Tryz.ntmps20
 go_upto_region 4 with (first|(go_at_call 19;apply Calls.mono;apply J8;((first|(apply RW.A8;assumption)|(apply Eh.cO;assumption));exact AO);rintro E w1 ⟨rfl,hb⟩;obtain⟨hc,hf,hz⟩:=xy hb)|(go_at_call 40;apply Calls.mono;apply (KQ (x:=x));(apply RW.A8 hx;(exact AO));exact hn;rintro E w5 ⟨dF,GL,F8,dL,Ep,Ec,dP,Eo,Eg,dD,Er,Ed,dN,Ej,Eb,dS,Ei,Ea,dI,GJ,Fj,dG,GK,Fv,dB,GN,Fq,τ5,rfl,Oe,hb⟩;obtain⟨hc,hf,hz⟩:=xy hb))
 (refine CF fun W0 hb0 hc0 hf0 hz0=>?_)
 have QE:Fw W0 w5.heap.size dF GL F8 dL Ep Ec dP Eo Eg dD Er Ed dN Ej Eb dS Ei Ea dI GJ Fj dG GK Fv dB GN Fq x.AB.clock:=⟨Aq,Ak,Ak,Ak,Ak,Ak,Ak,Ak,Ak,Ak,Ak,fun i=>Ak⟩
 have hL0:Lb W0 w5.heap.size 10:=Dw
 obtain⟨τ0,hS0⟩:=WS.boxed Oe (show Ex w5 W0 from AA) QE hL0 (Nat.le_refl _) Aq
 have hlo0:w.heap.size+3≤w5.heap.size:=Aq
 have hlo1:=hS0.UK
 have Fu:Lb W0 (w.heap.size+1+1) 10:=Dw
 have hcq:Ex w W0:=AA
 have QA:w5.heap.size+1≤W0.heap.size:=Aq
 have p0:W0.cell? ⟨w.heap.size+1,0,none⟩=some (.int .i64 ek):=(Ak);have p1:W0.cell? ⟨w.heap.size+1,1,none⟩=some (.int .i64 eq.user):=(Ak);have p2:W0.cell? ⟨w.heap.size+1,2,none⟩=some (.int .i64 eq.n):=(Ak);have p3:W0.cell? ⟨w.heap.size+1,3,none⟩=some (.int .i64 eq.kind):=(Ak);have p4:W0.cell? ⟨w.heap.size+1,4,none⟩=some (.int .i64 eq.ticket):=(Ak);have p5:W0.cell? ⟨w.heap.size+1,5,none⟩=some (.int .i64 eq.who):=(Ak);have p6:W0.cell? ⟨w.heap.size+1,6,none⟩=some (.int .i64 eq.Al):=(Ak);have p7:W0.cell? ⟨w.heap.size+1,7,none⟩=some (.int .i64 ea):=(Ak);have p8:W0.cell? ⟨w.heap.size+1,8,none⟩=some (.int .i64 et):=(Ak);have p9:W0.cell? ⟨w.heap.size+1,9,none⟩=some (.int .i64 ew):=(Ak)
 have hlow:w.heap.size+3≤w1.heap.size:=Aq
 clear QE hL0 hb hc hf hb0 hc0 hf0 Oe
 have iV:=Lib.hid hS0
 clear hS0
 obtain⟨Wq,CE⟩:∃ z,z=W0:=⟨_,rfl⟩
 subst CE
 go_upto_region 5 with (go_at_call 41;apply Calls.mono;apply (UO (iV.out.ex AA) g1 ⟨ek,eq,ea,et,ew⟩);rintro E w6 ⟨fF,PM,PL,fL,Jo,Jc,fP,Jm,Ja,fD,Jp,Jd,fN,Jn,Jb,fS,Jl,JZ,fI,PH,PG,fG,PK,PI,fB,PO,PN,τ6,rfl,QY⟩;rw[← HZ.out] at QY;rw[← HZ.out])
 obtain⟨hgl,r0,r1,r2,r3,r4,r5,r6,r7,r8,r9,rf⟩:=QY.sS
 have uT:=Fb QY.ow.JU iU.out
 have jk:=QY.ow.JU.less (Nat.zero_le _)
 have hL6:Lb w6 (w.heap.size+1+1) 10:=Lb.low (QY.low Aq) (by omega) Fu
 have hE6:Ex w w6:=QY.zQ hcq Aq Aq
 have hzl:w.heap.size+3≤w6.heap.size:=by have:=QY.ch.size;omega
 clear hcq QY Fu
 obtain⟨hcz,hfz⟩:=Lb.rules hL6
 go_wp2_with (go_at_call 40;apply Calls.mono;apply (KQ (x:=z.1));(apply RW.A8 jk;(exact AO));exact uT;rintro E w7 ⟨hF,j_,hFn,hL,Yb,hLn,hP,jo,jm,hD,kG,hDn,hN,hNc,fE,hS,ji,Zl,hI,jv,hIn,hG,jy,hGn,hB,kJ,kH,τ7,rfl,ZW,hb⟩;obtain⟨hc,hf,hz⟩:=xy hb)
 refine bodyPost_ret (v:=.tuple #[.agg #[.slice hF hFn j_,.slice hL hLn Yb,.slice hP jm jo,.slice hD hDn kG,.int .i64 z.1.AB.clock,.slice hN fE hNc,.slice hS Zl ji,.slice hI hIn jv,.slice hG hGn jy,.slice hB kH kJ],.int .i64 z.2]) (by simp[results,Tryz.results20,go_sem, *]) rfl ?_
 exact⟨hF,j_,hFn,hL,Yb,hLn,hP,jo,jm,hD,kG,hDn,hN,hNc,fE,hS,ji,Zl,hI,jv,hIn,hG,jy,hGn,hB,kJ,kH,τ7,rfl,(ZW.Av AO).less Aq,AA⟩
end Go.Proofs.YtgaflnpmilikcaaGreat
