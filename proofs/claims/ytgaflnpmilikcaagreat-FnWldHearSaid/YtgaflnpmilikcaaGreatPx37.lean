/- Texts joined: DrawM, DrawN, WldC, FoldS, FoldI. -/
import Derived.Test.YtgaflnpmilikcaaGreatPx35
import Derived.Test.YtgaflnpmilikcaaGreatPx5
import Derived.Test.YtgaflnpmilikcaaGreatPx36
import Derived.Test.YtgaflnpmilikcaaGreatPx21
import Derived.Test.YtgaflnpmilikcaaGreatPx17
import Derived.Test.YtgaflnpmilikcaaGreatPx29
import Derived.Test.YtgaflnpmilikcaaGreatPx20
import Derived.Test.YtgaflnpmilikcaaGreatPx12
import Derived.Deep.CutBlock
import Derived.Deep.DeepCutAuto
import Derived.Test.YtgaflnpmilikcaaGreatPx15
import Derived.Test.YtgaflnpmilikcaaGreatPx25
set_option maxRecDepth 100000
set_option linter.unusedSimpArgs false
set_option linter.unusedVariables false
namespace Go.Proofs.YtgaflnpmilikcaaGreat
open Go.RowKit Go
set_option maxHeartbeats 8000000
def ACX (l:Nat) (wx:World) (g lo:Nat) (aL:Option Addr) (Ae AU:Nat) (aP:Option Addr) (Ag AY:Nat) (aD:Option Addr) (Ac AQ:Nat) (aN:Option Addr) (Ad Aa:Nat) (aS:Option Addr) (Af Ab:Nat) (m:Sw.CV) (τ:Nat→Nat):Prop:=
 Cs wx g 0 aL Ae AU aP Ag AY aD Ac AQ aN Ad Aa aS Af Ab m.clock∧Cn τ wx lo aL Ae AU aP Ag AY aD Ac AQ aN Ad Aa aS Af Ab m∧l≤g∧l≤lo∧(∀ b,wx.heap.size≤b→τ b=0)∧¬SM lo τ g
set_option maxHeartbeats 4000000
theorem UN (rb P:Nat) (aL:Option Addr) (Ae AU:Nat) (aP:Option Addr) (Ag AY:Nat) (aD:Option Addr) (Ac AQ:Nat) (aN:Option Addr) (Ad Aa:Nat) (aS:Option Addr) (Af Ab:Nat) (m:Sw.CV) (rows:List Sw.Row) (n:Int) (w:World) (hr:Be w rb P) (hok:Sw.IL m rows) (hM:RM w (rb+1) aL Ae AU aP Ag AY aD Ac AQ aN Ad Aa aS Af Ab m) (hP:P≤800000) (h1:1≤n) (h2:n≤1000000):Calls Tryz.prog 122 #[.pointer (some ⟨rb,0,none⟩),.agg #[.slice aL AU Ae,.slice aP AY Ag,.slice aD AQ Ac,.int .i64 m.clock,.slice aN Aa Ad,.slice aS Ab Af],.int .i64 n] w fun E w'=>∃ p q r s t u,E=.returned (.agg #[.int .i64 p,.int .i64 q,.int .i64 r,.int .i64 s,.int .i64 t,.int .i64 u])∧Be w' rb (P+60)∧Ch (· = rb) w w':=by
 have hlt:=hr.lt
 have HO:=Lib.hid hok
 clear hok
 go_enter Tryz.func122,Tryz.ntmps122
 go_wp2_with fail
 apply Calls.mono
 apply (ZC (m:=m) (rows:=rows))
 ·apply Be.keep hr;(exact Cj)
 ·exact HO.out
 ·exact (hM.keep AO).less (by omega)
 ·omega
 rintro E w1 ⟨p,q,r,s,t,u,rfl,hrd,hb⟩
 (obtain⟨hc,hf,hz⟩:=xd hb)
 go_upto_region 2 with fail
 (refine CF fun W0 hb0 hc0 hf0 hz0=>?_)
 obtain⟨g,hgg⟩:∃ g,g=w1.heap.size:=⟨_,rfl⟩
 have hI:Ints W0 g 6:=Ints.ch hb0 (fun h=>h) (by rw[hgg];exact Ints.new (zs:=[_,_,_,_,_,_]) rfl rfl rfl)
 have hR:Ints W0 (w.heap.size+1) 6:=(by (exact Im))
 have HK:VI w W0 rb (P+40):=⟨Be.keep hrd (by (exact Cj)),AA⟩
 have hg0:w.heap.size+2≤g:=by rw[hgg];exact Aq
 rw[← hgg]
 clear hgg hrd hb hc hf hz hb0 hc0 hf0 hz0 hM
 ((repeat (rename Ch _ _ _=>zz;clear zz));(repeat (rename Be _ _ _=>zz;clear zz));(repeat (rename (∀ (b o:Nat),¬((⟨b,0,none⟩:Addr)=⟨b-_+_,0,none⟩)→_)=>zz;clear zz)))
 have hrd:=HK.rd
 have hb:=HK.ch
 have hgr:g≠rb:=by omega
 have Ya:=hI.lt
 obtain⟨xI,ou⟩:=hI.at_ (i:=0) (by omega);obtain⟨xH,oq⟩:=hI.at_ (i:=1) (by omega);obtain⟨xG,oo⟩:=hI.at_ (i:=2) (by omega);obtain⟨zV,vz⟩:=hI.at_ (i:=3) (by omega);obtain⟨zU,vw⟩:=hI.at_ (i:=4) (by omega);obtain⟨zT,vv⟩:=hI.at_ (i:=5) (by omega);have om:=hI.free
 obtain⟨cr0,ve⟩:=hR.at_ (i:=0) (by omega);obtain⟨cr1,vZ⟩:=hR.at_ (i:=1) (by omega);obtain⟨cr2,vY⟩:=hR.at_ (i:=2) (by omega);obtain⟨cr3,vX⟩:=hR.at_ (i:=3) (by omega);obtain⟨cr4,vW⟩:=hR.at_ (i:=4) (by omega);obtain⟨cr5,vV⟩:=hR.at_ (i:=5) (by omega);have vR:=hR.free
 go_wp2_with fail
 apply Calls.mono
 apply MH
 ·exact hrd
 ·omega
 ·exact h1
 ·exact h2
 rintro E w2 ⟨b,rfl,hrd,hb⟩
 (obtain⟨hc,hf,hz⟩:=xd hb)
 cases b
 case false=>
  go_wp2_with fail
  refine bodyPost_ret (v:=.agg #[.int .i64 xI,.int .i64 xH,.int .i64 xG,.int .i64 zV,.int .i64 zU,.int .i64 zT]) (by simp[results,Tryz.results122,go_sem, *]) rfl ?_
  exact⟨_,_,_,_,_,_,rfl,(Be.keep hrd (by (exact Cj))).more (by omega),AA⟩
 case true=>
  go_upto_block 0 with (go_at_call 37;apply Calls.mono;apply DU;(apply Be.keep;assumption;(exact Cj));(exact Bu);(exact Bu);rintro E w1 ⟨v,rfl,⟨hv0,hv1⟩,hrd,hb⟩;obtain⟨hc,hf,hz⟩:=xd hb)
  go_cut [] (fun wx=>TY w wx rb (w.heap.size+1) g 6 (P+50))
  case first=>
   go_wp2_with (first|(go_at_call 37;apply Calls.mono;apply (JG (fun _=>True));(apply Be.keep;assumption;(exact Cj));omega;(first|rfl|(simp;done));(repeat (first|exact IM.nil|(refine IM.cons ⟨_,rfl,(by first|exact trivial|omega)⟩ ?_)));omega;(first|omega|(simp only[BO];omega));rintro E w1 ⟨v,x,rfl,hv,hq,hcx,hrd,hb⟩;(try simp only[BO] at hcx);obtain⟨hc,hf,hz⟩:=xd hb)|(go_at_call 37;apply Calls.mono;apply DU;(apply Be.keep;assumption;(exact Cj));(exact Bu);(exact Bu);rintro E w1 ⟨v,rfl,⟨hv0,hv1⟩,hrd,hb⟩;obtain⟨hc,hf,hz⟩:=xd hb)|fail)
   all_goals go_meet
   all_goals exact⟨by (exact Im),by (exact Im),Be.more (Be.keep (by assumption) (by (exact Cj))) (by omega),AA⟩
  case rest=>
   ((repeat (rename Ch _ _ _=>zz;clear zz));(repeat (rename Be _ _ _=>zz;clear zz));(repeat (rename (∀ (b o:Nat),¬((⟨b,0,none⟩:Addr)=⟨b-_+_,0,none⟩)→_)=>zz;clear zz)))
   clear hI hR xI xH xG zV zU zT ou oq oo vz vw vv om cr0 cr1 cr2 cr3 cr4 cr5 ve vZ vY vX vW vV vR
   obtain⟨own,res,rd,hbx⟩:=hcut
   obtain⟨o0,ho0⟩:=own.at_ (i:=0) (by omega);obtain⟨o1,ho1⟩:=own.at_ (i:=1) (by omega);obtain⟨o2,ho2⟩:=own.at_ (i:=2) (by omega);obtain⟨o3,ho3⟩:=own.at_ (i:=3) (by omega);obtain⟨o4,Uo⟩:=own.at_ (i:=4) (by omega);obtain⟨o5,Oe⟩:=own.at_ (i:=5) (by omega);have hof:=own.free
   obtain⟨r0,hr0⟩:=res.at_ (i:=0) (by omega);obtain⟨r1,hr1⟩:=res.at_ (i:=1) (by omega);obtain⟨r2,hr2⟩:=res.at_ (i:=2) (by omega);obtain⟨r3,hr3⟩:=res.at_ (i:=3) (by omega);obtain⟨r4,hr4⟩:=res.at_ (i:=4) (by omega);obtain⟨r5,yV⟩:=res.at_ (i:=5) (by omega);have hrf:=res.free
   go_wp2_with fail
   refine bodyPost_ret (v:=.agg #[.int .i64 o0,.int .i64 o1,.int .i64 o2,.int .i64 o3,.int .i64 o4,.int .i64 o5]) (by simp[results,Tryz.results122,go_sem, *]) rfl ?_
   exact⟨_,_,_,_,_,_,rfl,(Be.keep rd (by (exact Cj))).more (by omega),AA⟩
set_option maxHeartbeats 400000
def Qd (lo:Nat) (τ:Nat→Nat) (w w':World) (v:Value→Value) (E:Ending) (F:Option Addr) (Fc Fn:Nat) (G:Option Addr) (Gc Gn:Nat) (X:Option Addr) (Xc Xn:Nat) (z:Sw.World):Prop:=
 ∃ (bL:Option Addr) (Bg BR:Nat) (bP:Option Addr) (Bf BV:Nat) (bD:Option Addr) (Bh Ba:Nat) (bN:Option Addr) (Bd Bb:Nat) (bS:Option Addr) (Bc BZ:Nat) (I:Option Addr) (Ic In:Nat) (τ':Nat→Nat),E=.returned (v (.agg #[.slice F Fn Fc,.slice bL BR Bg,.slice bP BV Bf,.slice bD Ba Bh,.int .i64 z.AB.clock,.slice bN Bb Bd,.slice bS BZ Bc,.slice I In Ic,.slice G Gn Gc,.slice X Xn Xc])) ∧
  Cn τ' w' lo bL Bg BR bP Bf BV bD Bh Ba bN Bd Bb bS Bc BZ z.AB∧TT τ' 7 w' lo I Ic In z.lines∧(∀ b,b<w.heap.size→τ' b=τ b)∧Ch (SA lo τ) w w'
theorem SA.sm {lo b:Nat} {τ:Nat→Nat} (h:SM lo τ b):SA lo τ b:=⟨h.1,h.2.1,by have:=h.2.2;omega,by have:=h.2.2;omega⟩
theorem Yw (aF:Option Addr) (BD A_:Nat) (aL:Option Addr) (Ae AU:Nat) (aP:Option Addr) (Ag AY:Nat) (aD:Option Addr) (Ac AQ:Nat) (aN:Option Addr) (Ad Aa:Nat) (aS:Option Addr) (Af Ab:Nat) (aI:Option Addr) (BF A7:Nat) (aG:Option Addr) (BA Az:Nat) (aB:Option Addr) (aBc Ao:Nat) (x:Sw.World) (r:Sw.Ee) (rows:List Sw.Row) (lo:Nat) (τ:Nat→Nat) (w:World) (hM:Cn τ w lo aL Ae AU aP Ag AY aD Ac AQ aN Ad Aa aS Af Ab x.AB) (hI:TT τ 7 w lo aI BF A7 x.lines) (hok:Sw.IL x.AB rows) (hln:A7≤300) (hlo:lo≤w.heap.size):Calls Tryz.prog 98 #[.agg #[.slice aF A_ BD,.slice aL AU Ae,.slice aP AY Ag,.slice aD AQ Ac,.int .i64 x.AB.clock,.slice aN Aa Ad,.slice aS Ab Af,.slice aI A7 BF,.slice aG Az BA,.slice aB Ao aBc],.agg #[.int .i64 r.user,.int .i64 r.n,.int .i64 r.kind,.int .i64 r.ticket,.int .i64 r.who,.int .i64 r.Al]] w fun E w'=>Qd lo τ w w' (fun u=>.tuple #[u,.int .i64 (Sw.ask x r).2]) E aF BD A_ aG BA Az aB aBc Ao (Sw.ask x r).1:=by
 have hll:=Lib.hid hI.ow.1
 cases g1:Sw.CR r
 case false=>
  have e:Sw.ask x r=(x,0):=by simp[Sw.ask,g1]
  rw[e];clear e
  obtain⟨ru,rn,rk,rt,rh,rp⟩:=r
  go_enter Tryz.func98,Tryz.ntmps98
  go_wp2_with (go_at_call 26;apply Calls.mono;apply (JJ ⟨ru,rn,rk,rt,rh,rp⟩);rintro E w3 ⟨rfl,hb⟩;rw[g1];obtain⟨hc,hf,hz⟩:=xy hb)
  refine bodyPost_ret (v:=.tuple #[.agg #[.slice aF A_ BD,.slice aL AU Ae,.slice aP AY Ag,.slice aD AQ Ac,.int .i64 x.AB.clock,.slice aN Aa Ad,.slice aS Ab Af,.slice aI A7 BF,.slice aG Az BA,.slice aB Ao aBc],.int .i64 0]) (by simp[results,Tryz.results98,go_sem, *]) rfl ?_
  exact⟨aL,Ae,AU,aP,Ag,AY,aD,Ac,AQ,aN,Ad,Aa,aS,Af,Ab,aI,BF,A7,τ,rfl,hM.Av AO,hI.Av AO,fun _ _=>rfl,AA⟩
 by_cases g2:A7=300
 ·have g2':((A7:Int)==300)=true:=by simp;omega
  have e:Sw.ask x r=(x,0):=by simp[Sw.ask,g1,← hll.out,g2]
  rw[e];clear e g2
  obtain⟨ru,rn,rk,rt,rh,rp⟩:=r
  go_enter Tryz.func98,Tryz.ntmps98
  go_wp2_with (go_at_call 26;apply Calls.mono;apply (JJ ⟨ru,rn,rk,rt,rh,rp⟩);rintro E w3 ⟨rfl,hb⟩;rw[g1];obtain⟨hc,hf,hz⟩:=xy hb)
  refine bodyPost_ret (v:=.tuple #[.agg #[.slice aF A_ BD,.slice aL AU Ae,.slice aP AY Ag,.slice aD AQ Ac,.int .i64 x.AB.clock,.slice aN Aa Ad,.slice aS Ab Af,.slice aI A7 BF,.slice aG Az BA,.slice aB Ao aBc],.int .i64 0]) (by simp[results,Tryz.results98,go_sem, *]) rfl ?_
  exact⟨aL,Ae,AU,aP,Ag,AY,aD,Ac,AQ,aN,Ad,Aa,aS,Af,Ab,aI,BF,A7,τ,rfl,hM.Av AO,hI.Av AO,fun _ _=>rfl,AA⟩
 have g2':((A7:Int)==300)=false:=by simp;omega
 have hlt:x.lines.length<300:=by rw[← hll.out];omega
 obtain⟨y,hy⟩:∃ y,y=Sw.EZ x.AB r:=⟨_,rfl⟩
 have e:Sw.ask x r=({ x with AB:=y.1,lines:=x.lines ++ [r] },y.2):=by simp[Sw.ask,g1,hlt,hy]
 rw[e]
 have Hy:=Lib.hid hy
 have HK:=Lib.hid hok
 clear e hy hlt hok g2
 have hG:=hM.CX (τ':=fun _=>0) (Nat.le_refl _)
 have wu:=hI.CX (τ':=fun _=>0) (Nat.le_refl _)
 obtain⟨ru,rn,rk,rt,rh,rp⟩:=r
 dsimp only
 go_enter Tryz.func98,Tryz.ntmps98
 go_wp2_with (go_at_call 26;apply Calls.mono;apply (JJ ⟨ru,rn,rk,rt,rh,rp⟩);rintro E w3 ⟨rfl,hb⟩;rw[g1];obtain⟨hc,hf,hz⟩:=xy hb)
 apply Calls.mono
 apply (gq (m:=x.AB) (r:=⟨ru,rn,rk,rt,rh,rp⟩) (rows:=rows) (τ:=glue τ w.heap.size (fun _=>0)) (lo:=lo))
 ·exact hG.Av AO
 ·exact HK.out
 ·exact g1
 ·exact Aq
 rintro E w6 ⟨bL,Bg,BR,bP,Bf,BV,bD,Bh,Ba,bN,Bd,Bb,bS,Bc,BZ,τ6,rfl,YZ,RP,hb6⟩
 rw[← Hy.out] at YZ ⊢
 have pG:TT τ6 7 w6 lo aI BF A7 x.lines:=(wu.Av (show KF lo w _ from AO)).sm hb6 (by decide) RP
 obtain⟨hB0,Ta⟩:=Ch.Gv hb6 (g:=w.heap.size) Aq (if_neg (by omega))
 obtain⟨hB2,hF2⟩:=Ch.Gv hb6 (g:=w.heap.size+1) Aq (if_neg (by omega))
 obtain⟨hB1,hF1⟩:=Ch.Gv hb6 (g:=w.heap.size+1+1) Aq (if_neg (by omega))
 have Pe:=hb6.size
 (try simp only[BO] at Pe)
 have fK:∀ b,w.heap.size≤b→b<w.heap.size+3→τ6 b=0:=fun b h1 h2=>(RP b Aq).trans (if_neg (by omega))
 have hcA:Ch (SA lo τ) w w6:=Ch.trans' (show Ch (SA lo τ) w _ from AA) hb6 (fun i hi h=>SA.sm (by
  obtain⟨h1,h2,h3⟩:=h
  unfold glue at h2 h3
  rw[if_pos (by exact hi)] at h2 h3
  exact⟨h1,h2,h3⟩))
 have oz:=hb6
 clear hb6
 go_upto_region 5 with fail
 (refine CF fun W0 hb0 hc0 hf0 hz0=>?_)
 have Fu:Lb W0 (w.heap.size+1+1) 10:=by
  refine Lb.ex ?_ hb0
  repeat apply Lb.set
  apply Lb.alloc
  refine Lb.MB oz ?_ (fun h=>(by have h2:=h.2.1;rw[glue,if_neg (by omega)] at h2;omega))
  exact Dw
 have p0:W0.cell? ⟨w.heap.size,0,none⟩=some (.slice aF A_ BD):=(Ak);have p1:W0.cell? ⟨w.heap.size,1,none⟩=some (.slice bL BR Bg):=(Ak);have p2:W0.cell? ⟨w.heap.size,2,none⟩=some (.slice bP BV Bf):=(Ak);have p3:W0.cell? ⟨w.heap.size,3,none⟩=some (.slice bD Ba Bh):=(Ak);have p4:W0.cell? ⟨w.heap.size,4,none⟩=some (.int .i64 y.1.clock):=(Ak);have p5:W0.cell? ⟨w.heap.size,5,none⟩=some (.slice bN Bb Bd):=(Ak);have p6:W0.cell? ⟨w.heap.size,6,none⟩=some (.slice bS BZ Bc):=(Ak);have p7:W0.cell? ⟨w.heap.size,7,none⟩=some (.slice aI A7 BF):=(Ak);have p8:W0.cell? ⟨w.heap.size,8,none⟩=some (.slice aG Az BA):=(Ak);have p9:W0.cell? ⟨w.heap.size,9,none⟩=some (.slice aB Ao aBc):=(Ak)
 have pr:W0.cell? ⟨w.heap.size+1,0,none⟩=some (.int .i64 ru):=Ak
 have pr1:W0.cell? ⟨w.heap.size+1,1,none⟩=some (.int .i64 rn):=Ak
 have pr2:W0.cell? ⟨w.heap.size+1,2,none⟩=some (.int .i64 rk):=Ak
 have pr3:W0.cell? ⟨w.heap.size+1,3,none⟩=some (.int .i64 rt):=Ak
 have pr4:W0.cell? ⟨w.heap.size+1,4,none⟩=some (.int .i64 rh):=Ak
 have pr5:W0.cell? ⟨w.heap.size+1,5,none⟩=some (.int .i64 rp):=Ak
 have pf:∀ i:Nat,W0.frozen? ⟨w.heap.size,i,none⟩=false:=fun i=>Ak
 have jw:=pG.box (g0:=w.heap.size) (g1:=w.heap.size+3) (show Ch (BX w.heap.size (w.heap.size+3)) w6 W0 from KA) fK (by decide)
 have ZW:=YZ.box (g0:=w.heap.size) (g1:=w.heap.size+3) (show Ch (BX w.heap.size (w.heap.size+3)) w6 W0 from KA) fK
 have hcB:Ch (SA lo τ) w W0:=AA
 have hz7:w6.heap.size≤W0.heap.size:=Aq
 have rH:w.heap.size+3≤W0.heap.size:=Aq
 clear hc0 hf0 hb0 hB0 hB1 hB2 Ta hF1 hF2 hc hf hb oz hcA
 obtain⟨hcz,hfz⟩:=Lb.rules Fu
 go_wp2_with (at_builtin;apply BL (lo:=lo) Wj Qv rfl rfl rfl rfl;(exact Ow.keep jw.ow AO);(refine Rs.new [⟨ru,rn,rk,rt,rh,rp⟩] (by (first|with_reducible rfl|(simp only[BO];done)|(simp only[BO];omega))) rfl rfl (fun _=>rfl) (by omega));omega;(exact Aq);intro A1 c1 w7 ho1 Ap Bo Ay Ah;clear Ay Ah;obtain⟨hC0,hG0⟩:=Ch.DK Ap (g:=w.heap.size) (by exact Aq) (Ow.apart hI.ow (by omega));obtain⟨Zo,hG1⟩:=Ch.DK Ap (g:=w.heap.size+1+1) (by exact Aq) (Ow.apart hI.ow (by omega));have QB:=Ap.size;(try simp only[BO] at QB))
 refine bodyPost_ret (v:=.tuple #[.agg #[.slice aF A_ BD,.slice bL BR Bg,.slice bP BV Bf,.slice bD Ba Bh,.int .i64 y.1.clock,.slice bN Bb Bd,.slice bS BZ Bc,.slice A1 (A7+1) c1,.slice aG Az BA,.slice aB Ao aBc],.int .i64 y.2]) (by simp[results,Tryz.results98,go_sem, *]) rfl ?_
 have hlA:∀ a,aI=some a→a.block<W0.heap.size:=fun a ha=>(jw.ow.blk ha).2
 have m2:=Cn.app (τ':=fun _=>7) (ZW.Av (show KF lo W0 _ from AO)) Ap pG.tag (by decide) (fun a ha=>Nat.lt_of_lt_of_le (hlA a ha) Aq)
 have i2:=CK.full ho1 (jw.Av (show KF lo W0 _ from AO)) Bo
 have hS:=Ch.trans' (show Ch (SA lo τ) w _ from AA) Ap (fun i _ ⟨a,ha,e⟩=>by
  have h1:=hI.ow.blk ha;have h2:=hI.tag a ha
  subst e
  exact⟨h1.1,by omega,by omega,by omega⟩)
 exact⟨bL,Bg,BR,bP,Bf,BV,bD,Bh,Ba,bN,Bd,Bb,bS,Bc,BZ,A1,c1,A7+1,_,rfl,m2.box (g0:=w.heap.size) (g1:=w.heap.size+3) KA (Lj fK Aq),i2.box (g0:=w.heap.size) (g1:=w.heap.size+3) KA (Lj fK Aq) (by decide),fun b hb=>(if_pos Aq).trans ((RP b Aq).trans (if_pos hb)),AA⟩
set_option maxHeartbeats 8000000
theorem Mm {fs:List Int} {ls:List Sw.Ee} (h:¬(Sw.DR fs&&decide (Sw.DV fs≤100000)&&decide (ls.length≤300))=true):Sw.Cr fs ls=none:=by unfold Sw.Cr;rw[if_neg h]
theorem RM.zero {w:World} {lo:Nat}:RM w lo none 0 0 none 0 0 none 0 0 none 0 0 none 0 0 Sw.Ku:=(Cn.zero (τ:=fun _=>0)).rm
theorem IL.small {aL aP aD aN aS:Option Addr} {Ae AU Ag AY Ac AQ Ad Aa Af Ab:Nat} {w:World} {lo:Nat} {m:Sw.CV} {rows:List Sw.Row} (h:Sw.IL m rows) (hm:RM w lo aL Ae AU aP Ag AY aD Ac AQ aN Ad Aa aS Af Ab m):AU+AY+AQ+Aa+Ab≤1000:=by
 obtain⟨q1,q2,q3,q4,q5⟩:=Le h
 have:=hm.log.1;have:=hm.Ai.1;have:=hm.AJ.1;have:=hm.nums.1;have:=hm.said.1
 omega
theorem fold_zero {m:Sw.CV} {rs:List Sw.Ee}:Sw.Df m (Sw.Eu::rs)=if m.clock=99999 then none else Sw.Df (Sw.tick m) rs:=by rw[Sw.Df,if_pos rfl]
theorem U1 {m:Sw.CV} {r:Sw.Ee} {rs:List Sw.Ee} (h:r≠Sw.Eu):Sw.Df m (r::rs)=if Sw.CR r=true then Sw.Df (Sw.EZ m r).1 rs else none:=by rw[Sw.Df,if_neg h]
theorem Qm (A:Option Addr) (c n:Nat) (fs:List Int) (B:Option Addr) (d q:Nat) (ls:List Sw.Ee) (w:World) (hf:RI w 0 A c n fs) (hl:RQ w 0 B d q ls):Calls Tryz.prog 100 #[.slice A n c,.slice B q d] w fun E w'=>∃ bL Bg BR bP Bf BV bD Bh Ba bN Bd Bb bS Bc BZ,E=.returned (.tuple #[.agg #[.slice bL BR Bg,.slice bP BV Bf,.slice bD Ba Bh,.int .i64 ((Sw.Cr fs ls).getD Sw.Ku).clock,.slice bN Bb Bd,.slice bS BZ Bc],.bool (Sw.Cr fs ls).isSome])∧RM w' w.heap.size bL Bg BR bP Bf BV bD Bh Ba bN Bd Bb bS Bc BZ ((Sw.Cr fs ls).getD Sw.Ku)∧Ex w w':=by
 have hll:=Lib.hid hl.1
 have hbig:=Rs.big hl
 by_cases gv:(Sw.DR fs&&decide (Sw.DV fs≤100000))=true
 case neg=>
  have e:Sw.Cr fs ls=none:=Mm fun h=>gv (Bool.and_eq_true_iff.1 h).1
  have em:Sw.CY fs=Sw.Ku:=by unfold Sw.CY;rw[if_neg gv]
  have He:=Lib.hid e;have Hm:=Lib.hid em;clear e em gv
  go_enter Tryz.func100,Tryz.ntmps100
  go_wp2_with fail
  apply Calls.mono
  apply Kn
  ·apply Rs.A8 hf;(exact AO)
  rintro E w1 ⟨bL,Bg,BR,bP,Bf,BV,bD,Bh,Ba,bN,Bd,Bb,bS,Bc,BZ,τm,rfl,Rq,hb⟩
  obtain rfl:BV=0:=by have:=Rq.Ai.ow.1;rw[Hm.out] at this;exact this
  obtain⟨hc,hf,hz⟩:=xy hb
  go_wp2_with fail
  refine bodyPost_ret (v:=.tuple #[.agg #[.slice none 0 0,.slice none 0 0,.slice none 0 0,.int .i64 0,.slice none 0 0,.slice none 0 0],.bool false]) (by simp[results,Tryz.results100,go_sem, *]) rfl ?_
  refine⟨_,_,_,_,_,_,_,_,_,_,_,_,_,_,_,by rw[He.out];rfl,?_,AA⟩
  rw[He.out]
  exact RM.zero
 have em:Sw.CY fs=⟨[],fs,[],0,[0,0,0,0,0],[0,0,0,0,0]⟩:=by unfold Sw.CY;rw[if_pos gv]
 have h5:fs.length=5:=I9 (Bool.and_eq_true_iff.1 gv).1
 have hok0:Sw.IL (Sw.CY fs) _:=Sw.Mi (Bool.and_eq_true_iff.1 gv).1 (by simpa using (Bool.and_eq_true_iff.1 gv).2)
 have Hm:=Lib.hid em;have H5:=Lib.hid h5;have x_:=Lib.hid hok0;have GV:=Lib.hid gv;clear em h5 hok0 gv
 by_cases gl:q≤300
 case neg=>
  have e:Sw.Cr fs ls=none:=Mm fun h=>gl (by have:=(Bool.and_eq_true_iff.1 h).2;have:=hll.out;simp at *;omega)
  have He:=Lib.hid e;clear e
  go_enter Tryz.func100,Tryz.ntmps100
  go_wp2_with fail
  apply Calls.mono
  apply Kn
  ·apply Rs.A8 hf;(exact AO)
  rintro E w1 ⟨bL,Bg,BR,bP,Bf,BV,bD,Bh,Ba,bN,Bd,Bb,bS,Bc,BZ,τm,rfl,Rq,hb⟩
  obtain rfl:BV=5:=by have:=Rq.Ai.ow.1;rw[Hm.out] at this;exact this.trans H5.out
  obtain⟨hc,hf,hz⟩:=xy hb
  go_wp2_with fail
  refine bodyPost_ret (v:=.tuple #[.agg #[.slice none 0 0,.slice none 0 0,.slice none 0 0,.int .i64 0,.slice none 0 0,.slice none 0 0],.bool false]) (by simp[results,Tryz.results100,go_sem, *]) rfl ?_
  refine⟨_,_,_,_,_,_,_,_,_,_,_,_,_,_,_,by rw[He.out];rfl,?_,AA⟩
  rw[He.out]
  exact RM.zero
 have e0:Sw.Cr fs ls=Sw.Df (Sw.CY fs) ls:=by unfold Sw.Cr;rw[if_pos (by rw[GV.out,← hll.out];simp[gl])]
 have E0:=Lib.hid e0;clear e0
 go_enter Tryz.func100,Tryz.ntmps100
 go_wp2_with fail
 apply Calls.mono
 apply Kn
 ·apply Rs.A8 hf;(exact AO)
 rintro E w1 ⟨bL,Bg,BR,bP,Bf,BV,bD,Bh,Ba,bN,Bd,Bb,bS,Bc,BZ,τm,rfl,Rq,hb⟩
 obtain rfl:BV=5:=by have:=Rq.Ai.ow.1;rw[Hm.out] at this;exact this.trans H5.out
 have YB:=hb
 obtain⟨hc,hf,hz⟩:=xy hb
 go_wp2_with fail
 go_loopw [7] (fun i wr=>∃ (k:Nat) (eL:Option Addr) (O7 NA:Nat) (eP:Option Addr) (O5 M_:Nat) (eD:Option Addr) (O8 NC:Nat) (eN:Option Addr) (O6 eNn:Nat) (eS:Option Addr) (O4 M9:Nat) (y:Sw.CV) (rows:List Sw.Row),k≤q∧i=.int .i64 k∧Ex w1 wr∧Cs wr w1.heap.size 0 eL O7 NA eP O5 M_ eD O8 NC eN O6 eNn eS O4 M9 y.clock∧RM wr (w.heap.size+1) eL O7 NA eP O5 M_ eD O8 NC eN O6 eNn eS O4 M9 y∧Sw.IL y rows∧Sw.Cr fs ls=Sw.Df y (ls.drop k)) (fun i _=>q-(intOf i).toNat)
 case atStart=>
  exact⟨0,_,_,_,_,_,_,_,_,_,_,_,_,_,_,_,Sw.CY fs,_,Nat.zero_le _,rfl,AA,⟨Aq,Ak,Ak,Ak,Ak,Ak,Ak,fun i=>Ak⟩,(Rq.rm.keep AO).less Aq,x_.out,E0.out⟩
 case round=>
  obtain⟨k,eL,O7,NA,eP,O5,M_,eD,O8,NC,eN,O6,eNn,eS,O4,M9,y,rows,hk,rfl,hb2,hY,o_,hok,hrel⟩:=hrel
  have hst:=xr hb2
  (try simp only[BO] at hst)
  obtain⟨hc2,hf2,hz2⟩:=hst
  obtain⟨y0,y1,y2,y3,y4,y5,y6,yf⟩:=hY
  simp only[Nat.zero_add] at y1 y2 y3 y4 y5 y6
  have hsm:=IL.small hok o_
  have HK:=Lib.hid hok
  clear hok
  have hbx:=hb2
  by_cases hlt:k<q
  ·obtain⟨g,off,r,rfl,hg0,hg,hd,hr,q0,q1,q2,q3,q4,q5⟩:=YP hl hlt
   rw[hd] at hrel
   have t1:(0:Int)≤(k:Int):=by omega
   have t2:(k:Int)<(q:Int):=by omega
   clear hd hr
   by_cases hz:r=Sw.Eu
   ·subst hz
    rw[fold_zero] at hrel
    by_cases hck:y.clock=99999
    ·rw[if_pos hck] at hrel
     have et:Sw.Gz y=(y,false):=by unfold Sw.Gz;rw[if_pos (Sw.BU.2 ⟨_,HK.out⟩),if_pos hck]
     have Et:=Lib.hid et
     have He:=Lib.hid hrel
     clear et hrel hck
     simp only[Sw.Eu] at q0 q1 q2 q3 q4 q5
     go_wp2_with (go_at_call 144;apply Calls.mono;apply (Qp (m:=y));(apply RM.A8 o_;(exact AO));omega;rintro E w6 ⟨fL,Jo,Jc,fP,Jm,Ja,fD,Jp,Jd,fN,Jn,Jb,fS,Jl,JZ,τf,rfl,hof,hb⟩;rw[Et.out] at hof;rw[Et.out];obtain⟨hc,hf,hz⟩:=xy hb)
     refine bodyPost_ret (v:=.tuple #[.agg #[.slice none 0 0,.slice none 0 0,.slice none 0 0,.int .i64 0,.slice none 0 0,.slice none 0 0],.bool false]) (by simp[results,Tryz.results100,go_sem, *]) rfl ?_
     refine⟨_,_,_,_,_,_,_,_,_,_,_,_,_,_,_,by rw[He.out];rfl,?_,AA⟩
     rw[He.out]
     exact RM.zero
    ·rw[if_neg hck] at hrel
     have et:Sw.Gz y=(Sw.tick y,true):=by unfold Sw.Gz;rw[if_pos (Sw.BU.2 ⟨_,HK.out⟩),if_neg hck]
     have Et:=Lib.hid et
     have xw:=Lib.hid (Sw.Sj HK.out hck)
     have He:=Lib.hid hrel
     clear et hrel hck
     simp only[Sw.Eu] at q0 q1 q2 q3 q4 q5
     go_wp2_with (go_at_call 144;apply Calls.mono;apply (Qp (m:=y));(apply RM.A8 o_;(exact AO));omega;rintro E w6 ⟨fL,Jo,Jc,fP,Jm,Ja,fD,Jp,Jd,fN,Jn,Jb,fS,Jl,JZ,τf,rfl,hof,hb⟩;rw[Et.out] at hof;rw[Et.out];obtain⟨hc,hf,hz⟩:=xy hb)
     go_roundw
     case rel=>
      exact⟨k+1,_,_,_,_,_,_,_,_,_,_,_,_,_,_,_,Sw.tick y,rows,by omega,by go_num,AA,⟨Aq,Ak,Ak,Ak,Ak,Ak,Ak,fun i=>Ak⟩,(hof.rm.keep AO).less Aq,xw.out,He.out⟩
     case measure=>simp[intOf];omega
   ·rw[U1 hz] at hrel
    have hz2:decide (r=Sw.Eu)=false:=decide_eq_false hz
    rw[T9] at hz2
    have xS:=Lib.hid hz2
    obtain⟨ru,rn,rk,rt,rh,rp⟩:=r
    dsimp only at q0 q1 q2 q3 q4 q5
    have BI:=Lib.hid hrel
    clear hz hz2 hrel
    go_upto_region 9 with fail
    go_cut [37] (fun p wx=>p=.bool false∧wx=wr.alloc (.cells #[.int .i64 ru,.int .i64 rn,.int .i64 rk,.int .i64 rt,.int .i64 rh,.int .i64 rp] 45))
    case first=>
     go_wp2_with fail
     all_goals go_meet
     all_goals first|exact⟨rfl,by simp[*]⟩|(exfalso;have:=xS.out;simp_all)
    case rest=>
     obtain⟨rfl,rfl⟩:=hcut
     cases hq:Sw.CR ⟨ru,rn,rk,rt,rh,rp⟩
     ·have e1:Sw.Cr fs ls=none:=by rw[BI.out,hq];rfl
      have He:=Lib.hid e1
      clear e1
      go_wp2_with (go_at_call 26;apply Calls.mono;apply (JJ ⟨ru,rn,rk,rt,rh,rp⟩);rintro E w3 ⟨rfl,hb⟩;rw[hq];obtain⟨hc,hf,hz⟩:=xy hb)
      refine bodyPost_ret (v:=.tuple #[.agg #[.slice none 0 0,.slice none 0 0,.slice none 0 0,.int .i64 0,.slice none 0 0,.slice none 0 0],.bool false]) (by simp[results,Tryz.results100,go_sem, *]) rfl ?_
      refine⟨_,_,_,_,_,_,_,_,_,_,_,_,_,_,_,by rw[He.out];rfl,?_,AA⟩
      rw[He.out]
      exact RM.zero
     ·have e1:Sw.Cr fs ls=Sw.Df (Sw.EZ y ⟨ru,rn,rk,rt,rh,rp⟩).1 (ls.drop (k+1)):=by rw[BI.out,hq];rfl
      obtain⟨v,hv⟩:∃ v,v=Sw.EZ y ⟨ru,rn,rk,rt,rh,rp⟩:=⟨_,rfl⟩
      rw[← hv] at e1
      have He:=Lib.hid e1
      have Hv:=Lib.hid hv
      have HQ:=Lib.hid hq
      have xx:=Lib.hid (Sw.QZ HK.out hq)
      clear e1 hv
      go_wp2_with (go_at_call 26;apply Calls.mono;apply (JJ ⟨ru,rn,rk,rt,rh,rp⟩);rintro E w3 ⟨rfl,hb⟩;rw[hq];obtain⟨hc,hf,hz⟩:=xy hb)
      (focus (refine CF fun W0 hb0 hc0 hf0 hz0=>?_;refine Aj [] (S:=fun w'=>Held W0 w') DC (fun hHeld=>?_);(repeat' (first|refine FQ [] [] hHeld (h:=?_)|refine FW (fun K hK=>?_) ?_|refine FV ?_|exact Cf|refine FT (fun K hK=>?_) ?_|(revert hK;intro hK;go_simp;(try ((first|(go_at_call 95;apply Calls.mono;apply (J3 (m:=y));(apply RM.A8 o_;(exact AO));omega;rintro E w6 ⟨dL,Ep,Ec,dP,Eo,Eg,dD,Er,Ed,dN,Ej,Eb,dS,Ei,Ea,τd,rfl,hod,hb⟩;obtain⟨hc,hf,hz⟩:=xy hb)|(go_at_call 142;apply Calls.mono;apply (gq (m:=y) (r:=⟨ru,rn,rk,rt,rh,rp⟩) (rows:=rows) (τ:=mid _ w6.heap.size τd));(exact hod.mid.Av AO);(exact HK.out);(exact HQ.out);(exact Aq);rintro E w7 ⟨iL,iLc,iLn,iP,iPc,iPn,iD,iDc,iDn,iN,iNc,iNn,iS,iSc,iSn,τi,rfl,hoi,nQ,wH⟩;rw[← Hv.out] at hoi;rw[← Hv.out];have LP:=Held.of (Ch.trans' (show Ex W0 _ from AA) wH (fun i hi h=>(by have h1:=h.1;(try simp only[BO] at h1);omega)):Ex W0 w7);have hst:=Ch.bJ wH rfl Aq;(try simp only[BO] at hst nQ);obtain⟨hcD,aW,hcE,hfE,WG⟩:=hst;clear wH));(try go_wp2_with fail)));refine CQ hK DC (h:=?_);clear hK K hHeld;intro hHeld)));all_goals (refine FR ?_);all_goals (obtain⟨hb,hc,hf,hz⟩:=xh (by assumption:Held W0 _))))
      all_goals go_wp2_with fail
      all_goals go_roundw
      repeat (case measure=>(simp[intOf];omega))
      repeat (case rel=>(obtain⟨Yx,ZV⟩:=xx.out;rw[← Hv.out] at ZV;have ABT:=LP.2;exact⟨k+1,_,_,_,_,_,_,_,_,_,_,_,_,_,_,_,v.1,Yx,by omega,by go_num,AA,⟨Aq,Ak,Ak,Ak,Ak,Ak,Ak,fun i=>Ak⟩,(hoi.zeros (by (with_reducible repeat (first|exact cR _ _|apply cA|apply cD|(refine cZ nQ ?_ (by first|omega|(simp only[BO];omega)) (by first|omega|(simp only[BO];omega))))))).rm.less Aq,ZV,He.out⟩))
  ·have e1:Sw.Cr fs ls=some y:=by rw[hrel,List.drop_of_length_le (by have:=hll.out;omega)];rfl
   have He:=Lib.hid e1
   clear hrel e1
   go_wp2_with fail
   refine bodyPost_ret (v:=.tuple #[.agg #[.slice eL NA O7,.slice eP M_ O5,.slice eD NC O8,.int .i64 y.clock,.slice eN eNn O6,.slice eS M9 O4],.bool true]) (by simp[results,Tryz.results100,go_sem, *]) rfl ?_
   refine⟨_,_,_,_,_,_,_,_,_,_,_,_,_,_,_,by rw[He.out];rfl,?_,AA⟩
   rw[He.out]
   exact (o_.keep AO).less (Nat.le_succ _)
end Go.Proofs.YtgaflnpmilikcaaGreat
namespace Go.Proofs.YtgaflnpmilikcaaGreat
open Go.RowKit Go
set_option maxHeartbeats 8000000
section
variable {g o n lo:Nat} {τ0 τ:Nat→Nat} {w0 w w':World} {aL aP aD aN aS:Option Addr} {Ae AU Ag AY Ac AQ Ad Aa Af Ab:Nat} {m:Sw.CV}
theorem UT (hS:MS g o n lo τ0 w0 aL Ae AU aP Ag AY aD Ac AQ aN Ad Aa aS Af Ab m τ w) {rows:List Sw.Row} (hok:Sw.IL m rows) (hck:m.clock≠99999):Calls Tryz.prog 89 #[.pointer (some ⟨g,o,none⟩)] w fun E w'=>
  ∃ (bL:Option Addr) (Bg BR:Nat) (bP:Option Addr) (Bf BV:Nat) (bD:Option Addr) (Bh Ba:Nat) (bN:Option Addr) (Bd Bb:Nat) (bS:Option Addr) (Bc BZ:Nat) (τ':Nat→Nat),E=.returned (.bool true)∧MS g o n lo τ0 w0 bL Bg BR bP Bf BV bD Bh Ba bN Bd Bb bS Bc BZ (Sw.tick m) τ' w':=by
 have h1:=hok.Qa
 have h2:=hS.ow.AJ.ow.1
 have h3:=hS.ow.Ai.ow.1
 obtain⟨q1,q2,q3,q4,q5⟩:=Le hok
 apply Calls.mono
 apply (dQ g o n aL Ae AU aP Ag AY aD Ac AQ aN Ad Aa aS Af Ab m lo τ w hS.at_ hS.lb hS.ow hS.g0 h1.1 (by omega) (by omega) (by omega) hS.lo_le)
 rintro E w1 ⟨A,c,τ1,rfl,hA,hL,hM,hτ,hout,hch⟩
 refine⟨aL,Ae,AU,A,c,AY,aD,Ac,AQ,aN,Ad,Aa,aS,Af,Ab,τ1,rfl,?_⟩
 exact hS.trans ⟨hA,hL,hM,hτ,hout,hch,hS.at_.lt,hS.g0,hS.lo_le⟩
end
theorem Q5 (A:Option Addr) (c n:Nat) (fs:List Int) (B:Option Addr) (d q:Nat) (ls:List Sw.Ee) (w:World) (hf:RI w 0 A c n fs) (hl:RQ w 0 B d q ls):Calls Tryz.prog 90 #[.slice A n c,.slice B q d] w fun E w'=>∃ bL Bg BR bP Bf BV bD Bh Ba bN Bd Bb bS Bc BZ τ,E=.returned (.tuple #[.agg #[.slice bL BR Bg,.slice bP BV Bf,.slice bD Ba Bh,.int .i64 ((Sw.Cr fs ls).getD Sw.Ku).clock,.slice bN Bb Bd,.slice bS BZ Bc],.bool (Sw.Cr fs ls).isSome])∧Cn τ w' w.heap.size bL Bg BR bP Bf BV bD Bh Ba bN Bd Bb bS Bc BZ ((Sw.Cr fs ls).getD Sw.Ku)∧Ex w w':=by
 have hll:=Lib.hid hl.1
 have hbig:=Rs.big hl
 by_cases gv:(Sw.DR fs&&decide (Sw.DV fs≤100000))=true
 case neg=>
  have e:Sw.Cr fs ls=none:=Mm fun h=>gv (Bool.and_eq_true_iff.1 h).1
  have em:Sw.CY fs=Sw.Ku:=by unfold Sw.CY;rw[if_neg gv]
  have He:=Lib.hid e;have Hm:=Lib.hid em;clear e em gv
  go_enter Tryz.func90,Tryz.ntmps90
  go_wp2_with fail
  apply Calls.mono
  apply Pb
  ·apply Rs.A8 hf;(exact AO)
  rintro E w1 ⟨bL,Bg,BR,bP,Bf,BV,bD,Bh,Ba,bN,Bd,Bb,bS,Bc,BZ,τm,rfl,Rq,hb⟩
  obtain rfl:BV=0:=by have:=Rq.Ai.ow.1;rw[Hm.out] at this;exact this
  obtain⟨hc,hf,hz⟩:=xy hb
  go_wp2_with fail
  refine bodyPost_ret (v:=.tuple #[.agg #[.slice none 0 0,.slice none 0 0,.slice none 0 0,.int .i64 0,.slice none 0 0,.slice none 0 0],.bool false]) (by simp[results,Tryz.results90,go_sem, *]) rfl ?_
  refine⟨_,_,_,_,_,_,_,_,_,_,_,_,_,_,_,fun _=>0,by rw[He.out];rfl,?_,AA⟩
  rw[He.out]
  exact Cn.zero
 have em:Sw.CY fs=⟨[],fs,[],0,[0,0,0,0,0],[0,0,0,0,0]⟩:=by unfold Sw.CY;rw[if_pos gv]
 have h5:fs.length=5:=I9 (Bool.and_eq_true_iff.1 gv).1
 have hok0:Sw.IL (Sw.CY fs) _:=Sw.Mi (Bool.and_eq_true_iff.1 gv).1 (by simpa using (Bool.and_eq_true_iff.1 gv).2)
 have Hm:=Lib.hid em;have H5:=Lib.hid h5;have x_:=Lib.hid hok0;have GV:=Lib.hid gv;clear em h5 hok0 gv
 by_cases gl:q≤300
 case neg=>
  have e:Sw.Cr fs ls=none:=Mm fun h=>gl (by have:=(Bool.and_eq_true_iff.1 h).2;have:=hll.out;simp at *;omega)
  have He:=Lib.hid e;clear e
  go_enter Tryz.func90,Tryz.ntmps90
  go_wp2_with fail
  apply Calls.mono
  apply Pb
  ·apply Rs.A8 hf;(exact AO)
  rintro E w1 ⟨bL,Bg,BR,bP,Bf,BV,bD,Bh,Ba,bN,Bd,Bb,bS,Bc,BZ,τm,rfl,Rq,hb⟩
  obtain rfl:BV=5:=by have:=Rq.Ai.ow.1;rw[Hm.out] at this;exact this.trans H5.out
  obtain⟨hc,hf,hz⟩:=xy hb
  go_wp2_with fail
  refine bodyPost_ret (v:=.tuple #[.agg #[.slice none 0 0,.slice none 0 0,.slice none 0 0,.int .i64 0,.slice none 0 0,.slice none 0 0],.bool false]) (by simp[results,Tryz.results90,go_sem, *]) rfl ?_
  refine⟨_,_,_,_,_,_,_,_,_,_,_,_,_,_,_,fun _=>0,by rw[He.out];rfl,?_,AA⟩
  rw[He.out]
  exact Cn.zero
 have e0:Sw.Cr fs ls=Sw.Df (Sw.CY fs) ls:=by unfold Sw.Cr;rw[if_pos (by rw[GV.out,← hll.out];simp[gl])]
 have E0:=Lib.hid e0;clear e0
 go_enter Tryz.func90,Tryz.ntmps90
 go_wp2_with fail
 apply Calls.mono
 apply Pb
 ·apply Rs.A8 hf;(exact AO)
 rintro E w1 ⟨bL,Bg,BR,bP,Bf,BV,bD,Bh,Ba,bN,Bd,Bb,bS,Bc,BZ,τm,rfl,Rq,hb⟩
 obtain rfl:BV=5:=by have:=Rq.Ai.ow.1;rw[Hm.out] at this;exact this.trans H5.out
 have YB:=hb
 obtain⟨hc,hf,hz⟩:=xy hb
 go_wp2_with fail
 have QB:w.heap.size+1≤w1.heap.size:=Aq
 go_loopw [23] (fun i wr=>∃ (k:Nat) (eL:Option Addr) (O7 NA:Nat) (eP:Option Addr) (O5 M_:Nat) (eD:Option Addr) (O8 NC:Nat) (eN:Option Addr) (O6 eNn:Nat) (eS:Option Addr) (O4 M9:Nat) (y:Sw.CV) (rows:List Sw.Row) (τ:Nat→Nat),k≤q∧i=.int .i64 k∧Ex w wr∧Lb wr w.heap.size 6∧w1.heap.size<wr.heap.size∧MS w1.heap.size 0 6 (w.heap.size+1) τ wr eL O7 NA eP O5 M_ eD O8 NC eN O6 eNn eS O4 M9 y τ wr∧τ w.heap.size=0∧(∀ b,wr.heap.size≤b→τ b=0)∧Sw.IL y rows∧Sw.Cr fs ls=Sw.Df y (ls.drop k)) (fun i _=>q-(intOf i).toNat)
 case atStart=>
  refine⟨0,bL,Bg,BR,bP,Bf,5,bD,Bh,Ba,bN,Bd,Bb,bS,Bc,BZ,Sw.CY fs,_,mid (w.heap.size+1) w1.heap.size τm,Nat.zero_le _,rfl,AA,Dw,Aq,MS.start ⟨Aq,Ak,Ak,Ak,Ak,Ak,Ak,fun i=>Ak⟩ (Lb.new rfl rfl) ?_ (S9 (.inr (Nat.le_refl _))) Aq,S9 (.inl (Nat.lt_succ_self _)),fun b hb=>S9 (.inr (by simp at hb;omega)),x_.out,E0.out⟩
  have h:=Rq
  simp only[zA] at h
  exact h.mid.Av AO
 case round=>
  obtain⟨k,eL,O7,NA,eP,O5,M_,eD,O8,NC,eN,O6,eNn,eS,O4,M9,y,rows,τ,hk,rfl,hbw,Fu,hgw,pE,ht0,htz,hok,hrel⟩:=hrel
  have hst:=xr hbw
  (try simp only[BO] at hst)
  obtain⟨hc2,hf2,hz2⟩:=hst
  obtain⟨y0,y1,y2,y3,y4,y5,y6,yf⟩:=pE.at_
  simp only[Nat.zero_add] at y1 y2 y3 y4 y5 y6
  have HK:=Lib.hid hok
  clear hok
  by_cases hlt:k<q
  ·obtain⟨g,off,r,rfl,hg0,hg,hd,hr,q0,q1,q2,q3,q4,q5⟩:=YP hl hlt
   rw[hd] at hrel
   have t1:(0:Int)≤(k:Int):=by omega
   have t2:(k:Int)<(q:Int):=by omega
   clear hd hr
   have hA:=MS.zero pE (Ex.ch (Ch.refl (fun _=>False) wr))
   by_cases hz:r=Sw.Eu
   ·subst hz
    rw[fold_zero] at hrel
    simp only[Sw.Eu] at q0 q1 q2 q3 q4 q5
    by_cases hck:y.clock=99999
    ·rw[if_pos hck] at hrel
     have He:=Lib.hid hrel
     have HC:=Lib.hid hck
     clear hrel hck
     obtain⟨hcz,hfz⟩:=Lb.rules Fu
     go_wp2_with fail
     apply Calls.mono
     apply (Q6 (t:=y.clock) (aL:=eL) (Ae:=O7) (AU:=NA) (aP:=eP) (Ag:=O5) (AY:=M_) (aD:=eD) (Ac:=O8) (AQ:=NC) (aN:=eN) (Ad:=O6) (Aa:=eNn) (aS:=eS) (Af:=O4) (Ab:=M9))
     ·exact pE.at_.keep AO
     ·exact HC.out
     rintro E w3 ⟨rfl,hb⟩
     obtain⟨hc,hf,hz⟩:=xy hb
     go_wp2_with fail
     refine bodyPost_ret (v:=.tuple #[.agg #[.slice none 0 0,.slice none 0 0,.slice none 0 0,.int .i64 0,.slice none 0 0,.slice none 0 0],.bool false]) (by simp[results,Tryz.results90,go_sem, *]) rfl ?_
     refine⟨_,_,_,_,_,_,_,_,_,_,_,_,_,_,_,fun _=>0,by rw[He.out];rfl,?_,AA⟩
     rw[He.out]
     exact Cn.zero
    ·rw[if_neg hck] at hrel
     have xw:=Lib.hid (Sw.Sj HK.out hck)
     have He:=Lib.hid hrel
     have HC:=Lib.hid hck
     clear hrel hck
     go_wp2_with fail
     apply Calls.mono
     apply (UT (hA.ex AA).PW HK.out HC.out)
     rintro E w6 ⟨fL,Jo,Jc,fP,Jm,Ja,fD,Jp,Jd,fN,Jn,Jb,fS,Jl,JZ,τ6,rfl,TE⟩
     have Zl:¬SG w1.heap.size (w.heap.size+1) (glue τ wr.heap.size (fun _=>0)) w.heap.size:=by
      rintro (h1 | ⟨h1,_⟩)
      ·omega
      ·omega
     have jX:Ex w w6:=Ch.trans' (show Ex w _ from AA) TE.ch (fun i hi h=>by
      rcases h with h1 | ⟨h1,_⟩
      ·have h1:i=w1.heap.size:=h1
       omega
      ·omega)
     have hL6:Lb w6 w.heap.size 6:=Lb.MB TE.ch (by exact Dw) Zl
     have uI:τ6 w.heap.size=0:=(TE.tag _ Aq).trans ((if_pos (by omega)).trans ht0)
     have Pe:=TE.ch.size
     (try simp only[BO] at Pe)
     have rR:=(TE.zero (Ch.refl (fun _=>False) w6)).PW
     clear TE
     go_wp2_with fail
     go_roundw
     case rel=>
      exact⟨k+1,_,_,_,_,_,_,_,_,_,_,_,_,_,_,_,Sw.tick y,rows,glue τ6 w6.heap.size (fun _=>0),by omega,by go_num,jX,hL6,by omega,rR,(if_pos (by omega)).trans uI,fun b hb=>RY hb,xw.out,He.out⟩
     case measure=>simp[intOf];omega
   ·rw[U1 hz] at hrel
    have hz2:decide (r=Sw.Eu)=false:=decide_eq_false hz
    rw[T9] at hz2
    have xS:=Lib.hid hz2
    obtain⟨ru,rn,rk,rt,rh,rp⟩:=r
    dsimp only at q0 q1 q2 q3 q4 q5
    have BI:=Lib.hid hrel
    clear hz hz2 hrel
    go_upto_region 8 with fail
    go_cut [30] (fun p wx=>p=.bool false∧wx=wr.alloc (.cells #[.int .i64 ru,.int .i64 rn,.int .i64 rk,.int .i64 rt,.int .i64 rh,.int .i64 rp] 88))
    case first=>
     go_wp2_with fail
     all_goals go_meet
     all_goals first|exact⟨rfl,by simp[*]⟩|(exfalso;have:=xS.out;simp_all)
    case rest=>
     obtain⟨rfl,rfl⟩:=hcut
     cases hq:Sw.CR ⟨ru,rn,rk,rt,rh,rp⟩
     ·have e1:Sw.Cr fs ls=none:=by rw[BI.out,hq];rfl
      have He:=Lib.hid e1
      clear e1
      obtain⟨hcz,hfz⟩:=Lb.rules Fu
      go_wp2_with (go_at_call 56;apply Calls.mono;apply (JN ⟨ru,rn,rk,rt,rh,rp⟩);rintro E w3 ⟨rfl,hb⟩;rw[hq];obtain⟨hc,hf,hz⟩:=xy hb)
      refine bodyPost_ret (v:=.tuple #[.agg #[.slice none 0 0,.slice none 0 0,.slice none 0 0,.int .i64 0,.slice none 0 0,.slice none 0 0],.bool false]) (by simp[results,Tryz.results90,go_sem, *]) rfl ?_
      refine⟨_,_,_,_,_,_,_,_,_,_,_,_,_,_,_,fun _=>0,by rw[He.out];rfl,?_,AA⟩
      rw[He.out]
      exact Cn.zero
     ·have e1:Sw.Cr fs ls=Sw.Df (Sw.EZ y ⟨ru,rn,rk,rt,rh,rp⟩).1 (ls.drop (k+1)):=by rw[BI.out,hq];rfl
      have He:=Lib.hid e1
      have HQ:=Lib.hid hq
      have xx:=Lib.hid (Sw.QZ HK.out hq)
      clear e1
      go_wp2_with (go_at_call 56;apply Calls.mono;apply (JN ⟨ru,rn,rk,rt,rh,rp⟩);rintro E w3 ⟨rfl,hb⟩;rw[hq];obtain⟨hc,hf,hz⟩:=xy hb)
      apply Calls.mono
      apply (ZP (hA.ex (show Ex wr _ from AA)).PW ⟨ru,rn,rk,rt,rh,rp⟩ HK.out HQ.out)
      rintro E w6 ⟨fL,Jo,Jc,fP,Jm,Ja,fD,Jp,Jd,fN,Jn,Jb,fS,Jl,JZ,τ6,rfl,TE⟩
      have Zl:¬SG w1.heap.size (w.heap.size+1) (glue τ wr.heap.size (fun _=>0)) w.heap.size:=by
       rintro (h1 | ⟨h1,_⟩)
       ·omega
       ·omega
      have jX:Ex w w6:=Ch.trans' (show Ex w _ from AA) TE.ch (fun i hi h=>by
       rcases h with h1 | ⟨h1,_⟩
       ·have h1:i=w1.heap.size:=h1
        omega
       ·omega)
      have hL6:Lb w6 w.heap.size 6:=Lb.MB TE.ch (by exact Dw) Zl
      have uI:τ6 w.heap.size=0:=(TE.tag _ Aq).trans ((if_pos (by omega)).trans ht0)
      have Pe:=TE.ch.size
      (try simp only[BO] at Pe)
      have rR:=(TE.zero (Ch.refl (fun _=>False) w6)).PW
      clear TE
      obtain⟨v,hv⟩:∃ v,v=Sw.EZ y ⟨ru,rn,rk,rt,rh,rp⟩:=⟨_,rfl⟩
      rw[← hv] at rR ⊢
      have Hv:=Lib.hid hv
      clear hv
      go_wp2_with fail
      go_roundw
      case rel=>
       obtain⟨Yx,ZV⟩:=xx.out
       rw[← Hv.out] at ZV
       exact⟨k+1,_,_,_,_,_,_,_,_,_,_,_,_,_,_,_,v.1,Yx,glue τ6 w6.heap.size (fun _=>0),by omega,by go_num,jX,hL6,by omega,rR,(if_pos (by omega)).trans uI,fun b hb=>RY hb,ZV,by rw[He.out,← Hv.out]⟩
      case measure=>simp[intOf];omega
  ·have e1:Sw.Cr fs ls=some y:=by rw[hrel,List.drop_of_length_le (by have:=hll.out;omega)];rfl
   have He:=Lib.hid e1
   have hsm:=IL.small HK.out pE.ow.rm
   clear hrel e1
   obtain⟨hcz,hfz⟩:=Lb.rules Fu
   go_wp2_with (go_at_call 69;apply Calls.mono;apply KR;(apply Cn.rE pE.ow;(exact AO));omega;rintro E w5 ⟨fL,Jo,Jc,fP,Jm,Ja,fD,Jp,Jd,fN,Jn,Jb,fS,Jl,JZ,τ5,rfl,Oe,hb⟩;obtain⟨hc,hf,hz⟩:=xy hb)
   refine bodyPost_ret (v:=.tuple #[.agg #[.slice fL Jc Jo,.slice fP Ja Jm,.slice fD Jd Jp,.int .i64 y.clock,.slice fN Jb Jn,.slice fS JZ Jl],.bool true]) (by simp[results,Tryz.results90,go_sem, *]) rfl ?_
   refine⟨_,_,_,_,_,_,_,_,_,_,_,_,_,_,_,τ5,by rw[He.out];rfl,?_,AA⟩
   rw[He.out]
   exact Cn.less (Oe.Av AO) Aq
end Go.Proofs.YtgaflnpmilikcaaGreat
