/- Texts joined: WldK, PtrV, PtrQ, PtrS, PtrR, PtrL2, PtrZ. -/
import Derived.Test.YtgaflnpmilikcaaGreatPx60
import Derived.Test.YtgaflnpmilikcaaGreatPx45
import Derived.Test.YtgaflnpmilikcaaGreatPx29
import Derived.Test.YtgaflnpmilikcaaGreatPx46
import Derived.Test.YtgaflnpmilikcaaGreatPx37
import Derived.Test.YtgaflnpmilikcaaGreatPx31
import Derived.Test.YtgaflnpmilikcaaGreatPx16
import Derived.Test.YtgaflnpmilikcaaGreatPx34
import Derived.Test.YtgaflnpmilikcaaGreatPx20
set_option maxRecDepth 100000
set_option linter.unusedSimpArgs false
set_option linter.unusedVariables false
namespace Go.Proofs.YtgaflnpmilikcaaGreat
open Go.RowKit Go
set_option maxHeartbeats 20000000
theorem Wn:∀ {gs:List Sw.Gate},(∀ g∈gs,Sw.DF g=true)→QJ gs≤8*gs.length
 | [],_=>by simp[QJ]
 | g::gs,h=>by
  have h1:=K7 (h g (List.mem_cons_self ..))
  have h2:=Wn fun x hx=>h x (List.mem_cons_of_mem g hx)
  rw[U_,List.length_cons];omega
theorem Vh:∀ {gs:List Sw.IX},(∀ g∈gs,Sw.Fs g=true)→Rw gs≤40*gs.length
 | [],_=>by simp[Rw]
 | g::gs,h=>by
  have h1:=h g (List.mem_cons_self ..)
  have h2:=Vh fun x hx=>h x (List.mem_cons_of_mem g hx)
  simp only[Sw.Fs,Bool.and_eq_true,Sw.Gu] at h1
  rw[UA,List.length_cons];have:=h1.2.1;omega
theorem Fb {w:World} {lo:Nat} {aF aL aP aD aN aS aI aG aB:Option Addr} {BD A_ Ae AU Ag AY Ac AQ Ad Aa Af Ab BF A7 BA Az aBc Ao:Nat} {x:Sw.World} (hW:RW w lo aF BD A_ aL Ae AU aP Ag AY aD Ac AQ aN Ad Aa aS Af Ab aI BF A7 aG BA Az aB aBc Ao x) (h:Sw.Iu x):A_+(AU+AY+AQ+Aa+Ab)+A7+(Az+QJ x.AV)+(Ao+Rw x.BS)≤1048576:=by
 obtain⟨rows,hm⟩:=Sw.BU.1 h.Dt
 obtain⟨m1,m2,m3,m4,m5⟩:=Le hm
 have f1:=(Sw.Ci.1 h.first).1
 have g1:=Wn h.Yd
 have g2:=Vh h.aj
 have g3:=h.GU
 have g4:=h.Ir
 have g5:=h.lines
 have a1:=hW.first.1
 have a2:=hW.Dt.log.1
 have a3:=hW.Dt.Ai.1
 have a4:=hW.Dt.AJ.1
 have a5:=hW.Dt.nums.1
 have a6:=hW.Dt.said.1
 have a7:=hW.lines.1
 have a8:=hW.AV.len.1
 have a9:=hW.BS.len.1
 omega
theorem RG.none_ (w:World) (lo:Nat):RG w lo none 0 0 []:=⟨[],⟨rfl,Rd.none_ _ _ _⟩,rfl,fun _ _ _ h=>by simp at h⟩
theorem RX.Mv (w:World) (lo:Nat):RX w lo none 0 0 []:=⟨[],⟨rfl,Rd.none_ _ _ _⟩,rfl,fun _ _ _ h=>by simp at h⟩
theorem RW.Mv (w:World) (lo:Nat):RW w lo none 0 0 none 0 0 none 0 0 none 0 0 none 0 0 none 0 0 none 0 0 none 0 0 none 0 0 Sw.Cz:=
 ⟨⟨rfl,Rd.none_ _ _ _⟩,⟨⟨rfl,Rd.none_ _ _ _⟩,⟨rfl,Rd.none_ _ _ _⟩,⟨rfl,Rd.none_ _ _ _⟩,⟨rfl,Rd.none_ _ _ _⟩,⟨rfl,Rd.none_ _ _ _⟩⟩,⟨rfl,Rd.none_ _ _ _⟩,RG.none_ _ _,RX.Mv _ _⟩
theorem I8 (aF:Option Addr) (BD A_:Nat) (aL:Option Addr) (Ae AU:Nat) (aP:Option Addr) (Ag AY:Nat) (aD:Option Addr) (Ac AQ:Nat) (aN:Option Addr) (Ad Aa:Nat) (aS:Option Addr) (Af Ab:Nat) (aI:Option Addr) (BF A7:Nat) (aG:Option Addr) (BA Az:Nat) (aB:Option Addr) (aBc Ao:Nat) (x:Sw.World) (e:Sw.Ev) (w:World) (hx:RW w 0 aF BD A_ aL Ae AU aP Ag AY aD Ac AQ aN Ad Aa aS Af Ab aI BF A7 aG BA Az aB aBc Ao x):Calls Tryz.prog 25 #[.agg #[.slice aF A_ BD,.slice aL AU Ae,.slice aP AY Ag,.slice aD AQ Ac,.int .i64 x.AB.clock,.slice aN Aa Ad,.slice aS Ab Af,.slice aI A7 BF,.slice aG Az BA,.slice aB Ao aBc],.agg #[.int .i64 e.kind,.int .i64 e.EK.user,.int .i64 e.EK.n,.int .i64 e.EK.kind,.int .i64 e.EK.ticket,.int .i64 e.EK.who,.int .i64 e.EK.Al,.int .i64 e.at_,.int .i64 e.ticket,.int .i64 e.who]] w fun E w'=>∃ bF Di DZ bL Bg BR bP Bf BV bD Bh Ba bN Bd Bb bS Bc BZ bI Dg bIn bG Dh DL bB Dj Cy,E=.returned (.tuple #[.agg #[.slice bF DZ Di,.slice bL BR Bg,.slice bP BV Bf,.slice bD Ba Bh,.int .i64 ((Sw.Cg x e).1).AB.clock,.slice bN Bb Bd,.slice bS BZ Bc,.slice bI bIn Dg,.slice bG DL Dh,.slice bB Cy Dj],.int .i64 (Sw.Cg x e).2])∧RW w' w.heap.size bF Di DZ bL Bg BR bP Bf BV bD Bh Ba bN Bd Bb bS Bc BZ bI Dg bIn bG Dh DL bB Dj Cy (Sw.Cg x e).1∧Ex w w':=by
 obtain⟨ek,eq,ea,et,ew⟩:=e
 dsimp only
 cases g1:Sw.Cc x
 case false=>
  have e:Sw.Cg x ⟨ek,eq,ea,et,ew⟩=(Sw.Cz,0):=by simp[Sw.Cg,g1]
  rw[e];clear e
  go_enter Tryz.func25,Tryz.ntmps25
  go_wp2_with (first|(go_at_call 15;apply Calls.mono;apply CW;((first|(apply RW.A8;assumption)|(apply Eh.cO;assumption));exact AO);rintro E w1 ⟨rfl,hb⟩;obtain⟨hc,hf,hz⟩:=xy hb))
  refine bodyPost_ret (v:=.tuple #[.agg #[.slice none 0 0,.slice none 0 0,.slice none 0 0,.slice none 0 0,.int .i64 0,.slice none 0 0,.slice none 0 0,.slice none 0 0,.slice none 0 0,.slice none 0 0],.int .i64 0]) (by simp[results,Tryz.results25,go_sem, *]) rfl ?_
  exact⟨none,0,0,none,0,0,none,0,0,none,0,0,none,0,0,none,0,0,none,0,0,none,0,0,none,0,0,rfl,RW.Mv _ _,AA⟩
 have e:Sw.Cg x ⟨ek,eq,ea,et,ew⟩=Sw.step x ⟨ek,eq,ea,et,ew⟩:=by simp[Sw.Cg,g1]
 rw[e];clear e
 have hn:=Fb hx (Sw.Am.1 g1)
 obtain⟨z,hz⟩:∃ z,z=Sw.step x ⟨ek,eq,ea,et,ew⟩:=⟨_,rfl⟩
 rw[← hz]
 have HZ:=Lib.hid hz
 clear hz
 go_enter Tryz.func25,Tryz.ntmps25
 go_wp2_with (first|(go_at_call 15;apply Calls.mono;apply CW;((first|(apply RW.A8;assumption)|(apply Eh.cO;assumption));exact AO);rintro E w1 ⟨rfl,hb⟩;obtain⟨hc,hf,hz⟩:=xy hb))
 (focus (refine CF fun W0 hb0 hc0 hf0 hz0=>?_;refine Aj [6,7] (S:=fun w'=>Held W0 w') DC (fun hHeld=>?_);(repeat' (first|(revert hK;intro hK;go_simp;(try ((first|(go_at_call 43;apply Calls.mono;apply (J2 (x:=x));(apply RW.A8 hx;(exact AO));exact hn;rintro E w5 ⟨bF,Di,DZ,bL,Bg,BR,bP,Bf,BV,bD,Bh,Ba,bN,Bd,Bb,bS,Bc,BZ,bI,Dg,bIn,bG,Dh,DL,bB,Dj,Cy,τ5,rfl,Oe,hb⟩;obtain⟨hc,hf,hz⟩:=xy hb)|(go_at_call 44;apply Calls.mono;apply (Sq (x:=x) (e:=⟨ek,eq,ea,et,ew⟩) (τ:=τ5));(exact Oe.Av AO);(exact g1);(exact Aq);rintro E w6 ⟨fF,PM,PL,fL,Jo,Jc,fP,Jm,Ja,fD,Jp,Jd,fN,Jn,Jb,fS,Jl,JZ,fI,PH,PG,fG,PK,PI,fB,PO,PN,rfl,hrw,hup⟩;have rQ:=hrw w6 (Ch.refl _ _);rw[← HZ.out] at rQ;try rw[← HZ.out];have hb:Ex W0 w6:=Ch.trans' (by exact AA) hup (fun i hi h=>(by have h1:=h.1;(try simp only[BO] at h1);omega));clear hrw hup;obtain⟨hc,hf,hz⟩:=xy hb));(try go_wp2_with fail)));(first|(refine ER hK (h:=?_);clear hK K;(try clear hHeld))|(refine CQ hK DC (h:=?_);clear hK K hHeld;intro hHeld)))|refine Mc [] [] (h:=?_)|refine tkB [] [] hHeld (h:=?_)|refine Mo (fun K hK=>?_) ?_|refine FW (fun K hK=>?_) ?_|refine FV ?_|exact Cf|refine Mh (fun K hK=>?_) ?_|refine FT (fun K hK=>?_) ?_));all_goals (refine FR ?_)))
 all_goals go_wp2_with fail
 all_goals refine bodyPost_ret (v:=.tuple #[.agg #[.slice fF PL PM,.slice fL Jc Jo,.slice fP Ja Jm,.slice fD Jd Jp,.int .i64 z.1.AB.clock,.slice fN Jb Jn,.slice fS JZ Jl,.slice fI PG PH,.slice fG PI PK,.slice fB PN PO],.int .i64 z.2]) (by simp[results,Tryz.results25,go_sem, *]) rfl ?_
 all_goals exact⟨fF,PM,PL,fL,Jo,Jc,fP,Jm,Ja,fD,Jp,Jd,fN,Jn,Jb,fS,Jl,JZ,fI,PH,PG,fG,PK,PI,fB,PO,PN,rfl,(rQ.keep AO).less Aq,AA⟩
end Go.Proofs.YtgaflnpmilikcaaGreat
namespace Go.Proofs.YtgaflnpmilikcaaGreat
open Go.RowKit Go
set_option maxHeartbeats 20000000
theorem nL {W:World} {gl:Nat} {T:TypeId} (h:gl=W.heap.size):RQ (W.alloc (.cells #[.int .i64 0,.int .i64 0,.int .i64 0,.int .i64 0,.int .i64 0,.int .i64 0] T)) 0 (some ⟨gl,0,none⟩) 1 1 [Sw.Eu]:=
 Rs.new (enc:=Sw.Ee.enc) (sz:=6) [Sw.Eu] h rfl rfl (fun _=>rfl) (by decide)
section
variable {g lo:Nat} {τ0 τ:Nat→Nat} {w0 w:World} {aF aL aP aD aN aS aI aG aB:Option Addr} {BD A_ Ae AU Ag AY Ac AQ Ad Aa Af Ab BF A7 BA Az aBc Ao:Nat} {x:Sw.World} {eq:Sw.Ee} {ea et ew:Int}
theorem UU (hS:WS g lo τ0 w0 aF BD A_ aL Ae AU aP Ag AY aD Ac AQ aN Ad Aa aS Af Ab aI BF A7 aG BA Az aB aBc Ao x τ w) (hok:Sw.Cc x=true):Calls Tryz.prog 41 #[.pointer (some ⟨g,0,none⟩),.agg #[.int .i64 2,.int .i64 eq.user,.int .i64 eq.n,.int .i64 eq.kind,.int .i64 eq.ticket,.int .i64 eq.who,.int .i64 eq.Al,.int .i64 ea,.int .i64 et,.int .i64 ew]] w fun E w'=>IB g lo τ0 w0 w' E 0 (Sw.Gg x):=by
 have k9:=hS.BS
 have k7:=hS.lines
 have k8:=hS.AV
 have LM:=hS.at_.lt
 have VK:=hS.at_.free
 have hlo:=hS.lo_le
 obtain⟨rows,hmo⟩:=Sw.BU.1 (Sw.Am.1 hok).Dt
 have HK:=Lib.hid hmo
 have GY:A7≤300:=by have h1:=(Sw.Am.1 hok).lines;have h2:=hS.ow.lines.ow.1;omega
 have TL:Ao≤6:=by have h1:=(Sw.Am.1 hok).Ir;have h2:=hS.ow.BS.rx.len.1;omega
 have hG2:Az=2:=by have h1:=(Sw.Am.1 hok).GU;have h2:=hS.ow.AV.rg.len.1;omega
 have L4:=Lib.hid hG2
 have wb:IntKind.i64.wrap ((Ao:Int)-1)=(Ao:Int)-1:=IntWalk.i64_in _ (by omega)
 have HS:=Lib.hid hS
 have Li:=Lib.hid hok
 clear hS hok hmo hG2
 have k4:=HS.out.at_.Qa
 by_cases hl:A7=300
 ·have e:Sw.Gg x=x:=by have h1:=HS.out.ow.lines.ow.1;simp[Sw.Gg,← h1,hl]
  rw[e];clear e
  have hl1:¬(A7:Int)<300:=by omega
  have hl2:decide ((A7:Int)<300)=false:=decide_eq_false hl1
  clear hl
  go_enter Tryz.func41,Tryz.ntmps41
  go_wp2_with fail
  (go_quiet ((go_at_call 61;exact Calls.AR (Cm _ _ _ _)));all_goals (generalize CE:World.drewN _ nq=W0;have hb0:=Ex.Iz CE;clear CE;obtain⟨hc0,hf0,hz0⟩:=xy hb0))
  go_wp2_with fail
  go_ret
  exact⟨aF,BD,A_,aL,Ae,AU,aP,Ag,AY,aD,Ac,AQ,aN,Ad,Aa,aS,Af,Ab,aI,BF,A7,aG,BA,Az,aB,aBc,Ao,τ,rfl,HS.out.ex AA⟩
 have hl1:(A7:Int)<300:=by omega
 have hl2:decide ((A7:Int)<300)=true:=decide_eq_true hl1
 have hl3:A7<300:=by omega
 clear hl
 by_cases hc:x.AB.clock=99999
 ·have e:Sw.Gg x=x:=by simp[Sw.Gg,hc]
  rw[e]
  have HC:=Lib.hid hc
  clear e hc k4
  go_enter Tryz.func41,Tryz.ntmps41
  go_wp2_with fail
  (go_quiet ((go_at_call 61;exact Calls.AR (Cm _ _ _ _)));all_goals (generalize CE:World.drewN _ nq=W0;have hb0:=Ex.Iz CE;clear CE;obtain⟨hc0,hf0,hz0⟩:=xy hb0))
  go_wp2_with (go_at_call 89;apply Calls.mono;apply (Q6 g 1 aL Ae AU aP Ag AY aD Ac AQ aN Ad Aa aS Af Ab x.AB.clock);(exact (HS.out.ex (by exact AA)).at_);(exact HC.out);rintro E w1 ⟨rfl,hb⟩;obtain⟨hc,hf,hz⟩:=xy hb)
  go_ret
  exact⟨aF,BD,A_,aL,Ae,AU,aP,Ag,AY,aD,Ac,AQ,aN,Ad,Aa,aS,Af,Ab,aI,BF,A7,aG,BA,Az,aB,aBc,Ao,τ,rfl,HS.out.ex AA⟩
 have e:Sw.Gg x={ { x with AB:=Sw.tick x.AB } with lines:=x.lines ++ [Sw.Eu] }:=by have h1:=HS.out.ow.lines.ow.1;simp[Sw.Gg,hc];omega
 rw[e]
 have HC:=Lib.hid hc
 clear e hc k4
 go_enter Tryz.func41,Tryz.ntmps41
 go_wp2_with fail
 (go_quiet ((go_at_call 61;exact Calls.AR (Cm _ _ _ _)));all_goals (generalize CE:World.drewN _ nq=W0;have hb0:=Ex.Iz CE;clear CE;obtain⟨hc0,hf0,hz0⟩:=xy hb0))
 have HG:RowKit.Hid (¬KW aI g):=Lib.hid fun ⟨a,ha,e⟩=>by have h1:=HS.out.ow.lines.tag a ha;have h2:=HS.out.g0;rw[← e] at h1;omega
 go_wp2_with (first|(go_at_call 89;apply Calls.mono;apply (UT (HS.out.ex (show Ex w _ from AA)).ms HK.out HC.out);rintro E w1 ⟨fL,Jo,Jc,fP,Jm,Ja,fD,Jp,Jd,fN,Jn,Jb,fS,Jl,JZ,τ1,rfl,hm1⟩;have m1:=(HS.out.ex (by exact AA)).AB hm1;have hz1:=hm1.ch.size;(try simp only[BO] at hz1);have j7:=m1.lines;have jfr:=m1.at_.free)|(at_builtin;apply BL (lo:=lo) (m:=1) (ys:=[Sw.Eu]) Wj Qv rfl rfl rfl rfl;(exact Ow.keep m1.ow.lines.ow AO);(exact nL rfl);omega;(exact Aq);intro A1 c1 w4 ho1 Ap Bo Ay Ah;clear Ay Ah;have QB:=Ap.size;(try simp only[BO] at QB);have hk1:=(Ap.cell (p:=⟨g,7,none⟩) (by exact Aq) HG.out);have hk2:=(Ap.frozen (p:=⟨g,7,none⟩) (by exact Aq) HG.out)))
 go_ret
 exact⟨aF,BD,A_,fL,Jo,Jc,fP,Jm,Ja,fD,Jp,Jd,fN,Jn,Jb,fS,Jl,JZ,A1,c1,A7+1,aG,BA,Az,aB,aBc,Ao,_,rfl,WS.ZB (m1.ex (by exact AA)) ho1 Ap Bo⟩
end
end Go.Proofs.YtgaflnpmilikcaaGreat
namespace Go.Proofs.YtgaflnpmilikcaaGreat
open Go.RowKit Go
set_option maxHeartbeats 20000000
section
variable {g lo:Nat} {τ0 τ:Nat→Nat} {w0 w:World} {aF aL aP aD aN aS aI aG aB:Option Addr} {BD A_ Ae AU Ag AY Ac AQ Ad Aa Af Ab BF A7 BA Az aBc Ao:Nat} {x:Sw.World} {eq:Sw.Ee} {ea et ew:Int}
theorem Uc (hS:WS g lo τ0 w0 aF BD A_ aL Ae AU aP Ag AY aD Ac AQ aN Ad Aa aS Af Ab aI BF A7 aG BA Az aB aBc Ao x τ w) (hok:Sw.Cc x=true):Calls Tryz.prog 41 #[.pointer (some ⟨g,0,none⟩),.agg #[.int .i64 3,.int .i64 eq.user,.int .i64 eq.n,.int .i64 eq.kind,.int .i64 eq.ticket,.int .i64 eq.who,.int .i64 eq.Al,.int .i64 ea,.int .i64 et,.int .i64 ew]] w fun E w'=>IB g lo τ0 w0 w' E 0 (Sw.fall x):=by
 have k9:=hS.BS
 have k7:=hS.lines
 have k8:=hS.AV
 have LM:=hS.at_.lt
 have VK:=hS.at_.free
 have hlo:=hS.lo_le
 obtain⟨rows,hmo⟩:=Sw.BU.1 (Sw.Am.1 hok).Dt
 have HK:=Lib.hid hmo
 have GY:A7≤300:=by have h1:=(Sw.Am.1 hok).lines;have h2:=hS.ow.lines.ow.1;omega
 have TL:Ao≤6:=by have h1:=(Sw.Am.1 hok).Ir;have h2:=hS.ow.BS.rx.len.1;omega
 have hG2:Az=2:=by have h1:=(Sw.Am.1 hok).GU;have h2:=hS.ow.AV.rg.len.1;omega
 have L4:=Lib.hid hG2
 have wb:IntKind.i64.wrap ((Ao:Int)-1)=(Ao:Int)-1:=IntWalk.i64_in _ (by omega)
 have HS:=Lib.hid hS
 have Li:=Lib.hid hok
 clear hS hok hmo hG2
 have k0:=HS.out.first
 obtain⟨klt,j0,j1,j2,j3,j4,j5,jf⟩:=HS.out.at_
 simp only[Nat.reduceAdd] at j1 j2 j3 j4 j5
 cases hF:Sw.Cr x.first x.lines with
 | none=>
  have HF:=Lib.hid hF
  have e:Sw.fall x={ x with BS:=[] }:=by simp[Sw.fall,hF]
  rw[e]
  clear e hF
  go_enter Tryz.func41,Tryz.ntmps41
  go_wp2_with fail
  (go_quiet ((go_at_call 61;exact Calls.AR (Cm _ _ _ _)));all_goals (generalize CE:World.drewN _ nq=W0;have hb0:=Ex.Iz CE;clear CE;obtain⟨hc0,hf0,hz0⟩:=xy hb0))
  go_wp2_with fail
  (focus (refine CF fun W0 hb0 hc0 hf0 hz0=>?_;refine Aj [] (S:=fun w'=>Held W0 w') DC (fun hHeld=>?_);(repeat' (first|(revert hK;intro hK;go_simp;(try ((go_at_call 90;apply Calls.mono;apply (Q5 (fs:=x.first) (ls:=x.lines));(apply Rs.A8 HS.out.ow.first.ow.rs;(exact AO));(apply Rs.A8 HS.out.ow.lines.ow.rs;(exact AO));rintro E w6 ⟨fL,Jo,Jc,fP,Jm,Ja,fD,Jp,Jd,fN,Jn,Jb,fS,Jl,JZ,τf,rfl,hof,hb⟩;rw[HF.out] at hof ⊢;obtain⟨hc,hf,hz⟩:=xy hb);(try go_wp2_with fail)));refine CQ hK DC (h:=?_);clear hK K hHeld;intro hHeld)|refine tkB [] [] hHeld (h:=?_)|refine FW (fun K hK=>?_) ?_|refine FV ?_|exact Cf|refine FT (fun K hK=>?_) ?_));all_goals (refine FR ?_);all_goals (obtain⟨hb,hc,hf,hz⟩:=xh (by assumption:Held W0 _))))
  all_goals go_wp2_with fail
  all_goals go_ret
  all_goals exact⟨aF,BD,A_,aL,Ae,AU,aP,Ag,AY,aD,Ac,AQ,aN,Ad,Aa,aS,Af,Ab,aI,BF,A7,aG,BA,Az,none,0,0,_,rfl,WS.gX (HS.out.ex (by exact AA))⟩
 | some m=>
  have HF:=Lib.hid hF
  have e:Sw.fall x={ { x with AB:=m } with BS:=[] }:=by simp[Sw.fall,hF]
  rw[e]
  clear e hF
  go_enter Tryz.func41,Tryz.ntmps41
  go_wp2_with fail
  (go_quiet ((go_at_call 61;exact Calls.AR (Cm _ _ _ _)));all_goals (generalize CE:World.drewN _ nq=W0;have hb0:=Ex.Iz CE;clear CE;obtain⟨hc0,hf0,hz0⟩:=xy hb0))
  go_wp2_with fail
  (focus (refine CF fun W0 hb0 hc0 hf0 hz0=>?_;refine Aj [] (S:=fun w'=>Held W0 w') DC (fun hHeld=>?_);(repeat' (first|(revert hK;intro hK;go_simp;(try ((go_at_call 90;apply Calls.mono;apply (Q5 (fs:=x.first) (ls:=x.lines));(apply Rs.A8 HS.out.ow.first.ow.rs;(exact AO));(apply Rs.A8 HS.out.ow.lines.ow.rs;(exact AO));rintro E w6 ⟨fL,Jo,Jc,fP,Jm,Ja,fD,Jp,Jd,fN,Jn,Jb,fS,Jl,JZ,τf,rfl,hof,hb⟩;rw[HF.out] at hof ⊢;obtain⟨hc,hf,hz⟩:=xy hb);(try go_wp2_with fail)));refine CQ hK DC (h:=?_);clear hK K hHeld;intro hHeld)|refine tkB [] [] hHeld (h:=?_)|refine FW (fun K hK=>?_) ?_|refine FV ?_|exact Cf|refine FT (fun K hK=>?_) ?_));all_goals (refine FR ?_);all_goals (obtain⟨hb,hc,hf,hz⟩:=xh (by assumption:Held W0 _))))
  all_goals go_upto_region 10 with fail
  all_goals (refine CF fun W0 hb0 hc0 hf0 hz0=>?_)
  all_goals have uR:Cn τf W0 _ fL Jo Jc fP Jm Ja fD Jp Jd fN Jn Jb fS Jl JZ m:=hof.Av AO
  all_goals have Lp:Ex w W0:=AA
  all_goals have m1:=WS.gX (WS.nK HS.out Lp uR (by exact Aq) rfl)
  all_goals go_wp2_with fail
  all_goals go_ret
  all_goals exact⟨aF,BD,A_,fL,Jo,Jc,fP,Jm,Ja,fD,Jp,Jd,fN,Jn,Jb,fS,Jl,JZ,aI,BF,A7,aG,BA,Az,none,0,0,_,rfl,m1⟩
end
end Go.Proofs.YtgaflnpmilikcaaGreat
namespace Go.Proofs.YtgaflnpmilikcaaGreat
open Go.RowKit Go
set_option maxHeartbeats 20000000
section
variable {g lo:Nat} {τ0 τ:Nat→Nat} {w0 w:World} {aF aL aP aD aN aS aI aG aB:Option Addr} {BD A_ Ae AU Ag AY Ac AQ Ad Aa Af Ab BF A7 BA Az aBc Ao:Nat} {x:Sw.World} {eq:Sw.Ee} {ea et ew:Int}
theorem UY (hS:WS g lo τ0 w0 aF BD A_ aL Ae AU aP Ag AY aD Ac AQ aN Ad Aa aS Af Ab aI BF A7 aG BA Az aB aBc Ao x τ w) (hok:Sw.Cc x=true) (h:Sw.Br ea 0 1=true):Calls Tryz.prog 41 #[.pointer (some ⟨g,0,none⟩),.agg #[.int .i64 4,.int .i64 eq.user,.int .i64 eq.n,.int .i64 eq.kind,.int .i64 eq.ticket,.int .i64 eq.who,.int .i64 eq.Al,.int .i64 ea,.int .i64 et,.int .i64 ew]] w fun E w'=>IB g lo τ0 w0 w' E 0 (Sw.send x ea):=by
 have k9:=hS.BS
 have k7:=hS.lines
 have k8:=hS.AV
 have LM:=hS.at_.lt
 have VK:=hS.at_.free
 have hlo:=hS.lo_le
 obtain⟨rows,hmo⟩:=Sw.BU.1 (Sw.Am.1 hok).Dt
 have HK:=Lib.hid hmo
 have GY:A7≤300:=by have h1:=(Sw.Am.1 hok).lines;have h2:=hS.ow.lines.ow.1;omega
 have TL:Ao≤6:=by have h1:=(Sw.Am.1 hok).Ir;have h2:=hS.ow.BS.rx.len.1;omega
 have hG2:Az=2:=by have h1:=(Sw.Am.1 hok).GU;have h2:=hS.ow.AV.rg.len.1;omega
 have L4:=Lib.hid hG2
 have wb:IntKind.i64.wrap ((Ao:Int)-1)=(Ao:Int)-1:=IntWalk.i64_in _ (by omega)
 have HS:=Lib.hid hS
 have Li:=Lib.hid hok
 clear hS hok hmo hG2
 have k1:=HS.out.at_.log
 obtain⟨e1,e2⟩:=Sw.BB.1 h
 obtain⟨kk,rfl⟩:∃ kk:Nat,ea=kk:=⟨ea.toNat,by omega⟩
 have hkk:kk<2:=by omega
 clear e1 e2
 by_cases hB:Ao=6
 ·have e:Sw.send x kk=x:=by have h1:=HS.out.ow.BS.rx.len.1;simp[Sw.send,← h1,hB]
  rw[e];clear e
  have b1:¬(Ao:Int)<6:=by omega
  have b2:decide ((Ao:Int)<6)=false:=decide_eq_false b1
  clear hB
  go_enter Tryz.func41,Tryz.ntmps41
  go_wp2_with fail
  (go_quiet ((go_at_call 61;exact Calls.AR (Cm _ _ _ _)));all_goals (generalize CE:World.drewN _ nq=W0;have hb0:=Ex.Iz CE;clear CE;obtain⟨hc0,hf0,hz0⟩:=xy hb0))
  go_wp2_with fail
  go_ret
  exact⟨aF,BD,A_,aL,Ae,AU,aP,Ag,AY,aD,Ac,AQ,aN,Ad,Aa,aS,Af,Ab,aI,BF,A7,aG,BA,Az,aB,aBc,Ao,τ,rfl,HS.out.ex AA⟩
 have b1:(Ao:Int)<6:=by omega
 have b2:decide ((Ao:Int)<6)=true:=decide_eq_true b1
 have b3:x.BS.length<6:=by have h1:=HS.out.ow.BS.rx.len.1;omega
 clear hB
 obtain⟨gg,off,y,B1,d1,m1,rfl,hg0,hg1,hd,hy,q0,q1,q2,q3,hr⟩:=Ld HS.out.ow.AV.rg (show kk<Az by have:=L4.out;omega)
 have e:Sw.send x kk={ x with BS:=x.BS ++ [⟨kk,(Sw.Cw x.AB.log).getD Sw.DX,Sw.Dn x.AB.log y.head.size⟩] }:=by
  have hgt:Sw.Cb x kk=y:=by unfold Sw.Cb;rw[Int.toNat_natCast];exact Sw.CP hy
  simp[Sw.send,h,b3,hgt]
 rw[e]
 clear e hd hy q1 q2 q3 hr b3
 obtain⟨hh,jT⟩:∃ hh,hh=(Sw.Cw x.AB.log).getD Sw.DX:=⟨_,rfl⟩
 rw[← jT]
 have HH:=Lib.hid jT
 clear jT
 have u1:(0:Int)≤(kk:Int):=by omega
 have u2:(kk:Int)<(Az:Int):=by have:=L4.out;omega
 obtain⟨vs,hv1,hv2,hv3⟩:=HS.out.ow.BS.ex
 have HG:RowKit.Hid (¬KW aB g):=Lib.hid fun ⟨a,ha,e⟩=>by have h1:=hv1.tag a ha;have h2:=HS.out.g0;rw[← e] at h1;omega
 have Wy:=Lib.hid hv1
 have PE:=Lib.hid hv2
 have PD:=Lib.hid hv3
 clear hv1 hv2 hv3
 go_enter Tryz.func41,Tryz.ntmps41
 go_wp2_with fail
 (go_quiet ((go_at_call 61;exact Calls.AR (Cm _ _ _ _)));all_goals (generalize CE:World.drewN _ nq=W0;have hb0:=Ex.Iz CE;clear CE;obtain⟨hc0,hf0,hz0⟩:=xy hb0))
 go_wp2_with (go_at_call 30;apply Calls.mono;apply (Ui (xs:=x.AB.log));(apply Rs.A8 HS.out.ow.Dt.log.ow.rs;(exact AO));rintro E w1 ⟨rfl,hb⟩;rw[← HH.out];obtain⟨hc,hf,hz⟩:=xy hb)
 (focus (refine CF fun W0 hb0 hc0 hf0 hz0=>?_;refine Aj [0,26,27,28,29] (S:=fun w'=>Held W0 w') DC (fun hHeld=>?_);(repeat' (first|(revert hK;intro hK;(apply BM (lo:=lo) Pv Kq rfl rfl rfl rfl;(exact Ow.keep Wy.out.ow AO);(refine Rs.new [⟨kk,hh,B2,d2,n2⟩] (by (first|with_reducible rfl|(simp only[BO];done)|(simp only[BO];omega))) rfl rfl (fun _=>rfl) (by omega));omega;(exact Aq);intro A1 c1 w4 ho1 Ap Bo Ay Ah;clear Ay Ah;have hk1:=(Ap.cell (p:=⟨g,9,none⟩) (by exact Aq) HG.out);have hk2:=(Ap.frozen (p:=⟨g,9,none⟩) (by exact Aq) HG.out);have QB:=Ap.size;(try simp only[BO] at QB));(first|(refine ER hK (h:=?_);clear hK K;(try clear hHeld))|(refine CQ hK DC (h:=?_);clear hK K hHeld;intro hHeld)))|(revert hK;intro hK;go_simp;(try ((go_at_call 91;apply Calls.mono;apply (Uh (xs:=x.AB.log));(apply Rs.A8 HS.out.ow.Dt.log.ow.rs;(exact AO));rintro E w3 ⟨B2,d2,n2,rfl,LK,hb⟩;obtain⟨hc,hf,hz⟩:=xy hb);(try go_wp2_with fail)));(first|(refine ER hK (h:=?_);clear hK K;(try clear hHeld))|(refine CQ hK DC (h:=?_);clear hK K hHeld;intro hHeld)))|refine Mc [] [] (h:=?_)|refine tkB [] [] hHeld (h:=?_)|refine Mo (fun K hK=>?_) ?_|refine FW (fun K hK=>?_) ?_|refine FV ?_|exact Cf|refine Mh (fun K hK=>?_) ?_|refine FT (fun K hK=>?_) ?_));all_goals (refine FR ?_)))
 all_goals go_wp2_with fail
 all_goals go_ret
 all_goals exact⟨aF,BD,A_,aL,Ae,AU,aP,Ag,AY,aD,Ac,AQ,aN,Ad,Aa,aS,Af,Ab,aI,BF,A7,some ⟨gg,off,none⟩,BA,Az,A1,c1,Ao+1,_,rfl,WS.sent (m:=⟨kk,hh,Sw.Dn x.AB.log y.head.size⟩) HS.out Wy.out PE.out PD.out (by exact AA) (by exact (LK.keep AO).less Aq) ho1 Ap Bo⟩
end
end Go.Proofs.YtgaflnpmilikcaaGreat
namespace Go.Proofs.YtgaflnpmilikcaaGreat
open Go.RowKit Go
set_option maxHeartbeats 20000000
section
variable {g lo:Nat} {τ0 τ:Nat→Nat} {w0 w:World} {aF aL aP aD aN aS aI aG aB:Option Addr} {BD A_ Ae AU Ag AY Ac AQ Ad Aa Af Ab BF A7 BA Az aBc Ao:Nat} {x:Sw.World} {eq:Sw.Ee} {ea et ew:Int}
theorem TA (hS:WS g lo τ0 w0 aF BD A_ aL Ae AU aP Ag AY aD Ac AQ aN Ad Aa aS Af Ab aI BF A7 aG BA Az aB aBc Ao x τ w) (hok:Sw.Cc x=true) (h:Sw.Br ea 0 ((Ao:Int)-1)=true):Calls Tryz.prog 41 #[.pointer (some ⟨g,0,none⟩),.agg #[.int .i64 7,.int .i64 eq.user,.int .i64 eq.n,.int .i64 eq.kind,.int .i64 eq.ticket,.int .i64 eq.who,.int .i64 eq.Al,.int .i64 ea,.int .i64 et,.int .i64 ew]] w fun E w'=>IB g lo τ0 w0 w' E 0 (Sw.twice x ea):=by
 have k9:=hS.BS
 have k7:=hS.lines
 have k8:=hS.AV
 have LM:=hS.at_.lt
 have VK:=hS.at_.free
 have hlo:=hS.lo_le
 obtain⟨rows,hmo⟩:=Sw.BU.1 (Sw.Am.1 hok).Dt
 have HK:=Lib.hid hmo
 have GY:A7≤300:=by have h1:=(Sw.Am.1 hok).lines;have h2:=hS.ow.lines.ow.1;omega
 have TL:Ao≤6:=by have h1:=(Sw.Am.1 hok).Ir;have h2:=hS.ow.BS.rx.len.1;omega
 have hG2:Az=2:=by have h1:=(Sw.Am.1 hok).GU;have h2:=hS.ow.AV.rg.len.1;omega
 have L4:=Lib.hid hG2
 have wb:IntKind.i64.wrap ((Ao:Int)-1)=(Ao:Int)-1:=IntWalk.i64_in _ (by omega)
 have HS:=Lib.hid hS
 have Li:=Lib.hid hok
 clear hS hok hmo hG2
 obtain⟨e1,e2⟩:=Sw.BB.1 h
 obtain⟨ii,rfl⟩:∃ ii:Nat,ea=ii:=⟨ea.toNat,by omega⟩
 have hii:ii<Ao:=by omega
 have v1:(0:Int)≤(ii:Int):=by omega
 have v2:(ii:Int)<(Ao:Int):=by omega
 clear e1 e2
 by_cases hB:Ao=6
 ·have e:Sw.twice x ii=x:=by have h1:=HS.out.ow.BS.rx.len.1;simp[Sw.twice,← h1,hB]
  rw[e];clear e
  have b1:¬(Ao:Int)<6:=by omega
  have b2:decide ((Ao:Int)<6)=false:=decide_eq_false b1
  clear hB
  go_enter Tryz.func41,Tryz.ntmps41
  go_wp2_with fail
  (go_quiet ((go_at_call 61;exact Calls.AR (Cm _ _ _ _)));all_goals (generalize CE:World.drewN _ nq=W0;have hb0:=Ex.Iz CE;clear CE;obtain⟨hc0,hf0,hz0⟩:=xy hb0))
  go_wp2_with fail
  go_ret
  exact⟨aF,BD,A_,aL,Ae,AU,aP,Ag,AY,aD,Ac,AQ,aN,Ad,Aa,aS,Af,Ab,aI,BF,A7,aG,BA,Az,aB,aBc,Ao,τ,rfl,HS.out.ex AA⟩
 have b1:(Ao:Int)<6:=by omega
 have b2:decide ((Ao:Int)<6)=true:=decide_eq_true b1
 have b3:x.BS.length<6:=by have h1:=HS.out.ow.BS.rx.len.1;omega
 clear hB
 obtain⟨gB,oB,m,B1,d1,m1,rfl,hg0,hg1,hd,hy,q0,q1,q2,q3,q4,hr⟩:=QU HS.out.ow.BS.rx hii
 have X7:=(IP Li.out).2.2.2.2.1 m (List.mem_of_getElem? hy)
 have ZZ:m1≤4194304:=by
  simp only[Sw.Fs,Bool.and_eq_true,Sw.Gu] at X7
  have h1:=hr.1;have h2:=X7.2.1;omega
 have iE:Sw.Gj x ii=m:=by unfold Sw.Gj;rw[Int.toNat_natCast];exact Sw.CP hy
 have e:Sw.twice x ii={ x with BS:=x.BS ++ [m] }:=by simp[Sw.twice,b3,iE]
 rw[e]
 clear e hd hy b3 iE X7
 obtain⟨mg,mh,mp⟩:=m
 dsimp only at q0 q1 q2 q3 q4 hr
 obtain⟨vs,hv1,hv2,hv3⟩:=HS.out.ow.BS.ex
 have HG:RowKit.Hid (¬KW (some ⟨gB,oB,none⟩) g):=Lib.hid fun ⟨a,ha,e⟩=>by have h1:=hv1.tag a ha;have h2:=HS.out.g0;rw[← e] at h1;omega
 have Wy:=Lib.hid hv1
 have PE:=Lib.hid hv2
 have PD:=Lib.hid hv3
 clear hv1 hv2 hv3
 go_enter Tryz.func41,Tryz.ntmps41
 go_wp2_with fail
 (go_quiet ((go_at_call 61;exact Calls.AR (Cm _ _ _ _)));all_goals (generalize CE:World.drewN _ nq=W0;have hb0:=Ex.Iz CE;clear CE;obtain⟨hc0,hf0,hz0⟩:=xy hb0))
 go_wp2_with fail
 (focus (refine CF fun W0 hb0 hc0 hf0 hz0=>?_;refine Aj [0,15,16,17,18] (S:=fun w'=>Held W0 w') DC (fun hHeld=>?_);(repeat' (first|(revert hK;intro hK;(apply BM (lo:=lo) Pv Kq rfl rfl rfl rfl;(exact Ow.keep Wy.out.ow AO);(refine Rs.new [⟨mg,mh,B2,d2,m1⟩] (by (first|with_reducible rfl|(simp only[BO];done)|(simp only[BO];omega))) rfl rfl (fun _=>rfl) (by omega));omega;(exact Aq);intro A1 c1 w4 ho1 Ap Bo Ay Ah;clear Ay Ah;have hk1:=(Ap.cell (p:=⟨g,9,none⟩) (by exact Aq) HG.out);have hk2:=(Ap.frozen (p:=⟨g,9,none⟩) (by exact Aq) HG.out);have QB:=Ap.size;(try simp only[BO] at QB));(first|(refine ER hK (h:=?_);clear hK K;(try clear hHeld))|(refine CQ hK DC (h:=?_);clear hK K hHeld;intro hHeld)))|(revert hK;intro hK;go_simp;(try ((go_at_call 87;apply Calls.mono;apply (ZK mg mh B1 d1 m1 mp);(apply Rs.A8 hr;(exact AO));exact ZZ;rintro E w3 ⟨B2,d2,rfl,LK,hb⟩;obtain⟨hc,hf,hz⟩:=xy hb);(try go_wp2_with fail)));(first|(refine ER hK (h:=?_);clear hK K;(try clear hHeld))|(refine CQ hK DC (h:=?_);clear hK K hHeld;intro hHeld)))|refine Mc [] [] (h:=?_)|refine tkB [] [] hHeld (h:=?_)|refine Mo (fun K hK=>?_) ?_|refine FW (fun K hK=>?_) ?_|refine FV ?_|exact Cf|refine Mh (fun K hK=>?_) ?_|refine FT (fun K hK=>?_) ?_));all_goals (refine FR ?_)))
 all_goals go_wp2_with fail
 all_goals go_ret
 all_goals exact⟨aF,BD,A_,aL,Ae,AU,aP,Ag,AY,aD,Ac,AQ,aN,Ad,Aa,aS,Af,Ab,aI,BF,A7,aG,BA,Az,A1,c1,Ao+1,_,rfl,WS.sent (m:=⟨mg,mh,mp⟩) HS.out Wy.out PE.out PD.out (by exact AA) (by exact (LK.keep AO).less Aq) ho1 Ap Bo⟩
end
end Go.Proofs.YtgaflnpmilikcaaGreat
namespace Go.Proofs.YtgaflnpmilikcaaGreat
open Go.RowKit Go
set_option maxHeartbeats 20000000
section
variable {g lo:Nat} {τ0 τ:Nat→Nat} {w0 w:World} {aF aL aP aD aN aS aI aG aB:Option Addr} {BD A_ Ae AU Ag AY Ac AQ Ad Aa Af Ab BF A7 BA Az aBc Ao:Nat} {x:Sw.World} {eq:Sw.Ee} {ea et ew:Int}
theorem UJ {gB i:Nat} {vs:List XV} {wb w1:World} (h:WS g lo τ0 w0 aF BD A_ aL Ae AU aP Ag AY aD Ac AQ aN Ad Aa aS Af Ab aI BF A7 aG BA Az aB aBc Ao x τ w) (h1:TS τ 9 w lo aB aBc Ao vs) (h2:Ao=x.BS.length)
  (h3:∀ (j:Nat) (v:XV) (g:Sw.IX),vs[j]?=some v→x.BS[j]?=some g→v.g=g.gate∧v.h=g.head∧JY τ (Oi j) w lo v.A v.c v.n g.proof)
  (hA:aB=some ⟨gB,0,none⟩) (hi:i<Ao) (ho:MZ w1 lo aB aBc (Ao-1) (vs.eraseIdx i)) (hb:Ex w wb) (hc:Ch (· = gB) wb w1) :
  WS g lo τ0 w0 aF BD A_ aL Ae AU aP Ag AY aD Ac AQ aN Ad Aa aS Af Ab aI BF A7 aG BA Az aB aBc (Ao-1) { x with BS:=x.BS.eraseIdx i } τ (w1.setCell ⟨g,9,none⟩ (.slice aB (Ao-1) aBc)):=
 h.lost h1 h2 h3 hA hi ho ((Ex.ch hb).trans hc)
theorem Ua (hS:WS g lo τ0 w0 aF BD A_ aL Ae AU aP Ag AY aD Ac AQ aN Ad Aa aS Af Ab aI BF A7 aG BA Az aB aBc Ao x τ w) (hok:Sw.Cc x=true) (h:Sw.Br ea 0 ((Ao:Int)-1)=true):Calls Tryz.prog 41 #[.pointer (some ⟨g,0,none⟩),.agg #[.int .i64 6,.int .i64 eq.user,.int .i64 eq.n,.int .i64 eq.kind,.int .i64 eq.ticket,.int .i64 eq.who,.int .i64 eq.Al,.int .i64 ea,.int .i64 et,.int .i64 ew]] w fun E w'=>IB g lo τ0 w0 w' E 0 (Sw.lose x ea):=by
 have k9:=hS.BS
 have k7:=hS.lines
 have k8:=hS.AV
 have LM:=hS.at_.lt
 have VK:=hS.at_.free
 have hlo:=hS.lo_le
 obtain⟨rows,hmo⟩:=Sw.BU.1 (Sw.Am.1 hok).Dt
 have HK:=Lib.hid hmo
 have GY:A7≤300:=by have h1:=(Sw.Am.1 hok).lines;have h2:=hS.ow.lines.ow.1;omega
 have TL:Ao≤6:=by have h1:=(Sw.Am.1 hok).Ir;have h2:=hS.ow.BS.rx.len.1;omega
 have hG2:Az=2:=by have h1:=(Sw.Am.1 hok).GU;have h2:=hS.ow.AV.rg.len.1;omega
 have L4:=Lib.hid hG2
 have wb:IntKind.i64.wrap ((Ao:Int)-1)=(Ao:Int)-1:=IntWalk.i64_in _ (by omega)
 have HS:=Lib.hid hS
 have Li:=Lib.hid hok
 clear hS hok hmo hG2
 obtain⟨e1,e2⟩:=Sw.BB.1 h
 obtain⟨ii,rfl⟩:∃ ii:Nat,ea=ii:=⟨ea.toNat,by omega⟩
 have hii:ii<Ao:=by omega
 have v1:(0:Int)≤(ii:Int):=by omega
 have v2:(ii:Int)<(Ao:Int):=by omega
 clear e1 e2
 rw[show Sw.lose x ii={ x with BS:=x.BS.eraseIdx ii } from by simp[Sw.lose]]
 obtain⟨vs,hv1,hv2,hv3⟩:=HS.out.ow.BS.ex
 obtain⟨gB,rfl⟩:∃ gB,aB=some ⟨gB,0,none⟩:=by
  rcases hv1.ow.form with⟨h1,h2,_⟩ | ⟨gB,cur,h1,_⟩
  ·omega
  ·exact⟨gB,h1⟩
 have hne:gB≠g:=by have h1:=hv1.tag _ rfl;have h2:=HS.out.g0;rintro rfl;dsimp only at h1;omega
 have qw:RowKit.Hid (¬g=gB):=Lib.hid (Ne.symm hne)
 have hgB:=(hv1.ow.blk rfl).2
 dsimp only at hgB
 have wi:IntKind.i64.wrap ((ii:Int)+1)=(ii:Int)+1:=IntWalk.i64_in _ (by omega)
 have Wy:=Lib.hid hv1
 have PE:=Lib.hid hv2
 have PD:=Lib.hid hv3
 clear hv1 hv2 hv3
 go_enter Tryz.func41,Tryz.ntmps41
 go_wp2_with fail
 (go_quiet ((go_at_call 61;exact Calls.AR (Cm _ _ _ _)));all_goals (generalize CE:World.drewN _ nq=W0;have hb0:=Ex.Iz CE;clear CE;obtain⟨hc0,hf0,hz0⟩:=xy hb0))
 go_wp2_with fail
 (focus (refine CF fun W0 hb0 hc0 hf0 hz0=>?_;refine Aj [0,10,11,12,13] (S:=fun w'=>Held W0 w') DC (fun hHeld=>?_);(repeat' (first|(revert hK;intro hK;go_simp;(try ((go_at_call 92;apply Calls.mono;apply (RN (lo:=lo) (ds:=vs));(exact Ow.keep Wy.out.ow AO);exact hii;rintro E w4 ⟨rfl,Ki,Ap⟩;have hk1:=(Ap.cell (p:=⟨g,9,none⟩) (by exact Aq) qw.out);have hk2:=(Ap.frozen (p:=⟨g,9,none⟩) (by exact Aq) qw.out);have QB:=Ap.size;(try simp only[BO] at QB));(try go_wp2_with fail)));(first|(refine ER hK (h:=?_);clear hK K;(try clear hHeld))|(refine CQ hK DC (h:=?_);clear hK K hHeld;intro hHeld)))|refine Mc [] [] (h:=?_)|refine tkB [] [] hHeld (h:=?_)|refine Mo (fun K hK=>?_) ?_|refine FW (fun K hK=>?_) ?_|refine FV ?_|exact Cf|refine Mh (fun K hK=>?_) ?_|refine FT (fun K hK=>?_) ?_));all_goals (refine FR ?_)))
 all_goals go_wp2_with fail
 all_goals go_ret
 all_goals exact⟨aF,BD,A_,aL,Ae,AU,aP,Ag,AY,aD,Ac,AQ,aN,Ad,Aa,aS,Af,Ab,aI,BF,A7,aG,BA,Az,some ⟨gB,0,none⟩,aBc,Ao-1,τ,rfl,UJ HS.out Wy.out PE.out PD.out rfl hii Ki (by exact AA) Ap⟩
end
end Go.Proofs.YtgaflnpmilikcaaGreat
namespace Go.Proofs.YtgaflnpmilikcaaGreat
open Go.RowKit Go
set_option maxHeartbeats 20000000
section
variable {g lo:Nat} {τ0 τ:Nat→Nat} {w0 w:World} {aF aL aP aD aN aS aI aG aB:Option Addr} {BD A_ Ae AU Ag AY Ac AQ Ad Aa Af Ab BF A7 BA Az aBc Ao:Nat} {x:Sw.World} {eq:Sw.Ee} {ea et ew:Int}
theorem UX (hS:WS g lo τ0 w0 aF BD A_ aL Ae AU aP Ag AY aD Ac AQ aN Ad Aa aS Af Ab aI BF A7 aG BA Az aB aBc Ao x τ w) (hok:Sw.Cc x=true) (h:Sw.Br ea 0 1=true) (h2:Sw.Br et 0 7=true):Calls Tryz.prog 41 #[.pointer (some ⟨g,0,none⟩),.agg #[.int .i64 8,.int .i64 eq.user,.int .i64 eq.n,.int .i64 eq.kind,.int .i64 eq.ticket,.int .i64 eq.who,.int .i64 eq.Al,.int .i64 ea,.int .i64 et,.int .i64 ew]] w fun E w'=>IB g lo τ0 w0 w' E (Sw.Da x ea et ew).2 (Sw.Da x ea et ew).1:=by
 have k9:=hS.BS
 have k7:=hS.lines
 have k8:=hS.AV
 have LM:=hS.at_.lt
 have VK:=hS.at_.free
 have hlo:=hS.lo_le
 obtain⟨rows,hmo⟩:=Sw.BU.1 (Sw.Am.1 hok).Dt
 have HK:=Lib.hid hmo
 have GY:A7≤300:=by have h1:=(Sw.Am.1 hok).lines;have h2:=hS.ow.lines.ow.1;omega
 have TL:Ao≤6:=by have h1:=(Sw.Am.1 hok).Ir;have h2:=hS.ow.BS.rx.len.1;omega
 have hG2:Az=2:=by have h1:=(Sw.Am.1 hok).GU;have h2:=hS.ow.AV.rg.len.1;omega
 have L4:=Lib.hid hG2
 have wb:IntKind.i64.wrap ((Ao:Int)-1)=(Ao:Int)-1:=IntWalk.i64_in _ (by omega)
 have HS:=Lib.hid hS
 have Li:=Lib.hid hok
 clear hS hok hmo hG2
 obtain⟨e1,e2⟩:=Sw.BB.1 h
 obtain⟨e3,e4⟩:=Sw.BB.1 h2
 obtain⟨kk,rfl⟩:∃ kk:Nat,ea=kk:=⟨ea.toNat,by omega⟩
 obtain⟨tt,rfl⟩:∃ tt:Nat,et=tt:=⟨et.toNat,by omega⟩
 have hkk:kk<2:=by omega
 have YV:tt<8:=by omega
 clear e1 e2 e3 e4
 go_enter Tryz.func41,Tryz.ntmps41
 go_wp2_with fail
 (go_quiet ((go_at_call 61;exact Calls.AR (Cm _ _ _ _)));all_goals (generalize CE:World.drewN _ nq=W0;have hb0:=Ex.Iz CE;clear CE;obtain⟨hc0,hf0,hz0⟩:=xy hb0))
 go_wp2_with (first|(go_at_call 93;apply Calls.mono;apply (ZI (HS.out.ex AA) Li.out 8 eq kk tt ew hkk YV);rintro E w6 ⟨τ6,rfl,QY⟩)|(go_at_call 63;refine (BQ _ _).mono ?_;rintro E w' ⟨rfl,rfl⟩))
 go_ret
 exact⟨aF,BD,A_,aL,Ae,AU,aP,Ag,AY,aD,Ac,AQ,aN,Ad,Aa,aS,Af,Ab,aI,BF,A7,aG,BA,Az,aB,aBc,Ao,τ6,rfl,QY⟩
theorem UW (hS:WS g lo τ0 w0 aF BD A_ aL Ae AU aP Ag AY aD Ac AQ aN Ad Aa aS Af Ab aI BF A7 aG BA Az aB aBc Ao x τ w) (hok:Sw.Cc x=true) (h:Sw.Br ea 0 1=true):Calls Tryz.prog 41 #[.pointer (some ⟨g,0,none⟩),.agg #[.int .i64 9,.int .i64 eq.user,.int .i64 eq.n,.int .i64 eq.kind,.int .i64 eq.ticket,.int .i64 eq.who,.int .i64 eq.Al,.int .i64 ea,.int .i64 et,.int .i64 ew]] w fun E w'=>IB g lo τ0 w0 w' E 0 (Sw.tell x ea):=by
 have k9:=hS.BS
 have k7:=hS.lines
 have k8:=hS.AV
 have LM:=hS.at_.lt
 have VK:=hS.at_.free
 have hlo:=hS.lo_le
 obtain⟨rows,hmo⟩:=Sw.BU.1 (Sw.Am.1 hok).Dt
 have HK:=Lib.hid hmo
 have GY:A7≤300:=by have h1:=(Sw.Am.1 hok).lines;have h2:=hS.ow.lines.ow.1;omega
 have TL:Ao≤6:=by have h1:=(Sw.Am.1 hok).Ir;have h2:=hS.ow.BS.rx.len.1;omega
 have hG2:Az=2:=by have h1:=(Sw.Am.1 hok).GU;have h2:=hS.ow.AV.rg.len.1;omega
 have L4:=Lib.hid hG2
 have wb:IntKind.i64.wrap ((Ao:Int)-1)=(Ao:Int)-1:=IntWalk.i64_in _ (by omega)
 have HS:=Lib.hid hS
 have Li:=Lib.hid hok
 clear hS hok hmo hG2
 obtain⟨e1,e2⟩:=Sw.BB.1 h
 obtain⟨kk,rfl⟩:∃ kk:Nat,ea=kk:=⟨ea.toNat,by omega⟩
 have hkk:kk<2:=by omega
 clear e1 e2
 go_enter Tryz.func41,Tryz.ntmps41
 go_wp2_with fail
 (go_quiet ((go_at_call 61;exact Calls.AR (Cm _ _ _ _)));all_goals (generalize CE:World.drewN _ nq=W0;have hb0:=Ex.Iz CE;clear CE;obtain⟨hc0,hf0,hz0⟩:=xy hb0))
 go_wp2_with (go_at_call 94;apply Calls.mono;apply (ZH (HS.out.ex AA) Li.out kk hkk);rintro E w6 ⟨fL,Jo,Jc,fP,Jm,Ja,fD,Jp,Jd,fN,Jn,Jb,fS,Jl,JZ,I6,ky,kv,τ6,rfl,QY⟩)
 go_ret
 exact⟨aF,BD,A_,fL,Jo,Jc,fP,Jm,Ja,fD,Jp,Jd,fN,Jn,Jb,fS,Jl,JZ,I6,ky,kv,aG,BA,Az,aB,aBc,Ao,τ6,rfl,QY⟩
end
end Go.Proofs.YtgaflnpmilikcaaGreat
