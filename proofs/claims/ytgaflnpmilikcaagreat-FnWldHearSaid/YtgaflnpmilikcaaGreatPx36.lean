/- Texts joined: PtrK, GShow. -/
import Derived.Test.YtgaflnpmilikcaaGreatPx34
import Derived.Test.YtgaflnpmilikcaaGreatPx29
import Derived.Test.YtgaflnpmilikcaaGreatPx16
import Derived.Test.YtgaflnpmilikcaaGreatPx22
set_option maxRecDepth 100000
set_option linter.unusedSimpArgs false
set_option linter.unusedVariables false
namespace Go.Proofs.YtgaflnpmilikcaaGreat
open Go.RowKit Go
set_option maxHeartbeats 4000000
theorem Le {m:Sw.CV} {rows:List Sw.Row} (h:Sw.IL m rows):m.log.length≤40∧m.Ai.length=5∧m.AJ.length≤8∧m.nums.length=5∧m.said.length=5:=
 ⟨(Sw.B_.1 h.fold).1,(Sw.Ci.1 h.Rp).1,h.Ms,h.NL,h.Rv⟩
theorem ZL (aL:Option Addr) (Ae AU:Nat) (aP:Option Addr) (Ag AY:Nat) (aD:Option Addr) (Ac AQ:Nat) (aN:Option Addr) (Ad Aa:Nat) (aS:Option Addr) (Af Ab:Nat) (m:Sw.CV) (r:Sw.Ee) (w:World) (hm:RM w 0 aL Ae AU aP Ag AY aD Ac AQ aN Ad Aa aS Af Ab m) (hn:AU+AY+AQ+Aa+Ab≤1048576):Calls Tryz.prog 27 #[.agg #[.slice aL AU Ae,.slice aP AY Ag,.slice aD AQ Ac,.int .i64 m.clock,.slice aN Aa Ad,.slice aS Ab Af],.agg #[.int .i64 r.user,.int .i64 r.n,.int .i64 r.kind,.int .i64 r.ticket,.int .i64 r.who,.int .i64 r.Al]] w fun E w'=>∃ bL Bg BR bP Bf BV bD Bh Ba bN Bd Bb bS Bc BZ τ,E=.returned (.tuple #[.agg #[.slice bL BR Bg,.slice bP BV Bf,.slice bD Ba Bh,.int .i64 (Sw.KN m r).1.clock,.slice bN Bb Bd,.slice bS BZ Bc],.int .i64 (Sw.KN m r).2])∧Cn τ w' w.heap.size bL Bg BR bP Bf BV bD Bh Ba bN Bd Bb bS Bc BZ (Sw.KN m r).1∧Ex w w':=by
 cases g1:Sw.GX m
 case false=>
  have e:Sw.KN m r=(⟨[],[],[],0,[],[]⟩,0):=by simp[Sw.KN,g1,Sw.Ku]
  have He:=Lib.hid e;clear e
  go_enter Tryz.func27,Tryz.ntmps27
  go_wp2_with (go_at_call 23;apply Calls.mono;apply GD;(exact Jg);rintro E w1 ⟨rfl,hb⟩;obtain⟨hc,hf,hz⟩:=xy hb)
  refine bodyPost_ret (v:=.tuple #[.agg #[.slice none 0 0,.slice none 0 0,.slice none 0 0,.int .i64 0,.slice none 0 0,.slice none 0 0],.int .i64 0]) (by simp[results,Tryz.results27,go_sem, *]) rfl ?_
  refine⟨_,_,_,_,_,_,_,_,_,_,_,_,_,_,_,fun _=>0,by rw[He.out],?_,AA⟩
  rw[He.out]
  exact⟨CK.nil ..,CK.nil ..,CK.nil ..,CK.nil ..,CK.nil ..⟩
 cases g2:Sw.CR r
 case false=>
  have e:Sw.KN m r=(⟨[],[],[],0,[],[]⟩,0):=by simp[Sw.KN,g1,g2,Sw.Ku]
  have He:=Lib.hid e;clear e
  obtain⟨ru,rn,rk,rt,rh,rp⟩:=r
  go_enter Tryz.func27,Tryz.ntmps27
  go_wp2_with (first|(go_at_call 23;apply Calls.mono;apply GD;(exact Jg);rintro E w1 ⟨rfl,hb⟩;obtain⟨hc,hf,hz⟩:=xy hb)|(go_at_call 56;apply Calls.mono;apply (JN ⟨ru,rn,rk,rt,rh,rp⟩);rintro E w3 ⟨rfl,hb⟩;rw[g2];obtain⟨hc,hf,hz⟩:=xy hb))
  refine bodyPost_ret (v:=.tuple #[.agg #[.slice none 0 0,.slice none 0 0,.slice none 0 0,.int .i64 0,.slice none 0 0,.slice none 0 0],.int .i64 0]) (by simp[results,Tryz.results27,go_sem, *]) rfl ?_
  refine⟨_,_,_,_,_,_,_,_,_,_,_,_,_,_,_,fun _=>0,by rw[He.out],?_,AA⟩
  rw[He.out]
  exact⟨CK.nil ..,CK.nil ..,CK.nil ..,CK.nil ..,CK.nil ..⟩
 have hok:=(Sw.BU.1 g1)
 obtain⟨rows,hok⟩:=hok
 have e:Sw.KN m r=Sw.EZ m r:=by simp[Sw.KN,g1,g2]
 have He:=Lib.hid e;clear e
 have HK:=Lib.hid hok
 have HR:=Lib.hid g2
 clear hok
 have hk2:=Sw.QZ HK.out HR.out
 obtain⟨yG,hk2⟩:=hk2
 have HLn:=Lib.hid (Le hk2)
 clear hk2
 obtain⟨ru,rn,rk,rt,rh,rp⟩:=r
 go_enter Tryz.func27,Tryz.ntmps27
 go_wp2_with (first|(go_at_call 23;apply Calls.mono;apply GD;(exact Jg);rintro E w1 ⟨rfl,hb⟩;obtain⟨hc,hf,hz⟩:=xy hb)|(go_at_call 56;apply Calls.mono;apply (JN ⟨ru,rn,rk,rt,rh,rp⟩);rintro E w3 ⟨rfl,hb⟩;rw[g2];obtain⟨hc,hf,hz⟩:=xy hb)|(go_at_call 69;apply Calls.mono;apply KR;(exact Jg);(exact Bu);rintro E w1 ⟨bL,Bg,BR,bP,Bf,BV,bD,Bh,Ba,bN,Bd,Bb,bS,Bc,BZ,τ,rfl,ho,hb⟩;obtain⟨hc,hf,hz⟩:=xy hb))
 have hWc:Ex w (w1.alloc (.cells #[.slice bL BR Bg,.slice bP BV Bf,.slice bD Ba Bh,.int .i64 m.clock,.slice bN Bb Bd,.slice bS BZ Bc] 27)):=AA
 have hz3:w.heap.size+3≤w3.heap.size:=Aq
 have hz1:w3.heap.size≤w1.heap.size:=Aq
 have hS:MS w1.heap.size 0 6 w3.heap.size (glue τ w1.heap.size (fun _=>0)) (w1.alloc (.cells #[.slice bL BR Bg,.slice bP BV Bf,.slice bD Ba Bh,.int .i64 m.clock,.slice bN Bb Bd,.slice bS BZ Bc] 27)) bL Bg BR bP Bf BV bD Bh Ba bN Bd Bb bS Bc BZ m (glue τ w1.heap.size (fun _=>0)) (w1.alloc (.cells #[.slice bL BR Bg,.slice bP BV Bf,.slice bD Ba Bh,.int .i64 m.clock,.slice bN Bb Bd,.slice bS BZ Bc] 27)):=
  MS.start ⟨Aq,by simp[go_sem],by simp[go_sem],by simp[go_sem],by simp[go_sem],by simp[go_sem],by simp[go_sem],fun i=>by simp[go_sem]⟩ (Lb.new rfl rfl) ((ho.CX (Nat.le_refl _)).Av AO) (RY (Nat.le_refl _)) Aq
 apply Calls.mono
 apply (ZP hS ⟨ru,rn,rk,rt,rh,rp⟩ HK.out HR.out)
 rintro E w4 ⟨fL,Jo,Jc,fP,Jm,Ja,fD,Jp,Jd,fN,Jn,Jb,fS,Jl,JZ,τ4,rfl,jO⟩
 have hS2:¬SG w1.heap.size w3.heap.size (glue τ w1.heap.size (fun _=>0)) (w.heap.size+1+1):=by
  rintro (h1 | ⟨h1,_⟩)
  ·omega
  ·omega
 have hr1:=fun i:Nat=>jO.ch.cell (p:=⟨w.heap.size+1+1,i,none⟩) Aq hS2
 have hr2:=fun i:Nat=>jO.ch.frozen (p:=⟨w.heap.size+1+1,i,none⟩) Aq hS2
 have hex:Ex w w4:=Ch.trans' hWc jO.ch (fun i hi h=>by
  rcases h with h1 | ⟨h1,_⟩
  ·have h1:i=w1.heap.size:=h1
   omega
  ·omega)
 obtain⟨j0,j1,j2,j3,j4,j5,j6,jf⟩:=jO.at_
 simp only[Nat.zero_add] at j1 j2 j3 j4 j5 j6
 have Uo:=jO.ow
 have g_:=jO.ch.size
 simp only[zA] at g_
 have hsum:Jc+Ja+Jd+Jb+JZ≤1048576:=by
  obtain⟨q1,q2,q3,q4,q5⟩:=HLn.out
  have:=Uo.log.ow.1;have:=Uo.Ai.ow.1;have:=Uo.AJ.ow.1;have:=Uo.nums.ow.1;have:=Uo.said.ow.1
  omega
 clear jO hS ho
 obtain⟨x,hx⟩:∃ x,x=Sw.EZ m ⟨ru,rn,rk,rt,rh,rp⟩:=⟨_,rfl⟩
 rw[← hx] at Uo j4 ⊢
 have Hx:=Lib.hid hx
 clear hx
 go_wp2_with (go_at_call 69;apply Calls.mono;apply KR;(apply Cn.rE Uo;(exact AO));exact hsum;rintro E w5 ⟨dL,Ep,Ec,dP,Eo,Eg,dD,Er,Ed,dN,Ej,Eb,dS,Ei,Ea,τ5,rfl,Oe,hb⟩;obtain⟨hc,hf,hz⟩:=xy hb)
 refine bodyPost_ret (v:=.tuple #[.agg #[.slice dL Ec Ep,.slice dP Eg Eo,.slice dD Ed Er,.int .i64 x.1.clock,.slice dN Eb Ej,.slice dS Ea Ei],.int .i64 x.2]) (by simp[results,Tryz.results27,go_sem, *]) rfl ?_
 refine⟨_,_,_,_,_,_,_,_,_,_,_,_,_,_,_,τ5,by rw[He.out,← Hx.out],?_,AA⟩
 rw[He.out,← Hx.out]
 exact Cn.less (Oe.Av (by (exact AO))) (by exact Aq)
set_option maxHeartbeats 2000000
theorem WW {h:Sw.Head} {xs:List Int} (k:Sw.DF ⟨h,xs⟩=true):xs.Pairwise (· < ·):=by
 simp only[Sw.DF,Bool.and_eq_true] at k
 exact ((Sw.Js xs (-1)).1 k.2).2
theorem VY (t:Sw.Head) (A:Option Addr) (c n:Nat) (xs:List Int) (k who:Int) (r:Sw.Row) (B:Option Addr) (d m:Nat) (ps:List Int) (w:World) (hxs:RI w 0 A c n xs) (hps:RI w 0 B d m ps):Calls Tryz.prog 147 #[.agg #[.int .i64 t.size,.int .i64 t.log,.int .i64 t.own,.slice A n c],.int .i64 k,.int .i64 who,.agg #[.int .i64 r.who,.int .i64 r.EY,.bool r.used],.slice B m d] w fun E w'=>∃ A' c' n',E=.returned (.tuple #[.agg #[.int .i64 (Sw.CB ⟨t,xs⟩ k who r ps).1.head.size,.int .i64 (Sw.CB ⟨t,xs⟩ k who r ps).1.head.log,.int .i64 (Sw.CB ⟨t,xs⟩ k who r ps).1.head.own,.slice A' n' c'],.bool (Sw.CB ⟨t,xs⟩ k who r ps).2])∧Ga w' w.heap.size A' c' n' (Sw.CB ⟨t,xs⟩ k who r ps).1.done∧Ex w w':=by
 obtain⟨rh,rf,ru⟩:=r
 have hl:=Lib.hid hxs.1
 cases g1:Sw.DF ⟨t,xs⟩
 case false=>
  have e:Sw.CB ⟨t,xs⟩ k who ⟨rh,rf,ru⟩ ps=(Sw.Ra,false):=by simp[Sw.CB,g1]
  have He:=Lib.hid e;clear e
  go_enter Tryz.func147,Tryz.ntmps147
  go_wp2_with (go_at_call 47;apply Calls.mono;apply F_;(exact Bt);rintro E w1 ⟨rfl,hb⟩;obtain⟨hc,hf,hz⟩:=xy hb)
  refine bodyPost_ret (v:=.tuple #[.agg #[.int .i64 0,.int .i64 0,.int .i64 0,.slice none 0 0],.bool false]) (by simp[results,Tryz.results147,go_sem, *]) rfl ?_
  exact⟨none,0,0,by rw[He.out];rfl,by rw[He.out];exact Ow.nil _ _,AA⟩
 have h8:n≤8:=by have:=K7 g1;have:=hl.out;simp at *;omega
 cases g2:Sw.Br who 1 5
 case false=>
  have e:Sw.CB ⟨t,xs⟩ k who ⟨rh,rf,ru⟩ ps=(⟨t,xs⟩,false):=by unfold Sw.CB;rw[if_pos g1,if_neg (by simp[Sw.G7,g2])]
  have He:=Lib.hid e;clear e
  go_enter Tryz.func147,Tryz.ntmps147
  go_wp2_with (first|(go_at_call 47;apply Calls.mono;apply F_;(exact Bt);rintro E w1 ⟨rfl,hb⟩;obtain⟨hc,hf,hz⟩:=xy hb)|(go_at_call 96;apply Calls.mono;apply Jf;(exact Bt);(exact Bu);rintro E w1 ⟨A',c',rfl,hr,hb⟩;obtain⟨hc,hf,hz⟩:=xy hb)|(go_at_call 48;refine (Aw _ _ _ _).mono ?_;rintro E w' ⟨rfl,rfl⟩)|(go_at_call 178;apply Calls.mono;apply PU;(apply Rs.A8 hxs;(exact AO));rintro E w' ⟨rfl,rfl⟩)|(go_at_call 179;apply Calls.mono;apply Gw;(apply Rs.A8 hps;(exact AO));rintro E wq ⟨rfl,hbq⟩;obtain⟨hcq,XP,QA⟩:=xy hbq))
  refine bodyPost_ret (v:=.tuple #[.agg #[.int .i64 t.size,.int .i64 t.log,.int .i64 t.own,.slice A' n c'],.bool false]) (by simp[results,Tryz.results147,go_sem, *]) rfl ?_
  exact⟨A',c',n,by rw[He.out],by rw[He.out];exact (hr.keep (by (exact AO))).less (by exact Aq),AA⟩
 by_cases h3:who=rh
 case neg=>
  have g3:(rh != who)=true:=by rw[bne_iff_ne];exact Ne.symm h3
  have H3:=Lib.hid h3;clear h3
  have e:Sw.CB ⟨t,xs⟩ k who ⟨rh,rf,ru⟩ ps=(⟨t,xs⟩,false):=by unfold Sw.CB;rw[if_pos g1,if_neg (by simp[Sw.G7,H3.out])]
  have He:=Lib.hid e;clear e
  go_enter Tryz.func147,Tryz.ntmps147
  go_wp2_with (first|(go_at_call 47;apply Calls.mono;apply F_;(exact Bt);rintro E w1 ⟨rfl,hb⟩;obtain⟨hc,hf,hz⟩:=xy hb)|(go_at_call 96;apply Calls.mono;apply Jf;(exact Bt);(exact Bu);rintro E w1 ⟨A',c',rfl,hr,hb⟩;obtain⟨hc,hf,hz⟩:=xy hb)|(go_at_call 48;refine (Aw _ _ _ _).mono ?_;rintro E w' ⟨rfl,rfl⟩)|(go_at_call 178;apply Calls.mono;apply PU;(apply Rs.A8 hxs;(exact AO));rintro E w' ⟨rfl,rfl⟩)|(go_at_call 179;apply Calls.mono;apply Gw;(apply Rs.A8 hps;(exact AO));rintro E wq ⟨rfl,hbq⟩;obtain⟨hcq,XP,QA⟩:=xy hbq))
  refine bodyPost_ret (v:=.tuple #[.agg #[.int .i64 t.size,.int .i64 t.log,.int .i64 t.own,.slice A' n c'],.bool false]) (by simp[results,Tryz.results147,go_sem, *]) rfl ?_
  exact⟨A',c',n,by rw[He.out],by rw[He.out];exact (hr.keep (by (exact AO))).less (by exact Aq),AA⟩
 subst h3
 cases ru
 case true=>
  have e:Sw.CB ⟨t,xs⟩ k who ⟨who,rf,true⟩ ps=(⟨t,xs⟩,false):=by unfold Sw.CB;rw[if_pos g1,if_neg (by simp[Sw.G7])]
  have He:=Lib.hid e;clear e
  go_enter Tryz.func147,Tryz.ntmps147
  go_wp2_with (first|(go_at_call 47;apply Calls.mono;apply F_;(exact Bt);rintro E w1 ⟨rfl,hb⟩;obtain⟨hc,hf,hz⟩:=xy hb)|(go_at_call 96;apply Calls.mono;apply Jf;(exact Bt);(exact Bu);rintro E w1 ⟨A',c',rfl,hr,hb⟩;obtain⟨hc,hf,hz⟩:=xy hb)|(go_at_call 48;refine (Aw _ _ _ _).mono ?_;rintro E w' ⟨rfl,rfl⟩)|(go_at_call 178;apply Calls.mono;apply PU;(apply Rs.A8 hxs;(exact AO));rintro E w' ⟨rfl,rfl⟩)|(go_at_call 179;apply Calls.mono;apply Gw;(apply Rs.A8 hps;(exact AO));rintro E wq ⟨rfl,hbq⟩;obtain⟨hcq,XP,QA⟩:=xy hbq))
  refine bodyPost_ret (v:=.tuple #[.agg #[.int .i64 t.size,.int .i64 t.log,.int .i64 t.own,.slice A' n c'],.bool false]) (by simp[results,Tryz.results147,go_sem, *]) rfl ?_
  exact⟨A',c',n,by rw[He.out],by rw[He.out];exact (hr.keep (by (exact AO))).less (by exact Aq),AA⟩
 cases g5:Ph xs k
 case true=>
  have H5:=Lib.hid (show k∈xs by simpa [Ph] using g5)
  have e:Sw.CB ⟨t,xs⟩ k who ⟨who,rf,false⟩ ps=(⟨t,xs⟩,false):=by unfold Sw.CB;rw[if_pos g1,if_neg (by simp[Sw.G7,H5.out])]
  have He:=Lib.hid e;clear e
  go_enter Tryz.func147,Tryz.ntmps147
  go_wp2_with (first|(go_at_call 47;apply Calls.mono;apply F_;(exact Bt);rintro E w1 ⟨rfl,hb⟩;obtain⟨hc,hf,hz⟩:=xy hb)|(go_at_call 96;apply Calls.mono;apply Jf;(exact Bt);(exact Bu);rintro E w1 ⟨A',c',rfl,hr,hb⟩;obtain⟨hc,hf,hz⟩:=xy hb)|(go_at_call 48;refine (Aw _ _ _ _).mono ?_;rintro E w' ⟨rfl,rfl⟩)|(go_at_call 178;apply Calls.mono;apply PU;(apply Rs.A8 hxs;(exact AO));rintro E w' ⟨rfl,rfl⟩)|(go_at_call 179;apply Calls.mono;apply Gw;(apply Rs.A8 hps;(exact AO));rintro E wq ⟨rfl,hbq⟩;obtain⟨hcq,XP,QA⟩:=xy hbq))
  refine bodyPost_ret (v:=.tuple #[.agg #[.int .i64 t.size,.int .i64 t.log,.int .i64 t.own,.slice A' n c'],.bool false]) (by simp[results,Tryz.results147,go_sem, *]) rfl ?_
  exact⟨A',c',n,by rw[He.out],by rw[He.out];exact (hr.keep (by (exact AO))).less (by exact Aq),AA⟩
 have H5:=Lib.hid (show k ∉ xs by simpa [Ph] using g5)
 cases g6:Sw.Hu t.own k ⟨who,rf,false⟩ ps
 case false=>
  have e:Sw.CB ⟨t,xs⟩ k who ⟨who,rf,false⟩ ps=(⟨t,xs⟩,false):=by unfold Sw.CB;rw[if_pos g1,if_neg (by simp[Sw.G7,g6])]
  have He:=Lib.hid e;clear e
  go_enter Tryz.func147,Tryz.ntmps147
  go_wp2_with (first|(go_at_call 47;apply Calls.mono;apply F_;(exact Bt);rintro E w1 ⟨rfl,hb⟩;obtain⟨hc,hf,hz⟩:=xy hb)|(go_at_call 96;apply Calls.mono;apply Jf;(exact Bt);(exact Bu);rintro E w1 ⟨A',c',rfl,hr,hb⟩;obtain⟨hc,hf,hz⟩:=xy hb)|(go_at_call 48;refine (Aw _ _ _ _).mono ?_;rintro E w' ⟨rfl,rfl⟩)|(go_at_call 178;apply Calls.mono;apply PU;(apply Rs.A8 hxs;(exact AO));rintro E w' ⟨rfl,rfl⟩)|(go_at_call 179;apply Calls.mono;apply Gw;(apply Rs.A8 hps;(exact AO));rintro E wq ⟨rfl,hbq⟩;obtain⟨hcq,XP,QA⟩:=xy hbq))
  refine bodyPost_ret (v:=.tuple #[.agg #[.int .i64 t.size,.int .i64 t.log,.int .i64 t.own,.slice A' n c'],.bool false]) (by simp[results,Tryz.results147,go_sem, *]) rfl ?_
  exact⟨A',c',n,by rw[He.out],by rw[He.out];exact (hr.keep (by (exact AO))).less (by exact Aq),AA⟩
 have e:Sw.CB ⟨t,xs⟩ k who ⟨who,rf,false⟩ ps=(⟨t,Sw.insert k xs⟩,true):=by unfold Sw.CB;rw[if_pos g1,if_pos (by simp[Sw.G7,g2,H5.out,g6])]
 have He:=Lib.hid e;clear e
 have HS:=Lib.hid (WW g1)
 go_enter Tryz.func147,Tryz.ntmps147
 go_wp2_with (first|(go_at_call 180;apply Calls.mono;apply bX;(exact Bt);(exact Bu);rintro E w1 ⟨A',c',rfl,LK,hb⟩;obtain⟨hc,hf,hz⟩:=xy hb)|(go_at_call 47;apply Calls.mono;apply F_;(exact Bt);rintro E w1 ⟨rfl,hb⟩;obtain⟨hc,hf,hz⟩:=xy hb)|(go_at_call 96;apply Calls.mono;apply Jf;(exact Bt);(exact Bu);rintro E w1 ⟨A',c',rfl,hr,hb⟩;obtain⟨hc,hf,hz⟩:=xy hb)|(go_at_call 48;refine (Aw _ _ _ _).mono ?_;rintro E w' ⟨rfl,rfl⟩)|(go_at_call 178;apply Calls.mono;apply PU;(apply Rs.A8 hxs;(exact AO));rintro E w' ⟨rfl,rfl⟩)|(go_at_call 179;apply Calls.mono;apply Gw;(apply Rs.A8 hps;(exact AO));rintro E wq ⟨rfl,hbq⟩;obtain⟨hcq,XP,QA⟩:=xy hbq))
 refine bodyPost_ret (v:=.tuple #[.agg #[.int .i64 t.size,.int .i64 t.log,.int .i64 t.own,.slice A' (n+1) c'],.bool true]) (by simp[results,Tryz.results147,go_sem, *]) rfl ?_
 exact⟨A',c',n+1,by rw[He.out],by rw[He.out];exact (LK.keep AO).less Aq,AA⟩
end Go.Proofs.YtgaflnpmilikcaaGreat
