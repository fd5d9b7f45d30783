/- Texts joined: DoG, DoH, DoI, Tick, ImpG. -/
import Derived.Test.YtgaflnpmilikcaaGreatPx23
import Derived.Test.YtgaflnpmilikcaaGreatPx22
import Derived.Test.YtgaflnpmilikcaaGreatPx27
import Derived.Test.YtgaflnpmilikcaaGreatPx24
import Derived.Test.YtgaflnpmilikcaaGreatPx28
import Derived.Test.YtgaflnpmilikcaaGreatPx19
import Derived.Test.YtgaflnpmilikcaaGreatPx12
import Derived.Test.YtgaflnpmilikcaaGreatPx14
set_option maxRecDepth 100000
set_option linter.unusedSimpArgs false
set_option linter.unusedVariables false
namespace Go.Proofs.YtgaflnpmilikcaaGreat
open Go.RowKit Go
set_option maxHeartbeats 2000000
theorem Xq (aL:Option Addr) (Ae AU:Nat) (aP:Option Addr) (Ag AY:Nat) (aD:Option Addr) (Ac AQ:Nat) (aN:Option Addr) (Ad Aa:Nat) (aS:Option Addr) (Af Ab:Nat) (m:Sw.CV) (ru rn rk:Int) (t:Nat) (rh rp:Int) (rows:List Sw.Row) (lo:Nat) (τ:Nat→Nat) (w:World) (hM:Cn τ w lo aL Ae AU aP Ag AY aD Ac AQ aN Ad Aa aS Af Ab m) (hok:Sw.IL m rows) (ht:t<8) (hlo:lo≤w.heap.size):Calls Tryz.prog 203 #[.agg #[.slice aL AU Ae,.slice aP AY Ag,.slice aD AQ Ac,.int .i64 m.clock,.slice aN Aa Ad,.slice aS Ab Af],.agg #[.int .i64 ru,.int .i64 rn,.int .i64 rk,.int .i64 t,.int .i64 rh,.int .i64 rp]] w fun E w'=>Jq lo τ w w' E (Sw.settle m ⟨ru,rn,rk,t,rh,rp⟩ (Sw.BH m.AJ t)):=by
 have K5:=hM.log
 have Mr:=hM.AJ
 have zK:=hM.Ai
 have og:m.AJ.length≤8:=hok.Ms
 have pF:m.log.length≤40:=(Sw.B_.1 hok.fold).1
 have l1:=hM.log.ow.1
 have l3:=hM.AJ.ow.1
 have aU:AY≤4194304:=by have:=hM.Ai.ow.1;have:=(Sw.Ci.1 hok.Rp).1;omega
 have i0:(0:Int)≤(t:Int):=by omega
 have i1:(t:Int)<8:=by omega
 cases h3:Sw.BH m.AJ t
 case none=>
  have e:Sw.settle m ⟨ru,rn,rk,t,rh,rp⟩ none=(m,3):=rfl
  rw[e]
  have HD:=Lib.hid (EJ h3)
  clear e l3 h3 hok l1
  go_enter Tryz.func203,Tryz.ntmps203
  go_wp2_with (go_at_call 210;apply Calls.mono;apply Cx;(apply CK.Es Mr;(exact AO));rintro E w' ⟨rfl,rfl⟩;rw[HD.out])
  refine bodyPost_ret (v:=.tuple #[.agg #[.slice aL AU Ae,.slice aP AY Ag,.slice aD AQ Ac,.int .i64 m.clock,.slice aN Aa Ad,.slice aS Ab Af],.int .i64 3]) (by simp[results,Tryz.results203,go_sem, *]) rfl ?_
  exact⟨_,_,_,_,_,_,_,_,_,_,_,_,_,_,_,τ,rfl,hM.Av AO,fun _ _=>rfl,AA⟩
 rename_i kd
 obtain⟨d,hd,hdt⟩:=Sw.Dc h3
 have hk:kd<AQ:=by have:=(List.getElem?_eq_some_iff.1 hd).1;omega
 have HD:=Lib.hid (EI h3)
 have hgd:=Sw.CP (z:=Sw.EE) hd
 obtain⟨gD,y,rfl,R4,Ur,hy,d0,d1,d2,d3,d4,aW⟩:=MX hM.AJ.ow hk
 obtain rfl:y=d:=Option.some.inj (hy.symm.trans hd)
 have hby:=(Sw.CZ.1 (hok.AJ.get hd)).2.2.2.2.2
 have ABc:0≤y.BN:=by omega
 clear hok hby
 have k0:(0:Int)≤(kd:Int):=by omega
 have k1:(kd:Int)<(AQ:Int):=by omega
 have k2:¬(kd:Int)<0:=by omega
 by_cases h4:y.BN=0
 ·have g4:(y.BN==0)=true:=by simpa using h4
  have e:Sw.settle m ⟨ru,rn,rk,t,rh,rp⟩ (some kd)=(m,3):=by unfold Sw.settle;dsimp only;rw[hgd,if_pos (by simp[Sw.held,h4])]
  rw[e]
  clear e l3 h3 hd hdt hy hgd l1 h4
  go_enter Tryz.func203,Tryz.ntmps203
  go_wp2_with (go_at_call 210;apply Calls.mono;apply Cx;(apply CK.Es Mr;(exact AO));rintro E w' ⟨rfl,rfl⟩;rw[HD.out])
  refine bodyPost_ret (v:=.tuple #[.agg #[.slice aL AU Ae,.slice aP AY Ag,.slice (some ⟨gD,0,none⟩) AQ Ac,.int .i64 m.clock,.slice aN Aa Ad,.slice aS Ab Af],.int .i64 3]) (by simp[results,Tryz.results203,go_sem, *]) rfl ?_
  exact⟨_,_,_,_,_,_,_,_,_,_,_,_,_,_,_,τ,rfl,hM.Av AO,fun _ _=>rfl,AA⟩
 have g4:(y.BN==0)=false:=by simpa using h4
 have hh:¬Sw.held y=false:=by simp[Sw.held];omega
 by_cases h5:y.BP=ru
 case neg=>
  have g5:(y.BP != ru)=true:=by simpa using h5
  have e:Sw.settle m ⟨ru,rn,rk,t,rh,rp⟩ (some kd)=(m,2):=by unfold Sw.settle;dsimp only;rw[hgd,if_neg hh,if_pos h5]
  rw[e]
  clear e l3 h3 hd hdt hy hgd h5 hh l1
  go_enter Tryz.func203,Tryz.ntmps203
  go_wp2_with (go_at_call 210;apply Calls.mono;apply Cx;(apply CK.Es Mr;(exact AO));rintro E w' ⟨rfl,rfl⟩;rw[HD.out])
  refine bodyPost_ret (v:=.tuple #[.agg #[.slice aL AU Ae,.slice aP AY Ag,.slice (some ⟨gD,0,none⟩) AQ Ac,.int .i64 m.clock,.slice aN Aa Ad,.slice aS Ab Af],.int .i64 2]) (by simp[results,Tryz.results203,go_sem, *]) rfl ?_
  exact⟨_,_,_,_,_,_,_,_,_,_,_,_,_,_,_,τ,rfl,hM.Av AO,fun _ _=>rfl,AA⟩
 have g5:(y.BP != ru)=false:=by simpa using h5
 by_cases h6:m.log.length=40
 ·have g6:((AU:Int)==40)=true:=by simp;omega
  have e:Sw.settle m ⟨ru,rn,rk,t,rh,rp⟩ (some kd)=(m,6):=by unfold Sw.settle;dsimp only;rw[hgd,if_neg hh,if_neg (by simpa using h5),if_pos h6]
  rw[e]
  clear e l3 h3 hd hdt hy hgd h5 hh l1 h6
  go_enter Tryz.func203,Tryz.ntmps203
  go_wp2_with (go_at_call 210;apply Calls.mono;apply Cx;(apply CK.Es Mr;(exact AO));rintro E w' ⟨rfl,rfl⟩;rw[HD.out])
  refine bodyPost_ret (v:=.tuple #[.agg #[.slice aL AU Ae,.slice aP AY Ag,.slice (some ⟨gD,0,none⟩) AQ Ac,.int .i64 m.clock,.slice aN Aa Ad,.slice aS Ab Af],.int .i64 6]) (by simp[results,Tryz.results203,go_sem, *]) rfl ?_
  exact⟨_,_,_,_,_,_,_,_,_,_,_,_,_,_,_,τ,rfl,hM.Av AO,fun _ _=>rfl,AA⟩
 have g6:((AU:Int)==40)=false:=by simp;omega
 have e:Sw.settle m ⟨ru,rn,rk,t,rh,rp⟩ (some kd)=({ m with Ai:=Sw.Dy m.Ai y.BP y.Al,log:=m.log ++ [⟨2,t,y.BN,y.Al⟩],AJ:=m.AJ.eraseIdx kd },1):=by unfold Sw.settle;dsimp only;rw[hgd,if_neg hh,if_neg (by simpa using h5),if_neg h6]
 rw[e]
 have oI:AU≤40:=by omega
 have XO:AQ≤4194304:=by omega
 have hT:=Lib.hid hdt
 clear e l3 h3 hd hdt hy hgd h5 hh l1 h6
 go_enter Tryz.func203,Tryz.ntmps203
 go_wp2_with (first|(go_at_call 210;apply Calls.mono;apply Cx;(apply CK.Es Mr;(exact AO));rintro E w' ⟨rfl,rfl⟩;rw[HD.out])|(go_at_call 175;apply Calls.mono;apply F3;(exact Bt);(exact Bu);rintro E w1 ⟨A',c',rfl,LK,hb⟩;obtain⟨hc,hf,hz⟩:=xy hb)|(at_builtin;apply BL (lo:=lo) Wl Qw rfl rfl rfl rfl;(exact Ow.keep (K5.ow) AO);(refine Rs.new [⟨2,y.ticket,y.BN,y.Al⟩] (by (first|rfl|(simp only[BO];done)|omega)) rfl rfl (fun _=>rfl) (by omega));omega;(exact Aq);intro A1 c1 w2 ho1 Ap Bo Ay Ah;clear Ay;obtain⟨hB0,Ta⟩:=Ch.DK Ap (g:=w.heap.size) (by exact Aq) (Ow.apart (K5.ow) (by omega));obtain⟨hB1,hF1⟩:=Ch.DK Ap (g:=w.heap.size+1) (by exact Aq) (Ow.apart (K5.ow) (by omega));obtain⟨hB2,hF2⟩:=Ch.DK Ap (g:=w.heap.size+1+1) (by exact Aq) (Ow.apart (K5.ow) (by omega));have QB:=Ap.size;(try simp only[BO] at QB)))
 rw[hT.out] at ho1
 have m1:=Cn.Sv ((hM.CX (τ':=fun _=>0) (Nat.le_refl _)).Av AO) LK (Nat.le_refl _) Aq (kE (by assumption) (kR _ _))
 have m2:=Cn.logged (m1.box (g0:=w.heap.size) (g1:=w.heap.size+4) KA (Lj Qh Aq)) ho1 Ap Bo
 have m3:=m2.box (w':=w2.setCell ⟨w.heap.size,0,none⟩ (.slice A1 (AU+1) c1)) (g0:=w.heap.size) (g1:=w.heap.size+4) KA (Lj (Lj Qh Aq) Aq)
 have hS:=Ch.trans' (show Ch (SM lo τ) w _ from AA) Ap (fun i _ h=>hM.xO h)
 apply Calls.mono
 apply (Yn (k:=kd))
 ·exact m3.AJ.Es (kR _ _)
 ·exact hk
 ·exact XO
 rintro E w3 ⟨A3,c3,rfl,ho3,hb3⟩
 have hst:=xr hb3
 (try simp only[BO] at hst)
 obtain⟨hc3,hf3,hz3⟩:=hst
 go_wp2_with fail
 refine bodyPost_ret (v:=.tuple #[.agg #[.slice A1 (AU+1) c1,.slice A' AY c',.slice A3 (AQ-1) c3,.int .i64 m.clock,.slice aN Aa Ad,.slice aS Ab Af],.int .i64 1]) (by simp[results,Tryz.results203,go_sem, *]) rfl ?_
 have m4:=Cn.dealt m3 ho3 (Nat.le_refl _) Aq (kE hb3 (kR _ _))
 exact⟨_,_,_,_,_,_,_,_,_,_,_,_,_,_,_,_,rfl,m4.box (g0:=w.heap.size) (g1:=w.heap.size+4) KA (Lj (Lj (Lj Qh Aq) Aq) Aq),fun b hb=>(if_pos Aq).trans ((if_pos Aq).trans ((if_pos Aq).trans (if_pos hb))),AA⟩
set_option maxHeartbeats 2000000
theorem Mj {τ τ1:Nat→Nat} {w0 W w1 w':World} {lo c:Nat} {bL bP bD bN bS:Option Addr} {Bg BR Bf BV Bh Ba Bd Bb Bc BZ:Nat} {x:Sw.CV × Int} (ho:Cn τ1 w1 lo bL Bg BR bP Bf BV bD Bh Ba bN Bd Bb bS Bc BZ x.1) (hτ:∀ b,b<W.heap.size→τ1 b=glue τ w0.heap.size (fun _=>0) b) (hb:Ch (SM lo (glue τ w0.heap.size (fun _=>0))) W w1)
  (h0:Ex w0 W) (hc:w0.heap.size+c≤W.heap.size) (hx:Ch (BX w0.heap.size (w0.heap.size+c)) w1 w'):Jq lo τ w0 w' (.returned (.tuple #[.agg #[.slice bL BR Bg,.slice bP BV Bf,.slice bD Ba Bh,.int .i64 x.1.clock,.slice bN Bb Bd,.slice bS BZ Bc],.int .i64 x.2])) x:=by
 refine⟨_,_,_,_,_,_,_,_,_,_,_,_,_,_,_,τ1,rfl,ho.box hx (fun b h1 h2=>(hτ b (by omega)).trans (if_neg (by omega))),fun b hb=>(hτ b (Nat.lt_of_lt_of_le hb h0.size)).trans (if_pos hb),?_⟩
 refine (Ch.trans' (Ex.ch h0) hb (fun i hi h=>?_)).trans' hx (fun i hi h=>absurd h.1 (by omega))
 have h1:=h.1;have h2:=h.2.1;have h3:=h.2.2
 rw[show glue τ w0.heap.size (fun _=>0) i=τ i from if_pos hi] at h2 h3
 exact⟨h1,h2,h3⟩
theorem bY (aL:Option Addr) (Ae AU:Nat) (aP:Option Addr) (Ag AY:Nat) (aD:Option Addr) (Ac AQ:Nat) (aN:Option Addr) (Ad Aa:Nat) (aS:Option Addr) (Af Ab:Nat) (m:Sw.CV) (r:Sw.Ee) (rows:List Sw.Row) (lo:Nat) (τ:Nat→Nat) (w:World) (hM:Cn τ w lo aL Ae AU aP Ag AY aD Ac AQ aN Ad Aa aS Af Ab m) (hok:Sw.IL m rows) (hr:Sw.CR r=true) (hlo:lo≤w.heap.size):Calls Tryz.prog 174 #[.agg #[.slice aL AU Ae,.slice aP AY Ag,.slice aD AQ Ac,.int .i64 m.clock,.slice aN Aa Ad,.slice aS Ab Af],.agg #[.int .i64 r.user,.int .i64 r.n,.int .i64 r.kind,.int .i64 r.ticket,.int .i64 r.who,.int .i64 r.Al]] w fun E w'=>Jq lo τ w w' E (Sw.effect m r):=by
 have hr':=Sw.EB.1 hr
 have hrow:=(Ty hok).1
 obtain⟨ru,rn,rk,rt,rh,rp⟩:=r
 dsimp only at hr'
 obtain⟨t,rfl⟩:=Int.eq_ofNat_of_zero_le (show 0≤rt by omega)
 have ht:t<8:=by omega
 obtain⟨⟨u1,u5⟩,-,hk,-,-⟩:=hr'
 have HR:=Lib.hid hr
 have HW:=Lib.hid hrow
 have HK:=Lib.hid hok
 clear hr hrow hok
 have hG:=hM.CX (τ':=fun _=>0) (Nat.le_refl _)
 have hM1:=hM.rm
 rcases (show rk=1∨rk=2∨rk=3∨rk=4∨rk=5∨rk=6 by omega) with rfl|rfl|rfl|rfl|rfl|rfl
 ·have e:Sw.effect m ⟨ru,rn,1,t,rh,rp⟩=Sw.issue m ⟨ru,rn,1,t,rh,rp⟩ (Sw.rowAt rows t):=by unfold Sw.effect;rw[HW.out];rfl
  rw[e];clear e hk
  go_enter Tryz.func174,Tryz.ntmps174
  go_wp2_with fail
  apply Calls.mono
  apply (Yr (m:=m) (r:=⟨ru,rn,1,t,rh,rp⟩) (rows:=rows) (τ:=glue τ w.heap.size (fun _=>0)))
  ·exact hG.Av AO
  ·exact HK.out
  ·exact HR.out
  ·rfl
  ·exact Aq
  rintro E w1 ⟨bL,Bg,BR,bP,Bf,BV,bD,Bh,Ba,bN,Bd,Bb,bS,Bc,BZ,τ1,rfl,ho,hτ,hb⟩
  obtain⟨hB0,Ta⟩:=Ch.Gv hb (g:=w.heap.size+1+1) Aq (if_neg (by omega))
  have hz:=hb.size
  (try simp only[BO] at hz)
  go_wp2_with fail
  refine bodyPost_ret (v:=.tuple #[.agg #[.slice bL BR Bg,.slice bP BV Bf,.slice bD Ba Bh,.int .i64 (Sw.issue m ⟨ru,rn,1,t,rh,rp⟩ (Sw.rowAt rows t)).1.clock,.slice bN Bb Bd,.slice bS BZ Bc],.int .i64 (Sw.issue m ⟨ru,rn,1,t,rh,rp⟩ (Sw.rowAt rows t)).2]) (by simp[results,Tryz.results174,go_sem, *]) rfl ?_
  exact Mj (c:=3) ho hτ hb AA Aq KA
 ·have e:Sw.effect m ⟨ru,rn,2,t,rh,rp⟩=Sw.offer m ⟨ru,rn,2,t,rh,rp⟩ (Sw.rowAt rows t) (Sw.BH m.AJ t):=by unfold Sw.effect;rw[HW.out];rfl
  rw[e];clear e hk
  go_enter Tryz.func174,Tryz.ntmps174
  go_wp2_with fail
  apply Calls.mono
  apply (Yo (m:=m) (rows:=rows) (τ:=glue τ w.heap.size (fun _=>0)))
  ·exact hG.Av AO
  ·exact HK.out
  ·exact ht
  ·exact Aq
  rintro E w1 ⟨bL,Bg,BR,bP,Bf,BV,bD,Bh,Ba,bN,Bd,Bb,bS,Bc,BZ,τ1,rfl,ho,hτ,hb⟩
  obtain⟨hB0,Ta⟩:=Ch.Gv hb (g:=w.heap.size+1+1) Aq (if_neg (by omega))
  have hz:=hb.size
  (try simp only[BO] at hz)
  go_wp2_with fail
  refine bodyPost_ret (v:=.tuple #[.agg #[.slice bL BR Bg,.slice bP BV Bf,.slice bD Ba Bh,.int .i64 (Sw.offer m ⟨ru,rn,2,t,rh,rp⟩ (Sw.rowAt rows t) (Sw.BH m.AJ t)).1.clock,.slice bN Bb Bd,.slice bS BZ Bc],.int .i64 (Sw.offer m ⟨ru,rn,2,t,rh,rp⟩ (Sw.rowAt rows t) (Sw.BH m.AJ t)).2]) (by simp[results,Tryz.results174,go_sem, *]) rfl ?_
  exact Mj (c:=3) ho hτ hb AA Aq KA
 ·have e:Sw.effect m ⟨ru,rn,3,t,rh,rp⟩=Sw.ED m ⟨ru,rn,3,t,rh,rp⟩ (Sw.rowAt rows t) (Sw.BH m.AJ t):=by unfold Sw.effect;rw[HW.out];rfl
  rw[e];clear e hk
  go_enter Tryz.func174,Tryz.ntmps174
  go_wp2_with fail
  apply Calls.mono
  apply (b_ (m:=m) (rows:=rows) (τ:=glue τ w.heap.size (fun _=>0)))
  ·exact hG.Av AO
  ·exact HK.out
  ·exact ht
  ·exact Aq
  rintro E w1 ⟨bL,Bg,BR,bP,Bf,BV,bD,Bh,Ba,bN,Bd,Bb,bS,Bc,BZ,τ1,rfl,ho,hτ,hb⟩
  obtain⟨hB0,Ta⟩:=Ch.Gv hb (g:=w.heap.size+1+1) Aq (if_neg (by omega))
  have hz:=hb.size
  (try simp only[BO] at hz)
  go_wp2_with fail
  refine bodyPost_ret (v:=.tuple #[.agg #[.slice bL BR Bg,.slice bP BV Bf,.slice bD Ba Bh,.int .i64 (Sw.ED m ⟨ru,rn,3,t,rh,rp⟩ (Sw.rowAt rows t) (Sw.BH m.AJ t)).1.clock,.slice bN Bb Bd,.slice bS BZ Bc],.int .i64 (Sw.ED m ⟨ru,rn,3,t,rh,rp⟩ (Sw.rowAt rows t) (Sw.BH m.AJ t)).2]) (by simp[results,Tryz.results174,go_sem, *]) rfl ?_
  exact Mj (c:=3) ho hτ hb AA Aq KA
 ·have e:Sw.effect m ⟨ru,rn,4,t,rh,rp⟩=Sw.Gf m ⟨ru,rn,4,t,rh,rp⟩ (Sw.BH m.AJ t):=by unfold Sw.effect;rw[HW.out];rfl
  rw[e];clear e hk
  go_enter Tryz.func174,Tryz.ntmps174
  go_wp2_with fail
  apply Calls.mono
  apply (bq (m:=m) (rows:=rows) (τ:=glue τ w.heap.size (fun _=>0)))
  ·exact hG.Av AO
  ·exact HK.out
  ·exact ht
  ·exact u1
  ·exact u5
  ·exact Aq
  rintro E w1 ⟨bL,Bg,BR,bP,Bf,BV,bD,Bh,Ba,bN,Bd,Bb,bS,Bc,BZ,τ1,rfl,ho,hτ,hb⟩
  obtain⟨hB0,Ta⟩:=Ch.Gv hb (g:=w.heap.size+1+1) Aq (if_neg (by omega))
  have hz:=hb.size
  (try simp only[BO] at hz)
  go_wp2_with fail
  refine bodyPost_ret (v:=.tuple #[.agg #[.slice bL BR Bg,.slice bP BV Bf,.slice bD Ba Bh,.int .i64 (Sw.Gf m ⟨ru,rn,4,t,rh,rp⟩ (Sw.BH m.AJ t)).1.clock,.slice bN Bb Bd,.slice bS BZ Bc],.int .i64 (Sw.Gf m ⟨ru,rn,4,t,rh,rp⟩ (Sw.BH m.AJ t)).2]) (by simp[results,Tryz.results174,go_sem, *]) rfl ?_
  exact Mj (c:=3) ho hτ hb AA Aq KA
 ·have e:Sw.effect m ⟨ru,rn,5,t,rh,rp⟩=Sw.settle m ⟨ru,rn,5,t,rh,rp⟩ (Sw.BH m.AJ t):=by unfold Sw.effect;rw[HW.out];rfl
  rw[e];clear e hk
  go_enter Tryz.func174,Tryz.ntmps174
  go_wp2_with fail
  apply Calls.mono
  apply (Xq (m:=m) (rows:=rows) (τ:=glue τ w.heap.size (fun _=>0)))
  ·exact hG.Av AO
  ·exact HK.out
  ·exact ht
  ·exact Aq
  rintro E w1 ⟨bL,Bg,BR,bP,Bf,BV,bD,Bh,Ba,bN,Bd,Bb,bS,Bc,BZ,τ1,rfl,ho,hτ,hb⟩
  obtain⟨hB0,Ta⟩:=Ch.Gv hb (g:=w.heap.size+1+1) Aq (if_neg (by omega))
  have hz:=hb.size
  (try simp only[BO] at hz)
  go_wp2_with fail
  refine bodyPost_ret (v:=.tuple #[.agg #[.slice bL BR Bg,.slice bP BV Bf,.slice bD Ba Bh,.int .i64 (Sw.settle m ⟨ru,rn,5,t,rh,rp⟩ (Sw.BH m.AJ t)).1.clock,.slice bN Bb Bd,.slice bS BZ Bc],.int .i64 (Sw.settle m ⟨ru,rn,5,t,rh,rp⟩ (Sw.BH m.AJ t)).2]) (by simp[results,Tryz.results174,go_sem, *]) rfl ?_
  exact Mj (c:=3) ho hτ hb AA Aq KA
 ·have e:Sw.effect m ⟨ru,rn,6,t,rh,rp⟩=Sw.enter m ⟨ru,rn,6,t,rh,rp⟩ (Sw.rowAt rows t) (Sw.BH m.AJ t):=by unfold Sw.effect;rw[HW.out];rfl
  rw[e];clear e hk
  go_enter Tryz.func174,Tryz.ntmps174
  go_wp2_with fail
  apply Calls.mono
  apply (Yv (m:=m) (rows:=rows) (τ:=glue τ w.heap.size (fun _=>0)))
  ·exact hG.Av AO
  ·exact HK.out
  ·exact ht
  ·exact u1
  ·exact u5
  ·exact Aq
  rintro E w1 ⟨bL,Bg,BR,bP,Bf,BV,bD,Bh,Ba,bN,Bd,Bb,bS,Bc,BZ,τ1,rfl,ho,hτ,hb⟩
  obtain⟨hB0,Ta⟩:=Ch.Gv hb (g:=w.heap.size+1+1) Aq (if_neg (by omega))
  have hz:=hb.size
  (try simp only[BO] at hz)
  go_wp2_with fail
  refine bodyPost_ret (v:=.tuple #[.agg #[.slice bL BR Bg,.slice bP BV Bf,.slice bD Ba Bh,.int .i64 (Sw.enter m ⟨ru,rn,6,t,rh,rp⟩ (Sw.rowAt rows t) (Sw.BH m.AJ t)).1.clock,.slice bN Bb Bd,.slice bS BZ Bc],.int .i64 (Sw.enter m ⟨ru,rn,6,t,rh,rp⟩ (Sw.rowAt rows t) (Sw.BH m.AJ t)).2]) (by simp[results,Tryz.results174,go_sem, *]) rfl ?_
  exact Mj (c:=3) ho hτ hb AA Aq KA
set_option maxHeartbeats 2000000
theorem Cn.Il {aL aP aD:Option Addr} {Ae AU Ag AY Ac AQ Ad Aa Af Ab:Nat} {m:Sw.CV} {τ:Nat→Nat} {w:World} {lo gN gS k:Nat} (h:Cn τ w lo aL Ae AU aP Ag AY aD Ac AQ (some ⟨gN,0,none⟩) Ad Aa (some ⟨gS,0,none⟩) Af Ab m) (hn:k<m.nums.length) (hs:k<m.said.length) (a b:Int) :
  Cn τ ((w.setCell ⟨gN,k,none⟩ (.int .i64 a)).setCell ⟨gS,k,none⟩ (.int .i64 b)) lo aL Ae AU aP Ag AY aD Ac AQ (some ⟨gN,0,none⟩) Ad Aa (some ⟨gS,0,none⟩) Af Ab { m with nums:=m.nums.set k a,said:=m.said.set k b }:=by
 have tN:τ gN=4:=h.nums.tag _ rfl
 have tS:τ gS=5:=h.said.tag _ rfl
 have K:∀ t,t≠4→t≠5→KT τ t lo w ((w.setCell ⟨gN,k,none⟩ (.int .i64 a)).setCell ⟨gS,k,none⟩ (.int .i64 b)):=fun t h4 h5=>
  ((KT.refl _ _ _ _).setCell (.inr (by show τ gN≠t;rw[tN];exact Ne.symm h4))).setCell (.inr (by show τ gS≠t;rw[tS];exact Ne.symm h5))
 have hne:gS≠gN:=by rintro rfl;rw[tN] at tS;cases tS
 refine⟨h.log.keep (K 1 (by decide) (by decide)),h.Ai.keep (K 2 (by decide) (by decide)),h.AJ.keep (K 3 (by decide) (by decide)),⟨?_,h.nums.tag⟩,⟨?_,h.said.tag⟩⟩
 ·have h1:=Ow.set h.nums.ow (fun _=>rfl) (k:=k) (j:=0) (u:=.int .i64 a) rfl (List.getElem?_eq_getElem hn) (by omega) (y:=a) rfl
  simp only[Nat.mul_one,Nat.add_zero] at h1
  exact h1.Hw fun x hx=>by cases hx;exact Below.heap_setCell _ _ _ _ (show gN≠gS from Ne.symm hne)
 ·have h1:Ga (w.setCell ⟨gN,k,none⟩ (.int .i64 a)) lo (some ⟨gS,0,none⟩) Af Ab m.said:=h.said.ow.Hw fun x hx=>by cases hx;exact Below.heap_setCell _ _ _ _ (show gS≠gN from hne)
  have h2:=Ow.set h1 (fun _=>rfl) (k:=k) (j:=0) (u:=.int .i64 b) rfl (List.getElem?_eq_getElem hs) (by omega) (y:=b) rfl
  simpa only [Nat.mul_one,Nat.add_zero] using h2
theorem QH {m:Sw.CV} {rows:List Sw.Row} {r:Sw.Ee} (h:Sw.IL m rows) (hr:Sw.CR r=true):(Sw.effect m r).1.nums.length=5∧(Sw.effect m r).1.said.length=5:=by
 have e:=Sw.OO h hr
 rw[e.nums,e.said]
 exact⟨h.NL,h.Rv⟩
theorem gq (aL:Option Addr) (Ae AU:Nat) (aP:Option Addr) (Ag AY:Nat) (aD:Option Addr) (Ac AQ:Nat) (aN:Option Addr) (Ad Aa:Nat) (aS:Option Addr) (Af Ab:Nat) (m:Sw.CV) (r:Sw.Ee) (rows:List Sw.Row) (lo:Nat) (τ:Nat→Nat) (w:World) (hM:Cn τ w lo aL Ae AU aP Ag AY aD Ac AQ aN Ad Aa aS Af Ab m) (hok:Sw.IL m rows) (hr:Sw.CR r=true) (hlo:lo≤w.heap.size):Calls Tryz.prog 142 #[.agg #[.slice aL AU Ae,.slice aP AY Ag,.slice aD AQ Ac,.int .i64 m.clock,.slice aN Aa Ad,.slice aS Ab Af],.agg #[.int .i64 r.user,.int .i64 r.n,.int .i64 r.kind,.int .i64 r.ticket,.int .i64 r.who,.int .i64 r.Al]] w fun E w'=>Jq lo τ w w' E (Sw.EZ m r):=by
 have hr':=Sw.EB.1 hr
 obtain⟨ru,rn,rk,rt,rh,rp⟩:=r
 dsimp only at hr'
 obtain⟨u,rfl⟩:=Int.eq_ofNat_of_zero_le (show 0≤ru by omega)
 obtain⟨⟨u1,u5⟩,-,-,-,-⟩:=hr'
 obtain⟨v,rfl⟩:∃ v,u=v+1:=⟨u-1,by omega⟩
 have hv:v<5:=by omega
 have hnl:Aa=5:=by rw[hM.nums.ow.1,hok.NL]
 have hsl:Ab=5:=by rw[hM.said.ow.1,hok.Rv]
 subst hnl hsl
 obtain⟨gN,x,rfl,d_,hgN,hx,qN,rX⟩:=KC hM.nums.ow hv
 obtain⟨gS,y,rfl,uo,Ya,hy,qS,TZ⟩:=KC hM.said.ow hv
 have e1:Sw.lastOf m.nums ((v+1:Nat):Int)=x:=by unfold Sw.lastOf;rw[show (((v+1:Nat):Int)-1).toNat=v from by omega];exact Sw.CP hx
 have e2:Sw.lastOf m.said ((v+1:Nat):Int)=y:=by unfold Sw.lastOf;rw[show (((v+1:Nat):Int)-1).toNat=v from by omega];exact Sw.CP hy
 have s1:IntKind.i64.wrap (((v+1:Nat):Int)-1)=(v:Int):=by rw[show ((v+1:Nat):Int)-1=(v:Int) from by omega];exact IntWalk.i64_in _ (by omega)
 have i0:(0:Int)≤(v:Int):=by omega
 have i1:(v:Int)<5:=by omega
 clear hx hy
 have HR:=Lib.hid hr
 have HK:=Lib.hid hok
 clear hr hok
 by_cases h1:rn=x
 ·have g1:(rn==x)=true:=by simpa using h1
  have e:Sw.EZ m ⟨((v+1:Nat):Int),rn,rk,rt,rh,rp⟩=(m,y):=by unfold Sw.EZ;dsimp only;rw[e1,e2,if_pos h1]
  rw[e]
  clear e e1 e2 s1 h1
  have wv:IntKind.i64.wrap (v:Int)=(v:Int):=IntWalk.i64_in _ (by omega)
  have wv2:IntKind.i64.wrap ((v:Int)+1-1)=(v:Int):=by rw[Int.add_sub_cancel];exact wv
  go_enter Tryz.func142,Tryz.ntmps142
  go_wp2_with fail
  (refine CF fun W0 hb0 hc0 hf0 hz0=>?_;have JR:Lb W0 (w.heap.size+1+1) 6:=Lb.ex (by exact Dw) hb0;go_region_held3 (fun w'=>Au (w.heap.size+1+1) 6 W0 w') ((exact EX)) (fail);all_goals (rename Au (w.heap.size+1+1) 6 W0 _=>FZ;have hb:=Au.ch FZ;obtain⟨hc,hf,hz⟩:=xd hb;have CJ:=Au.lb FZ;(repeat (first|with_reducible replace CJ:=Lb.G_ CJ|with_reducible replace CJ:=Lb.Fy CJ));obtain⟨hcb,M6⟩:=Lb.rules CJ;clear FZ))
  all_goals go_wp2
  refine bodyPost_ret (v:=.tuple #[(.agg #[.slice aL AU Ae,.slice aP AY Ag,.slice aD AQ Ac,.int .i64 m.clock,.slice (some ⟨gN,0,none⟩) 5 Ad,.slice (some ⟨gS,0,none⟩) 5 Af]),.int .i64 y]) (by simp[results,Tryz.results142,go_sem, *]) rfl ?_
  exact⟨_,_,_,_,_,_,_,_,_,_,_,_,_,_,_,τ,rfl,hM.Av AO,fun _ _=>rfl,AA⟩
 have g1:(rn==x)=false:=by simpa using h1
 by_cases h2:rn<x
 ·have e:Sw.EZ m ⟨((v+1:Nat):Int),rn,rk,rt,rh,rp⟩=(m,7):=by unfold Sw.EZ;dsimp only;rw[e1,if_neg h1,if_pos h2]
  rw[e]
  clear e e1 e2 s1 h1
  go_enter Tryz.func142,Tryz.ntmps142
  go_wp2_with fail
  refine bodyPost_ret (v:=.tuple #[(.agg #[.slice aL AU Ae,.slice aP AY Ag,.slice aD AQ Ac,.int .i64 m.clock,.slice (some ⟨gN,0,none⟩) 5 Ad,.slice (some ⟨gS,0,none⟩) 5 Af]),.int .i64 7]) (by simp[results,Tryz.results142,go_sem, *]) rfl ?_
  exact⟨_,_,_,_,_,_,_,_,_,_,_,_,_,_,_,τ,rfl,hM.Av AO,fun _ _=>rfl,AA⟩
 have hle:=QH HK.out HR.out
 have e:Sw.EZ m ⟨((v+1:Nat):Int),rn,rk,rt,rh,rp⟩=((fun z:Sw.CV × Int=>(({ z.1 with nums:=z.1.nums.set v rn,said:=z.1.said.set v z.2 }:Sw.CV),z.2)) (Sw.effect m ⟨((v+1:Nat):Int),rn,rk,rt,rh,rp⟩)):=by
  unfold Sw.EZ;dsimp only;rw[e1,if_neg h1,if_neg h2];unfold Sw.Il;dsimp only;rw[show (((v+1:Nat):Int)-1).toNat=v from by omega]
 rw[e]
 clear e e1 e2 s1 h1
 obtain⟨z,hz0⟩:∃ z,z=Sw.effect m ⟨((v+1:Nat):Int),rn,rk,rt,rh,rp⟩:=⟨_,rfl⟩
 rw[← hz0] at hle ⊢
 have HZ:=Lib.hid hz0
 clear hz0
 have hG:=hM.CX (τ':=fun _=>0) (Nat.le_refl _)
 dsimp only
 go_enter Tryz.func142,Tryz.ntmps142
 go_wp2_with fail
 apply Calls.mono
 apply (bY (m:=m) (r:=⟨(v:Int)+1,rn,rk,rt,rh,rp⟩) (rows:=rows) (τ:=glue τ w.heap.size (fun _=>0)))
 ·exact hG.Av AO
 ·exact HK.out
 ·exact HR.out
 ·exact Aq
 rintro E w1 ⟨bL,Bg,BR,bP,Bf,BV,bD,Bh,Ba,bN,Bd,Bb,bS,Bc,BZ,τ1,rfl,ho,hτ,hb⟩
 rw[show Sw.effect m ⟨(v:Int)+1,rn,rk,rt,rh,rp⟩=z from HZ.out.symm] at ho ⊢
 obtain⟨hB0,Ta⟩:=Ch.Gv hb (g:=w.heap.size+1+1) Aq (if_neg (by omega))
 obtain⟨hB1,hF1⟩:=Ch.Gv hb (g:=w.heap.size+1) Aq (if_neg (by omega))
 have hz:=hb.size
 (try simp only[BO] at hz)
 obtain rfl:Bb=5:=by rw[ho.nums.ow.1,hle.1]
 obtain rfl:BZ=5:=by rw[ho.said.ow.1,hle.2]
 have hln:v<z.1.nums.length:=by rw[hle.1];exact hv
 have hls:v<z.1.said.length:=by rw[hle.2];exact hv
 clear hle
 obtain⟨gM,xM,rfl,oL,hgM,rM,cM,hfM⟩:=KC ho.nums.ow hv
 obtain⟨gT,xT,rfl,oK,hgT,rJ,cT,hfT⟩:=KC ho.said.ow hv
 have tM:τ1 gM=4:=ho.nums.tag _ rfl
 have tT:τ1 gT=5:=ho.said.tag _ rfl
 have hMT:gM≠gT:=by rintro rfl;rw[tM] at tT;cases tT
 have zJ:gM<w.heap.size∨w.heap.size+3≤gM:=by
  by_cases h:gM<w.heap.size
  ·exact .inl h
  ·refine .inr (Nat.not_lt.1 fun h'=>?_)
   have:=hτ gM (by simp only[zA];omega)
   rw[tM,show glue τ w.heap.size (fun _=>0) gM=0 from if_neg h] at this
   cases this
 have zH:gT<w.heap.size∨w.heap.size+3≤gT:=by
  by_cases h:gT<w.heap.size
  ·exact .inl h
  ·refine .inr (Nat.not_lt.1 fun h'=>?_)
   have:=hτ gT (by simp only[zA];omega)
   rw[tT,show glue τ w.heap.size (fun _=>0) gT=0 from if_neg h] at this
   cases this
 have HX:=Lib.hid (And.intro rM rJ)
 have HT:=Lib.hid (And.intro tM tT)
 clear rM rJ tM tT
 go_wp2_with fail
 refine bodyPost_ret (v:=.tuple #[.agg #[.slice bL BR Bg,.slice bP BV Bf,.slice bD Ba Bh,.int .i64 z.1.clock,.slice (some ⟨gM,0,none⟩) 5 Bd,.slice (some ⟨gT,0,none⟩) 5 Bc],.int .i64 z.2]) (by simp[results,Tryz.results142,go_sem, *]) rfl ?_
 have m1:=Cn.Il ho hln hls rn z.2
 have S1:∀ i,SM lo (glue τ w.heap.size (fun _=>0)) i→i<w.heap.size→SM lo τ i:=fun i h hi=>⟨h.1,by have:=h.2;rwa [show glue τ w.heap.size (fun _=>0) i=τ i from if_pos hi] at this⟩
 have hW:w.heap.size≤(((w.alloc (.cells #[.slice aL AU Ae,.slice aP AY Ag,.slice aD AQ Ac,.int .i64 m.clock,.slice (some ⟨gN,0,none⟩) 5 Ad,.slice (some ⟨gS,0,none⟩) 5 Af] 27))).heap.size):=Aq
 have hS0:=Ch.trans' (show Ch (SM lo τ) w _ from AA) hb (fun i hi h=>S1 i h hi)
 have t0:∀ b,w.heap.size≤b→b<w.heap.size+3→τ1 b=0:=fun b h1 h2=>(hτ b (by simp only[zA];omega)).trans (if_neg (by omega))
 have hsM:SM lo τ gM∨w.heap.size≤gM:=by
  rcases zJ with h|h
  ·refine .inl ⟨oL,?_⟩
   have:=(hτ gM (by simp only[zA];omega)).symm.trans HT.out.1
   rw[show glue τ w.heap.size (fun _=>0) gM=τ gM from if_pos h] at this
   omega
  ·exact .inr (by omega)
 have hsT:SM lo τ gT∨w.heap.size≤gT:=by
  rcases zH with h|h
  ·refine .inl ⟨oK,?_⟩
   have:=(hτ gT (by simp only[zA];omega)).symm.trans HT.out.2
   rw[show glue τ w.heap.size (fun _=>0) gT=τ gT from if_pos h] at this
   omega
  ·exact .inr (by omega)
 refine⟨_,_,_,_,_,_,_,_,_,_,_,_,_,_,_,τ1,rfl,m1.box (g0:=w.heap.size) (g1:=w.heap.size+3) KA t0,fun b hb=>(hτ b (by simp only[zA];omega)).trans (if_pos hb),?_⟩
 (with_reducible repeat (first|exact cR _ _|apply cA|apply cD|apply cN|(refine cS ?_ (Or.inr (by first|omega|(simp only[BO];omega))) _)|(refine cS ?_ hsM _)|(refine cS ?_ hsT _)|(apply cE;assumption)|(apply cK;assumption)))
set_option maxHeartbeats 2000000
theorem Qp (aL:Option Addr) (Ae AU:Nat) (aP:Option Addr) (Ag AY:Nat) (aD:Option Addr) (Ac AQ:Nat) (aN:Option Addr) (Ad Aa:Nat) (aS:Option Addr) (Af Ab:Nat) (m:Sw.CV) (w:World) (hm:RM w 0 aL Ae AU aP Ag AY aD Ac AQ aN Ad Aa aS Af Ab m) (hn:AU+AY+AQ+Aa+Ab≤1048576):Calls Tryz.prog 144 #[.agg #[.slice aL AU Ae,.slice aP AY Ag,.slice aD AQ Ac,.int .i64 m.clock,.slice aN Aa Ad,.slice aS Ab Af]] w fun E w'=>∃ bL Bg BR bP Bf BV bD Bh Ba bN Bd Bb bS Bc BZ τ,E=.returned (.tuple #[.agg #[.slice bL BR Bg,.slice bP BV Bf,.slice bD Ba Bh,.int .i64 (Sw.Gz m).1.clock,.slice bN Bb Bd,.slice bS BZ Bc],.bool (Sw.Gz m).2])∧Cn τ w' w.heap.size bL Bg BR bP Bf BV bD Bh Ba bN Bd Bb bS Bc BZ (Sw.Gz m).1∧Ex w w':=by
 cases g1:Sw.GX m
 case false=>
  have e:Sw.Gz m=(⟨[],[],[],0,[],[]⟩,false):=by simp[Sw.Gz,g1,Sw.Ku]
  have He:=Lib.hid e;clear e
  go_enter Tryz.func144,Tryz.ntmps144
  go_wp2_with (go_at_call 45;apply Calls.mono;apply Ih;(exact Jg);rintro E w1 ⟨rfl,hb⟩;obtain⟨hc,hf,hz⟩:=xy hb)
  refine bodyPost_ret (v:=.tuple #[.agg #[.slice none 0 0,.slice none 0 0,.slice none 0 0,.int .i64 0,.slice none 0 0,.slice none 0 0],.bool false]) (by simp[results,Tryz.results144,go_sem, *]) rfl ?_
  refine⟨_,_,_,_,_,_,_,_,_,_,_,_,_,_,_,fun _=>0,by rw[He.out],?_,AA⟩
  rw[He.out]
  exact⟨CK.nil ..,CK.nil ..,CK.nil ..,CK.nil ..,CK.nil ..⟩
 have hok:=(Sw.BU.1 g1)
 obtain⟨rows,hok⟩:=hok
 have hck:=hok.Qa
 obtain⟨xE,ck1⟩:=hck
 clear hok
 by_cases g2:m.clock=99999
 ·have g2':(m.clock==99999)=true:=by simp[g2]
  have e:Sw.Gz m=(m,false):=by simp[Sw.Gz,g1,g2]
  have He:=Lib.hid e;clear e g2
  go_enter Tryz.func144,Tryz.ntmps144
  go_wp2_with (first|(go_at_call 45;apply Calls.mono;apply Ih;(exact Jg);rintro E w1 ⟨rfl,hb⟩;obtain⟨hc,hf,hz⟩:=xy hb)|(go_at_call 95;apply Calls.mono;apply J3;(exact Jg);(exact Bu);rintro E w1 ⟨bL,Bg,BR,bP,Bf,BV,bD,Bh,Ba,bN,Bd,Bb,bS,Bc,BZ,τ,rfl,ho,hb⟩;obtain⟨hc,hf,hz⟩:=xy hb))
  refine bodyPost_ret (v:=.tuple #[.agg #[.slice bL BR Bg,.slice bP BV Bf,.slice bD Ba Bh,.int .i64 m.clock,.slice bN Bb Bd,.slice bS BZ Bc],.bool false]) (by simp[results,Tryz.results144,go_sem, *]) rfl ?_
  refine⟨_,_,_,_,_,_,_,_,_,_,_,_,_,_,_,τ,by rw[He.out],?_,AA⟩
  rw[He.out]
  exact Cn.less (ho.Av (by (exact AO))) (by exact Aq)
 ·have g2':(m.clock==99999)=false:=by simp[g2]
  have e:Sw.Gz m=(Sw.tick m,true):=by simp[Sw.Gz,g1,g2]
  have He:=Lib.hid e;clear e g2
  have l3:=Lib.hid hm.AJ.1
  have l2:=Lib.hid hm.Ai.1
  go_enter Tryz.func144,Tryz.ntmps144
  go_wp2_with (first|(go_at_call 45;apply Calls.mono;apply Ih;(exact Jg);rintro E w1 ⟨rfl,hb⟩;obtain⟨hc,hf,hz⟩:=xy hb)|(go_at_call 95;apply Calls.mono;apply J3;(exact Jg);(exact Bu);rintro E w1 ⟨bL,Bg,BR,bP,Bf,BV,bD,Bh,Ba,bN,Bd,Bb,bS,Bc,BZ,τ,rfl,ho,hb⟩;obtain⟨hc,hf,hz⟩:=xy hb))
  apply Calls.mono
  apply (XE (τ:=τ))
  ·exact ho.Av (by (exact AO))
  ·exact xE
  ·exact ck1
  ·have:=ho.AJ.ow.1;have:=l3.out;omega
  ·have:=ho.Ai.ow.1;have:=l2.out;omega
  ·exact Aq
  rintro E w3 ⟨A3,c3,τ3,rfl,ho3,tY,hb3⟩
  obtain⟨hc3,hf3⟩:=BJ (fun b hb=>hb3.block b (by exact Aq) (fun h=>Nat.not_lt.2 h.1 hb))
  have hex:Ex w w3:=Ch.trans' (show Ex w _ from AA) hb3 (fun i hi h=>absurd h.1 (by (first|omega|(simp only[BO] at *;omega)|(simp only[BO];omega))))
  clear hb3 tY
  go_wp2
  refine bodyPost_ret (v:=.tuple #[.agg #[.slice bL BR Bg,.slice A3 BV c3,.slice bD Ba Bh,.int .i64 (m.clock+1),.slice bN Bb Bd,.slice bS BZ Bc],.bool true]) (by simp[results,Tryz.results144,go_sem, *]) rfl ?_
  refine⟨_,_,_,_,_,_,_,_,_,_,_,_,_,_,_,τ3,by rw[He.out];rfl,?_,AA⟩
  rw[He.out]
  exact Cn.less (ho3.Av (by (exact AO))) (by exact Aq)
set_option maxHeartbeats 8000000
theorem FE (a b c d e f:Int) (w:World):Calls Tryz.prog 26 #[.agg #[.int .i64 a,.int .i64 b,.int .i64 c,.int .i64 d,.int .i64 e,.int .i64 f]] w fun E w'=>E=.returned (.bool (Sw.CR ⟨a,b,c,d,e,f⟩))∧Ex w w':=
 JJ ⟨a,b,c,d,e,f⟩ w
theorem CW (aF:Option Addr) (BD A_:Nat) (aL:Option Addr) (Ae AU:Nat) (aP:Option Addr) (Ag AY:Nat) (aD:Option Addr) (Ac AQ:Nat) (aN:Option Addr) (Ad Aa:Nat) (aS:Option Addr) (Af Ab:Nat) (aI:Option Addr) (BF A7:Nat) (aG:Option Addr) (BA Az:Nat) (aB:Option Addr) (aBc Ao:Nat) (x:Sw.World) (w:World) (hx:RW w 0 aF BD A_ aL Ae AU aP Ag AY aD Ac AQ aN Ad Aa aS Af Ab aI BF A7 aG BA Az aB aBc Ao x):Calls Tryz.prog 15 #[.agg #[.slice aF A_ BD,.slice aL AU Ae,.slice aP AY Ag,.slice aD AQ Ac,.int .i64 x.AB.clock,.slice aN Aa Ad,.slice aS Ab Af,.slice aI A7 BF,.slice aG Az BA,.slice aB Ao aBc]] w fun E w'=>E=.returned (.bool (Sw.Cc x))∧Ex w w':=by
 obtain⟨x1,x2,x3,x4,x5⟩:=hx
 have b3:=Rs.big x3
 have b4:=x4.len.2
 have b5:=x5.len.2
 have l3:=Lib.hid x3.1
 have l4:=Lib.hid x4.len.1
 have l5:=Lib.hid x5.len.1
 have e:=Px x
 have He:=Lib.hid e;clear e
 cases g1:Sw.GX x.AB
 case false=>
  go_enter Tryz.func15,Tryz.ntmps15
  go_wp2_with (go_at_call 45;apply Calls.mono;apply Ih;(exact Jg);rintro E w1 ⟨rfl,hb⟩;obtain⟨hc,hf,hz⟩:=xy hb)
  go_ret
  exact⟨Ar (by rw[He.out];simp[Fa,g1]),AA⟩
 cases g2:Sw.DR x.first
 case false=>
  go_enter Tryz.func15,Tryz.ntmps15
  go_wp2_with (first|(go_at_call 45;apply Calls.mono;apply Ih;(exact Jg);rintro E w1 ⟨rfl,hb⟩;obtain⟨hc,hf,hz⟩:=xy hb)|(go_at_call 46;apply Calls.mono;apply D5;(exact Bt);rintro E w' ⟨rfl,rfl⟩))
  go_ret
  exact⟨Ar (by rw[He.out];simp[Fa,g2]),AA⟩
 by_cases g3:A7≤300
 case neg=>
  go_enter Tryz.func15,Tryz.ntmps15
  go_wp2_with (first|(go_at_call 45;apply Calls.mono;apply Ih;(exact Jg);rintro E w1 ⟨rfl,hb⟩;obtain⟨hc,hf,hz⟩:=xy hb)|(go_at_call 46;apply Calls.mono;apply D5;(exact Bt);rintro E w' ⟨rfl,rfl⟩))
  go_ret
  exact⟨Ar (by rw[He.out,Fa,← l3.out];simp[g3]),AA⟩
 by_cases g4:Az=2
 case neg=>
  have q4:((Az:Int) != 2)=true:=by rw[bne_iff_ne];omega
  go_enter Tryz.func15,Tryz.ntmps15
  go_wp2_with (first|(go_at_call 45;apply Calls.mono;apply Ih;(exact Jg);rintro E w1 ⟨rfl,hb⟩;obtain⟨hc,hf,hz⟩:=xy hb)|(go_at_call 46;apply Calls.mono;apply D5;(exact Bt);rintro E w' ⟨rfl,rfl⟩))
  go_ret
  exact⟨Ar (by rw[He.out,Fa,← l4.out];simp[g4]),AA⟩
 subst g4
 by_cases g5:Ao≤6
 case neg=>
  go_enter Tryz.func15,Tryz.ntmps15
  go_wp2_with (first|(go_at_call 45;apply Calls.mono;apply Ih;(exact Jg);rintro E w1 ⟨rfl,hb⟩;obtain⟨hc,hf,hz⟩:=xy hb)|(go_at_call 46;apply Calls.mono;apply D5;(exact Bt);rintro E w' ⟨rfl,rfl⟩))
  go_ret
  exact⟨Ar (by rw[He.out,Fa,← l5.out];simp[g5]),AA⟩
 have hgate:Fa x=true:=by simp[Fa,g1,g2,← l3.out,← l4.out,← l5.out,g3,g5]
 have e2:=He.out
 rw[hgate,Bool.true_and] at e2
 have HE:=Lib.hid e2
 clear e2 He hgate
 go_enter Tryz.func15,Tryz.ntmps15
 go_wp2_with (first|(go_at_call 45;apply Calls.mono;apply Ih;(exact Jg);rintro E w1 ⟨rfl,hb⟩;obtain⟨hc,hf,hz⟩:=xy hb)|(go_at_call 46;apply Calls.mono;apply D5;(exact Bt);rintro E w' ⟨rfl,rfl⟩))
 (refine CF fun W0 hb0 hc0 hf0 hz0=>?_)
 go_loopw [3] (fun i wr=>∃ (k:Nat),k≤A7∧i=.int .i64 k∧Ex W0 wr∧x.lines.all Sw.D_=(x.lines.drop k).all Sw.D_) (fun i _=>A7-(intOf i).toNat)
 case atStart=>exact⟨0,Nat.zero_le _,rfl,AA,rfl⟩
 case round=>
  obtain⟨k,hk,rfl,hb2,hrel⟩:=hrel
  have hst:=xr hb2
  obtain⟨hc2,hf2,hz2⟩:=hst
  by_cases hlt:k<A7
  ·obtain⟨g,off,y,rfl,hg0,hg,hd,hy,q0,q1,q2,q3,q4,q5⟩:=YP x3 hlt
   rw[hd] at hrel
   have BI:=Lib.hid hrel;clear hd hy hrel
   obtain⟨f1,f2,f3,f4,f5,f6⟩:=y
   dsimp only at q0 q1 q2 q3 q4 q5
   by_cases z1:f1=0
   ·subst z1
    by_cases z2:f2=0
    ·subst z2
     by_cases z3:f3=0
     ·subst z3
      by_cases z4:f4=0
      ·subst z4
       by_cases z5:f5=0
       ·subst z5
        by_cases z6:f6=0
        ·subst z6
         go_wp2_with fail
         go_roundw
         case rel=>exact⟨k+1,by omega,by go_num,AA,by rw[BI.out,List.all_cons];simp[Sw.D_,Sw.Eu]⟩
         case measure=>simp[intOf];omega
        ·cases c1:Sw.CR ⟨0,0,0,0,0,f6⟩
         case false=>
          go_wp2_with (go_at_call 26;refine (FE _ _ _ _ _ _ _).mono ?_;rintro E w1 ⟨rfl,hb⟩;obtain⟨hc,hf,hz⟩:=xy hb)
          go_ret
          exact⟨Ar (by rw[HE.out,BI.out,List.all_cons];simp[Sw.D_,Sw.Eu,c1,z6]),AA⟩
         case true=>
          go_wp2_with (go_at_call 26;refine (FE _ _ _ _ _ _ _).mono ?_;rintro E w1 ⟨rfl,hb⟩;obtain⟨hc,hf,hz⟩:=xy hb)
          go_roundw
          case rel=>exact⟨k+1,by omega,by go_num,AA,by rw[BI.out,List.all_cons];simp[Sw.D_,Sw.Eu,c1,z6]⟩
          case measure=>simp[intOf];omega
       ·cases c1:Sw.CR ⟨0,0,0,0,f5,f6⟩
        case false=>
         go_wp2_with (go_at_call 26;refine (FE _ _ _ _ _ _ _).mono ?_;rintro E w1 ⟨rfl,hb⟩;obtain⟨hc,hf,hz⟩:=xy hb)
         go_ret
         exact⟨Ar (by rw[HE.out,BI.out,List.all_cons];simp[Sw.D_,Sw.Eu,c1,z5]),AA⟩
        case true=>
         go_wp2_with (go_at_call 26;refine (FE _ _ _ _ _ _ _).mono ?_;rintro E w1 ⟨rfl,hb⟩;obtain⟨hc,hf,hz⟩:=xy hb)
         go_roundw
         case rel=>exact⟨k+1,by omega,by go_num,AA,by rw[BI.out,List.all_cons];simp[Sw.D_,Sw.Eu,c1,z5]⟩
         case measure=>simp[intOf];omega
      ·cases c1:Sw.CR ⟨0,0,0,f4,f5,f6⟩
       case false=>
        go_wp2_with (go_at_call 26;refine (FE _ _ _ _ _ _ _).mono ?_;rintro E w1 ⟨rfl,hb⟩;obtain⟨hc,hf,hz⟩:=xy hb)
        go_ret
        exact⟨Ar (by rw[HE.out,BI.out,List.all_cons];simp[Sw.D_,Sw.Eu,c1,z4]),AA⟩
       case true=>
        go_wp2_with (go_at_call 26;refine (FE _ _ _ _ _ _ _).mono ?_;rintro E w1 ⟨rfl,hb⟩;obtain⟨hc,hf,hz⟩:=xy hb)
        go_roundw
        case rel=>exact⟨k+1,by omega,by go_num,AA,by rw[BI.out,List.all_cons];simp[Sw.D_,Sw.Eu,c1,z4]⟩
        case measure=>simp[intOf];omega
     ·cases c1:Sw.CR ⟨0,0,f3,f4,f5,f6⟩
      case false=>
       go_wp2_with (go_at_call 26;refine (FE _ _ _ _ _ _ _).mono ?_;rintro E w1 ⟨rfl,hb⟩;obtain⟨hc,hf,hz⟩:=xy hb)
       go_ret
       exact⟨Ar (by rw[HE.out,BI.out,List.all_cons];simp[Sw.D_,Sw.Eu,c1,z3]),AA⟩
      case true=>
       go_wp2_with (go_at_call 26;refine (FE _ _ _ _ _ _ _).mono ?_;rintro E w1 ⟨rfl,hb⟩;obtain⟨hc,hf,hz⟩:=xy hb)
       go_roundw
       case rel=>exact⟨k+1,by omega,by go_num,AA,by rw[BI.out,List.all_cons];simp[Sw.D_,Sw.Eu,c1,z3]⟩
       case measure=>simp[intOf];omega
    ·cases c1:Sw.CR ⟨0,f2,f3,f4,f5,f6⟩
     case false=>
      go_wp2_with (go_at_call 26;refine (FE _ _ _ _ _ _ _).mono ?_;rintro E w1 ⟨rfl,hb⟩;obtain⟨hc,hf,hz⟩:=xy hb)
      go_ret
      exact⟨Ar (by rw[HE.out,BI.out,List.all_cons];simp[Sw.D_,Sw.Eu,c1,z2]),AA⟩
     case true=>
      go_wp2_with (go_at_call 26;refine (FE _ _ _ _ _ _ _).mono ?_;rintro E w1 ⟨rfl,hb⟩;obtain⟨hc,hf,hz⟩:=xy hb)
      go_roundw
      case rel=>exact⟨k+1,by omega,by go_num,AA,by rw[BI.out,List.all_cons];simp[Sw.D_,Sw.Eu,c1,z2]⟩
      case measure=>simp[intOf];omega
   ·cases c1:Sw.CR ⟨f1,f2,f3,f4,f5,f6⟩
    case false=>
     go_wp2_with (go_at_call 26;refine (FE _ _ _ _ _ _ _).mono ?_;rintro E w1 ⟨rfl,hb⟩;obtain⟨hc,hf,hz⟩:=xy hb)
     go_ret
     exact⟨Ar (by rw[HE.out,BI.out,List.all_cons];simp[Sw.D_,Sw.Eu,c1,z1]),AA⟩
    case true=>
     go_wp2_with (go_at_call 26;refine (FE _ _ _ _ _ _ _).mono ?_;rintro E w1 ⟨rfl,hb⟩;obtain⟨hc,hf,hz⟩:=xy hb)
     go_roundw
     case rel=>exact⟨k+1,by omega,by go_num,AA,by rw[BI.out,List.all_cons];simp[Sw.D_,Sw.Eu,c1,z1]⟩
     case measure=>simp[intOf];omega
  ·have HN:=Lib.hid hrel;clear hrel
   rw[List.drop_of_length_le (by have:=l3.out;omega)] at HN
   go_wp2_with fail
   go_loopw [4] (fun i wr=>∃ (k:Nat),k≤2∧i=.int .i64 k∧Ex W0 wr∧x.AV.all Sw.DF=(x.AV.drop k).all Sw.DF) (fun i _=>2-(intOf i).toNat)
   case atStart=>exact⟨0,Nat.zero_le _,rfl,AA,rfl⟩
   case round=>
    obtain⟨k',hk',rfl,hb3,hrel⟩:=hrel
    have hst:=xr hb3
    obtain⟨hc3,hf3,hz3⟩:=hst
    by_cases hlt':k'<2
    ·obtain⟨g,off,y,B,d,m,rfl,hg0,hg,hd,hy,q0,q1,q2,q3,hr⟩:=Ld x4 hlt'
     rw[hd] at hrel
     have BI:=Lib.hid hrel;clear hd hy hrel
     cases c1:Sw.DF y
     case false=>
      go_wp2_with (go_at_call 47;apply Calls.mono;apply F_;(exact Bt);rintro E w1 ⟨rfl,hb⟩;obtain⟨hc,hf,hz⟩:=xy hb)
      go_ret
      exact⟨Ar (by rw[HE.out,BI.out,List.all_cons,c1];simp),AA⟩
     case true=>
      go_wp2_with (go_at_call 47;apply Calls.mono;apply F_;(exact Bt);rintro E w1 ⟨rfl,hb⟩;obtain⟨hc,hf,hz⟩:=xy hb)
      go_roundw
      case rel=>exact⟨k'+1,by omega,by go_num,AA,by rw[BI.out,List.all_cons,c1,Bool.true_and]⟩
      case measure=>simp[intOf];omega
    ·have HG:=Lib.hid hrel;clear hrel
     rw[List.drop_of_length_le (by have:=l4.out;omega)] at HG
     go_wp2_with fail
     go_loopw [5] (fun i wr=>∃ (k:Nat),k≤Ao∧i=.int .i64 k∧Ex W0 wr∧x.BS.all Sw.Fs=(x.BS.drop k).all Sw.Fs) (fun i _=>Ao-(intOf i).toNat)
     case atStart=>exact⟨0,Nat.zero_le _,rfl,AA,rfl⟩
     case round=>
      obtain⟨k'',hk'',rfl,hb4,hrel⟩:=hrel
      have hst:=xr hb4
      obtain⟨hc4,rY,g_⟩:=hst
      by_cases oF:k''<Ao
      ·obtain⟨g,off,y,B,d,m,rfl,hg0,hg,hd,hy,q0,q1,q2,q3,q4,hr⟩:=QU x5 oF
       rw[hd] at hrel
       have BI:=Lib.hid hrel;clear hd hy hrel
       cases c1:Sw.Br y.gate 0 1
       case false=>
        go_wp2_with (go_at_call 48;refine (Aw _ _ _ _).mono ?_;rintro E w' ⟨rfl,rfl⟩)
        go_ret
        exact⟨Ar (by rw[HE.out,BI.out,List.all_cons,Sw.Fs,c1];simp),AA⟩
       cases c2:Sw.E9 y.head
       case false=>
        go_wp2_with (first|(go_at_call 48;refine (Aw _ _ _ _).mono ?_;rintro E w' ⟨rfl,rfl⟩)|(go_at_call 49;refine (F9 _ _).mono ?_;rintro E w1 ⟨rfl,hb⟩;obtain⟨hc,hf,hz⟩:=xy hb))
        go_ret
        exact⟨Ar (by rw[HE.out,BI.out,List.all_cons,Sw.Fs,c2];simp),AA⟩
       cases c3:Sw.DW y.proof
       case false=>
        go_wp2_with (first|(go_at_call 48;refine (Aw _ _ _ _).mono ?_;rintro E w' ⟨rfl,rfl⟩)|(go_at_call 49;refine (F9 _ _).mono ?_;rintro E w1 ⟨rfl,hb⟩;obtain⟨hc,hf,hz⟩:=xy hb)|(go_at_call 50;apply Calls.mono;apply Ig;(exact Bt);rintro E w' ⟨rfl,rfl⟩))
        go_ret
        exact⟨Ar (by rw[HE.out,BI.out,List.all_cons,Sw.Fs,c3];simp),AA⟩
       case true=>
        go_wp2_with (first|(go_at_call 48;refine (Aw _ _ _ _).mono ?_;rintro E w' ⟨rfl,rfl⟩)|(go_at_call 49;refine (F9 _ _).mono ?_;rintro E w1 ⟨rfl,hb⟩;obtain⟨hc,hf,hz⟩:=xy hb)|(go_at_call 50;apply Calls.mono;apply Ig;(exact Bt);rintro E w' ⟨rfl,rfl⟩))
        go_roundw
        case rel=>exact⟨k''+1,by omega,by go_num,AA,by rw[BI.out,List.all_cons,Sw.Fs,c1,c2,c3];rfl⟩
        case measure=>simp[intOf];omega
      ·have HB:=Lib.hid hrel;clear hrel
       rw[List.drop_of_length_le (by have:=l5.out;omega)] at HB
       go_wp2_with fail
       go_ret
       exact⟨Ar (by rw[HE.out,HN.out,HG.out,HB.out];rfl),AA⟩
end Go.Proofs.YtgaflnpmilikcaaGreat
