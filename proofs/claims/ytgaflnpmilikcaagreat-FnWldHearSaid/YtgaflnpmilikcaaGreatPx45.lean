/- Texts joined: WldJ. -/
import Derived.Test.YtgaflnpmilikcaaGreatPx43
import Derived.Test.YtgaflnpmilikcaaGreatPx44
import Derived.Test.YtgaflnpmilikcaaGreatPx37
import Derived.Test.YtgaflnpmilikcaaGreatPx30
set_option maxRecDepth 100000
set_option linter.unusedSimpArgs false
set_option linter.unusedVariables false
namespace Go.Proofs.YtgaflnpmilikcaaGreat
open Go.RowKit Go
set_option maxHeartbeats 20000000
theorem JD.cut {lo:Nat} {τ:Nat→Nat} {w w3 w6:World} (h:Ch (JD lo τ) w w3) (hu:Ch (JD lo (glue τ w.heap.size (fun _=>0))) w3 w6):Ch (JD lo τ) w w6:=
 Ch.trans' h hu fun i hi h=>⟨h.1,by have h2:=h.2;rw[glue,if_pos hi] at h2;exact h2⟩
theorem Qd.gV {lo:Nat} {τ:Nat→Nat} {w w':World} {v:Value→Value} {E:Ending} {aF aL aP aD aN aS aI aG aB:Option Addr} {BD A_ Ae AU Ag AY Ac AQ Ad Aa Af Ab BF A7 BA Az aBc Ao:Nat} {x z:Sw.World} (h:Qd lo τ w w' v E aF BD A_ aG BA Az aB aBc Ao z) (hW:Eh Jk I4 τ w lo aF BD A_ aL Ae AU aP Ag AY aD Ac AQ aN Ad Aa aS Af Ab aI BF A7 aG BA Az aB aBc Ao x) (hs:z.first=x.first∧z.AV=x.AV∧z.BS=x.BS):Sd lo τ w w' v E z:=by
 obtain⟨bL,Bg,BR,bP,Bf,BV,bD,Bh,Ba,bN,Bd,Bb,bS,Bc,BZ,I,Ic,In,τ',rfl,h1,h2,h3,h4⟩:=h
 have K:∀ w'',Ch (Zr τ w.heap.size) w' w''→∀ t,1≤t→KT τ' t lo w' w'':=fun w'' hz t ht=>(KT.refl _ _ _ _).kX hz h3 ht
 have K0:∀ w'',Ch (Zr τ w.heap.size) w' w''→∀ t,1≤t→(t=6∨8≤t)→KT τ t lo w w'':=fun w'' hz t ht h=>(KT.sa h4 h).box hz ht
 refine⟨aF,BD,A_,bL,Bg,BR,bP,Bf,BV,bD,Bh,Ba,bN,Bd,Bb,bS,Bc,BZ,I,Ic,In,aG,BA,Az,aB,aBc,Ao,rfl,fun w'' hz=>⟨?_,(h1.keep fun t h1 _=>K w'' hz t h1).rm,(h2.keep (K w'' hz 7 (by decide))).rs,?_,?_⟩,h4.mono fun i _ h=>⟨h.1,h.2.1⟩⟩
 ·rw[hs.1];exact (hW.first.keep (K0 w'' hz 6 (by decide) (.inl rfl))).rs
 ·rw[hs.2.1];exact (hW.AV.keep (K0 w'' hz 8 (by decide) (.inr (by decide))) fun j=>K0 w'' hz _ (by unfold Jk;omega) (.inr (Wi j))).rg
 ·rw[hs.2.2];exact (hW.BS.keep (K0 w'' hz 9 (by decide) (.inr (by decide))) fun j=>K0 w'' hz _ (by unfold I4;omega) (.inr (Zu j))).rx
theorem VQ (x:Sw.World):(Sw.Gg x).first=x.first∧(Sw.Gg x).AV=x.AV∧(Sw.Gg x).BS=x.BS:=by
 unfold Sw.Gg;split <;> exact⟨rfl,rfl,rfl⟩
theorem Zr.kf {τ:Nat→Nat} {k l:Nat} {w w':World} (h:Ch (Zr τ k) w w') (hk:k≤l):KF l w w':=⟨h.size,fun b h1 h2=>h.block b h2 fun h=>by have:=h.1;omega⟩
theorem RX.none_ (w:World) (lo:Nat) (g:Addr):RX w lo (some g) 0 0 []:=⟨[],⟨rfl,(by simp),Nat.le_refl _,Nat.zero_le _,(fun h=>by cases h),fun _ _ h=>absurd h (Nat.lt_irrefl _)⟩,rfl,fun _ _ _ h=>by simp at h⟩
theorem qc {τ:Nat→Nat} {w1 w3:World} {lo k:Nat} {g:Addr} {aF aL aP aD aN aS aI aG aB:Option Addr} {BD A_ Ae AU Ag AY Ac AQ Ad Aa Af Ab BF A7 BA Az aBc Ao:Nat} {x:Sw.World} (hW:Eh Jk I4 τ w1 lo aF BD A_ aL Ae AU aP Ag AY aD Ac AQ aN Ad Aa aS Af Ab aI BF A7 aG BA Az aB aBc Ao x) (he:Ch (Zr τ k) w1 w3):RW w3 lo aF BD A_ aL Ae AU aP Ag AY aD Ac AQ aN Ad Aa aS Af Ab aI BF A7 aG BA Az (some g) 0 0 { x with AB:=x.AB,BS:=[] }:=by
 have hz:=hW.zeros he
 exact⟨hz.first.rs,hz.Dt.rm,hz.lines.rs,hz.AV.rg,RX.none_ _ _ _⟩
theorem qb {τ:Nat→Nat} {w1 w3:World} {lo k l:Nat} {g:Addr} {aF aL aP aD aN aS aI aG aB:Option Addr} {BD A_ Ae AU Ag AY Ac AQ Ad Aa Af Ab BF A7 BA Az aBc Ao:Nat} {x:Sw.World} {bL bP bD bN bS:Option Addr} {Bg BR Bf BV Bh Ba Bd Bb Bc BZ:Nat} {m:Sw.CV} (hW:Eh Jk I4 τ w1 lo aF BD A_ aL Ae AU aP Ag AY aD Ac AQ aN Ad Aa aS Af Ab aI BF A7 aG BA Az aB aBc Ao x) (hm:RM w1 l bL Bg BR bP Bf BV bD Bh Ba bN Bd Bb bS Bc BZ m) (hk:k≤l) (hl:lo≤l) (he:Ch (Zr τ k) w1 w3) :
  RW w3 lo aF BD A_ bL Bg BR bP Bf BV bD Bh Ba bN Bd Bb bS Bc BZ aI BF A7 aG BA Az (some g) 0 0 { x with AB:=m,BS:=[] }:=by
 have hz:=hW.zeros he
 exact⟨hz.first.rs,(hm.keep (Zr.kf he hk)).less hl,hz.lines.rs,hz.AV.rg,RX.none_ _ _ _⟩
theorem Sq (aF:Option Addr) (BD A_:Nat) (aL:Option Addr) (Ae AU:Nat) (aP:Option Addr) (Ag AY:Nat) (aD:Option Addr) (Ac AQ:Nat) (aN:Option Addr) (Ad Aa:Nat) (aS:Option Addr) (Af Ab:Nat) (aI:Option Addr) (BF A7:Nat) (aG:Option Addr) (BA Az:Nat) (aB:Option Addr) (aBc Ao:Nat) (x:Sw.World) (e:Sw.Ev) (lo:Nat) (τ:Nat→Nat) (w:World) (hW:Eh Jk I4 τ w lo aF BD A_ aL Ae AU aP Ag AY aD Ac AQ aN Ad Aa aS Af Ab aI BF A7 aG BA Az aB aBc Ao x) (hok:Sw.Cc x=true) (hlo:lo≤w.heap.size):Calls Tryz.prog 44 #[.agg #[.slice aF A_ BD,.slice aL AU Ae,.slice aP AY Ag,.slice aD AQ Ac,.int .i64 x.AB.clock,.slice aN Aa Ad,.slice aS Ab Af,.slice aI A7 BF,.slice aG Az BA,.slice aB Ao aBc],.agg #[.int .i64 e.kind,.int .i64 e.EK.user,.int .i64 e.EK.n,.int .i64 e.EK.kind,.int .i64 e.EK.ticket,.int .i64 e.EK.who,.int .i64 e.EK.Al,.int .i64 e.at_,.int .i64 e.ticket,.int .i64 e.who]] w fun E w'=>Sd lo τ w w' (fun u=>.tuple #[u,.int .i64 (Sw.step x e).2]) E (Sw.step x e).1:=by
 have Li:=Lib.hid hok
 have hG:=hW.CX (τ':=fun _=>0) (Nat.le_refl _)
 obtain⟨rows,hR⟩:=Sw.BU.1 (Sw.Am.1 hok).Dt
 have HR:=Lib.hid hR
 have GY:A7≤300:=by have h1:=(Sw.Am.1 hok).lines;have h2:=hW.lines.ow.1;omega
 have HS:∀ n,RowKit.Hid (e.kind=n→Sw.step x e=if n=1 then Sw.ask x e.EK else if n=2 then (Sw.Gg x,0) else if n=3 then (Sw.fall x,0) else if n=4 then (Sw.send x e.at_,0) else if n=5∨n=6∨n=7 then (QL x n e.at_,0) else if n=8 then Sw.Da x e.at_ e.ticket e.who else if n=9 then (Sw.tell x e.at_,0) else (x,0)):=fun n=>Lib.hid (by
  intro h
  unfold Sw.step QL
  rw[h]
  by_cases h1:n=1;· simp[h1]
  by_cases h2:n=2;· simp[h2]
  by_cases h3:n=3;· simp[h3]
  by_cases h4:n=4;· simp[h4]
  by_cases h5:n=5;· simp[h5]
  by_cases h6:n=6;· simp[h6]
  by_cases h7:n=7;· simp[h7]
  simp[h1,h2,h3,h4,h5,h6,h7])
 clear hok hR
 obtain⟨ek,eq,ea,et,ew⟩:=e
 dsimp only at HS ⊢
 by_cases k1:ek=1
 ·subst k1
  have hst:=(HS 1).out rfl
  simp only[if_pos rfl,if_true,show ¬((1:Int)=2) from by decide,show ¬((1:Int)=3) from by decide,show ¬((1:Int)=4) from by decide,show ¬((1:Int)=5) from by decide,show ¬((1:Int)=6) from by decide,show ¬((1:Int)=7) from by decide,show ¬((1:Int)=8) from by decide,show ¬((1:Int)=9) from by decide,if_false,true_or,or_true,false_or,or_false,or_self] at hst
  rw[hst]
  clear hst
  go_enter Tryz.func44,Tryz.ntmps44
  go_wp2_with (go_at_call 98;apply Calls.mono;apply (Yw (x:=x) (r:=eq) (rows:=rows) (lo:=lo) (τ:=glue τ w.heap.size (fun _=>0)));(exact (hG.Av AO).Dt);(exact (hG.Av AO).lines);(exact HR.out);(exact GY);(exact Aq);rintro E w6 ha;obtain⟨bF,Di,DZ,bL,Bg,BR,bP,Bf,BV,bD,Bh,Ba,bN,Bd,Bb,bS,Bc,BZ,bI,Dg,bIn,bG,Dh,DL,bB,Dj,Cy,rfl,hrw,hup⟩:=ha.gV (hG.Av AO) (VG x eq);clear ha;have JR:Lb _ (w.heap.size+1+1) 10:=Lb.MB hup Dw (fun h=>(by have h2:=h.2;rw[glue,if_neg (by omega)] at h2;omega));obtain⟨hcz,hfz⟩:=Lb.rules JR;have Pe:=hup.size;(try simp only[BO] at Pe);(try dsimp only))
  have hU:Ch (JD lo τ) w w6:=JD.cut (show Ch (JD lo τ) w _ from AA) hup
  refine bodyPost_ret (v:=.tuple #[.agg #[.slice bF DZ Di,.slice bL BR Bg,.slice bP BV Bf,.slice bD Ba Bh,.int .i64 (Sw.ask x eq).1.AB.clock,.slice bN Bb Bd,.slice bS BZ Bc,.slice bI bIn Dg,.slice bG DL Dh,.slice bB Cy Dj],.int .i64 (Sw.ask x eq).2]) (by simp[results,Tryz.results44,go_sem, *]) rfl ?_
  exact⟨bF,Di,DZ,bL,Bg,BR,bP,Bf,BV,bD,Bh,Ba,bN,Bd,Bb,bS,Bc,BZ,bI,Dg,bIn,bG,Dh,DL,bB,Dj,Cy,rfl,fun w'' hz=>hrw w'' (Zr.of (g1:=w.heap.size+3) KA hz Aq Aq),AA⟩
 by_cases k2:ek=2
 ·subst k2
  have hst:=(HS 2).out rfl
  simp only[if_pos rfl,if_true,show ¬((2:Int)=1) from by decide,show ¬((2:Int)=3) from by decide,show ¬((2:Int)=4) from by decide,show ¬((2:Int)=5) from by decide,show ¬((2:Int)=6) from by decide,show ¬((2:Int)=7) from by decide,show ¬((2:Int)=8) from by decide,show ¬((2:Int)=9) from by decide,if_false,true_or,or_true,false_or,or_false,or_self] at hst
  rw[hst]
  clear hst
  go_enter Tryz.func44,Tryz.ntmps44
  go_wp2_with (go_at_call 99;apply Calls.mono;apply (Ym (x:=x) (rows:=rows) (lo:=lo) (τ:=glue τ w.heap.size (fun _=>0)));(exact (hG.Av AO).Dt);(exact (hG.Av AO).lines);(exact HR.out);(exact GY);(exact Aq);rintro E w6 ha;obtain⟨bF,Di,DZ,bL,Bg,BR,bP,Bf,BV,bD,Bh,Ba,bN,Bd,Bb,bS,Bc,BZ,bI,Dg,bIn,bG,Dh,DL,bB,Dj,Cy,rfl,hrw,hup⟩:=ha.gV (hG.Av AO) (VQ x);clear ha;have JR:Lb _ (w.heap.size+1+1) 10:=Lb.MB hup Dw (fun h=>(by have h2:=h.2;rw[glue,if_neg (by omega)] at h2;omega));obtain⟨hcz,hfz⟩:=Lb.rules JR;have Pe:=hup.size;(try simp only[BO] at Pe);(try dsimp only))
  have hU:Ch (JD lo τ) w w6:=JD.cut (show Ch (JD lo τ) w _ from AA) hup
  refine bodyPost_ret (v:=.tuple #[.agg #[.slice bF DZ Di,.slice bL BR Bg,.slice bP BV Bf,.slice bD Ba Bh,.int .i64 (Sw.Gg x).AB.clock,.slice bN Bb Bd,.slice bS BZ Bc,.slice bI bIn Dg,.slice bG DL Dh,.slice bB Cy Dj],.int .i64 0]) (by simp[results,Tryz.results44,go_sem, *]) rfl ?_
  exact⟨bF,Di,DZ,bL,Bg,BR,bP,Bf,BV,bD,Bh,Ba,bN,Bd,Bb,bS,Bc,BZ,bI,Dg,bIn,bG,Dh,DL,bB,Dj,Cy,rfl,fun w'' hz=>hrw w'' (Zr.of (g1:=w.heap.size+3) KA hz Aq Aq),AA⟩
 by_cases k3:ek=3
 ·subst k3
  have hst:=(HS 3).out rfl
  simp only[if_pos rfl,if_true,show ¬((3:Int)=1) from by decide,show ¬((3:Int)=2) from by decide,if_false] at hst
  rw[hst]
  clear hst
  cases hF:Sw.Cr x.first x.lines with
  | none=>
   have HF:=Lib.hid hF
   have e:Sw.fall x={ x with AB:=x.AB,BS:=[] }:=by simp[Sw.fall,hF]
   rw[e]
   clear e hF
   dsimp only
   go_enter Tryz.func44,Tryz.ntmps44
   go_wp2_with (go_at_call 100;apply Calls.mono;apply (Qm (fs:=x.first) (ls:=x.lines));(apply Rs.A8 hW.first.ow.rs;(exact AO));(apply Rs.A8 hW.lines.ow.rs;(exact AO));rintro E w6 ⟨bL,Bg,BR,bP,Bf,BV,bD,Bh,Ba,bN,Bd,Bb,bS,Bc,BZ,rfl,hrm,hb⟩;rw[HF.out] at hrm ⊢;obtain⟨hc,hf,hz⟩:=xy hb)
   refine bodyPost_ret (v:=.tuple #[.agg #[.slice aF A_ BD,.slice aL AU Ae,.slice aP AY Ag,.slice aD AQ Ac,.int .i64 x.AB.clock,.slice aN Aa Ad,.slice aS Ab Af,.slice aI A7 BF,.slice aG Az BA,.slice (some ⟨w6.heap.size+1,0,none⟩) 0 0],.int .i64 0]) (by simp[results,Tryz.results44,go_sem, *]) rfl ?_
   exact⟨aF,BD,A_,aL,Ae,AU,aP,Ag,AY,aD,Ac,AQ,aN,Ad,Aa,aS,Af,Ab,aI,BF,A7,aG,BA,Az,_,0,0,rfl,fun w'' hz=>qc (w1:=w6) (hG.Av AO) (Zr.of (g1:=w.heap.size+3) KA hz Aq Aq),AA⟩
  | some m=>
   have HF:=Lib.hid hF
   have e:Sw.fall x={ x with AB:=m,BS:=[] }:=by simp[Sw.fall,hF]
   rw[e]
   clear e hF
   dsimp only
   go_enter Tryz.func44,Tryz.ntmps44
   go_upto_region 10 with (go_at_call 100;apply Calls.mono;apply (Qm (fs:=x.first) (ls:=x.lines));(apply Rs.A8 hW.first.ow.rs;(exact AO));(apply Rs.A8 hW.lines.ow.rs;(exact AO));rintro E w6 ⟨bL,Bg,BR,bP,Bf,BV,bD,Bh,Ba,bN,Bd,Bb,bS,Bc,BZ,rfl,hrm,hb⟩;rw[HF.out] at hrm ⊢;obtain⟨hc,hf,hz⟩:=xy hb)
   (refine CF fun W0 hb0 hc0 hf0 hz0=>?_)
   have p0:W0.cell? ⟨w.heap.size,0,none⟩=some (.slice aF A_ BD):=(Ak);have p1:W0.cell? ⟨w.heap.size,1,none⟩=some (.slice bL BR Bg):=(Ak);have p2:W0.cell? ⟨w.heap.size,2,none⟩=some (.slice bP BV Bf):=(Ak);have p3:W0.cell? ⟨w.heap.size,3,none⟩=some (.slice bD Ba Bh):=(Ak);have p4:W0.cell? ⟨w.heap.size,4,none⟩=some (.int .i64 m.clock):=(Ak);have p5:W0.cell? ⟨w.heap.size,5,none⟩=some (.slice bN Bb Bd):=(Ak);have p6:W0.cell? ⟨w.heap.size,6,none⟩=some (.slice bS BZ Bc):=(Ak);have p7:W0.cell? ⟨w.heap.size,7,none⟩=some (.slice aI A7 BF):=(Ak);have p8:W0.cell? ⟨w.heap.size,8,none⟩=some (.slice aG Az BA):=(Ak);have p9:W0.cell? ⟨w.heap.size,9,none⟩=some (.slice aB Ao aBc):=(Ak)
   have pf:∀ i:Nat,W0.frozen? ⟨w.heap.size,i,none⟩=false:=fun i=>Ak
   have Fu:Lb W0 (w.heap.size+1+1) 10:=Dw
   have RV:=hG.Av (show KF lo w w6 from AO)
   have hz3:w.heap.size+3≤w6.heap.size:=Aq
   have hbx:Ch (BX w.heap.size (w.heap.size+3)) w6 W0:=KA
   have hcq:Ch (JD lo τ) w W0:=AA
   have QA:w6.heap.size+1≤W0.heap.size:=Aq
   have uL:RM w6 (w.heap.size+3) bL Bg BR bP Bf BV bD Bh Ba bN Bd Bb bS Bc BZ m:=hrm.less Aq
   clear hb hc hf hb0 hc0 hf0 hrm
   obtain⟨Wq,CE⟩:∃ z,z=W0:=⟨_,rfl⟩
   subst CE
   obtain⟨hcz,hfz⟩:=Lb.rules Fu
   go_wp2_with fail
   refine bodyPost_ret (v:=.tuple #[.agg #[.slice aF A_ BD,.slice bL BR Bg,.slice bP BV Bf,.slice bD Ba Bh,.int .i64 m.clock,.slice bN Bb Bd,.slice bS BZ Bc,.slice aI A7 BF,.slice aG Az BA,.slice (some ⟨Wq.heap.size,0,none⟩) 0 0],.int .i64 0]) (by simp[results,Tryz.results44,go_sem, *]) rfl ?_
   exact⟨aF,BD,A_,bL,Bg,BR,bP,Bf,BV,bD,Bh,Ba,bN,Bd,Bb,bS,Bc,BZ,aI,BF,A7,aG,BA,Az,_,0,0,rfl,fun w'' hz=>qb (w1:=w6) RV uL (Nat.le_refl _) (by omega) (Zr.of (w:=w) (K:=w.heap.size+3) (g1:=w.heap.size+3) (hbx.trans KA) hz (Nat.le_refl _) (by omega)),AA⟩
 by_cases k4:ek=4
 ·subst k4
  have hst:=(HS 4).out rfl
  simp only[if_pos rfl,if_true,show ¬((4:Int)=1) from by decide,show ¬((4:Int)=2) from by decide,show ¬((4:Int)=3) from by decide,show ¬((4:Int)=5) from by decide,show ¬((4:Int)=6) from by decide,show ¬((4:Int)=7) from by decide,show ¬((4:Int)=8) from by decide,show ¬((4:Int)=9) from by decide,if_false,true_or,or_true,false_or,or_false,or_self] at hst
  rw[hst]
  clear hst
  go_enter Tryz.func44,Tryz.ntmps44
  go_wp2_with (go_at_call 101;apply Calls.mono;apply (bW (x:=x) (k:=ea) (lo:=lo) (τ:=glue τ w.heap.size (fun _=>0)));(exact hG.Av AO);(exact Li.out);(exact Aq);rintro E w6 ⟨bF,Di,DZ,bL,Bg,BR,bP,Bf,BV,bD,Bh,Ba,bN,Bd,Bb,bS,Bc,BZ,bI,Dg,bIn,bG,Dh,DL,bB,Dj,Cy,rfl,hrw,hup⟩;have JR:Lb _ (w.heap.size+1+1) 10:=Lb.MB hup Dw (fun h=>(by have h2:=h.2;rw[glue,if_neg (by omega)] at h2;omega));obtain⟨hcz,hfz⟩:=Lb.rules JR;have Pe:=hup.size;(try simp only[BO] at Pe);(try dsimp only))
  have hU:Ch (JD lo τ) w w6:=JD.cut (show Ch (JD lo τ) w _ from AA) hup
  refine bodyPost_ret (v:=.tuple #[.agg #[.slice bF DZ Di,.slice bL BR Bg,.slice bP BV Bf,.slice bD Ba Bh,.int .i64 (Sw.send x ea).AB.clock,.slice bN Bb Bd,.slice bS BZ Bc,.slice bI bIn Dg,.slice bG DL Dh,.slice bB Cy Dj],.int .i64 0]) (by simp[results,Tryz.results44,go_sem, *]) rfl ?_
  exact⟨bF,Di,DZ,bL,Bg,BR,bP,Bf,BV,bD,Bh,Ba,bN,Bd,Bb,bS,Bc,BZ,bI,Dg,bIn,bG,Dh,DL,bB,Dj,Cy,rfl,fun w'' hz=>hrw w'' (Zr.of (g1:=w.heap.size+3) KA hz Aq Aq),AA⟩
 by_cases k5:ek=5
 ·subst k5
  have hst:=(HS 5).out rfl
  simp only[if_pos rfl,if_true,show ¬((5:Int)=1) from by decide,show ¬((5:Int)=2) from by decide,show ¬((5:Int)=3) from by decide,show ¬((5:Int)=4) from by decide,show ¬((5:Int)=6) from by decide,show ¬((5:Int)=7) from by decide,show ¬((5:Int)=8) from by decide,show ¬((5:Int)=9) from by decide,if_false,true_or,or_true,false_or,or_false,or_self] at hst
  rw[hst]
  clear hst
  go_enter Tryz.func44,Tryz.ntmps44
  go_wp2_with (go_at_call 102;apply Calls.mono;apply (Ve (x:=x) (kind:=5) (i:=ea) (lo:=lo) (τ:=glue τ w.heap.size (fun _=>0)));(exact hG.Av AO);(exact Li.out);(exact Aq);rintro E w6 ⟨bF,Di,DZ,bL,Bg,BR,bP,Bf,BV,bD,Bh,Ba,bN,Bd,Bb,bS,Bc,BZ,bI,Dg,bIn,bG,Dh,DL,bB,Dj,Cy,rfl,hrw,hup⟩;have JR:Lb _ (w.heap.size+1+1) 10:=Lb.MB hup Dw (fun h=>(by have h2:=h.2;rw[glue,if_neg (by omega)] at h2;omega));obtain⟨hcz,hfz⟩:=Lb.rules JR;have Pe:=hup.size;(try simp only[BO] at Pe);(try dsimp only))
  have hU:Ch (JD lo τ) w w6:=JD.cut (show Ch (JD lo τ) w _ from AA) hup
  refine bodyPost_ret (v:=.tuple #[.agg #[.slice bF DZ Di,.slice bL BR Bg,.slice bP BV Bf,.slice bD Ba Bh,.int .i64 (QL x 5 ea).AB.clock,.slice bN Bb Bd,.slice bS BZ Bc,.slice bI bIn Dg,.slice bG DL Dh,.slice bB Cy Dj],.int .i64 0]) (by simp[results,Tryz.results44,go_sem, *]) rfl ?_
  exact⟨bF,Di,DZ,bL,Bg,BR,bP,Bf,BV,bD,Bh,Ba,bN,Bd,Bb,bS,Bc,BZ,bI,Dg,bIn,bG,Dh,DL,bB,Dj,Cy,rfl,fun w'' hz=>hrw w'' (Zr.of (g1:=w.heap.size+3) KA hz Aq Aq),AA⟩
 by_cases k6:ek=6
 ·subst k6
  have hst:=(HS 6).out rfl
  simp only[if_pos rfl,if_true,show ¬((6:Int)=1) from by decide,show ¬((6:Int)=2) from by decide,show ¬((6:Int)=3) from by decide,show ¬((6:Int)=4) from by decide,show ¬((6:Int)=5) from by decide,show ¬((6:Int)=7) from by decide,show ¬((6:Int)=8) from by decide,show ¬((6:Int)=9) from by decide,if_false,true_or,or_true,false_or,or_false,or_self] at hst
  rw[hst]
  clear hst
  go_enter Tryz.func44,Tryz.ntmps44
  go_wp2_with (go_at_call 102;apply Calls.mono;apply (Ve (x:=x) (kind:=6) (i:=ea) (lo:=lo) (τ:=glue τ w.heap.size (fun _=>0)));(exact hG.Av AO);(exact Li.out);(exact Aq);rintro E w6 ⟨bF,Di,DZ,bL,Bg,BR,bP,Bf,BV,bD,Bh,Ba,bN,Bd,Bb,bS,Bc,BZ,bI,Dg,bIn,bG,Dh,DL,bB,Dj,Cy,rfl,hrw,hup⟩;have JR:Lb _ (w.heap.size+1+1) 10:=Lb.MB hup Dw (fun h=>(by have h2:=h.2;rw[glue,if_neg (by omega)] at h2;omega));obtain⟨hcz,hfz⟩:=Lb.rules JR;have Pe:=hup.size;(try simp only[BO] at Pe);(try dsimp only))
  have hU:Ch (JD lo τ) w w6:=JD.cut (show Ch (JD lo τ) w _ from AA) hup
  refine bodyPost_ret (v:=.tuple #[.agg #[.slice bF DZ Di,.slice bL BR Bg,.slice bP BV Bf,.slice bD Ba Bh,.int .i64 (QL x 6 ea).AB.clock,.slice bN Bb Bd,.slice bS BZ Bc,.slice bI bIn Dg,.slice bG DL Dh,.slice bB Cy Dj],.int .i64 0]) (by simp[results,Tryz.results44,go_sem, *]) rfl ?_
  exact⟨bF,Di,DZ,bL,Bg,BR,bP,Bf,BV,bD,Bh,Ba,bN,Bd,Bb,bS,Bc,BZ,bI,Dg,bIn,bG,Dh,DL,bB,Dj,Cy,rfl,fun w'' hz=>hrw w'' (Zr.of (g1:=w.heap.size+3) KA hz Aq Aq),AA⟩
 by_cases k7:ek=7
 ·subst k7
  have hst:=(HS 7).out rfl
  simp only[if_pos rfl,if_true,show ¬((7:Int)=1) from by decide,show ¬((7:Int)=2) from by decide,show ¬((7:Int)=3) from by decide,show ¬((7:Int)=4) from by decide,show ¬((7:Int)=5) from by decide,show ¬((7:Int)=6) from by decide,show ¬((7:Int)=8) from by decide,show ¬((7:Int)=9) from by decide,if_false,true_or,or_true,false_or,or_false,or_self] at hst
  rw[hst]
  clear hst
  go_enter Tryz.func44,Tryz.ntmps44
  go_wp2_with (go_at_call 102;apply Calls.mono;apply (Ve (x:=x) (kind:=7) (i:=ea) (lo:=lo) (τ:=glue τ w.heap.size (fun _=>0)));(exact hG.Av AO);(exact Li.out);(exact Aq);rintro E w6 ⟨bF,Di,DZ,bL,Bg,BR,bP,Bf,BV,bD,Bh,Ba,bN,Bd,Bb,bS,Bc,BZ,bI,Dg,bIn,bG,Dh,DL,bB,Dj,Cy,rfl,hrw,hup⟩;have JR:Lb _ (w.heap.size+1+1) 10:=Lb.MB hup Dw (fun h=>(by have h2:=h.2;rw[glue,if_neg (by omega)] at h2;omega));obtain⟨hcz,hfz⟩:=Lb.rules JR;have Pe:=hup.size;(try simp only[BO] at Pe);(try dsimp only))
  have hU:Ch (JD lo τ) w w6:=JD.cut (show Ch (JD lo τ) w _ from AA) hup
  refine bodyPost_ret (v:=.tuple #[.agg #[.slice bF DZ Di,.slice bL BR Bg,.slice bP BV Bf,.slice bD Ba Bh,.int .i64 (QL x 7 ea).AB.clock,.slice bN Bb Bd,.slice bS BZ Bc,.slice bI bIn Dg,.slice bG DL Dh,.slice bB Cy Dj],.int .i64 0]) (by simp[results,Tryz.results44,go_sem, *]) rfl ?_
  exact⟨bF,Di,DZ,bL,Bg,BR,bP,Bf,BV,bD,Bh,Ba,bN,Bd,Bb,bS,Bc,BZ,bI,Dg,bIn,bG,Dh,DL,bB,Dj,Cy,rfl,fun w'' hz=>hrw w'' (Zr.of (g1:=w.heap.size+3) KA hz Aq Aq),AA⟩
 by_cases k8:ek=8
 ·subst k8
  have hst:=(HS 8).out rfl
  simp only[if_pos rfl,if_true,show ¬((8:Int)=1) from by decide,show ¬((8:Int)=2) from by decide,show ¬((8:Int)=3) from by decide,show ¬((8:Int)=4) from by decide,show ¬((8:Int)=5) from by decide,show ¬((8:Int)=6) from by decide,show ¬((8:Int)=7) from by decide,show ¬((8:Int)=9) from by decide,if_false,true_or,or_true,false_or,or_false,or_self] at hst
  rw[hst]
  clear hst
  go_enter Tryz.func44,Tryz.ntmps44
  go_wp2_with (go_at_call 103;apply Calls.mono;apply (bV (x:=x) (k:=ea) (t:=et) (who:=ew) (lo:=lo) (τ:=glue τ w.heap.size (fun _=>0)));(exact hG.Av AO);(exact Li.out);(exact Aq);rintro E w6 ⟨bF,Di,DZ,bL,Bg,BR,bP,Bf,BV,bD,Bh,Ba,bN,Bd,Bb,bS,Bc,BZ,bI,Dg,bIn,bG,Dh,DL,bB,Dj,Cy,rfl,hrw,hup⟩;have JR:Lb _ (w.heap.size+1+1) 10:=Lb.MB hup Dw (fun h=>(by have h2:=h.2;rw[glue,if_neg (by omega)] at h2;omega));obtain⟨hcz,hfz⟩:=Lb.rules JR;have Pe:=hup.size;(try simp only[BO] at Pe);(try dsimp only))
  have hU:Ch (JD lo τ) w w6:=JD.cut (show Ch (JD lo τ) w _ from AA) hup
  refine bodyPost_ret (v:=.tuple #[.agg #[.slice bF DZ Di,.slice bL BR Bg,.slice bP BV Bf,.slice bD Ba Bh,.int .i64 (Sw.Da x ea et ew).1.AB.clock,.slice bN Bb Bd,.slice bS BZ Bc,.slice bI bIn Dg,.slice bG DL Dh,.slice bB Cy Dj],.int .i64 (Sw.Da x ea et ew).2]) (by simp[results,Tryz.results44,go_sem, *]) rfl ?_
  exact⟨bF,Di,DZ,bL,Bg,BR,bP,Bf,BV,bD,Bh,Ba,bN,Bd,Bb,bS,Bc,BZ,bI,Dg,bIn,bG,Dh,DL,bB,Dj,Cy,rfl,fun w'' hz=>hrw w'' (Zr.of (g1:=w.heap.size+3) KA hz Aq Aq),AA⟩
 by_cases k9:ek=9
 ·subst k9
  have hst:=(HS 9).out rfl
  simp only[if_pos rfl,if_true,show ¬((9:Int)=1) from by decide,show ¬((9:Int)=2) from by decide,show ¬((9:Int)=3) from by decide,show ¬((9:Int)=4) from by decide,show ¬((9:Int)=5) from by decide,show ¬((9:Int)=6) from by decide,show ¬((9:Int)=7) from by decide,show ¬((9:Int)=8) from by decide,if_false,true_or,or_true,false_or,or_false,or_self] at hst
  rw[hst]
  clear hst
  go_enter Tryz.func44,Tryz.ntmps44
  go_wp2_with (go_at_call 104;apply Calls.mono;apply (bU (x:=x) (k:=ea) (lo:=lo) (τ:=glue τ w.heap.size (fun _=>0)));(exact hG.Av AO);(exact Li.out);(exact Aq);rintro E w6 ⟨bF,Di,DZ,bL,Bg,BR,bP,Bf,BV,bD,Bh,Ba,bN,Bd,Bb,bS,Bc,BZ,bI,Dg,bIn,bG,Dh,DL,bB,Dj,Cy,rfl,hrw,hup⟩;have JR:Lb _ (w.heap.size+1+1) 10:=Lb.MB hup Dw (fun h=>(by have h2:=h.2;rw[glue,if_neg (by omega)] at h2;omega));obtain⟨hcz,hfz⟩:=Lb.rules JR;have Pe:=hup.size;(try simp only[BO] at Pe);(try dsimp only))
  have hU:Ch (JD lo τ) w w6:=JD.cut (show Ch (JD lo τ) w _ from AA) hup
  refine bodyPost_ret (v:=.tuple #[.agg #[.slice bF DZ Di,.slice bL BR Bg,.slice bP BV Bf,.slice bD Ba Bh,.int .i64 (Sw.tell x ea).AB.clock,.slice bN Bb Bd,.slice bS BZ Bc,.slice bI bIn Dg,.slice bG DL Dh,.slice bB Cy Dj],.int .i64 0]) (by simp[results,Tryz.results44,go_sem, *]) rfl ?_
  exact⟨bF,Di,DZ,bL,Bg,BR,bP,Bf,BV,bD,Bh,Ba,bN,Bd,Bb,bS,Bc,BZ,bI,Dg,bIn,bG,Dh,DL,bB,Dj,Cy,rfl,fun w'' hz=>hrw w'' (Zr.of (g1:=w.heap.size+3) KA hz Aq Aq),AA⟩
 have hst:=(HS ek).out rfl
 simp only[if_neg k1,if_neg k2,if_neg k3,if_neg k4,if_neg (show ¬(ek=5∨ek=6∨ek=7) from by omega),if_neg k8,if_neg k9] at hst
 rw[hst]
 clear hst
 have q1:(ek==1)=false:=by simp[k1]
 have q2:(ek==2)=false:=by simp[k2]
 have q3:(ek==3)=false:=by simp[k3]
 have q4:(ek==4)=false:=by simp[k4]
 have q5:(ek==5)=false:=by simp[k5]
 have q6:(ek==6)=false:=by simp[k6]
 have q7:(ek==7)=false:=by simp[k7]
 have q8:(ek==8)=false:=by simp[k8]
 have q9:(ek==9)=false:=by simp[k9]
 go_enter Tryz.func44,Tryz.ntmps44
 go_wp2_with fail
 refine bodyPost_ret (v:=.tuple #[.agg #[.slice aF A_ BD,.slice aL AU Ae,.slice aP AY Ag,.slice aD AQ Ac,.int .i64 x.AB.clock,.slice aN Aa Ad,.slice aS Ab Af,.slice aI A7 BF,.slice aG Az BA,.slice aB Ao aBc],.int .i64 0]) (by simp[results,Tryz.results44,go_sem, *]) rfl ?_
 exact⟨aF,BD,A_,aL,Ae,AU,aP,Ag,AY,aD,Ac,AQ,aN,Ad,Aa,aS,Af,Ab,aI,BF,A7,aG,BA,Az,aB,aBc,Ao,rfl,fun w'' hz=>((hW.Av AO).zeros hz).JU,AA⟩
end Go.Proofs.YtgaflnpmilikcaaGreat
