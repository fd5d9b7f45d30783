/- Texts joined: WldH. -/
import Derived.Test.YtgaflnpmilikcaaGreatPx41
import Derived.Test.YtgaflnpmilikcaaGreatPx36
import Derived.Test.YtgaflnpmilikcaaGreatPx31
import Derived.Test.YtgaflnpmilikcaaGreatPx9
set_option maxRecDepth 100000
set_option linter.unusedSimpArgs false
set_option linter.unusedVariables false
namespace Go.Proofs.YtgaflnpmilikcaaGreat
open Go.RowKit Go
set_option maxHeartbeats 4000000
theorem bV (aF:Option Addr) (BD A_:Nat) (aL:Option Addr) (Ae AU:Nat) (aP:Option Addr) (Ag AY:Nat) (aD:Option Addr) (Ac AQ:Nat) (aN:Option Addr) (Ad Aa:Nat) (aS:Option Addr) (Af Ab:Nat) (aI:Option Addr) (BF A7:Nat) (aG:Option Addr) (BA Az:Nat) (aB:Option Addr) (aBc Ao:Nat) (x:Sw.World) (k t who:Int) (lo:Nat) (τ:Nat→Nat) (w:World) (hW:Eh Jk I4 τ w lo aF BD A_ aL Ae AU aP Ag AY aD Ac AQ aN Ad Aa aS Af Ab aI BF A7 aG BA Az aB aBc Ao x) (hok:Sw.Cc x=true) (hlo:lo≤w.heap.size):Calls Tryz.prog 103 #[.agg #[.slice aF A_ BD,.slice aL AU Ae,.slice aP AY Ag,.slice aD AQ Ac,.int .i64 x.AB.clock,.slice aN Aa Ad,.slice aS Ab Af,.slice aI A7 BF,.slice aG Az BA,.slice aB Ao aBc],.int .i64 k,.int .i64 t,.int .i64 who] w fun E w'=>Sd lo τ w w' (fun u=>.tuple #[u,.int .i64 (Sw.Da x k t who).2]) E (Sw.Da x k t who).1:=by
 obtain⟨-,-,hG2,-,-,RS⟩:=IP hok
 have hl4:=hW.AV.rg.len.1
 have L4:=Lib.hid (show Az=2 by omega)
 have X8:=Lib.hid hW.Dt.log.ow.1
 have Yb:AU≤Ae:=hW.Dt.log.ow.rs.2.le
 have hbL:=Rs.big hW.Dt.log.ow.rs
 clear hl4 hG2
 cases g1:Sw.Br k 0 1
 case false=>
  have e:Sw.Da x k t who=(x,0):=by simp[Sw.Da,g1]
  rw[e];clear e
  go_enter Tryz.func103,Tryz.ntmps103
  go_wp2_with fail
  (go_quiet ((go_at_call 48;exact Calls.AR (Aw _ _ _ _)));all_goals (generalize CE:World.drewN _ nq=W0;have hb0:=Ex.Iz CE;clear CE;obtain⟨hc0,hf0,hz0⟩:=xy hb0))
  go_wp2_with fail
  refine bodyPost_ret (v:=.tuple #[.agg #[.slice aF A_ BD,.slice aL AU Ae,.slice aP AY Ag,.slice aD AQ Ac,.int .i64 x.AB.clock,.slice aN Aa Ad,.slice aS Ab Af,.slice aI A7 BF,.slice aG Az BA,.slice aB Ao aBc],.int .i64 0]) (by simp[results,Tryz.results103,go_sem, *]) rfl ?_
  exact⟨aF,BD,A_,aL,Ae,AU,aP,Ag,AY,aD,Ac,AQ,aN,Ad,Aa,aS,Af,Ab,aI,BF,A7,aG,BA,Az,aB,aBc,Ao,rfl,fun w'' hz=>((hW.Av AO).zeros hz).JU,AA⟩
 cases g2:Sw.Br t 0 7
 case false=>
  have e:Sw.Da x k t who=(x,0):=by simp[Sw.Da,g2]
  rw[e];clear e
  go_enter Tryz.func103,Tryz.ntmps103
  go_wp2_with fail
  (go_quiet ((go_at_call 48;exact Calls.AR (Aw _ _ _ _)));all_goals (generalize CE:World.drewN _ nq=W0;have hb0:=Ex.Iz CE;clear CE;obtain⟨hc0,hf0,hz0⟩:=xy hb0))
  go_wp2_with fail
  refine bodyPost_ret (v:=.tuple #[.agg #[.slice aF A_ BD,.slice aL AU Ae,.slice aP AY Ag,.slice aD AQ Ac,.int .i64 x.AB.clock,.slice aN Aa Ad,.slice aS Ab Af,.slice aI A7 BF,.slice aG Az BA,.slice aB Ao aBc],.int .i64 0]) (by simp[results,Tryz.results103,go_sem, *]) rfl ?_
  exact⟨aF,BD,A_,aL,Ae,AU,aP,Ag,AY,aD,Ac,AQ,aN,Ad,Aa,aS,Af,Ab,aI,BF,A7,aG,BA,Az,aB,aBc,Ao,rfl,fun w'' hz=>((hW.Av AO).zeros hz).JU,AA⟩
 have Zb:=Sw.BB.1 g1
 have uJ:=Sw.BB.1 g2
 obtain⟨kk,rfl⟩:∃ kk:Nat,k=kk:=⟨k.toNat,by omega⟩
 obtain⟨tt,rfl⟩:∃ tt:Nat,t=tt:=⟨t.toNat,by omega⟩
 obtain⟨vg,Jj,Pf,Kz⟩:=hW.AV.ex
 obtain⟨gG,xg,rfl,Ut,WH,hxg,c0,c1',c2',c3',eO⟩:=Lc Jj.ow (show kk<Az by have:=L4.out;omega)
 obtain⟨y,hy2⟩:∃ y,x.AV[kk]?=some y:=⟨_,List.getElem?_eq_getElem (by have:=L4.out;omega)⟩
 obtain⟨e1,hdone⟩:=Kz kk xg y hxg hy2
 obtain⟨xh,xA,xc,xn⟩:=xg
 dsimp only at e1 hdone c0 c1' c2' c3'
 subst e1
 have Ji:=RS y (List.mem_of_getElem? hy2)
 have hsz0:0≤y.head.size:=by
  have h1:=Ji
  simp only[Sw.DF,Sw.E9,Bool.and_eq_true] at h1
  exact (Sw.BB.1 h1.1.1.1).1
 obtain⟨ss,hss⟩:∃ ss:Nat,y.head.size=ss:=⟨y.head.size.toNat,by omega⟩
 rw[hss] at c0
 have hga:Sw.Cb x kk=y:=by unfold Sw.Cb;rw[Int.toNat_natCast];exact Sw.CP hy2
 have u1:(0:Int)≤(kk:Int):=by omega
 have u2:(kk:Int)<(Az:Int):=by have:=L4.out;omega
 have aK:=Lib.hid hss
 have lK:=Lib.hid hga
 have zb:=Lib.hid Ji
 have ze:=Lib.hid hy2
 have YV:tt<8:=by omega
 have hkk:kk<2:=by omega
 clear hss hga Ji hy2 hxg RS Zb uJ hsz0 Jj Pf Kz
 by_cases hgt:AU<ss
 ·have d1:decide ((AU:Int)<(ss:Int))=true:=by simp;omega
  have d2:(AU:Int)<(ss:Int):=by omega
  have e:Sw.Da x kk tt who=(x,0):=by
   unfold Sw.Da
   rw[lK.out,aK.out,if_neg (by rw[g1,g2];have:=X8.out;simp;omega)]
  rw[e];clear e
  go_enter Tryz.func103,Tryz.ntmps103
  go_wp2_with fail
  (go_quiet ((go_at_call 48;exact Calls.AR (Aw _ _ _ _)));all_goals (generalize CE:World.drewN _ nq=W0;have hb0:=Ex.Iz CE;clear CE;obtain⟨hc0,hf0,hz0⟩:=xy hb0))
  go_wp2_with fail
  refine bodyPost_ret (v:=.tuple #[.agg #[.slice aF A_ BD,.slice aL AU Ae,.slice aP AY Ag,.slice aD AQ Ac,.int .i64 x.AB.clock,.slice aN Aa Ad,.slice aS Ab Af,.slice aI A7 BF,.slice (some ⟨gG,0,none⟩) Az BA,.slice aB Ao aBc],.int .i64 0]) (by simp[results,Tryz.results103,go_sem, *]) rfl ?_
  exact⟨aF,BD,A_,aL,Ae,AU,aP,Ag,AY,aD,Ac,AQ,aN,Ad,Aa,aS,Af,Ab,aI,BF,A7,some ⟨gG,0,none⟩,BA,Az,aB,aBc,Ao,rfl,fun w'' hz=>((hW.Av AO).zeros hz).JU,AA⟩
 have d1:decide ((AU:Int)<(ss:Int))=false:=by simp;omega
 have d2:¬(AU:Int)<(ss:Int):=by omega
 have z1:(ss:Int)≤(Ae:Int):=by omega
 have z2:(0:Int)≤(ss:Int):=by omega
 have z3:ss≤Ae:=by omega
 have hT:=Rs.take hW.Dt.log.rs (fun _=>rfl) (k:=ss) (by omega)
 have hG:=hW.CX (τ':=fun _=>0) (Nat.le_refl _)
 have hcond:(Sw.Br (kk:Int) 0 1&&Sw.Br (tt:Int) 0 7&&decide (y.head.size≤(x.AB.log.length:Int)))=true:=by
  rw[g1,g2,aK.out];have:=X8.out;simp;omega
 cases hf:Sw.Bq (x.AB.log.take ss) with
 | none=>
  have e:Sw.Da x kk tt who=(x,0):=by
   unfold Sw.Da
   rw[lK.out,if_pos hcond,aK.out,Int.toNat_natCast,hf]
  rw[e]
  have HF:=Lib.hid hf
  clear e hf hcond
  go_enter Tryz.func103,Tryz.ntmps103
  go_wp2_with fail
  (go_quiet ((go_at_call 48;exact Calls.AR (Aw _ _ _ _)));all_goals (generalize CE:World.drewN _ nq=W0;have hb0:=Ex.Iz CE;clear CE;obtain⟨hc0,hf0,hz0⟩:=xy hb0))
  go_wp2_with fail
  (focus (refine CF fun W0 hb0 hc0 hf0 hz0=>?_;refine Aj [] (S:=fun w'=>Held W0 w') DC (fun hHeld=>?_);(repeat' (first|refine FQ [] [] hHeld (h:=?_)|refine FW (fun K hK=>?_) ?_|refine FV ?_|exact Cf|refine FT (fun K hK=>?_) ?_|(revert hK;intro hK;go_simp;(try ((go_at_call 105;apply Calls.mono;apply (EO (xs:=x.AB.log.take ss));(apply Rs.A8 hT;(exact AO));rintro E w1 ⟨A1,c1,n1,rfl,Gr,hb⟩;rw[HF.out];obtain⟨hc,hf,hz⟩:=xy hb);(try go_wp2_with fail)));refine CQ hK DC (h:=?_);clear hK K hHeld;intro hHeld)));all_goals (refine FR ?_);all_goals (obtain⟨hb,hc,hf,hz⟩:=xh (by assumption:Held W0 _))))
  go_wp2_with fail
  refine bodyPost_ret (v:=.tuple #[.agg #[.slice aF A_ BD,.slice aL AU Ae,.slice aP AY Ag,.slice aD AQ Ac,.int .i64 x.AB.clock,.slice aN Aa Ad,.slice aS Ab Af,.slice aI A7 BF,.slice (some ⟨gG,0,none⟩) Az BA,.slice aB Ao aBc],.int .i64 0]) (by simp[results,Tryz.results103,go_sem, *]) rfl ?_
  exact⟨aF,BD,A_,aL,Ae,AU,aP,Ag,AY,aD,Ac,AQ,aN,Ad,Aa,aS,Af,Ab,aI,BF,A7,some ⟨gG,0,none⟩,BA,Az,aB,aBc,Ao,rfl,fun w'' hz=>((hW.Av AO).zeros hz).JU,AA⟩
 | some rows=>
  have h8:=Sw.Ct (Sw.Bv hf)
  obtain⟨row,hrow⟩:∃ row,rows[tt]?=some row:=⟨_,List.getElem?_eq_getElem (by omega)⟩
  have hra:Sw.rowAt rows tt=row:=by unfold Sw.rowAt;rw[Int.toNat_natCast];exact Sw.CP hrow
  obtain⟨z,hz0⟩:∃ z,z=Sw.CB ⟨y.head,y.done⟩ tt who row (Sw.Dl rows tt):=⟨_,rfl⟩
  have e:Sw.Da x kk tt who=if z.2=true then ({ x with AV:=x.AV.set kk z.1 },1) else (x,3):=by
   unfold Sw.Da
   rw[lK.out,if_pos hcond,aK.out,Int.toNat_natCast,hf]
   dsimp only
   rw[hra,Int.toNat_natCast,hz0]
  have yP:z.2=false→x.AV.set kk z.1=x.AV:=fun h=>by
   have hz1:z.1=y:=by
    rw[hz0] at h ⊢
    unfold Sw.CB at h ⊢
    rw[if_pos zb.out] at h ⊢
    split at h
    ·cases h
    ·rw[if_neg (by assumption)]
   rw[hz1]
   apply List.ext_getElem?
   intro i
   rw[List.getElem?_set]
   split
   ·rename_i e
    subst e
    rw[if_pos (List.getElem?_eq_some_iff.1 ze.out).1,ze.out]
   ·rfl
  have HE:=Lib.hid e
  have HZ:=Lib.hid hz0
  have HZF:=Lib.hid yP
  have HF:=Lib.hid hf
  have H8:=Lib.hid h8
  have lH:=Lib.hid hrow
  clear e hf hcond hz0 yP h8 hrow hra
  go_enter Tryz.func103,Tryz.ntmps103
  go_wp2_with fail
  (go_quiet ((go_at_call 48;exact Calls.AR (Aw _ _ _ _)));all_goals (generalize CE:World.drewN _ nq=W0;have hb0:=Ex.Iz CE;clear CE;obtain⟨hc0,hf0,hz0⟩:=xy hb0))
  go_wp2_with fail
  (focus (refine CF fun W0 hb0 hc0 hf0 hz0=>?_;refine Aj [] (S:=fun w'=>Held W0 w') DC (fun hHeld=>?_);(repeat' (first|refine FQ [] [] hHeld (h:=?_)|refine FW (fun K hK=>?_) ?_|refine FV ?_|exact Cf|refine FT (fun K hK=>?_) ?_|(revert hK;intro hK;go_simp;(try ((go_at_call 105;apply Calls.mono;apply (EO (xs:=x.AB.log.take ss));(apply Rs.A8 hT;(exact AO));rintro E w1 ⟨A1,c1,n1,rfl,Gr,hb⟩;rw[HF.out] at Gr;rw[HF.out];obtain⟨hc,hf,hz⟩:=xy hb);(try go_wp2_with fail)));refine CQ hK DC (h:=?_);clear hK K hHeld;intro hHeld)));all_goals (refine FR ?_);all_goals (obtain⟨hb,hc,hf,hz⟩:=xh (by assumption:Held W0 _))))
  obtain rfl:n1=8:=by have:=Gr.1;have:=H8.out;simp at *;omega
  obtain⟨gR,row',rfl,FY,uw,hrow',dR0,dR1,dR2,hfR⟩:=ND Gr YV
  obtain rfl:row'=row:=by have h:=lH.out;rw[Option.getD_some] at hrow';rw[hrow'] at h;exact Option.some.inj h
  have jH:PQ w1 _ (some ⟨gR,0,none⟩) c1 8 rows:=Gr
  have ut:(0:Int)≤(tt:Int):=by omega
  have ut2:(tt:Int)<8:=by omega
  clear hrow' Gr
  go_upto_region 6 with fail
  (refine CF fun W0 hb0 hc0 hf0 hz0=>?_)
  have p0:W0.cell? ⟨w.heap.size,0,none⟩=some (.slice aF A_ BD):=(Ak);have p1:W0.cell? ⟨w.heap.size,1,none⟩=some (.slice aL AU Ae):=(Ak);have p2:W0.cell? ⟨w.heap.size,2,none⟩=some (.slice aP AY Ag):=(Ak);have p3:W0.cell? ⟨w.heap.size,3,none⟩=some (.slice aD AQ Ac):=(Ak);have p4:W0.cell? ⟨w.heap.size,4,none⟩=some (.int .i64 x.AB.clock):=(Ak);have p5:W0.cell? ⟨w.heap.size,5,none⟩=some (.slice aN Aa Ad):=(Ak);have p6:W0.cell? ⟨w.heap.size,6,none⟩=some (.slice aS Ab Af):=(Ak);have p7:W0.cell? ⟨w.heap.size,7,none⟩=some (.slice aI A7 BF):=(Ak);have p8:W0.cell? ⟨w.heap.size,8,none⟩=some (.slice (some ⟨gG,0,none⟩) Az BA):=(Ak);have p9:W0.cell? ⟨w.heap.size,9,none⟩=some (.slice aB Ao aBc):=(Ak)
  have pf:∀ i:Nat,W0.frozen? ⟨w.heap.size,i,none⟩=false:=fun i=>Ak
  have s0:W0.cell? ⟨gG,kk*4,none⟩=some (.int .i64 y.head.size):=by rw[aK.out];(go_simp;first|done|simp[*])
  have s1:W0.cell? ⟨gG,kk*4+1,none⟩=some (.int .i64 y.head.log):=Ak
  have s2:W0.cell? ⟨gG,kk*4+2,none⟩=some (.int .i64 y.head.own):=Ak
  have s3:W0.cell? ⟨gG,kk*4+3,none⟩=some (.slice xA xn xc):=Ak
  have sf:∀ i:Nat,W0.frozen? ⟨gG,i,none⟩=false:=fun i=>Ak
  have t0:W0.cell? ⟨gR,tt*3,none⟩=some (.int .i64 row'.who):=Ak
  have t1:W0.cell? ⟨gR,tt*3+1,none⟩=some (.int .i64 row'.EY):=Ak
  have t2:W0.cell? ⟨gR,tt*3+2,none⟩=some (.bool row'.used):=Ak
  have Fu:Lb W0 (w.heap.size+1) 10:=Dw
  have wO:RR W0 0 (some ⟨gR,0,none⟩) c1 8 rows:=by apply Ow.Es jH;(exact AO)
  have RV:=hG.Av (show KF lo w W0 from AO)
  have oZ:RI W0 0 xA xc xn y.done:=hdone.rs.A8 AO
  have hcq:Ex w W0:=AA
  have QA:w.heap.size+2≤W0.heap.size:=Aq
  have uq:gR<W0.heap.size:=Aq
  clear hb0 hc0 hf0
  obtain⟨Wq,CE⟩:∃ z,z=W0:=⟨_,rfl⟩
  subst CE
  obtain⟨hcz,hfz⟩:=Lb.rules Fu
  (focus (refine CF fun W0 hb0 hc0 hf0 hz0=>?_;refine Aj [] (S:=fun w'=>Held W0 w') DC (fun hHeld=>?_);(repeat' (first|refine FQ [] [] hHeld (h:=?_)|refine FW (fun K hK=>?_) ?_|refine FV ?_|exact Cf|refine FT (fun K hK=>?_) ?_|(revert hK;intro hK;go_simp;(try ((first|(go_at_call 148;apply Calls.mono;apply (Tq (xs:=rows) (t:=tt));(apply Rs.A8 wO;(exact AO));omega;rintro E w3 ⟨A3,c3,n3,rfl,LK,hb⟩;obtain⟨hc,hf,hz⟩:=xy hb)|(go_at_call 147;apply Calls.mono;apply (VY (t:=y.head) (xs:=y.done) (k:=tt) (who:=who) (r:=row') (ps:=Sw.Dl rows tt));(apply Rs.A8 oZ;(exact AO));(apply Ow.Es LK;(exact AO));rintro E w5 ⟨B3,d3,n5,rfl,Ki,hb⟩;rw[← HZ.out] at Ki;rw[← HZ.out];obtain⟨hc,hf,hz⟩:=xy hb));(try go_wp2_with fail)));refine CQ hK DC (h:=?_);clear hK K hHeld;intro hHeld)));all_goals (refine FR ?_);all_goals (obtain⟨hb,hc,hf,hz⟩:=xh (by assumption:Held W0 _))))
  all_goals go_upto_region 7 with fail
  all_goals (refine CF fun W0 hb0 hc0 hf0 hz0=>?_)
  all_goals have Rz:Ga W0 _ B3 d3 n5 z.1.done:=Ki.keep AO
  all_goals have Lp:Ex Wq W0:=AA
  all_goals have hbx:Ch (BX w.heap.size (w.heap.size+2)) (setCells W0 gG (kk*4) (GV.enc ⟨z.1.head,B3,d3,n5⟩)) ((((W0.setCell ⟨gG,kk*4,none⟩ (.int .i64 z.1.head.size)).setCell ⟨gG,kk*4+1,none⟩ (.int .i64 z.1.head.log)).setCell ⟨gG,kk*4+2,none⟩ (.int .i64 z.1.head.own)).setCell ⟨gG,kk*4+3,none⟩ (.slice B3 n5 d3)):=Ch.refl _ _
  all_goals have Og:JD lo τ gG:=hW.RZ ⟨gG,0,none⟩ rfl
  all_goals have oV:Ch (JD lo τ) w ((((W0.setCell ⟨gG,kk*4,none⟩ (.int .i64 z.1.head.size)).setCell ⟨gG,kk*4+1,none⟩ (.int .i64 z.1.head.log)).setCell ⟨gG,kk*4+2,none⟩ (.int .i64 z.1.head.own)).setCell ⟨gG,kk*4+3,none⟩ (.slice B3 n5 d3)):=cS (cS (cS (cS (Ex.ch (cE Lp hcq)) (.inl Og) _) (.inl Og) _) (.inl Og) _) (.inl Og) _
  all_goals (cases hz2:z.2;(focus (go_wp2_with fail;refine bodyPost_ret (v:=.tuple #[.agg #[.slice aF A_ BD,.slice aL AU Ae,.slice aP AY Ag,.slice aD AQ Ac,.int .i64 x.AB.clock,.slice aN Aa Ad,.slice aS Ab Af,.slice aI A7 BF,.slice (some ⟨gG,0,none⟩) Az BA,.slice aB Ao aBc],.int .i64 3]) (by simp[results,Tryz.results103,go_sem, *]) rfl ?_;rw[HE.out,if_neg (by rw[hz2];decide)];refine⟨aF,BD,A_,aL,Ae,AU,aP,Ag,AY,aD,Ac,AQ,aN,Ad,Aa,aS,Af,Ab,aI,BF,A7,some ⟨gG,0,none⟩,BA,Az,aB,aBc,Ao,rfl,fun w'' hz=>?_,AA⟩;obtain⟨v1,v2,v3,v4,v5⟩:=Eh.Uy (w1:=W0) (y:=z.1) (k0:=w.heap.size+2) RV rfl (by have:=L4.out;omega) Lp (Rz.less Aq) Aq (by omega) (Zr.of (w:=w) (g1:=w.heap.size+2) (hbx.trans KA) hz (Nat.le_refl _) (by omega));rw[HZF.out hz2] at v4;exact⟨v1,v2,v3,v4,v5⟩));(focus (go_wp2_with fail;refine bodyPost_ret (v:=.tuple #[.agg #[.slice aF A_ BD,.slice aL AU Ae,.slice aP AY Ag,.slice aD AQ Ac,.int .i64 x.AB.clock,.slice aN Aa Ad,.slice aS Ab Af,.slice aI A7 BF,.slice (some ⟨gG,0,none⟩) Az BA,.slice aB Ao aBc],.int .i64 1]) (by simp[results,Tryz.results103,go_sem, *]) rfl ?_;rw[HE.out,if_pos hz2];refine⟨aF,BD,A_,aL,Ae,AU,aP,Ag,AY,aD,Ac,AQ,aN,Ad,Aa,aS,Af,Ab,aI,BF,A7,some ⟨gG,0,none⟩,BA,Az,aB,aBc,Ao,rfl,fun w'' hz=>?_,AA⟩;obtain⟨v1,v2,v3,v4,v5⟩:=Eh.Uy (w1:=W0) (y:=z.1) (k0:=w.heap.size+2) RV rfl (by have:=L4.out;omega) Lp (Rz.less Aq) Aq (by omega) (Zr.of (w:=w) (g1:=w.heap.size+2) (hbx.trans KA) hz (Nat.le_refl _) (by omega));exact⟨v1,v2,v3,v4,v5⟩)))
end Go.Proofs.YtgaflnpmilikcaaGreat
