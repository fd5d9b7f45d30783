/- Texts joined: DrY. -/
import Derived.Test.YtgaflnpmilikcaaGreatPx50
import Derived.Test.YtgaflnpmilikcaaGreatPx40
set_option maxRecDepth 100000
set_option linter.unusedSimpArgs false
set_option linter.unusedVariables false
namespace Go.Proofs.YtgaflnpmilikcaaGreat
open Go.RowKit Go
set_option maxHeartbeats 20000000
theorem WS.kY {g lo:Nat} {τ:Nat→Nat} {w w1:World} {aF aL aP aD aN aS aI aG aB:Option Addr} {BD A_ Ae AU Ag AY Ac AQ Ad Aa Af Ab BF A7 BA Az aBc Ao:Nat} {x:Sw.World} (h:Eh Jk I4 τ w lo aF BD A_ aL Ae AU aP Ag AY aD Ac AQ aN Ad Aa aS Af Ab aI BF A7 aG BA Az aB aBc Ao x) (hb:KF lo w w1) (hA:Fw w1 g aF BD A_ aL Ae AU aP Ag AY aD Ac AQ aN Ad Aa aS Af Ab aI BF A7 aG BA Az aB aBc Ao x.AB.clock) (hL:Lb w1 g 10) (hg:g<lo) (hlo:lo≤w.heap.size):∃ τ',WS g lo τ' w1 aF BD A_ aL Ae AU aP Ag AY aD Ac AQ aN Ad Aa aS Af Ab aI BF A7 aG BA Az aB aBc Ao x τ' w1:=
 ⟨_,WS.start ((Eh.EM (τ':=fun _=>0) h.loose (Nat.le_refl _)).Av hb) hA hL (if_pos hg) (Nat.le_trans hlo hb.size)⟩
section
variable {g lo:Nat} {τ0 τ τ':Nat→Nat} {w0 w w' w1:World} {aF aL aP aD aN aS aI aG aB:Option Addr} {BD A_ Ae AU Ag AY Ac AQ Ad Aa Af Ab BF A7 BA Az aBc Ao:Nat} {x:Sw.World}
theorem WS.kQ (h:WS g lo τ0 w0 aF BD A_ aL Ae AU aP Ag AY aD Ac AQ aN Ad Aa aS Af Ab aI BF A7 aG BA Az aB aBc Ao x τ w) {A:Option Addr} {c k:Nat} {gs:List Sw.Gate} (hG:Kj OM τ' w' lo A c k gs) (tg:∀ b,b<w.heap.size→τ' b=τ b) (hc:Ch (KW aG) w w') :
  WS g lo τ0 w0 aF BD A_ aL Ae AU aP Ag AY aD Ac AQ aN Ad Aa aS Af Ab aI BF A7 A c k aB aBc Ao { x with AV:=gs } τ' (w'.setCell ⟨g,8,none⟩ (.slice A k c)):=by
 obtain⟨vs,v1,_⟩:=h.ow.AV.ex
 have hS:¬KW aG g:=fun ⟨a,ha,e⟩=>by have:=v1.tag a ha;have:=h.g0;rw[← e] at *;omega
 have hk:=hc.block g h.at_.lt hS
 have hcc:∀ i:Nat,w'.cell? ⟨g,i,none⟩=w.cell? ⟨g,i,none⟩:=fun i=>World.cell?_of_block (w:=w) (a:=⟨g,i,none⟩) hk
 have K:∀ t,t≠8→KT τ' t lo w w':=fun t ht=>KT.retag (KT.ch hc (KT.refl _ _ _ _) fun i ⟨a,ha,hi⟩=>.inr (by rw[hi,v1.tag a ha];exact Ne.symm ht)) tg
 have hw:Eh OM Oi τ' w' lo aF BD A_ aL Ae AU aP Ag AY aD Ac AQ aN Ad Aa aS Af Ab aI BF A7 A c k aB aBc Ao { x with AV:=gs }:=
  ⟨(h.ow.first.retag tg).keep (K 6 (by decide)),(h.ow.Dt.retag tg).keep fun t h1 h5=>K t (by omega),(h.ow.lines.retag tg).keep (K 7 (by decide)),hG,(h.ow.BS.retag tg).keep (K 9 (by decide)) fun j=>K _ (by unfold Oi;omega)⟩
 refine h.trans ⟨?_,(h.at_.apart hc hS).setW (.inr (by omega)),?_,World.cell?_setCell_same _ _ _ ((hcc 8).trans h.AV),?_,(h.lb.MB hc hS).set,hw.cell ((tg g h.at_.lt).trans h.g0) _ _,tg,cS (Ch.mono hc fun i _ ⟨a,ha,e⟩=>.inr ?_) (.inl (.inl rfl)) _,h.at_.lt,h.g0,h.lo_le⟩
 ·exact (World.cell?_setCell_other _ _ _ _ (Fp (by omega))).trans ((hcc 0).trans h.first)
 ·exact (World.cell?_setCell_other _ _ _ _ (Fp (by omega))).trans ((hcc 7).trans h.lines)
 ·exact (World.cell?_setCell_other _ _ _ _ (Fp (by omega))).trans ((hcc 9).trans h.BS)
 ·subst e
  have h1:=v1.ow.blk ha
  have h2:=v1.tag a ha
  exact⟨h1.1,by omega⟩
theorem WS.kT (h:WS g lo τ0 w0 aF BD A_ aL Ae AU aP Ag AY aD Ac AQ aN Ad Aa aS Af Ab aI BF A7 aG BA Az aB aBc Ao x τ w) {gG k:Nat} {y:Sw.Gate} {B:Option Addr} {d n:Nat} (hA:aG=some ⟨gG,0,none⟩) (hk:k<Az) {l:Nat} (hd:RI w l B d n y.done) (hl:lo≤l) (hl2:gG<l) :
  RW (setCells w gG (k*4) (GV.enc ⟨y.head,B,d,n⟩)) lo aF BD A_ aL Ae AU aP Ag AY aD Ac AQ aN Ad Aa aS Af Ab aI BF A7 aG BA Az aB aBc Ao { x with AV:=x.AV.set k y }:=by
 obtain⟨vs,v1,v2,v3⟩:=h.ow.AV.ex
 have eH:=v1.ow.blk hA
 dsimp only at eH
 have tG:τ gG=8:=v1.tag _ hA
 have hset:Ch (· = gG) w (setCells w gG (k*4) (GV.enc ⟨y.head,B,d,n⟩)):=JI (Ch.refl _ _) rfl
 have K:∀ t,t≠8→KT τ t lo w (setCells w gG (k*4) (GV.enc ⟨y.head,B,d,n⟩)):=fun t h8=>KT.ch hset (KT.refl _ _ _ _) fun i hi=>.inr (by rw[show i=gG from hi,tG];exact Ne.symm h8)
 have hp:=Ow.put v1.ow (fun _=>rfl) ⟨y.head,B,d,n⟩ hA hk
 refine⟨(h.ow.first.keep (K 6 (by decide))).rs,(h.ow.Dt.keep fun t h1 h5=>K t (by omega)).rm,(h.ow.lines.keep (K 7 (by decide))).rs,⟨_,hp.rs,by rw[List.length_set];exact v2,fun j v z hv hz'=>?_⟩,(h.ow.BS.keep (K 9 (by decide)) fun j=>K _ (by unfold Oi;omega)).rx⟩
 rw[List.getElem?_set] at hv hz'
 by_cases hjk:k=j
 ·subst hjk
  rw[if_pos rfl,if_pos (by rw[← v1.ow.1];exact hk)] at hv
  rw[if_pos rfl,if_pos (by omega)] at hz'
  cases hv;cases hz'
  exact⟨rfl,(hd.keep (kC hset (kR _ _) (.inl hl2))).less hl⟩
 ·rw[if_neg hjk] at hv hz'
  obtain⟨e,hr⟩:=v3 j v z hv hz'
  exact⟨e,(hr.keep (K _ (by unfold OM;omega))).rs⟩
theorem WS.nH (h:WS g lo τ0 w0 aF BD A_ aL Ae AU aP Ag AY aD Ac AQ aN Ad Aa aS Af Ab aI BF A7 aG BA Az aB aBc Ao x τ w) {r:Nat} {m:Sw.IX} {vs:List XV} {A1:Option Addr} {c1:Nat} {w2:World} (hm:Ch (· = r) w w1) (hr1:r<lo) (hr2:g≠r) (hp:m.proof=[]) (h1:TS τ 9 w lo aB aBc Ao vs) (h2:Ao=x.BS.length)
  (h3:∀ (j:Nat) (v:XV) (g:Sw.IX),vs[j]?=some v→x.BS[j]?=some g→v.g=g.gate∧v.h=g.head∧JY τ (Oi j) w lo v.A v.c v.n g.proof)
  (ho:MZ w2 lo A1 c1 (Ao+1) (vs ++ [⟨m.gate,m.head,none,0,0⟩])) (hc:Ch (KW aB) w1 w2) (hat:∀ b,A1=some b→aB=some b∨w1.heap.size≤b.block) :
  RW (w2.setCell ⟨g,9,none⟩ (.slice A1 (Ao+1) c1)) lo aF BD A_ aL Ae AU aP Ag AY aD Ac AQ aN Ad Aa aS Af Ab aI BF A7 aG BA Az A1 c1 (Ao+1) { x with BS:=x.BS ++ [m] }:=by
 have k:KF lo w w1:=kC hm (kR _ _) (.inl hr1)
 exact ((h.move hm hr1 hr2).sent (h1.Av k) h2 (fun j v g a b=>⟨(h3 j v g a b).1,(h3 j v g a b).2.1,(h3 j v g a b).2.2.Av k⟩) (Ch.refl _ _) (hp▸Ow.nil _ _) ho hc hat).ow.JU
end
theorem XR:∀ (gs:List Sw.Gate) (k:Nat) (y:Sw.Gate),QJ (gs.set k y)≤QJ gs+y.done.length
 | [],k,y=>by simp[QJ]
 | g::gs,0,y=>by simp[QJ];omega
 | g::gs,k+1,y=>by have:=XR gs k y;simp[QJ] at this ⊢;omega
theorem Xg {w:World} {lo:Nat} {aF aL aP aD aN aS aI aG aB:Option Addr} {BD A_ Ae AU Ag AY Ac AQ Ad Aa Af Ab BF A7 BA Az aBc Ao:Nat} {x:Sw.World} (hW:RW w lo aF BD A_ aL Ae AU aP Ag AY aD Ac AQ aN Ad Aa aS Af Ab aI BF A7 aG BA Az aB aBc Ao x) (h:Sw.Iu x):A_+(AU+AY+AQ+Aa+Ab)+A7+(Az+QJ x.AV)+(Ao+Rw x.BS)≤10000∧A7≤300∧Az=2∧Ao≤6:=by
 obtain⟨rows,hm⟩:=Sw.BU.1 h.Dt
 obtain⟨m1,m2,m3,m4,m5⟩:=Le hm
 have f1:=(Sw.Ci.1 h.first).1
 have g1:=Wn h.Yd
 have g2:=Vh h.aj
 have g3:=h.GU
 have g4:=h.Ir
 have g5:=h.lines
 have a1:=hW.first.1
 have a2:=hW.Dt.log.1
 have a3:=hW.Dt.Ai.1
 have a4:=hW.Dt.AJ.1
 have a5:=hW.Dt.nums.1
 have a6:=hW.Dt.said.1
 have a7:=hW.lines.1
 have a8:=hW.AV.len.1
 have a9:=hW.BS.len.1
 omega
theorem Kc (rb P:Nat) (aF:Option Addr) (BD A_:Nat) (aL:Option Addr) (Ae AU:Nat) (aP:Option Addr) (Ag AY:Nat) (aD:Option Addr) (Ac AQ:Nat) (aN:Option Addr) (Ad Aa:Nat) (aS:Option Addr) (Af Ab:Nat) (aI:Option Addr) (BF A7:Nat) (aG:Option Addr) (BA Az:Nat) (aB:Option Addr) (aBc Ao:Nat) (x:Sw.World) (w:World) (hr:Be w rb P) (hok:Sw.Iu x) (hW:RW w (rb+1) aF BD A_ aL Ae AU aP Ag AY aD Ac AQ aN Ad Aa aS Af Ab aI BF A7 aG BA Az aB aBc Ao x) (hP:P≤700000):Calls Tryz.prog 39 #[.pointer (some ⟨rb,0,none⟩),.agg #[.slice aF A_ BD,.slice aL AU Ae,.slice aP AY Ag,.slice aD AQ Ac,.int .i64 x.AB.clock,.slice aN Aa Ad,.slice aS Ab Af,.slice aI A7 BF,.slice aG Az BA,.slice aB Ao aBc]] w fun E w'=>∃ (bF:Option Addr) (Di DZ:Nat) (bL:Option Addr) (Bg BR:Nat) (bP:Option Addr) (Bf BV:Nat) (bD:Option Addr) (Bh Ba:Nat) (bN:Option Addr) (Bd Bb:Nat) (bS:Option Addr) (Bc BZ:Nat) (bI:Option Addr) (Dg bIn:Nat) (bG:Option Addr) (Dh DL:Nat) (bB:Option Addr) (Dj Cy:Nat) (z:Sw.World),E=.returned (.agg #[.slice bF DZ Di,.slice bL BR Bg,.slice bP BV Bf,.slice bD Ba Bh,.int .i64 z.AB.clock,.slice bN Bb Bd,.slice bS BZ Bc,.slice bI bIn Dg,.slice bG DL Dh,.slice bB Cy Dj])∧RW w' w.heap.size bF Di DZ bL Bg BR bP Bf BV bD Bh Ba bN Bd Bb bS Bc BZ bI Dg bIn bG Dh DL bB Dj Cy z∧DZ+(BR+BV+Ba+Bb+BZ)+bIn+(DL+QJ z.AV)+(Cy+Rw z.BS)≤1048576∧Be w' rb (P+100)∧Ch (· = rb) w w':=by
 have hlt:=hr.lt
 have hn:=Fb hW hok
 have hns:=Xg hW hok
 have b1:=hW.first.1
 have b2:=hW.Dt.log.1
 have b3:=hW.Dt.Ai.1
 have b4:=hW.Dt.AJ.1
 have b5:=hW.Dt.nums.1
 have b6:=hW.Dt.said.1
 have b7:=hW.lines.1
 have b8:=hW.AV.len.1
 have b9:=hW.BS.len.1
 have HNS:=Lib.hid (show x.first.length+(x.AB.log.length+x.AB.Ai.length+x.AB.AJ.length+x.AB.nums.length+x.AB.said.length)+x.lines.length+(x.AV.length+QJ x.AV)+(x.BS.length+Rw x.BS)≤10000∧x.lines.length≤300∧x.AV.length=2∧x.BS.length≤6 by omega)
 clear hns b1 b2 b3 b4 b5 b6 b7 b8 b9
 obtain⟨rows,hmo⟩:=Sw.BU.1 hok.Dt
 have HML:=Lib.hid (Le hmo)
 have HG2:=Lib.hid hok.GU
 clear hmo hok
 go_enter Tryz.func39,Tryz.ntmps39
 go_upto_region 2 with (go_at_call 43;apply Calls.mono;apply (J2 (x:=x));(apply RW.A8 hW;(exact AO));exact hn;rintro E w5 ⟨dF,GL,F8,dL,Ep,Ec,dP,Eo,Eg,dD,Er,Ed,dN,Ej,Eb,dS,Ei,Ea,dI,GJ,Fj,dG,GK,Fv,dB,GN,Fq,τ5,rfl,Oe,hb⟩;obtain⟨hc,hf,hz⟩:=xy hb)
 (refine CF fun W0 hb0 hc0 hf0 hz0=>?_)
 have QE:Fw W0 w.heap.size dF GL F8 dL Ep Ec dP Eo Eg dD Er Ed dN Ej Eb dS Ei Ea dI GJ Fj dG GK Fv dB GN Fq x.AB.clock:=⟨Aq,Ak,Ak,Ak,Ak,Ak,Ak,Ak,Ak,Ak,Ak,fun i=>Ak⟩
 have hL0:Lb W0 w.heap.size 10:=by
  (repeat (first|with_reducible apply Lb.set|with_reducible apply Lb.drew|(with_reducible refine Lb.ex ?_ (by assumption))))
  exact Lb.alloc (Lb.new rfl rfl)
 have Fu:Lb W0 (w.heap.size+1) 10:=Dw
 have YZ:=Oe.less (show w.heap.size+2≤_ from Aq)
 obtain⟨τ0,hS0⟩:=WS.kY YZ (show KF (w.heap.size+2) w5 W0 from AO) QE hL0 (by omega) Aq
 have uO:=hr.keep (show KB rb w W0 from Cj)
 have hcq:Ch (· = rb) w W0:=AA
 have QA:w.heap.size+2≤W0.heap.size:=Aq
 have hlo2:w.heap.size+2≤w.heap.size+1+1:=Nat.le_refl _
 clear QE hL0 hb hc hf hb0 hc0 hf0 hW hr Oe YZ
 obtain⟨Wq,CE⟩:∃ z,z=W0:=⟨_,rfl⟩
 subst CE
 have iV:=Lib.hid hS0
 have lN:=Lib.hid hcq
 have aM:=Lib.hid Fu
 clear hS0 hcq Fu hlo2
 go_upto_region 4 with (go_at_call 37;apply Calls.mono;apply DU;(apply Be.keep;assumption;(exact Cj));(exact Bu);(exact Bu);rintro E w1 ⟨v,rfl,⟨hv0,hv1⟩,hrd,hb⟩;obtain⟨hc,hf,hz⟩:=xd hb)
 (refine CF fun W0 hb0 hc0 hf0 hz0=>?_)
 have hS:=iV.out.move (show Ch (· = rb) Wq W0 from AA) (show rb<w.heap.size+2 by omega) (show w.heap.size≠rb by omega)
 have hL1:Lb W0 (w.heap.size+1) 10:=Lb.MB (show Ch (· = rb) Wq W0 from AA) aM.out (show ¬(w.heap.size+1=rb) by omega)
 have hcq:Ch (· = rb) w W0:=Ch.trans lN.out (by exact AA)
 have nW:=hrd.keep (show KB rb w1 W0 from Cj)
 have D8:w.heap.size+2≤W0.heap.size:=Aq
 clear hb0 hc0 hf0 hb hc hf hrd uO iV lN aM
 obtain⟨Wp,YD⟩:∃ z,z=W0:=⟨_,rfl⟩
 subst YD
 obtain⟨hgl,r0,r1,r2,r3,r4,r5,r6,r7,r8,r9,rf⟩:=hS.sS
 obtain⟨hcz,hfz⟩:=Lb.rules hL1
 have hM:=hS.ow.Dt.rm
 have HS:=Lib.hid hS
 have lm1:=hS.ow.Dt.log.ow.1
 have lm2:=hS.ow.Dt.Ai.ow.1
 have lm3:=hS.ow.Dt.AJ.ow.1
 have lm4:=hS.ow.Dt.nums.ow.1
 have lm5:=hS.ow.Dt.said.ow.1
 have qx:=Lib.hid (show Ec+Eg+Ed+Eb+Ea≤100∧Eb=5∧Ea=5∧Ec≤40 by have h:=HML.out;omega)
 have TW:=Lib.hid (show F8+(Ec+Eg+Ed+Eb+Ea)+Fj+(Fv+QJ x.AV)+(Fq+Rw x.BS)≤10000∧Fj≤300∧Fv=2∧Fq≤6 by have h:=HNS.out;have q1:=hS.ow.first.ow.1;have q2:=hS.ow.lines.ow.1;have q3:=hS.ow.AV.rg.len.1;have q4:=hS.ow.BS.rx.len.1;omega)
 clear hS lm1 lm2 lm3 lm4 lm5
 rcases (show v=0∨v=1∨v=2∨v=3∨v=4∨v=5 by omega) with rfl|rfl|rfl|rfl|rfl|rfl
 ·clear hv0 hv1
  go_wp2_with (go_at_call 81;apply Calls.mono;apply (ZE (mk:=x.AB));(apply Be.keep;assumption;(exact Cj));(exact (hM.keep AO).less (by omega));(exact qx.out.1);(exact qx.out.2.1);(exact qx.out.2.2.1);omega;rintro E w6 ⟨eL,O7,NA,eP,O5,M_,eD,O8,NC,eN,O6,eNn,eS,O4,M9,mk,rfl,hrm,hle,hrd,hb⟩;(obtain⟨hc,hf,hz⟩:=xd hb))
  refine bodyPost_ret (v:=.agg #[.slice dF F8 GL,.slice eL NA O7,.slice eP M_ O5,.slice eD NC O8,.int .i64 mk.clock,.slice eN eNn O6,.slice eS M9 O4,.slice dI Fj GJ,.slice dG Fv GK,.slice dB Fq GN]) (by simp[results,Tryz.results39,go_sem, *]) rfl ?_
  exact⟨dF,GL,F8,eL,O7,NA,eP,O5,M_,eD,O8,NC,eN,O6,eNn,eS,O4,M9,dI,GJ,Fj,dG,GK,Fv,dB,GN,Fq,{ x with AB:=mk },rfl,⟨((HS.out.ow.first.ow.rs).keep AO).less (by omega),(hrm.keep AO).less Aq,((HS.out.ow.lines.ow.rs).keep AO).less (by omega),((HS.out.ow.AV.rg).keep AO).less (by omega),((HS.out.ow.BS.rx).keep AO).less (by omega)⟩,by have:=TW.out;dsimp only;omega,(Be.keep hrd Cj).more (by omega),AA⟩
 ·clear hv0 hv1
  go_wp2_with (first|(go_at_call 82;apply Calls.mono;apply P9;(apply Be.keep;assumption;(exact Cj));(exact Bu);(exact Bu);(exact Bu);rintro E w1 ⟨A,c,m,xs,rfl,hps,hpl,hrd,hb⟩;obtain⟨hc,hf,hz⟩:=xd hb)|fail)
  refine bodyPost_ret (v:=.agg #[.slice A m c,.slice dL Ec Ep,.slice dP Eg Eo,.slice dD Ed Er,.int .i64 x.AB.clock,.slice dN Eb Ej,.slice dS Ea Ei,.slice dI Fj GJ,.slice dG Fv GK,.slice dB Fq GN]) (by simp[results,Tryz.results39,go_sem, *]) rfl ?_
  exact⟨A,c,m,dL,Ep,Ec,dP,Eo,Eg,dD,Er,Ed,dN,Ej,Eb,dS,Ei,Ea,dI,GJ,Fj,dG,GK,Fv,dB,GN,Fq,{ x with first:=xs },rfl,⟨(hps.keep AO).less Aq,(HS.out.ow.Dt.rm.keep AO).less (by omega),((HS.out.ow.lines.ow.rs).keep AO).less (by omega),((HS.out.ow.AV.rg).keep AO).less (by omega),((HS.out.ow.BS.rx).keep AO).less (by omega)⟩,by have:=TW.out;dsimp only;omega,(Be.keep hrd Cj).more (by omega),AA⟩
 ·clear hv0 hv1
  have YW:=HS.out.ow.lines.ow
  have hli:=TW.out.2.1
  go_upto_region 9 with fail
  (focus (refine CF fun W0 hb0 hc0 hf0 hz0=>?_;refine Aj [9,10,11] (S:=fun w'=>Ce rb W0 w') MQ (fun hHeld=>?_);(repeat' (first|refine Mc [] [] (h:=?_)|refine FQ [] [] hHeld (h:=?_)|refine Mo (fun K hK=>?_) ?_|refine FW (fun K hK=>?_) ?_|refine FV ?_|exact Cf|refine Mh (fun K hK=>?_) ?_|refine FT (fun K hK=>?_) ?_|((apply BM (lo:=w.heap.size+2) Wj Qv rfl rfl rfl rfl;(exact Iy);(first|(refine Rs.new [⟨_,_,0,0,0,0⟩] (by (first|rfl|(simp only[BO];done)|omega)) rfl rfl (fun _=>rfl) (by omega)));omega;exact Aq;intro A1 c1 w2 ho1 Ap Bo Ay Ah;have hb:=Ay (· = rb) w (by exact AA) (by omega);have hrd:=Be.low (Be.keep (by assumption) (by exact Cj)) Ap.size Ah (by omega);have hz:=Ap.size;(try simp only[BO] at hz);obtain⟨hc,hf⟩:=BJ Ah;clear Ay);(first|(refine ER hK (h:=?_);clear hK K)|(refine CQ hK MQ (h:=?_);clear hK K hHeld;intro hHeld)))|(revert hK;intro hK;go_simp;(try ((go_at_call 37;apply Calls.mono;apply DU;(apply Be.keep;assumption;(exact Cj));(exact Bu);(exact Bu);rintro E w1 ⟨v,rfl,⟨hv0,hv1⟩,hrd,hb⟩;obtain⟨hc,hf,hz⟩:=xd hb);(try go_wp2_with fail)));(first|(refine ER hK (h:=?_);clear hK K)|(refine CQ hK MQ (h:=?_);clear hK K hHeld;intro hHeld)))));all_goals (refine FR ?_)))
  all_goals go_wp2_with fail
  all_goals obtain⟨ls5,uV⟩:∃ ls,xP w2 (w.heap.size+2) A1 c1 (Fj+1) ls:=⟨_,ho1⟩
  all_goals have hS5:=WS.ZB (HS.out.move (by exact AA) (show rb<w.heap.size+2 by omega) (show w.heap.size≠rb by omega)) uV Ap Bo
  all_goals have jl:=hS5.ow.JU
  all_goals clear hS5
  all_goals (refine bodyPost_ret (v:=.agg #[.slice dF F8 GL,.slice dL Ec Ep,.slice dP Eg Eo,.slice dD Ed Er,.int .i64 x.AB.clock,.slice dN Eb Ej,.slice dS Ea Ei,.slice A1 (Fj+1) c1,.slice dG Fv GK,.slice dB Fq GN]) (by simp[results,Tryz.results39,go_sem, *]) rfl ?_)
  all_goals refine⟨dF,GL,F8,dL,Ep,Ec,dP,Eo,Eg,dD,Er,Ed,dN,Ej,Eb,dS,Ei,Ea,A1,c1,Fj+1,dG,GK,Fv,dB,GN,Fq,{ x with lines:=ls5 },rfl,?_,?_,(Be.keep hrd Cj).more (by omega),AA⟩
  all_goals first|exact RW.less (RW.keep jl AO) (by omega)|(have h:=TW.out;dsimp only;omega)
 ·clear hv0 hv1
  obtain⟨vs,hv1,hv2,hv3⟩:=HS.out.ow.AV.ex
  have YX:=hv1.ow
  have Wy:=Lib.hid hv1
  have PE:=Lib.hid hv2
  have PD:=Lib.hid hv3
  have hgl:Fv≤2:=by have:=TW.out.2.2.1;omega
  obtain⟨h0,hh0⟩:∃ h,h=(Sw.Cw []).getD Sw.DX:=⟨_,rfl⟩
  have HH:=Lib.hid hh0
  clear hv1 hv2 hv3 hh0
  go_upto_region 11 with fail
  (focus (refine CF fun W0 hb0 hc0 hf0 hz0=>?_;refine Aj [4,5,6] (S:=fun w'=>Held W0 w') DC (fun hHeld=>?_);(repeat' (first|refine Mc [] [] (h:=?_)|refine FQ [] [] hHeld (h:=?_)|refine Mo (fun K hK=>?_) ?_|refine FW (fun K hK=>?_) ?_|refine FV ?_|exact Cf|refine Mh (fun K hK=>?_) ?_|refine FT (fun K hK=>?_) ?_|((apply BM (lo:=w.heap.size+2) YM SB rfl rfl rfl rfl;(exact Iy);(first|(refine Rs.new [⟨h0,none,0,0⟩] (by (first|rfl|(simp only[BO];done)|omega)) rfl rfl (fun _=>rfl) (by omega)));omega;exact Aq;intro A1 c1 w2 ho1 Ap Bo Ay Ah;have hb:=Ay (· = rb) w (by exact AA) (by omega);have hrd:=Be.low (Be.keep (by assumption) (by exact Cj)) Ap.size Ah (by omega);have hz:=Ap.size;(try simp only[BO] at hz);obtain⟨hc,hf⟩:=BJ Ah;clear Ay);(first|(refine ER hK (h:=?_);clear hK K)|(refine CQ hK DC (h:=?_);clear hK K hHeld;intro hHeld)))|(revert hK;intro hK;go_simp;(try ((go_at_call 83;apply Calls.mono;apply Mg;rintro E w6 ⟨rfl,hb⟩;rw[← HH.out];obtain⟨hc,hf,hz⟩:=xy hb);(try go_wp2_with fail)));(first|(refine ER hK (h:=?_);clear hK K)|(refine CQ hK DC (h:=?_);clear hK K hHeld;intro hHeld)))));all_goals (refine FR ?_)))
  all_goals go_wp2_with fail
  all_goals have hS5:=(HS.out.mark (τx:=fun _=>OM Fv) (by exact AA)).kQ (Kj.snoc (g:=⟨h0,[]⟩) Wy.out PE.out PD.out (by exact AA) (Ow.nil _ _) HS.out.lo_le ho1 Ap Bo (fun j=>by unfold OM;omega)) (fun b hb=>if_pos hb) Ap
  all_goals have jl:=hS5.ow.JU
  all_goals clear hS5
  all_goals (refine bodyPost_ret (v:=.agg #[.slice dF F8 GL,.slice dL Ec Ep,.slice dP Eg Eo,.slice dD Ed Er,.int .i64 x.AB.clock,.slice dN Eb Ej,.slice dS Ea Ei,.slice dI Fj GJ,.slice A1 (Fv+1) c1,.slice dB Fq GN]) (by simp[results,Tryz.results39,go_sem, *]) rfl ?_)
  all_goals refine⟨dF,GL,F8,dL,Ep,Ec,dP,Eo,Eg,dD,Er,Ed,dN,Ej,Eb,dS,Ei,Ea,dI,GJ,Fj,A1,c1,Fv+1,dB,GN,Fq,{ x with AV:=x.AV ++ [⟨h0,[]⟩] },rfl,?_,?_,(Be.keep hrd Cj).more (by omega),AA⟩
  all_goals first|exact RW.less (RW.keep jl AO) (by omega)|(have h:=TW.out;have e:QJ (x.AV ++ [(⟨h0,[]⟩:Sw.Gate)])=QJ x.AV:=(by simp[QJ]);dsimp only;rw[e];omega)
 ·clear hv0 hv1
  obtain⟨vs,hv1,hv2,hv3⟩:=HS.out.ow.AV.ex
  have hgn:=TW.out.2.2.1
  subst hgn
  rcases hv1.ow.form with⟨rfl,h0,_⟩ | ⟨gG,cur,rfl,Ut,WH,-⟩
  ·exfalso;omega
  obtain⟨gG',xg,hgg,-,-,-,q0,q1,q2,q3,eO⟩:=Lc hv1.ow (show 0<2 by omega)
  cases hgg
  simp only[Nat.zero_mul,Nat.zero_add] at q0 q1 q2 q3
  have hll:=qx.out.2.2.2
  clear hv1 hv2 hv3
  go_upto_region 13 with fail
  (focus (refine CF fun W0 hb0 hc0 hf0 hz0=>?_;refine Aj [8] (S:=fun w'=>Ce rb W0 w') MQ (fun hHeld=>?_);(repeat' (first|refine Mc [] [] (h:=?_)|refine FQ [] [] hHeld (h:=?_)|refine Mo (fun K hK=>?_) ?_|refine FW (fun K hK=>?_) ?_|refine FV ?_|exact Cf|refine Mh (fun K hK=>?_) ?_|refine FT (fun K hK=>?_) ?_|(revert hK;intro hK;go_simp;(try ((go_at_call 84;apply Calls.mono;apply Xv;(apply Be.keep;assumption;(exact Cj));(exact (hM.log.keep AO).less (by omega));omega;omega;omega;omega;rintro E w6 ⟨p6,q6,r6,B6,e6,k6,rC,rfl,yR,jQ,hrd,hb⟩;(obtain⟨hc,hf,hz⟩:=xd hb));(try go_wp2_with fail)));(first|(refine ER hK (h:=?_);clear hK K)|(refine CQ hK MQ (h:=?_);clear hK K hHeld;intro hHeld)))));all_goals (refine FR ?_)))
  all_goals go_wp2_with fail
  all_goals have jl:RW ((((w6.setCell ⟨gG,0,none⟩ (.int .i64 p6)).setCell ⟨gG,1,none⟩ (.int .i64 q6)).setCell ⟨gG,2,none⟩ (.int .i64 r6)).setCell ⟨gG,3,none⟩ (.slice B6 k6 e6)) (w.heap.size+2) dF GL F8 dL Ep Ec dP Eo Eg dD Er Ed dN Ej Eb dS Ei Ea dI GJ Fj (some ⟨gG,0,none⟩) GK 2 dB GN Fq { x with AV:=x.AV.set 0 ⟨⟨p6,q6,r6⟩,rC⟩ }:=WS.kT (k:=0) (y:=⟨⟨p6,q6,r6⟩,rC⟩) (HS.out.move (w':=w6) (by exact AA) (show rb<w.heap.size+2 by omega) (show w.heap.size≠rb by omega)) rfl (by omega) yR (by exact Aq) (by exact Aq)
  all_goals (refine bodyPost_ret (v:=.agg #[.slice dF F8 GL,.slice dL Ec Ep,.slice dP Eg Eo,.slice dD Ed Er,.int .i64 x.AB.clock,.slice dN Eb Ej,.slice dS Ea Ei,.slice dI Fj GJ,.slice (some ⟨gG,0,none⟩) 2 GK,.slice dB Fq GN]) (by simp[results,Tryz.results39,go_sem, *]) rfl ?_)
  all_goals refine⟨dF,GL,F8,dL,Ep,Ec,dP,Eo,Eg,dD,Er,Ed,dN,Ej,Eb,dS,Ei,Ea,dI,GJ,Fj,some ⟨gG,0,none⟩,GK,2,dB,GN,Fq,{ x with AV:=x.AV.set 0 ⟨⟨p6,q6,r6⟩,rC⟩ },rfl,?_,?_,(Be.keep hrd Cj).more (by omega),AA⟩
  all_goals first|exact RW.less (RW.keep jl AO) (by omega)|(have h:=TW.out;have e:=XR x.AV 0 ⟨⟨p6,q6,r6⟩,rC⟩;have hl6:=yR.1;dsimp only at e ⊢;omega)
 ·clear hv0 hv1
  obtain⟨vs,hv1,hv2,hv3⟩:=HS.out.ow.BS.ex
  have aV:=hv1.ow
  have Wy:=Lib.hid hv1
  have PE:=Lib.hid hv2
  have PD:=Lib.hid hv3
  have hbn:=TW.out.2.2.2
  have hll:=qx.out.2.2.2
  clear hv1 hv2 hv3
  go_upto_region 3 with fail
  (focus (refine CF fun W0 hb0 hc0 hf0 hz0=>?_;refine Aj [11,12,13] (S:=fun w'=>Ce rb W0 w') MQ (fun hHeld=>?_);(repeat' (first|refine Mc [] [] (h:=?_)|refine FQ [] [] hHeld (h:=?_)|refine Mo (fun K hK=>?_) ?_|refine FW (fun K hK=>?_) ?_|refine FV ?_|exact Cf|refine Mh (fun K hK=>?_) ?_|refine FT (fun K hK=>?_) ?_|((apply BM (lo:=w.heap.size+2) Pv Kq rfl rfl rfl rfl;(exact Iy);(first|(refine Rs.new [⟨_,⟨p6,q6,r6⟩,none,0,0⟩] (by (first|rfl|(simp only[BO];done)|omega)) rfl rfl (fun _=>rfl) (by omega)));omega;exact Aq;intro A1 c1 w2 ho1 Ap Bo Ay Ah;have hb:=Ay (· = rb) w (by exact AA) (by omega);have hrd:=Be.low (Be.keep (by assumption) (by exact Cj)) Ap.size Ah (by omega);have hz:=Ap.size;(try simp only[BO] at hz);obtain⟨hc,hf⟩:=BJ Ah;clear Ay);(first|(refine ER hK (h:=?_);clear hK K)|(refine CQ hK MQ (h:=?_);clear hK K hHeld;intro hHeld)))|(revert hK;intro hK;go_simp;(try ((first|(go_at_call 37;apply Calls.mono;apply DU;(apply Be.keep;assumption;(exact Cj));(exact Bu);(exact Bu);rintro E w1 ⟨v,rfl,⟨hv0,hv1⟩,hrd,hb⟩;obtain⟨hc,hf,hz⟩:=xd hb)|(go_at_call 85;apply Calls.mono;apply SK;(apply Be.keep;assumption;(exact Cj));(exact (hM.log.keep AO).less (by omega));omega;omega;omega;omega;rintro E w6 ⟨p6,q6,r6,rfl,hrd,hb⟩;(obtain⟨hc,hf,hz⟩:=xd hb)));(try go_wp2_with fail)));(first|(refine ER hK (h:=?_);clear hK K)|(refine CQ hK MQ (h:=?_);clear hK K hHeld;intro hHeld)))));all_goals (refine FR ?_)))
  all_goals go_wp2_with fail
  all_goals have jl:=HS.out.nH (m:=⟨v,⟨p6,q6,r6⟩,[]⟩) (by exact AA) (show rb<w.heap.size+2 by omega) (show w.heap.size≠rb by omega) rfl Wy.out PE.out PD.out ho1 Ap Bo
  all_goals (refine bodyPost_ret (v:=.agg #[.slice dF F8 GL,.slice dL Ec Ep,.slice dP Eg Eo,.slice dD Ed Er,.int .i64 x.AB.clock,.slice dN Eb Ej,.slice dS Ea Ei,.slice dI Fj GJ,.slice dG Fv GK,.slice A1 (Fq+1) c1]) (by simp[results,Tryz.results39,go_sem, *]) rfl ?_)
  all_goals refine⟨dF,GL,F8,dL,Ep,Ec,dP,Eo,Eg,dD,Er,Ed,dN,Ej,Eb,dS,Ei,Ea,dI,GJ,Fj,dG,GK,Fv,A1,c1,Fq+1,{ x with BS:=x.BS ++ [⟨v,⟨p6,q6,r6⟩,[]⟩] },rfl,?_,?_,(Be.keep hrd Cj).more (by omega),AA⟩
  all_goals first|exact RW.less (RW.keep jl AO) (by omega)|(have h:=TW.out;have e:Rw (x.BS ++ [(⟨v,⟨p6,q6,r6⟩,[]⟩:Sw.IX)])=Rw x.BS:=(by simp[Rw]);dsimp only;rw[e];omega)
end Go.Proofs.YtgaflnpmilikcaaGreat
