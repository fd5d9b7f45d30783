/- Texts joined: CopyI, PtrJ, PtrL. -/
import Derived.Test.YtgaflnpmilikcaaGreatPx25
import Derived.Test.YtgaflnpmilikcaaGreatPx30
import Derived.Test.YtgaflnpmilikcaaGreatPx22
import Derived.Test.YtgaflnpmilikcaaGreatPx15
import Derived.Test.YtgaflnpmilikcaaGreatPx33
import Derived.Test.YtgaflnpmilikcaaGreatPx29
set_option maxRecDepth 100000
set_option linter.unusedSimpArgs false
set_option linter.unusedVariables false
namespace Go.Proofs.YtgaflnpmilikcaaGreat
open Go.RowKit Go
set_option maxHeartbeats 16000000
theorem ZK (q:Int) (t:Sw.Head) (A:Option Addr) (c n:Nat) (xs:List Int) (w:World) (hxs:RI w 0 A c n xs) (hn:n≤4194304):Calls Tryz.prog 87 #[.agg #[.int .i64 q,.int .i64 t.size,.int .i64 t.log,.int .i64 t.own,.slice A n c]] w fun E w'=>∃ A' c',E=.returned (.agg #[.int .i64 q,.int .i64 t.size,.int .i64 t.log,.int .i64 t.own,.slice A' n c'])∧Ga w' w.heap.size A' c' n xs∧Ex w w':=by
 go_enter Tryz.func87,Tryz.ntmps87
 go_wp2_with fail
 (refine CF fun W0 hb0 hc0 hf0 hz0=>?_;have JR:Lb W0 (w.heap.size+1) 5:=Lb.ex (by exact Dw) hb0;go_region_held3 (fun w'=>Au (w.heap.size+1) 5 W0 w') ((exact EX)) ((go_at_call 86;apply Calls.mono;apply Bj;(exact Bt);(exact Bu);rintro E w1 ⟨A',c',rfl,ho1,hb⟩;obtain⟨hc,hf,hz⟩:=xy hb));all_goals (rename Au (w.heap.size+1) 5 W0 _=>FZ;have hb:=Au.ch FZ;obtain⟨hc,hf,hz⟩:=xd hb;have CJ:=Au.lb FZ;(repeat (first|with_reducible replace CJ:=Lb.G_ CJ|with_reducible replace CJ:=Lb.Fy CJ));obtain⟨hcb,M6⟩:=Lb.rules CJ;clear FZ))
 go_wp2
 refine bodyPost_ret (v:=.agg #[.int .i64 q,.int .i64 t.size,.int .i64 t.log,.int .i64 t.own,.slice A' n c']) (by simp[results,Tryz.results87,go_sem, *]) rfl ?_
 exact⟨A',c',rfl,(ho1.keep (by (exact AO))).less (by exact Aq),AA⟩
theorem KQ (aF:Option Addr) (BD A_:Nat) (aL:Option Addr) (Ae AU:Nat) (aP:Option Addr) (Ag AY:Nat) (aD:Option Addr) (Ac AQ:Nat) (aN:Option Addr) (Ad Aa:Nat) (aS:Option Addr) (Af Ab:Nat) (aI:Option Addr) (BF A7:Nat) (aG:Option Addr) (BA Az:Nat) (aB:Option Addr) (aBc Ao:Nat) (x:Sw.World) (w:World) (hx:RW w 0 aF BD A_ aL Ae AU aP Ag AY aD Ac AQ aN Ad Aa aS Af Ab aI BF A7 aG BA Az aB aBc Ao x) (hn:A_+(AU+AY+AQ+Aa+Ab)+A7+(Az+QJ x.AV)+(Ao+Rw x.BS)≤1048576):Calls Tryz.prog 40 #[.agg #[.slice aF A_ BD,.slice aL AU Ae,.slice aP AY Ag,.slice aD AQ Ac,.int .i64 x.AB.clock,.slice aN Aa Ad,.slice aS Ab Af,.slice aI A7 BF,.slice aG Az BA,.slice aB Ao aBc]] w fun E w'=>∃ bF Di DZ bL Bg BR bP Bf BV bD Bh Ba bN Bd Bb bS Bc BZ bI Dg bIn bG Dh DL bB Dj Cy τ,E=.returned (.agg #[.slice bF DZ Di,.slice bL BR Bg,.slice bP BV Bf,.slice bD Ba Bh,.int .i64 x.AB.clock,.slice bN Bb Bd,.slice bS BZ Bc,.slice bI bIn Dg,.slice bG DL Dh,.slice bB Cy Dj])∧Eh Jk I4 τ w' w.heap.size bF Di DZ bL Bg BR bP Bf BV bD Bh Ba bN Bd Bb bS Bc BZ bI Dg bIn bG Dh DL bB Dj Cy x∧Ex w w':=by
 obtain⟨x1,x2,x3,x4,x5⟩:=hx
 have l4:=Lib.hid x4.len.1
 have l5:=Lib.hid x5.len.1
 go_enter Tryz.func40,Tryz.ntmps40
 go_upto_region 1 with fail
 go_cut [3] (fun p wx=>∃ (g:Nat) (F:Option Addr) (Fc:Nat) (bL:Option Addr) (Bg BR:Nat) (bP:Option Addr) (Bf BV:Nat) (bD:Option Addr) (Bh Ba:Nat) (bN:Option Addr) (Bd Bb:Nat) (bS:Option Addr) (Bc BZ:Nat) (I:Option Addr) (Ic:Nat) (τ:Nat→Nat),p=.pointer (some ⟨g,0,none⟩)∧Ex w wx∧Lb wx (w.heap.size+1) 10∧wx.cell? ⟨w.heap.size,8,none⟩=some (.slice aG Az BA)∧wx.cell? ⟨w.heap.size,9,none⟩=some (.slice aB Ao aBc)∧Sg wx (w.heap.size+2) g F Fc A_ bL Bg BR bP Bf BV bD Bh Ba bN Bd Bb bS Bc BZ I Ic A7 τ x.first x.AB x.lines)
 case first=>
  (focus (refine CF fun W0 hb0 hc0 hf0 hz0=>?_;refine Aj [] (S:=fun w'=>Held W0 w') DC (fun hHeld=>?_);(repeat' (first|refine FQ [] [] hHeld (h:=?_)|refine FW (fun K hK=>?_) ?_|refine FV ?_|exact Cf|refine FT (fun K hK=>?_) ?_|((apply BM (lo:=W0.heap.size) Wj Qv rfl rfl rfl rfl;(exact Ow.nil _ _);(apply Rs.A8 x3;exact AO);omega;(exact Aq);intro AI cI wI YW Ap Bo Ay Ah;have LP:=Held.of (Ay (fun _=>False) W0 (And.right (by assumption:Held W0 _)) (Nat.le_refl _));have uy:Ex _ _:=Ap.mono (fun i _ ⟨a,ha,_⟩=>by cases ha);have jI:=wJ Bo;obtain⟨hcI,hfI,hzI⟩:=xy uy;clear Ay Ah Ap Bo);refine CQ hK DC (h:=?_);clear hK K hHeld;intro hHeld)|(revert hK;intro hK;go_simp;(try ((first|(go_at_call 86;apply Calls.mono;apply Bj;(apply Rs.A8 x1;(exact AO));omega;rintro E wF ⟨AF,cF,rfl,YY,hb⟩;have hnF:=(fun (a:Addr) (ha:AF=some a)=>(YY.blk ha).1);obtain⟨hc,hf,hz⟩:=xy hb)|(go_at_call 69;apply Calls.mono;apply KR;(apply RM.A8 x2;(exact AO));omega;rintro E wM ⟨bL,Bg,BR,bP,Bf,BV,bD,Bh,Ba,bN,Bd,Bb,bS,Bc,BZ,τM,rfl,Rq,hb⟩;obtain⟨hc,hf,hz⟩:=xy hb));(try go_wp2_with fail)));refine CQ hK DC (h:=?_);clear hK K hHeld;intro hHeld)));all_goals (refine FR ?_);all_goals (obtain⟨hb,hc,hf,hz⟩:=xh (by assumption:Held W0 _))))
  all_goals go_wp2_with fail
  all_goals go_meet
  all_goals (try simp only[Nat.zero_add,List.nil_append] at YY)
  all_goals (try simp only[Nat.zero_add,List.nil_append] at YW)
  all_goals refine⟨_,AF,cF,_,_,_,_,_,_,_,_,_,_,_,_,_,_,_,AI,cI,_,rfl,AA,(by (repeat (first|with_reducible assumption|with_reducible exact Lb.new (by first|rfl|(simp only[BO];done)|omega) (by with_unfolding_all rfl)|with_reducible apply Lb.alloc|with_reducible apply Lb.set|with_reducible apply Lb.drew|(with_reducible refine Lb.ex ?_ (by assumption))|(refine Lb.MB (S:=fun k=>k=_) (by with_reducible assumption) ?_ (by intro hne;(try simp only[BO] at hne);omega))))),(Ak),(Ak),Sg.of YY Rq YW (fun a ha=>?_) AO (fun a ha=>?_) (fun a b ha hb=>?_) (fun a ha=>?_) (fun a ha=>?_) (fun a ha=>?_) (fun a ha=>?_) ?_ Aq Aq Aq Aq (Ak) ⟨Aq,Ak,Ak,Ak,Ak,Ak,Ak,fun i=>Ak⟩ (Ak) (Ak) (Ak) (by (repeat (first|with_reducible assumption|with_reducible exact Lb.new (by first|rfl|(simp only[BO];done)|omega) (by with_unfolding_all rfl)|with_reducible apply Lb.alloc|with_reducible apply Lb.set|with_reducible apply Lb.drew|(with_reducible refine Lb.ex ?_ (by assumption))|(refine Lb.MB (S:=fun k=>k=_) (by with_reducible assumption) ?_ (by intro hne;(try simp only[BO] at hne);omega)))))⟩
  all_goals first|(have h1:=hnF a ha;have h2:=(YY.blk ha).2;have h3:=jI b hb;have h4:=(YW.blk hb).2;(try simp only[BO] at h1 h2 h3 h4);omega)|(have h1:=hnF a ha;have h2:=(YY.blk ha).2;(try simp only[BO] at h1 h2 ⊢);omega)|(have h1:=jI a ha;have h2:=(YW.blk ha).2;(try simp only[BO] at h1 h2 ⊢);omega)|omega|(simp only[BO];omega)|(have h1:=hnF a ha;have h2:=(YY.blk ha).2;(try simp only[BO] at h1 h2);exact dJ)|(have h1:=jI a ha;have h2:=(YW.blk ha).2;(try simp only[BO] at h1 h2);exact dJ)
 case rest=>
  obtain⟨g,F,Fc,bL,Bg,BR,bP,Bf,BV,bD,Bh,Ba,bN,Bd,Bb,bS,Bc,BZ,I,Ic,τ1,rfl,hb,hL2,h8,h9,hB⟩:=hcut
  have hst:=xr hb
  (try simp only[BO] at hst)
  obtain⟨hc,hf,hz⟩:=hst
  have jV:=hB.lb.lt
  have hge:=hB.le
  have hsz0:=hL2.lt
  go_wp2_with fail
  go_loopw [21] (fun i QN=>∃ (k:Nat) (A':Option Addr) (c':Nat) (τ:Nat→Nat),k≤Az∧i=.int .i64 k∧Ch (· = g) wc QN∧Lb QN g 10∧QN.cell? ⟨g,8,none⟩=some (.slice A' k c')∧(∀ j,j≠8→QN.cell? ⟨g,j,none⟩=wc.cell? ⟨g,j,none⟩)∧Kj Jk τ QN wc.heap.size A' c' k (x.AV.take k)) (fun i _=>Az-(intOf i).toNat)
  case atStart=>exact⟨0,none,0,fun _=>0,Nat.zero_le _,rfl,Ch.refl _ _,hB.lb,hB.c8,fun _ _=>rfl,Kj.nil⟩
  case round=>
   obtain⟨QN,jF⟩:∃ wz,wz=wr:=⟨_,rfl⟩
   subst jF
   obtain⟨k,AG,cG,τG,hkG,rfl,fC,fJ,uP,EU,YX⟩:=hrel
   have hst:=xc fC
   (try simp only[BO] at hst)
   obtain⟨vU,vJ,tq⟩:=hst
   have um:=fJ.lt
   have vM:=(Lb.rules fJ).2
   by_cases hlt:k<Az
   ·obtain⟨gg,off,y,B1,d1,m1,rfl,hg0,hg1,hd,hy,q0,q1,q2,q3,hr⟩:=Ld x4 hlt
    have hm1:m1≤4194304:=by have h1:=Zw hy;have h2:=hr.1;omega
    have Hy:=Lib.hid hy
    have Ro:=Lib.hid EU
    obtain⟨vs,hv1,hv2,hv3⟩:=YX.ex
    have PD:=Lib.hid hv3
    have PE:=Lib.hid hv2
    have t1:(0:Int)≤(k:Int):=by omega
    have t2:(k:Int)<(Az:Int):=by omega
    clear hd hy EU YX hv3 hv2
    go_wp2_with fail
    (focus (refine CF fun W0 hb0 hc0 hf0 hz0=>?_;refine Aj [5,6,7] (S:=fun w'=>Held W0 w') DC (fun hHeld=>?_);(repeat' (first|refine Mc [] [] (h:=?_)|refine FQ [] [] hHeld (h:=?_)|refine Mo (fun K hK=>?_) ?_|refine FW (fun K hK=>?_) ?_|refine FV ?_|exact Cf|refine Mh (fun K hK=>?_) ?_|refine FT (fun K hK=>?_) ?_|((apply BM (lo:=wc.heap.size) YM SB rfl rfl rfl rfl;(exact Ow.keep hv1.ow AO);(refine Rs.new [⟨y.head,B2,d2,m1⟩] (by (first|rfl|(simp only[BO];done)|omega)) rfl rfl (fun _=>rfl) (by omega));omega;(exact Aq);intro A1 c1 w2 ho1 Ap Bo Ay Ah;obtain⟨mK,mH⟩:=BJ Ah;have hz1:=Ap.size;(try simp only[BO] at hz1);have hL2:=Lb.low Ah (by omega) (Lb.MB (S:=fun _=>False) (show Ex QN _ from AA) fJ (fun h=>h));clear Ay);(first|(refine CQ hK DC (h:=?_);clear hK K hHeld;intro hHeld)|(refine ER hK (h:=?_);clear hK K)))|(revert hK;intro hK;go_simp;(try ((go_at_call 76;apply Calls.mono;apply (H9 (t:=y.head) (xs:=y.done));(apply Rs.A8 hr;(exact AO));omega;rintro E w1 ⟨B2,d2,rfl,Ki,hb⟩;obtain⟨hc,hf,hz⟩:=xy hb);(try go_wp2_with fail)));(first|(refine CQ hK DC (h:=?_);clear hK K hHeld;intro hHeld)|(refine ER hK (h:=?_);clear hK K)))));all_goals (refine FR ?_)))
    all_goals obtain⟨hcb,M6⟩:=Lb.rules hL2
    all_goals go_wp2_with fail
    all_goals go_roundw
    case rel=>
     have Zm:=Kj.snoc hv1 PE.out PD.out (by exact AA) ((Ki.keep AO).less Aq) (by omega) ho1 Ap Bo Zv
     rw[← Md Hy.out] at Zm
     have Zo:Ch (· = g) wc w2:=Ch.trans' (Ch.trans fC (Ex.ch (by exact AA))) Ap (fun i hi ⟨a,ha,e⟩=>by have:=(hv1.ow.blk ha).1;omega)
     exact⟨k+1,A1,c1,_,by omega,by go_num,Zo.setCell (.inl rfl) _,by exact Dw,World.cell?_setCell_same _ _ _ (hcb 8 (by decide)),(fun j hj=>by rw[World.cell?_setCell_other _ _ _ _ (by intro e;exact hj (by injection e with _ e;exact e.symm))];refine Eq.trans ?_ (Ro.out j hj);(go_simp;first|done|simp[*])),Zm.Av AO⟩
    case measure=>simp[intOf];omega
   ·obtain rfl:Az=k:=by omega
    rw[List.take_of_length_le (by have:=l4.out;omega)] at YX
    go_wp2_with fail
    go_loopw [36] (fun i Td=>∃ (k:Nat) (A':Option Addr) (c':Nat) (τ:Nat→Nat),k≤Ao∧i=.int .i64 k∧Ch (· = g) QN Td∧Lb Td g 10∧Td.cell? ⟨g,9,none⟩=some (.slice A' k c')∧(∀ j,j≠9→Td.cell? ⟨g,j,none⟩=QN.cell? ⟨g,j,none⟩)∧KH I4 τ Td QN.heap.size A' c' k (x.BS.take k)) (fun i _=>Ao-(intOf i).toNat)
    case atStart=>exact⟨0,none,0,fun _=>0,Nat.zero_le _,rfl,Ch.refl _ _,fJ,((EU 9 (by decide)).trans hB.c9),fun _ _=>rfl,KH.nil⟩
    case round=>
     obtain⟨Td,jF⟩:∃ wz,wz=wr:=⟨_,rfl⟩
     subst jF
     obtain⟨k,AX,cX,τX,hkX,rfl,hbX,jr,hqX,ET,aV⟩:=hrel
     have hst:=xc hbX
     (try simp only[BO] at hst)
     obtain⟨vT,vH,tZ⟩:=hst
     have uj:=jr.lt
     have vK:=(Lb.rules jr).2
     by_cases hlt:k<Ao
     ·obtain⟨gg,off,y,B1,d1,m1,rfl,hg0,hg1,hd,hy,q0,q1,q2,q3,q4,hr⟩:=QU x5 hlt
      have hm1:m1≤4194304:=by have h1:=Y1 hy;have h2:=hr.1;omega
      have Hy:=Lib.hid hy
      have Ro:=Lib.hid ET
      obtain⟨vs,hv1,hv2,hv3⟩:=aV.ex
      have PD:=Lib.hid hv3
      have PE:=Lib.hid hv2
      have t1:(0:Int)≤(k:Int):=by omega
      have t2:(k:Int)<(Ao:Int):=by omega
      clear hd hy ET aV hv3 hv2
      go_wp2_with fail
      (focus (refine CF fun W0 hb0 hc0 hf0 hz0=>?_;refine Aj [5,6,7] (S:=fun w'=>Held W0 w') DC (fun hHeld=>?_);(repeat' (first|refine Mc [] [] (h:=?_)|refine FQ [] [] hHeld (h:=?_)|refine Mo (fun K hK=>?_) ?_|refine FW (fun K hK=>?_) ?_|refine FV ?_|exact Cf|refine Mh (fun K hK=>?_) ?_|refine FT (fun K hK=>?_) ?_|((apply BM (lo:=QN.heap.size) Pv Kq rfl rfl rfl rfl;(exact Ow.keep hv1.ow AO);(refine Rs.new [⟨y.gate,y.head,B2,d2,m1⟩] (by (first|rfl|(simp only[BO];done)|omega)) rfl rfl (fun _=>rfl) (by omega));omega;(exact Aq);intro A1 c1 w2 ho1 Ap Bo Ay Ah;obtain⟨mK,mH⟩:=BJ Ah;have hz1:=Ap.size;(try simp only[BO] at hz1);have hL2:=Lb.low Ah (by omega) (Lb.MB (S:=fun _=>False) (show Ex Td _ from AA) jr (fun h=>h));clear Ay);(first|(refine CQ hK DC (h:=?_);clear hK K hHeld;intro hHeld)|(refine ER hK (h:=?_);clear hK K)))|(revert hK;intro hK;go_simp;(try ((go_at_call 87;apply Calls.mono;apply (ZK (q:=y.gate) (t:=y.head) (xs:=y.proof));(apply Rs.A8 hr;(exact AO));omega;rintro E w1 ⟨B2,d2,rfl,Ki,hb⟩;obtain⟨hc,hf,hz⟩:=xy hb);(try go_wp2_with fail)));(first|(refine CQ hK DC (h:=?_);clear hK K hHeld;intro hHeld)|(refine ER hK (h:=?_);clear hK K)))));all_goals (refine FR ?_)))
      all_goals obtain⟨hcb,M6⟩:=Lb.rules hL2
      all_goals go_wp2_with fail
      all_goals go_roundw
      case rel=>
       have Zm:=KH.snoc hv1 PE.out PD.out (by exact AA) ((Ki.keep AO).less Aq) (by omega) ho1 Ap Bo WY
       rw[← Md Hy.out] at Zm
       have Zo:Ch (· = g) QN w2:=Ch.trans' (Ch.trans hbX (Ex.ch (by exact AA))) Ap (fun i hi ⟨a,ha,e⟩=>by have:=(hv1.ow.blk ha).1;omega)
       exact⟨k+1,A1,c1,_,by omega,by go_num,Zo.setCell (.inl rfl) _,by exact Dw,World.cell?_setCell_same _ _ _ (hcb 9 (by decide)),(fun j hj=>by rw[World.cell?_setCell_other _ _ _ _ (by intro e;exact hj (by injection e with _ e;exact e.symm))];refine Eq.trans ?_ (Ro.out j hj);(go_simp;first|done|simp[*])),Zm.Av AO⟩
      case measure=>simp[intOf];omega
     ·obtain rfl:Ao=k:=by omega
      rw[List.take_of_length_le (by have:=l5.out;omega)] at aV
      have p0:=(ET 0 (by decide)).trans ((EU 0 (by decide)).trans hB.c0)
      have p8:=(ET 8 (by decide)).trans uP
      have p1:=(ET 1 (by decide)).trans ((EU 1 (by decide)).trans hB.Dt.log)
      have p2:=(ET 2 (by decide)).trans ((EU 2 (by decide)).trans hB.Dt.Ai)
      have p3:=(ET 3 (by decide)).trans ((EU 3 (by decide)).trans hB.Dt.AJ)
      have p4:=(ET 4 (by decide)).trans ((EU 4 (by decide)).trans hB.Dt.Qa)
      have p5:=(ET 5 (by decide)).trans ((EU 5 (by decide)).trans hB.Dt.nums)
      have p6:=(ET 6 (by decide)).trans ((EU 6 (by decide)).trans hB.Dt.said)
      have p7:=(ET 7 (by decide)).trans ((EU 7 (by decide)).trans hB.c7)
      clear ET EU
      have WI:Ex w Td:=Ch.Wo hbX (Ch.Wo fC hb (by omega)) (by omega)
      obtain⟨hcz,hfz⟩:=Lb.rules hL2
      go_wp2_with fail
      refine bodyPost_ret (v:=.agg #[.slice F A_ Fc,.slice bL BR Bg,.slice bP BV Bf,.slice bD Ba Bh,.int .i64 x.AB.clock,.slice bN Bb Bd,.slice bS BZ Bc,.slice I A7 Ic,.slice AG Az cG,.slice AX Ao cX]) (by simp[results,Tryz.results40,go_sem, *]) rfl ?_
      exact⟨_,_,_,_,_,_,_,_,_,_,_,_,_,_,_,_,_,_,_,_,_,_,_,_,_,_,_,_,rfl,((Eh.yI hB.first hB.ow hB.lines hB.gz YX aV fC hbX jV (by omega)).Av AO).less (by omega),AA⟩
end Go.Proofs.YtgaflnpmilikcaaGreat
namespace Go.Proofs.YtgaflnpmilikcaaGreat
open Go.RowKit Go
set_option maxHeartbeats 8000000
section
variable {g o n lo:Nat} {τ0 τ:Nat→Nat} {w0 w:World} {aL aP aD aN aS:Option Addr} {Ae AU Ag AY Ac AQ Ad Aa Af Ab:Nat} {m:Sw.CV}
theorem X0 (hS:MS g o n lo τ0 w0 aL Ae AU aP Ag AY aD Ac AQ aN Ad Aa aS Af Ab m τ w) (r:Sw.Ee) {rows:List Sw.Row} (hok:Sw.IL m rows) (hr:Sw.CR r=true):Calls Tryz.prog 124 #[.pointer (some ⟨g,o,none⟩),.agg #[.int .i64 r.user,.int .i64 r.n,.int .i64 r.kind,.int .i64 r.ticket,.int .i64 r.who,.int .i64 r.Al]] w fun E w'=>
  KX g o n lo τ0 w0 w' E (Sw.effect m r):=by
 have hr':=Sw.EB.1 hr
 have hrow:=(Ty hok).1
 obtain⟨ru,rn,rk,rt,rh,rp⟩:=r
 dsimp only at hr'
 obtain⟨t,rfl⟩:=Int.eq_ofNat_of_zero_le (show 0≤rt by omega)
 have ht:t<8:=by omega
 obtain⟨⟨u1,u5⟩,-,hk,-,-⟩:=hr'
 rcases (show rk=1∨rk=2∨rk=3∨rk=4∨rk=5∨rk=6 by omega) with rfl|rfl|rfl|rfl|rfl|rfl
 ·have e:Sw.effect m ⟨ru,rn,1,t,rh,rp⟩=Sw.issue m ⟨ru,rn,1,t,rh,rp⟩ (Sw.rowAt rows t):=by unfold Sw.effect;rw[hrow];rfl
  rw[e];exact V_ hS ru rn t rh rp hok ht u1 u5
 ·have e:Sw.effect m ⟨ru,rn,2,t,rh,rp⟩=Sw.offer m ⟨ru,rn,2,t,rh,rp⟩ (Sw.rowAt rows t) (Sw.BH m.AJ t):=by unfold Sw.effect;rw[hrow];rfl
  rw[e];exact V9 hS ru rn t rh rp hok ht u1 u5
 ·have e:Sw.effect m ⟨ru,rn,3,t,rh,rp⟩=Sw.ED m ⟨ru,rn,3,t,rh,rp⟩ (Sw.rowAt rows t) (Sw.BH m.AJ t):=by unfold Sw.effect;rw[hrow];rfl
  rw[e];exact V8 hS ru rn t rh rp hok ht u1 u5
 ·have e:Sw.effect m ⟨ru,rn,4,t,rh,rp⟩=Sw.Gf m ⟨ru,rn,4,t,rh,rp⟩ (Sw.BH m.AJ t):=rfl
  rw[e];exact V7 hS ru rn t rh rp hok ht u1 u5
 ·have e:Sw.effect m ⟨ru,rn,5,t,rh,rp⟩=Sw.settle m ⟨ru,rn,5,t,rh,rp⟩ (Sw.BH m.AJ t):=rfl
  rw[e];exact V6 hS ru rn t rh rp hok ht u1 u5
 ·have e:Sw.effect m ⟨ru,rn,6,t,rh,rp⟩=Sw.enter m ⟨ru,rn,6,t,rh,rp⟩ (Sw.rowAt rows t) (Sw.BH m.AJ t):=by unfold Sw.effect;rw[hrow];rfl
  rw[e];exact V5 hS ru rn t rh rp hok ht u1 u5
end
section
variable {g o n lo k:Nat} {τ0 τ:Nat→Nat} {w0 w:World} {aL aP aD:Option Addr} {Ae AU Ag AY Ac AQ Ad Aa Af Ab gN gS:Nat} {m:Sw.CV}
theorem MS.Il (h:MS g o n lo τ0 w0 aL Ae AU aP Ag AY aD Ac AQ (some ⟨gN,0,none⟩) Ad Aa (some ⟨gS,0,none⟩) Af Ab m τ w) (hn:k<m.nums.length) (hs:k<m.said.length) (a b:Int) :
  MS g o n lo τ0 w0 aL Ae AU aP Ag AY aD Ac AQ (some ⟨gN,0,none⟩) Ad Aa (some ⟨gS,0,none⟩) Af Ab { m with nums:=m.nums.set k a,said:=m.said.set k b } τ ((w.setCell ⟨gN,k,none⟩ (.int .i64 a)).setCell ⟨gS,k,none⟩ (.int .i64 b)):=by
 have tN:=h.ow.nums.tag _ rfl
 have tS:=h.ow.said.tag _ rfl
 have yK:gN≠g:=h.ne tN (by decide)
 have yJ:gS≠g:=h.ne tS (by decide)
 have mN:=h.may (h.ow.nums.ow.blk rfl).1 tN (by decide) (by decide)
 have mS:=h.may (h.ow.said.ow.blk rfl).1 tS (by decide) (by decide)
 have kP:∀ i j:Nat,(⟨gN,i,none⟩:Addr)≠⟨g,j,none⟩:=fun i j e=>yK (by injection e)
 have sne:∀ i j:Nat,(⟨gS,i,none⟩:Addr)≠⟨g,j,none⟩:=fun i j e=>yJ (by injection e)
 exact⟨(h.at_.other _ yK).other _ yJ,h.lb.set.set,h.ow.Il hn hs a b,h.tag,fun i hi=>((World.cell?_setCell_other _ _ _ _ (sne _ _)).trans (World.cell?_setCell_other _ _ _ _ (kP _ _))).trans (h.out i hi),cS (p:=⟨gS,k,none⟩) (cS (p:=⟨gN,k,none⟩) h.ch mN _) mS _,h.VN,h.gz,h.UK⟩
end
section
variable {g o n lo:Nat} {τ0 τ:Nat→Nat} {w0 w:World} {aL aP aD aN aS:Option Addr} {Ae AU Ag AY Ac AQ Ad Aa Af Ab:Nat} {m:Sw.CV}
theorem ZP (hS:MS g o n lo τ0 w0 aL Ae AU aP Ag AY aD Ac AQ aN Ad Aa aS Af Ab m τ w) (r:Sw.Ee) {rows:List Sw.Row} (hok:Sw.IL m rows) (hr:Sw.CR r=true):Calls Tryz.prog 70 #[.pointer (some ⟨g,o,none⟩),.agg #[.int .i64 r.user,.int .i64 r.n,.int .i64 r.kind,.int .i64 r.ticket,.int .i64 r.who,.int .i64 r.Al]] w fun E w'=>
  KX g o n lo τ0 w0 w' E (Sw.EZ m r):=by
 have hr':=Sw.EB.1 hr
 obtain⟨ru,rn,rk,rt,rh,rp⟩:=r
 dsimp only at hr'
 obtain⟨u,rfl⟩:=Int.eq_ofNat_of_zero_le (show 0≤ru by omega)
 obtain⟨⟨u1,u5⟩,-,-,-,-⟩:=hr'
 obtain⟨v,rfl⟩:∃ v,u=v+1:=⟨u-1,by omega⟩
 have hv:v<5:=by omega
 have hnl:Aa=5:=by rw[hS.ow.nums.ow.1,hok.NL]
 have hsl:Ab=5:=by rw[hS.ow.said.ow.1,hok.Rv]
 subst hnl hsl
 obtain⟨gN,x,rfl,d_,hgN,hx,qN,rX⟩:=KC hS.ow.nums.ow hv
 obtain⟨gS,y,rfl,uo,Ya,hy,qS,TZ⟩:=KC hS.ow.said.ow hv
 have e1:Sw.lastOf m.nums ((v+1:Nat):Int)=x:=by unfold Sw.lastOf;rw[show (((v+1:Nat):Int)-1).toNat=v from by omega];exact Sw.CP hx
 have e2:Sw.lastOf m.said ((v+1:Nat):Int)=y:=by unfold Sw.lastOf;rw[show (((v+1:Nat):Int)-1).toNat=v from by omega];exact Sw.CP hy
 have i0:(0:Int)≤(v:Int):=by omega
 have i1:(v:Int)<5:=by omega
 have wv:IntKind.i64.wrap (v:Int)=(v:Int):=IntWalk.i64_in _ (by omega)
 have wv2:IntKind.i64.wrap ((v:Int)+1-1)=(v:Int):=by rw[Int.add_sub_cancel];exact wv
 obtain⟨k0,k1,k2,k3,k4,k5,k6,kf⟩:=hS.at_
 have HS:=Lib.hid hS
 have HR:=Lib.hid hr
 have HK:=Lib.hid hok
 clear hr hok hx hy hS
 by_cases h1:rn=x
 ·have g1:(rn==x)=true:=by simpa using h1
  have e:Sw.EZ m ⟨((v+1:Nat):Int),rn,rk,rt,rh,rp⟩=(m,y):=by unfold Sw.EZ;dsimp only;rw[e1,e2,if_pos h1]
  rw[e]
  clear e e1 e2 h1
  go_enter Tryz.func70,Tryz.ntmps70
  go_wp2_with fail
  (go_quiet ((first|fail));all_goals (generalize CE:World.drewN _ nq=W0;have hb0:=Ex.Iz CE;clear CE;obtain⟨hc0,hf0,hz0⟩:=xy hb0))
  go_wp2_with fail
  (go_quiet ((first|fail));all_goals (generalize CE:World.drewN _ nq=W0;have hb0:=Ex.Iz CE;clear CE;obtain⟨hc0,hf0,hz0⟩:=xy hb0))
  go_wp2
  go_ret
  exact⟨_,_,_,_,_,_,_,_,_,_,_,_,_,_,_,τ,rfl,HS.out.ex AA⟩
 have g1:(rn==x)=false:=by simpa using h1
 by_cases h2:rn<x
 ·have e:Sw.EZ m ⟨((v+1:Nat):Int),rn,rk,rt,rh,rp⟩=(m,7):=by unfold Sw.EZ;dsimp only;rw[e1,if_neg h1,if_pos h2]
  rw[e]
  clear e e1 e2 h1
  go_enter Tryz.func70,Tryz.ntmps70
  go_wp2_with fail
  (go_quiet ((first|fail));all_goals (generalize CE:World.drewN _ nq=W0;have hb0:=Ex.Iz CE;clear CE;obtain⟨hc0,hf0,hz0⟩:=xy hb0))
  go_wp2
  go_ret
  exact⟨_,_,_,_,_,_,_,_,_,_,_,_,_,_,_,τ,rfl,HS.out.ex AA⟩
 have hle:=QH HK.out HR.out
 have e:Sw.EZ m ⟨((v+1:Nat):Int),rn,rk,rt,rh,rp⟩=((fun z:Sw.CV × Int=>(({ z.1 with nums:=z.1.nums.set v rn,said:=z.1.said.set v z.2 }:Sw.CV),z.2)) (Sw.effect m ⟨((v+1:Nat):Int),rn,rk,rt,rh,rp⟩)):=by
  unfold Sw.EZ;dsimp only;rw[e1,if_neg h1,if_neg h2];unfold Sw.Il;dsimp only;rw[show (((v+1:Nat):Int)-1).toNat=v from by omega]
 rw[e]
 clear e e1 e2 h1
 obtain⟨z,hz0⟩:∃ z,z=Sw.effect m ⟨((v+1:Nat):Int),rn,rk,rt,rh,rp⟩:=⟨_,rfl⟩
 rw[← hz0] at hle ⊢
 have HZ:=Lib.hid hz0
 clear hz0
 dsimp only
 go_enter Tryz.func70,Tryz.ntmps70
 go_wp2_with fail
 (go_quiet ((first|fail));all_goals (generalize CE:World.drewN _ nq=W0;have hb0:=Ex.Iz CE;clear CE;obtain⟨hc0,hf0,hz0⟩:=xy hb0))
 go_wp2_with fail
 have hA:=HS.out.zero (show Ex w W0 from AA)
 apply Calls.mono
 apply (X0 hA.PW ⟨(v:Int)+1,rn,rk,rt,rh,rp⟩ HK.out (by have:=HR.out;simpa using this))
 rintro E w1 ⟨bL,Bg,BR,bP,Bf,BV,bD,Bh,Ba,bN,Bd,Bb,bS,Bc,BZ,τ1,rfl,hm1⟩
 rw[show Sw.effect m ⟨(v:Int)+1,rn,rk,rt,rh,rp⟩=z from HZ.out.symm] at hm1 ⊢
 obtain⟨hB0,Ta⟩:=hm1.box (b:=w.heap.size) (by omega) (RY (Nat.le_refl _)) (by omega)
 have hz1:=hm1.ch.size
 obtain rfl:Bb=5:=by rw[hm1.ow.nums.ow.1,hle.1]
 obtain rfl:BZ=5:=by rw[hm1.ow.said.ow.1,hle.2]
 have hln:v<z.1.nums.length:=by rw[hle.1];exact hv
 have hls:v<z.1.said.length:=by rw[hle.2];exact hv
 clear hle
 obtain⟨gM,xM,rfl,oL,hgM,rM,cM,hfM⟩:=KC hm1.ow.nums.ow hv
 obtain⟨gT,xT,rfl,oK,hgT,rJ,cT,hfT⟩:=KC hm1.ow.said.ow hv
 have tM:τ1 gM=4:=hm1.ow.nums.tag _ rfl
 have tT:τ1 gT=5:=hm1.ow.said.tag _ rfl
 have hMT:gM≠gT:=by rintro rfl;rw[tM] at tT;cases tT
 have hMg:=hm1.ne tM (by decide)
 have hTg:=hm1.ne tT (by decide)
 have zJ:¬gM=w.heap.size:=by rintro rfl;have:=hm1.tag _ (show w.heap.size<W0.heap.size by omega);rw[tM,RY (Nat.le_refl _)] at this;cases this
 have zH:¬gT=w.heap.size:=by rintro rfl;have:=hm1.tag _ (show w.heap.size<W0.heap.size by omega);rw[tT,RY (Nat.le_refl _)] at this;cases this
 obtain⟨j0,j1,j2,j3,j4,j5,j6,jf⟩:=hm1.at_
 have hLM:=hm1.ow.nums.ow.rG
 have hLT:=hm1.ow.said.ow.rG
 have H1:=Lib.hid hm1
 clear hm1 rM rJ k1 k2 k3 k4 k5 k6 kf qN qS rX TZ
 go_wp2_with fail
 (refine CF fun W0 hb0 hc0 hf0 hz0=>?_;have JR:Lb W0 (gM) (Bd*1):=Lb.ex (by exact Dw) hb0;have Yb:Lb W0 (gT) (Bc*1):=Lb.ex (by exact Dw) hb0;go_region_held3 (fun w'=>D9 (gM) (Bd*1) (gT) (Bc*1) W0 w') ((first|with_reducible assumption|with_reducible exact D9.start JR Yb|with_reducible exact D9.of (by assumption) (by assumption) (by assumption)|((repeat (first|with_reducible refine D9.set ?_ (by first|exact Or.inl (Or.inl rfl)|exact Or.inl (Or.inr rfl)|exact Or.inr (by simp only[BO];omega)|exact Or.inr (by omega))|with_reducible refine D9.alloc ?_ _|with_reducible refine D9.drew ?_));(first|with_reducible assumption|with_reducible exact D9.chr (by assumption) (by assumption) (Be.lb (by assumption))|with_reducible exact D9.refl JR Yb|with_reducible exact D9.of (by assumption) (by assumption) (by assumption)|with_reducible exact D9.ex (by assumption) (by assumption))))) (fail);all_goals (rename D9 (gM) (Bd*1) (gT) (Bc*1) W0 _=>FZ;have hb:=D9.ch FZ;have CJ:=D9.lb FZ;(repeat (first|with_reducible replace CJ:=Lb.G_ CJ|with_reducible replace CJ:=Lb.Fy CJ));obtain⟨hcb,M6⟩:=Lb.rules CJ;have Zn:=D9.lc FZ;(repeat (first|with_reducible replace Zn:=Lb.G_ Zn|with_reducible replace Zn:=Lb.Fy Zn));obtain⟨hcc,hfc⟩:=Lb.rules Zn;clear FZ))
 all_goals go_wp2_with fail
 all_goals go_ret
 all_goals exact⟨_,_,_,_,_,_,_,_,_,_,_,_,_,_,_,τ1,rfl,hA.trans (MS.ex (MS.Il (H1.out.ex (by assumption)) hln hls rn z.2) AA)⟩
end
end Go.Proofs.YtgaflnpmilikcaaGreat
namespace Go.Proofs.YtgaflnpmilikcaaGreat
open Go.RowKit Go
set_option maxHeartbeats 4000000
end Go.Proofs.YtgaflnpmilikcaaGreat
