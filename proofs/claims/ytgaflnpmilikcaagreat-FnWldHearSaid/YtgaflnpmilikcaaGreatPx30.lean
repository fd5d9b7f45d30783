/- Texts joined: CopyS. -/
import Derived.Test.YtgaflnpmilikcaaGreatPx25
import Derived.Test.YtgaflnpmilikcaaGreatPx14
import Derived.Test.YtgaflnpmilikcaaGreatPx17
import Derived.Test.YtgaflnpmilikcaaGreatPx5
import Derived.Deep.DeepCutAuto
set_option maxRecDepth 100000
set_option linter.unusedSimpArgs false
set_option linter.unusedVariables false
namespace Go.Proofs.YtgaflnpmilikcaaGreat
open Go.RowKit Go
set_option maxHeartbeats 16000000
theorem Zw {gs:List Sw.Gate} {k:Nat} {y:Sw.Gate} (h:gs[k]?=some y):y.done.length≤QJ gs:=by
 induction gs generalizing k with
 | nil=>simp at h
 | cons g gs ih=>
  rw[U_]
  cases k with
  | zero=>simp at h;subst h;omega
  | succ k=>have:=ih (k:=k) (by simpa using h);omega
theorem Y1 {gs:List Sw.IX} {k:Nat} {y:Sw.IX} (h:gs[k]?=some y):y.proof.length≤Rw gs:=by
 induction gs generalizing k with
 | nil=>simp at h
 | cons g gs ih=>
  rw[UA]
  cases k with
  | zero=>simp at h;subst h;omega
  | succ k=>have:=ih (k:=k) (by simpa using h);omega
theorem Kj.nil {fd τ:Nat→Nat} {w:World} {lo:Nat}:Kj fd τ w lo none 0 0 []:=⟨[],CK.nil ..,rfl,by intro k v g hv;simp at hv⟩
theorem KH.nil {fd τ:Nat→Nat} {w:World} {lo:Nat}:KH fd τ w lo none 0 0 []:=⟨[],CK.nil ..,rfl,by intro k v g hv;simp at hv⟩
theorem Md {α:Type} {xs:List α} {k:Nat} {y:α} (h:xs[k]?=some y):xs.take (k+1)=xs.take k ++ [y]:=by rw[List.take_add_one,h];rfl
theorem Yq (q:Int) (t:Sw.Head) (A:Option Addr) (c n:Nat) (xs:List Int) (w:World) (hxs:RI w 0 A c n xs) (hn:n≤4194304):Calls Tryz.prog 97 #[.agg #[.int .i64 q,.int .i64 t.size,.int .i64 t.log,.int .i64 t.own,.slice A n c]] w fun E w'=>∃ A' c',E=.returned (.agg #[.int .i64 q,.int .i64 t.size,.int .i64 t.log,.int .i64 t.own,.slice A' n c'])∧Ga w' w.heap.size A' c' n xs∧Ex w w':=by
 go_enter Tryz.func97,Tryz.ntmps97
 go_wp2_with fail
 (refine CF fun W0 hb0 hc0 hf0 hz0=>?_;have JR:Lb W0 (w.heap.size+1) 5:=Lb.ex (by exact Dw) hb0;go_region_held3 (fun w'=>Au (w.heap.size+1) 5 W0 w') ((exact EX)) ((apply BM (lo:=W0.heap.size) FO Dz rfl rfl rfl rfl;(exact Iy);(exact Co);omega;exact Aq;intro A1 c1 w2 ho1 Ap Bo Ay Ah;have hbx:=Ay (· = (w.heap.size+1)) W0 (Au.ch (by assumption:Au (w.heap.size+1) 5 W0 _)) (by exact Aq);have IY:=Lb.low Ah (by have:=JR.lt;omega) (Au.lb (by assumption:Au (w.heap.size+1) 5 W0 _));clear Ay Ah));all_goals (rename Au (w.heap.size+1) 5 W0 _=>FZ;have hb:=Au.ch FZ;obtain⟨hc,hf,hz⟩:=xd hb;have CJ:=Au.lb FZ;(repeat (first|with_reducible replace CJ:=Lb.G_ CJ|with_reducible replace CJ:=Lb.Fy CJ));obtain⟨hcb,M6⟩:=Lb.rules CJ;clear FZ))
 go_wp2
 refine bodyPost_ret (v:=.agg #[.int .i64 q,.int .i64 t.size,.int .i64 t.log,.int .i64 t.own,.slice A1 n c1]) (by simp[results,Tryz.results97,go_sem, *]) rfl ?_
 refine⟨A1,c1,rfl,?_,?_⟩
 ·rw[List.nil_append,Nat.zero_add] at ho1
  exact (ho1.keep (by (exact AO))).less (by omega)
 ·exact AA
theorem J2 (aF:Option Addr) (BD A_:Nat) (aL:Option Addr) (Ae AU:Nat) (aP:Option Addr) (Ag AY:Nat) (aD:Option Addr) (Ac AQ:Nat) (aN:Option Addr) (Ad Aa:Nat) (aS:Option Addr) (Af Ab:Nat) (aI:Option Addr) (BF A7:Nat) (aG:Option Addr) (BA Az:Nat) (aB:Option Addr) (aBc Ao:Nat) (x:Sw.World) (w:World) (hx:RW w 0 aF BD A_ aL Ae AU aP Ag AY aD Ac AQ aN Ad Aa aS Af Ab aI BF A7 aG BA Az aB aBc Ao x) (hn:A_+(AU+AY+AQ+Aa+Ab)+A7+(Az+QJ x.AV)+(Ao+Rw x.BS)≤1048576):Calls Tryz.prog 43 #[.agg #[.slice aF A_ BD,.slice aL AU Ae,.slice aP AY Ag,.slice aD AQ Ac,.int .i64 x.AB.clock,.slice aN Aa Ad,.slice aS Ab Af,.slice aI A7 BF,.slice aG Az BA,.slice aB Ao aBc]] w fun E w'=>∃ bF Di DZ bL Bg BR bP Bf BV bD Bh Ba bN Bd Bb bS Bc BZ bI Dg bIn bG Dh DL bB Dj Cy τ,E=.returned (.agg #[.slice bF DZ Di,.slice bL BR Bg,.slice bP BV Bf,.slice bD Ba Bh,.int .i64 x.AB.clock,.slice bN Bb Bd,.slice bS BZ Bc,.slice bI bIn Dg,.slice bG DL Dh,.slice bB Cy Dj])∧Eh Jk I4 τ w' w.heap.size bF Di DZ bL Bg BR bP Bf BV bD Bh Ba bN Bd Bb bS Bc BZ bI Dg bIn bG Dh DL bB Dj Cy x∧Ex w w':=by
 obtain⟨x1,x2,x3,x4,x5⟩:=hx
 have l4:=Lib.hid x4.len.1
 have l5:=Lib.hid x5.len.1
 go_enter Tryz.func43,Tryz.ntmps43
 go_upto_region 1 with fail
 go_cut [3] (fun p wx=>∃ (g:Nat) (F:Option Addr) (Fc:Nat) (bL:Option Addr) (Bg BR:Nat) (bP:Option Addr) (Bf BV:Nat) (bD:Option Addr) (Bh Ba:Nat) (bN:Option Addr) (Bd Bb:Nat) (bS:Option Addr) (Bc BZ:Nat) (I:Option Addr) (Ic:Nat) (τ:Nat→Nat),p=.pointer (some ⟨g,0,none⟩)∧Ex w wx∧Lb wx (w.heap.size+1) 10∧wx.cell? ⟨w.heap.size,8,none⟩=some (.slice aG Az BA)∧wx.cell? ⟨w.heap.size,9,none⟩=some (.slice aB Ao aBc)∧Sg wx (w.heap.size+2) g F Fc A_ bL Bg BR bP Bf BV bD Bh Ba bN Bd Bb bS Bc BZ I Ic A7 τ x.first x.AB x.lines)
 case first=>
  (focus (refine CF fun W0 hb0 hc0 hf0 hz0=>?_;refine Aj [] (S:=fun w'=>Held W0 w') DC (fun hHeld=>?_);(repeat' (first|refine FQ [] [] hHeld (h:=?_)|refine FW (fun K hK=>?_) ?_|refine FV ?_|exact Cf|refine FT (fun K hK=>?_) ?_|((first|(apply BM (lo:=W0.heap.size) FO Dz rfl rfl rfl rfl;(exact Nw.ow rF Aq);(apply Rs.A8 x1;exact AO);omega;(exact Aq);intro AF cF wF YY Ap Bo Ay Ah;have LP:=Held.of (Ay (fun _=>False) W0 (And.right (by assumption:Held W0 _)) (Nat.le_refl _));have oM:=Ch.sD Ap;have hnF:=o7 Bo;obtain⟨yx,yc,yQ⟩:=xd oM;clear Ay Ah Ap Bo)|(apply BM (lo:=W0.heap.size) Wj Qv rfl rfl rfl rfl;(exact Nw.ow rF Aq);(apply Rs.A8 x3;exact AO);omega;(exact Aq);intro AI cI wI YW Ap Bo Ay Ah;have LP:=Held.of (Ay (fun _=>False) W0 (And.right (by assumption:Held W0 _)) (Nat.le_refl _));have uy:=Ch.sD Ap;have jI:=o7 Bo;obtain⟨hcI,hfI,hzI⟩:=xd uy;clear Ay Ah Ap Bo));refine CQ hK DC (h:=?_);clear hK K hHeld;intro hHeld)|(revert hK;intro hK;go_simp;(try ((go_at_call 95;apply Calls.mono;apply J3;(apply RM.A8 x2;(exact AO));omega;rintro E wM ⟨bL,Bg,BR,bP,Bf,BV,bD,Bh,Ba,bN,Bd,Bb,bS,Bc,BZ,τM,rfl,Rq,hb⟩;obtain⟨hc,hf,hz⟩:=xy hb);(try go_wp2_with fail)));refine CQ hK DC (h:=?_);clear hK K hHeld;intro hHeld)));all_goals (refine FR ?_);all_goals (obtain⟨hb,hc,hf,hz⟩:=xh (by assumption:Held W0 _))))
  all_goals go_wp2_with fail
  all_goals go_meet
  all_goals (try simp only[Nat.zero_add,List.nil_append] at YY)
  all_goals (try simp only[Nat.zero_add,List.nil_append] at YW)
  all_goals refine⟨_,AF,cF,_,_,_,_,_,_,_,_,_,_,_,_,_,_,_,AI,cI,_,rfl,AA,(by (repeat (first|with_reducible assumption|with_reducible exact Lb.new (by first|rfl|(simp only[BO];done)|omega) (by with_unfolding_all rfl)|with_reducible apply Lb.alloc|with_reducible apply Lb.set|with_reducible apply Lb.drew|(with_reducible refine Lb.ex ?_ (by assumption))|(refine Lb.MB (S:=fun k=>k=_) (by with_reducible assumption) ?_ (by intro hne;(try simp only[BO] at hne);omega))))),(Ak),(Ak),Sg.of YY Rq YW (fun a ha=>?_) AO (fun a ha=>?_) (fun a b ha hb=>?_) (fun a ha=>?_) (fun a ha=>?_) (fun a ha=>?_) (fun a ha=>?_) ?_ Aq Aq Aq Aq (Ak) ⟨Aq,Ak,Ak,Ak,Ak,Ak,Ak,fun i=>Ak⟩ (Ak) (Ak) (Ak) (by (repeat (first|with_reducible assumption|with_reducible exact Lb.new (by first|rfl|(simp only[BO];done)|omega) (by with_unfolding_all rfl)|with_reducible apply Lb.alloc|with_reducible apply Lb.set|with_reducible apply Lb.drew|(with_reducible refine Lb.ex ?_ (by assumption))|(refine Lb.MB (S:=fun k=>k=_) (by with_reducible assumption) ?_ (by intro hne;(try simp only[BO] at hne);omega)))))⟩
  all_goals first|(have h1:=hnF a ha;have h2:=(YY.blk ha).2;have h3:=jI b hb;have h4:=(YW.blk hb).2;(try simp only[BO] at h1 h2 h3 h4);omega)|(have h1:=hnF a ha;have h2:=(YY.blk ha).2;(try simp only[BO] at h1 h2 ⊢);omega)|(have h1:=jI a ha;have h2:=(YW.blk ha).2;(try simp only[BO] at h1 h2 ⊢);omega)|omega|(simp only[BO];omega)|(have h1:=hnF a ha;have h2:=(YY.blk ha).2;(try simp only[BO] at h1 h2);exact dJ)|(have h1:=jI a ha;have h2:=(YW.blk ha).2;(try simp only[BO] at h1 h2);exact dJ)
 case rest=>
  obtain⟨g,F,Fc,bL,Bg,BR,bP,Bf,BV,bD,Bh,Ba,bN,Bd,Bb,bS,Bc,BZ,I,Ic,τ1,rfl,hb,hL2,h8,h9,hB⟩:=hcut
  have hst:=xr hb
  (try simp only[BO] at hst)
  obtain⟨hc,hf,hz⟩:=hst
  have jV:=hB.lb.lt
  have hge:=hB.le
  have hsz0:=hL2.lt
  go_wp2_with fail
  go_loopw [4] (fun i QN=>∃ (k:Nat) (A':Option Addr) (c':Nat) (τ:Nat→Nat),k≤Az∧i=.int .i64 k∧Ch (· = g) wc QN∧Lb QN g 10∧QN.cell? ⟨g,8,none⟩=some (.slice A' k c')∧(∀ j,j≠8→QN.cell? ⟨g,j,none⟩=wc.cell? ⟨g,j,none⟩)∧Kj Jk τ QN wc.heap.size A' c' k (x.AV.take k)) (fun i _=>Az-(intOf i).toNat)
  case atStart=>exact⟨0,none,0,fun _=>0,Nat.zero_le _,rfl,Ch.refl _ _,hB.lb,hB.c8,fun _ _=>rfl,Kj.nil⟩
  case round=>
   obtain⟨QN,jF⟩:∃ wz,wz=wr:=⟨_,rfl⟩
   subst jF
   obtain⟨k,AG,cG,τG,hkG,rfl,fC,fJ,uP,EU,YX⟩:=hrel
   have hst:=xc fC
   (try simp only[BO] at hst)
   obtain⟨vU,vJ,tq⟩:=hst
   have um:=fJ.lt
   have vM:=(Lb.rules fJ).2
   by_cases hlt:k<Az
   ·obtain⟨gg,off,y,B1,d1,m1,rfl,hg0,hg1,hd,hy,q0,q1,q2,q3,hr⟩:=Ld x4 hlt
    have hm1:m1≤4194304:=by have h1:=Zw hy;have h2:=hr.1;omega
    have Hy:=Lib.hid hy
    have Ro:=Lib.hid EU
    obtain⟨vs,hv1,hv2,hv3⟩:=YX.ex
    have PD:=Lib.hid hv3
    have PE:=Lib.hid hv2
    have t1:(0:Int)≤(k:Int):=by omega
    have t2:(k:Int)<(Az:Int):=by omega
    clear hd hy EU YX hv3 hv2
    go_wp2_with fail
    (focus (refine CF fun W0 hb0 hc0 hf0 hz0=>?_;refine Aj [9,10,11] (S:=fun w'=>Held W0 w') DC (fun hHeld=>?_);(repeat' (first|refine Mc [] [] (h:=?_)|refine FQ [] [] hHeld (h:=?_)|refine Mo (fun K hK=>?_) ?_|refine FW (fun K hK=>?_) ?_|refine FV ?_|exact Cf|refine Mh (fun K hK=>?_) ?_|refine FT (fun K hK=>?_) ?_|((apply BM (lo:=wc.heap.size) YM SB rfl rfl rfl rfl;(exact Ow.keep hv1.ow AO);(refine Rs.new [⟨y.head,B2,d2,m1⟩] (by (first|rfl|(simp only[BO];done)|omega)) rfl rfl (fun _=>rfl) (by omega));omega;(exact Aq);intro A1 c1 w2 ho1 Ap Bo Ay Ah;obtain⟨mK,mH⟩:=BJ Ah;have hz1:=Ap.size;(try simp only[BO] at hz1);have hL2:=Lb.low Ah (by omega) (Lb.MB (S:=fun _=>False) (show Ex QN _ from AA) fJ (fun h=>h));clear Ay);(first|(refine CQ hK DC (h:=?_);clear hK K hHeld;intro hHeld)|(refine ER hK (h:=?_);clear hK K)))|(revert hK;intro hK;go_simp;(try ((go_at_call 96;apply Calls.mono;apply (Jf (t:=y.head) (xs:=y.done));(apply Rs.A8 hr;(exact AO));omega;rintro E w1 ⟨B2,d2,rfl,Ki,hb⟩;obtain⟨hc,hf,hz⟩:=xy hb);(try go_wp2_with fail)));(first|(refine CQ hK DC (h:=?_);clear hK K hHeld;intro hHeld)|(refine ER hK (h:=?_);clear hK K)))));all_goals (refine FR ?_)))
    all_goals obtain⟨hcb,M6⟩:=Lb.rules hL2
    all_goals go_wp2_with fail
    all_goals go_roundw
    case rel=>
     have Zm:=Kj.snoc hv1 PE.out PD.out (by exact AA) ((Ki.keep AO).less Aq) (by omega) ho1 Ap Bo Zv
     rw[← Md Hy.out] at Zm
     have Zo:Ch (· = g) wc w2:=Ch.trans' (Ch.trans fC (Ex.ch (by exact AA))) Ap (fun i hi ⟨a,ha,e⟩=>by have:=(hv1.ow.blk ha).1;omega)
     exact⟨k+1,A1,c1,_,by omega,by go_num,Zo.setCell (.inl rfl) _,by exact Dw,World.cell?_setCell_same _ _ _ (hcb 8 (by decide)),(fun j hj=>by rw[World.cell?_setCell_other _ _ _ _ (by intro e;exact hj (by injection e with _ e;exact e.symm))];refine Eq.trans ?_ (Ro.out j hj);(go_simp;first|done|simp[*])),Zm.Av AO⟩
    case measure=>simp[intOf];omega
   ·obtain rfl:Az=k:=by omega
    rw[List.take_of_length_le (by have:=l4.out;omega)] at YX
    go_wp2_with fail
    go_loopw [5] (fun i Td=>∃ (k:Nat) (A':Option Addr) (c':Nat) (τ:Nat→Nat),k≤Ao∧i=.int .i64 k∧Ch (· = g) QN Td∧Lb Td g 10∧Td.cell? ⟨g,9,none⟩=some (.slice A' k c')∧(∀ j,j≠9→Td.cell? ⟨g,j,none⟩=QN.cell? ⟨g,j,none⟩)∧KH I4 τ Td QN.heap.size A' c' k (x.BS.take k)) (fun i _=>Ao-(intOf i).toNat)
    case atStart=>exact⟨0,none,0,fun _=>0,Nat.zero_le _,rfl,Ch.refl _ _,fJ,((EU 9 (by decide)).trans hB.c9),fun _ _=>rfl,KH.nil⟩
    case round=>
     obtain⟨Td,jF⟩:∃ wz,wz=wr:=⟨_,rfl⟩
     subst jF
     obtain⟨k,AX,cX,τX,hkX,rfl,hbX,jr,hqX,ET,aV⟩:=hrel
     have hst:=xc hbX
     (try simp only[BO] at hst)
     obtain⟨vT,vH,tZ⟩:=hst
     have uj:=jr.lt
     have vK:=(Lb.rules jr).2
     by_cases hlt:k<Ao
     ·obtain⟨gg,off,y,B1,d1,m1,rfl,hg0,hg1,hd,hy,q0,q1,q2,q3,q4,hr⟩:=QU x5 hlt
      have hm1:m1≤4194304:=by have h1:=Y1 hy;have h2:=hr.1;omega
      have Hy:=Lib.hid hy
      have Ro:=Lib.hid ET
      obtain⟨vs,hv1,hv2,hv3⟩:=aV.ex
      have PD:=Lib.hid hv3
      have PE:=Lib.hid hv2
      have t1:(0:Int)≤(k:Int):=by omega
      have t2:(k:Int)<(Ao:Int):=by omega
      clear hd hy ET aV hv3 hv2
      go_wp2_with fail
      (focus (refine CF fun W0 hb0 hc0 hf0 hz0=>?_;refine Aj [9,10,11] (S:=fun w'=>Held W0 w') DC (fun hHeld=>?_);(repeat' (first|refine Mc [] [] (h:=?_)|refine FQ [] [] hHeld (h:=?_)|refine Mo (fun K hK=>?_) ?_|refine FW (fun K hK=>?_) ?_|refine FV ?_|exact Cf|refine Mh (fun K hK=>?_) ?_|refine FT (fun K hK=>?_) ?_|((apply BM (lo:=QN.heap.size) Pv Kq rfl rfl rfl rfl;(exact Ow.keep hv1.ow AO);(refine Rs.new [⟨y.gate,y.head,B2,d2,m1⟩] (by (first|rfl|(simp only[BO];done)|omega)) rfl rfl (fun _=>rfl) (by omega));omega;(exact Aq);intro A1 c1 w2 ho1 Ap Bo Ay Ah;obtain⟨mK,mH⟩:=BJ Ah;have hz1:=Ap.size;(try simp only[BO] at hz1);have hL2:=Lb.low Ah (by omega) (Lb.MB (S:=fun _=>False) (show Ex Td _ from AA) jr (fun h=>h));clear Ay);(first|(refine CQ hK DC (h:=?_);clear hK K hHeld;intro hHeld)|(refine ER hK (h:=?_);clear hK K)))|(revert hK;intro hK;go_simp;(try ((go_at_call 97;apply Calls.mono;apply (Yq (q:=y.gate) (t:=y.head) (xs:=y.proof));(apply Rs.A8 hr;(exact AO));omega;rintro E w1 ⟨B2,d2,rfl,Ki,hb⟩;obtain⟨hc,hf,hz⟩:=xy hb);(try go_wp2_with fail)));(first|(refine CQ hK DC (h:=?_);clear hK K hHeld;intro hHeld)|(refine ER hK (h:=?_);clear hK K)))));all_goals (refine FR ?_)))
      all_goals obtain⟨hcb,M6⟩:=Lb.rules hL2
      all_goals go_wp2_with fail
      all_goals go_roundw
      case rel=>
       have Zm:=KH.snoc hv1 PE.out PD.out (by exact AA) ((Ki.keep AO).less Aq) (by omega) ho1 Ap Bo WY
       rw[← Md Hy.out] at Zm
       have Zo:Ch (· = g) QN w2:=Ch.trans' (Ch.trans hbX (Ex.ch (by exact AA))) Ap (fun i hi ⟨a,ha,e⟩=>by have:=(hv1.ow.blk ha).1;omega)
       exact⟨k+1,A1,c1,_,by omega,by go_num,Zo.setCell (.inl rfl) _,by exact Dw,World.cell?_setCell_same _ _ _ (hcb 9 (by decide)),(fun j hj=>by rw[World.cell?_setCell_other _ _ _ _ (by intro e;exact hj (by injection e with _ e;exact e.symm))];refine Eq.trans ?_ (Ro.out j hj);(go_simp;first|done|simp[*])),Zm.Av AO⟩
      case measure=>simp[intOf];omega
     ·obtain rfl:Ao=k:=by omega
      rw[List.take_of_length_le (by have:=l5.out;omega)] at aV
      have p0:=(ET 0 (by decide)).trans ((EU 0 (by decide)).trans hB.c0)
      have p8:=(ET 8 (by decide)).trans uP
      have p1:=(ET 1 (by decide)).trans ((EU 1 (by decide)).trans hB.Dt.log)
      have p2:=(ET 2 (by decide)).trans ((EU 2 (by decide)).trans hB.Dt.Ai)
      have p3:=(ET 3 (by decide)).trans ((EU 3 (by decide)).trans hB.Dt.AJ)
      have p4:=(ET 4 (by decide)).trans ((EU 4 (by decide)).trans hB.Dt.Qa)
      have p5:=(ET 5 (by decide)).trans ((EU 5 (by decide)).trans hB.Dt.nums)
      have p6:=(ET 6 (by decide)).trans ((EU 6 (by decide)).trans hB.Dt.said)
      have p7:=(ET 7 (by decide)).trans ((EU 7 (by decide)).trans hB.c7)
      clear ET EU
      have WI:Ex w Td:=Ch.Wo hbX (Ch.Wo fC hb (by omega)) (by omega)
      obtain⟨hcz,hfz⟩:=Lb.rules hL2
      go_wp2_with fail
      refine bodyPost_ret (v:=.agg #[.slice F A_ Fc,.slice bL BR Bg,.slice bP BV Bf,.slice bD Ba Bh,.int .i64 x.AB.clock,.slice bN Bb Bd,.slice bS BZ Bc,.slice I A7 Ic,.slice AG Az cG,.slice AX Ao cX]) (by simp[results,Tryz.results43,go_sem, *]) rfl ?_
      exact⟨_,_,_,_,_,_,_,_,_,_,_,_,_,_,_,_,_,_,_,_,_,_,_,_,_,_,_,_,rfl,((Eh.yI hB.first hB.ow hB.lines hB.gz YX aV fC hbX jV (by omega)).Av AO).less (by omega),AA⟩
end Go.Proofs.YtgaflnpmilikcaaGreat
