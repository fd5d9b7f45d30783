/- Texts joined: WldL, PtrHr. -/
import Derived.Test.YtgaflnpmilikcaaGreatPx20
import Derived.Test.YtgaflnpmilikcaaGreatPx47
import Derived.Test.YtgaflnpmilikcaaGreatPx7
set_option maxRecDepth 100000
set_option linter.unusedSimpArgs false
set_option linter.unusedVariables false
namespace Go.Proofs.YtgaflnpmilikcaaGreat
open Go.RowKit Go
set_option maxHeartbeats 20000000
structure Fw (w:World) (g:Nat) (aF:Option Addr) (BD A_:Nat) (aL:Option Addr) (Ae AU:Nat) (aP:Option Addr) (Ag AY:Nat) (aD:Option Addr) (Ac AQ:Nat) (aN:Option Addr) (Ad Aa:Nat) (aS:Option Addr) (Af Ab:Nat) (aI:Option Addr) (BF A7:Nat) (aG:Option Addr) (BA Az:Nat) (aB:Option Addr) (aBc Ao:Nat) (clock:Int):Prop where
 lt:g<w.heap.size
 c0:w.cell? ⟨g,0,none⟩=some (.slice aF A_ BD)
 c1:w.cell? ⟨g,1,none⟩=some (.slice aL AU Ae)
 c2:w.cell? ⟨g,2,none⟩=some (.slice aP AY Ag)
 c3:w.cell? ⟨g,3,none⟩=some (.slice aD AQ Ac)
 c4:w.cell? ⟨g,4,none⟩=some (.int .i64 clock)
 c5:w.cell? ⟨g,5,none⟩=some (.slice aN Aa Ad)
 c6:w.cell? ⟨g,6,none⟩=some (.slice aS Ab Af)
 c7:w.cell? ⟨g,7,none⟩=some (.slice aI A7 BF)
 c8:w.cell? ⟨g,8,none⟩=some (.slice aG Az BA)
 c9:w.cell? ⟨g,9,none⟩=some (.slice aB Ao aBc)
 free:∀ i,w.frozen? ⟨g,i,none⟩=false
theorem Fw.keep {w w':World} {g:Nat} {aF aL aP aD aN aS aI aG aB:Option Addr} {BD A_ Ae AU Ag AY Ac AQ Ad Aa Af Ab BF A7 BA Az aBc Ao:Nat} {clock:Int} (h:Fw w g aF BD A_ aL Ae AU aP Ag AY aD Ac AQ aN Ad Aa aS Af Ab aI BF A7 aG BA Az aB aBc Ao clock) (hk:w'.heap[g]?=w.heap[g]?) (hz:w.heap.size≤w'.heap.size):Fw w' g aF BD A_ aL Ae AU aP Ag AY aD Ac AQ aN Ad Aa aS Af Ab aI BF A7 aG BA Az aB aBc Ao clock:=by
 have hc:∀ i,w'.cell? ⟨g,i,none⟩=w.cell? ⟨g,i,none⟩:=fun i=>World.cell?_of_block (w:=w) (a:=⟨g,i,none⟩) hk
 exact⟨Nat.lt_of_lt_of_le h.lt hz,(hc _).trans h.c0,(hc _).trans h.c1,(hc _).trans h.c2,(hc _).trans h.c3,(hc _).trans h.c4,(hc _).trans h.c5,(hc _).trans h.c6,(hc _).trans h.c7,(hc _).trans h.c8,(hc _).trans h.c9,fun i=>(World.frozen?_of_block (w:=w) (a:=⟨g,i,none⟩) hk).trans (h.free i)⟩
structure O_ (wb:World) (lo:Nat) (wr:World) (aF:Option Addr) (BD A_:Nat) (aL:Option Addr) (Ae AU:Nat) (aP:Option Addr) (Ag AY:Nat) (aD:Option Addr) (Ac AQ:Nat) (aN:Option Addr) (Ad Aa:Nat) (aS:Option Addr) (Af Ab:Nat) (aI:Option Addr) (BF A7:Nat) (aG:Option Addr) (BA Az:Nat) (aB:Option Addr) (aBc Ao:Nat) (x:Sw.World):Prop where
 rd:RW wb lo aF BD A_ aL Ae AU aP Ag AY aD Ac AQ aN Ad Aa aS Af Ab aI BF A7 aG BA Az aB aBc Ao x
 kf:KF lo wb wr
theorem O_.JU {wb wr:World} {lo:Nat} {aF aL aP aD aN aS aI aG aB:Option Addr} {BD A_ Ae AU Ag AY Ac AQ Ad Aa Af Ab BF A7 BA Az aBc Ao:Nat} {x:Sw.World} (h:O_ wb lo wr aF BD A_ aL Ae AU aP Ag AY aD Ac AQ aN Ad Aa aS Af Ab aI BF A7 aG BA Az aB aBc Ao x):RW wr lo aF BD A_ aL Ae AU aP Ag AY aD Ac AQ aN Ad Aa aS Af Ab aI BF A7 aG BA Az aB aBc Ao x:=h.rd.keep h.kf
theorem JD.low {lo:Nat} {τ:Nat→Nat} {w w':World} (h:Ch (JD lo τ) w w') (hl:lo≤w.heap.size):∀ b,b<lo→w'.heap[b]?=w.heap[b]?:=fun b hb=>h.block b (by omega) (fun hh=>by have:=hh.1;omega)
theorem JD.at_ {lo k b:Nat} {τ:Nat→Nat} {w w':World} (h:Ch (JD lo (glue τ k (fun _=>0))) w w') (hk:k≤b) (hw:b<w.heap.size):(∀ o,w'.cell? ⟨b,o,none⟩=w.cell? ⟨b,o,none⟩)∧(∀ o,w'.frozen? ⟨b,o,none⟩=w.frozen? ⟨b,o,none⟩):=by
 have hS:¬JD lo (glue τ k (fun _=>0)) b:=fun hh=>by have h1:=hh.2;rw[glue,if_neg (by omega)] at h1;omega
 exact⟨fun o=>h.cell (p:=⟨b,o,none⟩) hw hS,fun o=>h.frozen (p:=⟨b,o,none⟩) hw hS⟩
theorem JD.atE {P:Prop} {lo k b:Nat} {τ:Nat→Nat} {w w':World} (h:Ch (JD lo (glue τ k (fun _=>0))) w w') (hk:k≤b) (hw:b<w.heap.size) (K:(∀ o,w'.cell? ⟨b,o,none⟩=w.cell? ⟨b,o,none⟩)→(∀ o,w'.frozen? ⟨b,o,none⟩=w.frozen? ⟨b,o,none⟩)→P):P:=
 K (JD.at_ h hk hw).1 (JD.at_ h hk hw).2
theorem Eh.EM {fd fp τ τ':Nat→Nat} {w:World} {lo k:Nat} {aF aL aP aD aN aS aI aG aB:Option Addr} {BD A_ Ae AU Ag AY Ac AQ Ad Aa Af Ab BF A7 BA Az aBc Ao:Nat} {x:Sw.World} (h:Eh fd fp τ w lo aF BD A_ aL Ae AU aP Ag AY aD Ac AQ aN Ad Aa aS Af Ab aI BF A7 aG BA Az aB aBc Ao x) (hk:k≤lo):Eh fd fp (glue τ' k τ) w lo aF BD A_ aL Ae AU aP Ag AY aD Ac AQ aN Ad Aa aS Af Ab aI BF A7 aG BA Az aB aBc Ao x:=⟨h.1.EM hk,h.2.EM hk,h.3.EM hk,h.4.EM hk,h.5.EM hk⟩
theorem zw {τ:Nat→Nat} {lo k K:Nat} {a w:World} {p:Addr} {u:Value} (h:Ch (Zr (glue (glue (fun _=>0) lo τ) k (fun _=>0)) K) a w) (h1:p.block<K) (h2:p.block<lo∨k≤p.block):Ch (Zr (glue (glue (fun _=>0) lo τ) k (fun _=>0)) K) a (w.setCell p u):=
 cS h (.inl ⟨h1,by
  unfold glue
  split
  ·rename_i hk
   rw[if_pos (by omega)]
  ·rfl⟩) u
theorem Tx {x:Sw.World} {es:List Sw.Ev} {k:Nat} {e:Sw.Ev} (h:es[k]?=some e):Sw.Gx x (es.take (k+1))=(Sw.step (Sw.Gx x (es.take k)) e).1:=by
 unfold Sw.Gx;rw[List.take_add_one,h];simp
theorem Xo (aF:Option Addr) (BD A_:Nat) (aL:Option Addr) (Ae AU:Nat) (aP:Option Addr) (Ag AY:Nat) (aD:Option Addr) (Ac AQ:Nat) (aN:Option Addr) (Ad Aa:Nat) (aS:Option Addr) (Af Ab:Nat) (aI:Option Addr) (BF A7:Nat) (aG:Option Addr) (BA Az:Nat) (aB:Option Addr) (aBc Ao:Nat) (x:Sw.World) (A:Option Addr) (c n:Nat) (es:List Sw.Ev) (w:World) (hx:RW w 0 aF BD A_ aL Ae AU aP Ag AY aD Ac AQ aN Ad Aa aS Af Ab aI BF A7 aG BA Az aB aBc Ao x) (hes:YU w 0 A c n es):Calls Tryz.prog 14 #[.agg #[.slice aF A_ BD,.slice aL AU Ae,.slice aP AY Ag,.slice aD AQ Ac,.int .i64 x.AB.clock,.slice aN Aa Ad,.slice aS Ab Af,.slice aI A7 BF,.slice aG Az BA,.slice aB Ao aBc],.slice A n c] w fun E w'=>∃ bF Di DZ bL Bg BR bP Bf BV bD Bh Ba bN Bd Bb bS Bc BZ bI Dg bIn bG Dh DL bB Dj Cy,E=.returned (.agg #[.slice bF DZ Di,.slice bL BR Bg,.slice bP BV Bf,.slice bD Ba Bh,.int .i64 (Sw.Du x es).AB.clock,.slice bN Bb Bd,.slice bS BZ Bc,.slice bI bIn Dg,.slice bG DL Dh,.slice bB Cy Dj])∧RW w' w.heap.size bF Di DZ bL Bg BR bP Bf BV bD Bh Ba bN Bd Bb bS Bc BZ bI Dg bIn bG Dh DL bB Dj Cy (Sw.Du x es)∧Ex w w':=by
 have hl:=Lib.hid hes.1
 have hbig:=Rs.big hes
 cases g1:Sw.Cc x
 case false=>
  have e:Sw.Du x es=Sw.Cz:=by simp[Sw.Du,g1]
  rw[e];clear e
  go_enter Tryz.func14,Tryz.ntmps14
  go_wp2_with (first|(go_at_call 15;apply Calls.mono;apply CW;((first|(apply RW.A8;assumption)|(apply Eh.cO;assumption));exact AO);rintro E w1 ⟨rfl,hb⟩;obtain⟨hc,hf,hz⟩:=xy hb))
  refine bodyPost_ret (v:=.agg #[.slice none 0 0,.slice none 0 0,.slice none 0 0,.slice none 0 0,.int .i64 0,.slice none 0 0,.slice none 0 0,.slice none 0 0,.slice none 0 0,.slice none 0 0]) (by simp[results,Tryz.results14,go_sem, *]) rfl ?_
  exact⟨none,0,0,none,0,0,none,0,0,none,0,0,none,0,0,none,0,0,none,0,0,none,0,0,none,0,0,rfl,RW.Mv _ _,AA⟩
 by_cases g2:300<n
 ·have w_:decide ((300:Int)<(n:Int))=true:=by simp;omega
  have g2':(300:Int)<(n:Int):=by omega
  have e:Sw.Du x es=Sw.Cz:=by have:=hl.out;simp[Sw.Du,g1];omega
  rw[e];clear e
  go_enter Tryz.func14,Tryz.ntmps14
  go_wp2_with (first|(go_at_call 15;apply Calls.mono;apply CW;((first|(apply RW.A8;assumption)|(apply Eh.cO;assumption));exact AO);rintro E w1 ⟨rfl,hb⟩;obtain⟨hc,hf,hz⟩:=xy hb))
  refine bodyPost_ret (v:=.agg #[.slice none 0 0,.slice none 0 0,.slice none 0 0,.slice none 0 0,.int .i64 0,.slice none 0 0,.slice none 0 0,.slice none 0 0,.slice none 0 0,.slice none 0 0]) (by simp[results,Tryz.results14,go_sem, *]) rfl ?_
  exact⟨none,0,0,none,0,0,none,0,0,none,0,0,none,0,0,none,0,0,none,0,0,none,0,0,none,0,0,rfl,RW.Mv _ _,AA⟩
 have w_:decide ((300:Int)<(n:Int))=false:=by simp;omega
 have g2':¬(300:Int)<(n:Int):=by omega
 have HE:=Lib.hid (show Sw.Du x es=Sw.Gx x es by have:=hl.out;simp[Sw.Du,g1];omega)
 have hok:=Sw.Am.1 g1
 have hn:=Fb hx hok
 have HO:=Lib.hid hok
 clear hok
 go_enter Tryz.func14,Tryz.ntmps14
 go_upto_region 4 with (first|(go_at_call 15;apply Calls.mono;apply CW;((first|(apply RW.A8;assumption)|(apply Eh.cO;assumption));exact AO);rintro E w1 ⟨rfl,hb⟩;obtain⟨hc,hf,hz⟩:=xy hb)|(go_at_call 43;apply Calls.mono;apply (J2 (x:=x));(apply RW.A8 hx;(exact AO));exact hn;rintro E w5 ⟨dF,GL,F8,dL,Ep,Ec,dP,Eo,Eg,dD,Er,Ed,dN,Ej,Eb,dS,Ei,Ea,dI,GJ,Fj,dG,GK,Fv,dB,GN,Fq,τ5,rfl,Oe,hb⟩;obtain⟨hc,hf,hz⟩:=xy hb))
 (refine CF fun W0 hb0 hc0 hf0 hz0=>?_)
 have hsz5:w.heap.size+2≤w5.heap.size:=Aq
 have QE:Fw W0 w5.heap.size dF GL F8 dL Ep Ec dP Eo Eg dD Er Ed dN Ej Eb dS Ei Ea dI GJ Fj dG GK Fv dB GN Fq x.AB.clock:=⟨Aq,Ak,Ak,Ak,Ak,Ak,Ak,Ak,Ak,Ak,Ak,fun i=>Ak⟩
 have hZ0:Fw W0 (w.heap.size+1) none 0 0 none 0 0 none 0 0 none 0 0 none 0 0 none 0 0 none 0 0 none 0 0 none 0 0 0:=⟨Aq,Ak,Ak,Ak,Ak,Ak,Ak,Ak,Ak,Ak,Ak,fun i=>Ak⟩
 have hH0:O_ w5 (w.heap.size+2) W0 dF GL F8 dL Ep Ec dP Eo Eg dD Er Ed dN Ej Eb dS Ei Ea dI GJ Fj dG GK Fv dB GN Fq x:=⟨Oe.JU.less Aq,AO⟩
 have hE0:Ex w W0:=AA
 clear hb hc hf hb0 hc0 hf0 Oe
 obtain⟨Wq,CE⟩:∃ z,z=W0:=⟨_,rfl⟩
 subst CE
 have ABU:YU Wq 0 A c n es:=Rs.A8 hes (show KF 0 w Wq from⟨hE0.size,fun b _ h=>hE0.block b h (fun h=>h)⟩)
 go_wp2_with fail
 go_loopw [6] (fun i wr=>∃ (k lo':Nat) (wb:World) (bF:Option Addr) (Di DZ:Nat) (bL:Option Addr) (Bg BR:Nat) (bP:Option Addr) (Bf BV:Nat) (bD:Option Addr) (Bh Ba:Nat) (bN:Option Addr) (Bd Bb:Nat) (bS:Option Addr) (Bc BZ:Nat) (bI:Option Addr) (Dg bIn:Nat) (bG:Option Addr) (Dh DL:Nat) (bB:Option Addr) (Dj Cy:Nat) (y:Sw.World),i=.int .i64 k∧k≤n∧Ex w wr∧Fw wr w5.heap.size bF Di DZ bL Bg BR bP Bf BV bD Bh Ba bN Bd Bb bS Bc BZ bI Dg bIn bG Dh DL bB Dj Cy y.AB.clock∧Fw wr (w.heap.size+1) none 0 0 none 0 0 none 0 0 none 0 0 none 0 0 none 0 0 none 0 0 none 0 0 none 0 0 0∧Sw.Iu y∧y=Sw.Gx x (es.take k)∧O_ wb lo' wr bF Di DZ bL Bg BR bP Bf BV bD Bh Ba bN Bd Bb bS Bc BZ bI Dg bIn bG Dh DL bB Dj Cy y∧w.heap.size+2≤lo'∧(w5.heap.size<lo'∨wb.heap.size≤w5.heap.size)) (fun i _=>n-(intOf i).toNat)
 case atStart=>exact⟨0,_,w5,dF,GL,F8,dL,Ep,Ec,dP,Eo,Eg,dD,Er,Ed,dN,Ej,Eb,dS,Ei,Ea,dI,GJ,Fj,dG,GK,Fv,dB,GN,Fq,x,rfl,Nat.zero_le _,hE0,QE,hZ0,HO.out,rfl,hH0,Nat.le_refl _,.inr (by omega)⟩
 case round=>
  obtain⟨k,lo',wb,bF,Di,DZ,bL,Bg,BR,bP,Bf,BV,bD,Bh,Ba,bN,Bd,Bb,bS,Bc,BZ,bI,Dg,bIn,bG,Dh,DL,bB,Dj,Cy,y,rfl,hk,hb,hA,hZ,X6,hy,hH,hll,wE⟩:=hrel
  have hst:=xr hb
  (try simp only[BO] at hst)
  obtain⟨hcr,hfr,XM⟩:=hst
  obtain⟨hgl,c0,c1,c2,c3,c4,c5,c6,c7,c8,c9,cf⟩:=hA
  obtain⟨hgz,z0,z1,z2,z3,z4,z5,z6,z7,z8,z9,zf⟩:=hZ
  have hwb:=hH.kf.size
  have HH:=Lib.hid hH
  have HY:=Lib.hid hy
  have mZ:=Lib.hid X6
  have hn2:=Fb hH.rd X6
  clear hH hy X6
  by_cases hlt:k<n
  ·obtain⟨gE,oE,e,rfl,oO,mG,mJ,jY,q0,q1,q2,q3,q4,q5,q6,q7,q8,q9⟩:=Z7 hes hlt
   have t1:(0:Int)≤(k:Int):=by omega
   have t2:(k:Int)<(n:Int):=by omega
   have HS:=Lib.hid (Tx (x:=x) jY)
   clear mJ jY
   go_upto_region 7 with fail
   (refine CF fun W0 hb0 hc0 hf0 hz0=>?_)
   have hH0:=HH.out.JU.keep (show KF lo' wr W0 from AO)
   have p0:W0.cell? ⟨w5.heap.size,0,none⟩=some (.slice bF DZ Di):=(Ak);have p1:W0.cell? ⟨w5.heap.size,1,none⟩=some (.slice bL BR Bg):=(Ak);have p2:W0.cell? ⟨w5.heap.size,2,none⟩=some (.slice bP BV Bf):=(Ak);have p3:W0.cell? ⟨w5.heap.size,3,none⟩=some (.slice bD Ba Bh):=(Ak);have p4:W0.cell? ⟨w5.heap.size,4,none⟩=some (.int .i64 y.AB.clock):=(Ak);have p5:W0.cell? ⟨w5.heap.size,5,none⟩=some (.slice bN Bb Bd):=(Ak);have p6:W0.cell? ⟨w5.heap.size,6,none⟩=some (.slice bS BZ Bc):=(Ak);have p7:W0.cell? ⟨w5.heap.size,7,none⟩=some (.slice bI bIn Dg):=(Ak);have p8:W0.cell? ⟨w5.heap.size,8,none⟩=some (.slice bG DL Dh):=(Ak);have p9:W0.cell? ⟨w5.heap.size,9,none⟩=some (.slice bB Cy Dj):=(Ak)
   (focus (refine CF fun W0 hb0 hc0 hf0 hz0=>?_;refine Aj [] (S:=fun w'=>Held W0 w') DC (fun hHeld=>?_);(repeat' (first|(revert hK;intro hK;go_simp;(try ((first|(go_at_call 43;apply Calls.mono;apply (J2 (x:=y));(apply RW.A8 hH0;(exact AO));exact hn2;rintro E w7 ⟨dF,GL,F8,dL,Ep,Ec,dP,Eo,Eg,dD,Er,Ed,dN,Ej,Eb,dS,Ei,Ea,dI,GJ,Fj,dG,GK,Fv,dB,GN,Fq,τ7,rfl,ZW,hb⟩;have YX:=Eh.CX (τ':=fun _=>0) (Eh.EM (τ':=fun _=>0) ZW (Nat.le_refl _)) (Nat.le_refl _);obtain⟨hc,hf,hz⟩:=xy hb)|(go_at_call 44;apply Calls.mono;apply (Sq (x:=y) (e:=e));(exact YX.Av AO);(exact Sw.Am.2 mZ.out);(exact Aq);rintro E w6 ⟨fF,PM,PL,fL,Jo,Jc,fP,Jm,Ja,fD,Jp,Jd,fN,Jn,Jb,fS,Jl,JZ,fI,PH,PG,fG,PK,PI,fB,PO,PN,rfl,hrw,hup⟩;have hb:Ex W0 w6:=Ch.trans' (by exact AA) hup (fun i hi h=>(by have h1:=h.1;(try simp only[BO] at h1);omega));obtain⟨hcl,hfl⟩:=BJ (JD.low hup (by exact Aq));(try (refine JD.atE hup (b:=w7.heap.size) (Nat.le_refl _) ?_ ?_;(focus (first|omega|(simp only[BO];omega)));intro hcb M6));clear hup;obtain⟨hc,hf,hz⟩:=xy hb));(try go_wp2_with fail)));refine CQ hK DC (h:=?_);clear hK K hHeld;intro hHeld)|refine FQ [] [] hHeld (h:=?_)|refine FW (fun K hK=>?_) ?_|refine FV ?_|exact Cf|refine FT (fun K hK=>?_) ?_));all_goals (refine FR ?_);all_goals (obtain⟨hb,hc,hf,hz⟩:=xh (by assumption:Held W0 _))))
   all_goals
    go_wp2_with fail
    go_roundw
   repeat (case measure=>(simp[intOf];omega))
   all_goals
    refine⟨k+1,_,_,fF,PM,PL,fL,Jo,Jc,fP,Jm,Ja,fD,Jp,Jd,fN,Jn,Jb,fS,Jl,JZ,fI,PH,PG,fG,PK,PI,fB,PO,PN,(Sw.step y e).1,by go_num,by omega,AA,⟨Aq,Ak,Ak,Ak,Ak,Ak,Ak,Ak,Ak,Ak,Ak,fun i=>Ak⟩,⟨Aq,Ak,Ak,Ak,Ak,Ak,Ak,Ak,Ak,Ak,Ak,fun i=>Ak⟩,Sw.step_ok mZ.out e,by rw[HS.out,← HY.out],⟨hrw _ (by with_reducible repeat (first|exact cR _ _|apply cA|apply cD|(refine zw ?_ (by first|omega|(simp only[BO];omega)) (by first|omega|(simp only[BO];omega))))),kR _ _⟩,Aq,.inl Aq⟩
  ·obtain rfl:k=n:=by omega
   have HF:=Lib.hid (show Sw.Du x es=y by rw[HE.out,HY.out,List.take_of_length_le (by have:=hl.out;omega)])
   go_wp2_with fail
   refine bodyPost_ret (v:=.agg #[.slice bF DZ Di,.slice bL BR Bg,.slice bP BV Bf,.slice bD Ba Bh,.int .i64 y.AB.clock,.slice bN Bb Bd,.slice bS BZ Bc,.slice bI bIn Dg,.slice bG DL Dh,.slice bB Cy Dj]) (by simp[results,Tryz.results14,go_sem, *]) rfl ?_
   rw[HF.out]
   exact⟨bF,Di,DZ,bL,Bg,BR,bP,Bf,BV,bD,Bh,Ba,bN,Bd,Bb,bS,Bc,BZ,bI,Dg,bIn,bG,Dh,DL,bB,Dj,Cy,rfl,(HH.out.JU.keep AO).less Aq,AA⟩
end Go.Proofs.YtgaflnpmilikcaaGreat
namespace Go.Proofs.YtgaflnpmilikcaaGreat
open Go.RowKit Go
set_option maxHeartbeats 20000000
section
variable {g lo:Nat} {τ0 τ:Nat→Nat} {w0 w:World} {aF aL aP aD aN aS aI aG aB:Option Addr} {BD A_ Ae AU Ag AY Ac AQ Ad Aa Af Ab BF A7 BA Az aBc Ao:Nat} {x:Sw.World} {eq:Sw.Ee} {ea et ew:Int}
theorem Ub (hS:WS g lo τ0 w0 aF BD A_ aL Ae AU aP Ag AY aD Ac AQ aN Ad Aa aS Af Ab aI BF A7 aG BA Az aB aBc Ao x τ w) (hok:Sw.Cc x=true) (h:Sw.Br ea 0 ((Ao:Int)-1)=true):Calls Tryz.prog 41 #[.pointer (some ⟨g,0,none⟩),.agg #[.int .i64 5,.int .i64 eq.user,.int .i64 eq.n,.int .i64 eq.kind,.int .i64 eq.ticket,.int .i64 eq.who,.int .i64 eq.Al,.int .i64 ea,.int .i64 et,.int .i64 ew]] w fun E w'=>IB g lo τ0 w0 w' E 0 (Sw.hear x ea):=by
 have k9:=hS.BS
 have k7:=hS.lines
 have k8:=hS.AV
 have LM:=hS.at_.lt
 have VK:=hS.at_.free
 have hlo:=hS.lo_le
 obtain⟨rows,hmo⟩:=Sw.BU.1 (Sw.Am.1 hok).Dt
 have HK:=Lib.hid hmo
 have GY:A7≤300:=by have h1:=(Sw.Am.1 hok).lines;have h2:=hS.ow.lines.ow.1;omega
 have TL:Ao≤6:=by have h1:=(Sw.Am.1 hok).Ir;have h2:=hS.ow.BS.rx.len.1;omega
 have hG2:Az=2:=by have h1:=(Sw.Am.1 hok).GU;have h2:=hS.ow.AV.rg.len.1;omega
 have L4:=Lib.hid hG2
 have wb:IntKind.i64.wrap ((Ao:Int)-1)=(Ao:Int)-1:=IntWalk.i64_in _ (by omega)
 have HS:=Lib.hid hS
 have Li:=Lib.hid hok
 clear hS hok hmo hG2
 obtain⟨e1,e2⟩:=Sw.BB.1 h
 obtain⟨ii,rfl⟩:∃ ii:Nat,ea=ii:=⟨ea.toNat,by omega⟩
 have hii:ii<Ao:=by omega
 have v1:(0:Int)≤(ii:Int):=by omega
 have v2:(ii:Int)<(Ao:Int):=by omega
 clear e1 e2
 obtain⟨vs,hv1,hv2,hv3⟩:=HS.out.ow.BS.ex
 obtain⟨gB,xb,rfl,ABL,hgB,hxb,b0,b1,b2,b3,b4,hfB⟩:=Wv hv1.ow hii
 obtain⟨m,hm⟩:∃ m,x.BS[ii]?=some m:=⟨_,List.getElem?_eq_getElem (by omega)⟩
 obtain⟨e3,e4,hpr⟩:=hv3 ii xb m hxb hm
 obtain⟨bg,bh,bA,bc,bn⟩:=xb
 dsimp only at e3 e4 hpr b0 b1 b2 b3 b4
 subst e3 e4
 have X7:=(IP Li.out).2.2.2.2.1 m (List.mem_of_getElem? hm)
 have iE:Sw.Gj x ii=m:=by unfold Sw.Gj;rw[Int.toNat_natCast];exact Sw.CP hm
 simp only[Sw.Fs,Bool.and_eq_true,Sw.BB] at X7
 obtain⟨kk,hkk⟩:∃ kk:Nat,m.gate=kk:=⟨m.gate.toNat,by omega⟩
 have hk2:kk<2:=by omega
 rw[hkk] at b0
 obtain⟨vg,Jj,Pf,Kz⟩:=HS.out.ow.AV.ex
 obtain⟨gG,xg,rfl,Ut,eH,hxg,c0,c1',c2',c3',eO⟩:=Lc Jj.ow (show kk<Az by have:=L4.out;omega)
 obtain⟨y,hy2⟩:∃ y,x.AV[kk]?=some y:=⟨_,List.getElem?_eq_getElem (by have:=L4.out;omega)⟩
 obtain⟨e5,hdone⟩:=Kz kk xg y hxg hy2
 obtain⟨xh,xA,xq,xn⟩:=xg
 dsimp only at e5 hdone c0 c1' c2' c3'
 subst e5
 obtain⟨z,hz0⟩:∃ z,z=Sw.Ck ⟨y.head,y.done⟩ m.head m.proof:=⟨_,rfl⟩
 have e:Sw.hear x ii={ { x with BS:=x.BS.eraseIdx ii } with AV:=x.AV.set kk z.1 }:=by
  have hgt:Sw.Cb (Sw.lose x ii) m.gate=y:=by unfold Sw.Cb Sw.lose;rw[hkk,Int.toNat_natCast];exact Sw.CP hy2
  unfold Sw.hear Sw.heard
  rw[iE,hgt,hkk,Int.toNat_natCast,hz0]
  simp[Sw.lose]
 rw[e]
 have HZ:=Lib.hid hz0
 have hne:gB≠g:=by have h1:=hv1.tag _ rfl;have h2:=HS.out.g0;rintro rfl;dsimp only at h1;omega
 have uh:gG≠g:=by have h1:=Jj.tag _ rfl;have h2:=HS.out.g0;rintro rfl;dsimp only at h1;omega
 have hGB:¬gG=gB:=by have h1:=Jj.tag _ rfl;have h2:=hv1.tag _ rfl;rintro rfl;dsimp only at h1 h2;omega
 have tB:τ gB=9:=hv1.tag _ rfl
 have qw:RowKit.Hid (¬g=gB):=Lib.hid (Ne.symm hne)
 have wi:IntKind.i64.wrap ((ii:Int)+1)=(ii:Int)+1:=IntWalk.i64_in _ (by omega)
 have u1:(0:Int)≤(kk:Int):=by omega
 have u2:(kk:Int)<(Az:Int):=by have:=L4.out;omega
 have uY:kk<Az:=by have:=L4.out;omega
 have Wy:=Lib.hid hv1
 have PE:=Lib.hid hv2
 have PD:=Lib.hid hv3
 clear e hz0 hv1 hv2 hv3 X7 iE hkk Jj Pf Kz hxg hy2 hxb hm
 go_enter Tryz.func41,Tryz.ntmps41
 go_wp2_with fail
 (go_quiet ((go_at_call 61;exact Calls.AR (Cm _ _ _ _)));all_goals (generalize CE:World.drewN _ nq=W0;have hb0:=Ex.Iz CE;clear CE;obtain⟨hc0,hf0,hz0⟩:=xy hb0))
 go_wp2_with fail
 (focus (refine CF fun W0 hb0 hc0 hf0 hz0=>?_;refine Aj [] (S:=fun w'=>Held W0 w') DC (fun hHeld=>?_);(repeat' (first|(revert hK;intro hK;go_simp;refine CQ hK DC (h:=?_);clear hK K hHeld;intro hHeld)|refine FQ [] [] hHeld (h:=?_)|refine FW (fun K hK=>?_) ?_|refine FV ?_|exact Cf|refine FT (fun K hK=>?_) ?_));all_goals (refine FR ?_);all_goals (obtain⟨hb,hc,hf,hz⟩:=xh (by assumption:Held W0 _))))
 all_goals
  obtain⟨Wm,hWm⟩:∃ z,z=W0:=⟨_,rfl⟩
  subst hWm
  go_upto_region 18 with fail
  (refine CF fun W0 hb0 hc0 hf0 hz0=>?_)
  have d0:W0.cell? ⟨Wm.heap.size,0,none⟩=some (.int .i64 kk):=Ak
  have d1:W0.cell? ⟨Wm.heap.size,1,none⟩=some (.int .i64 m.head.size):=Ak
  have d2:W0.cell? ⟨Wm.heap.size,2,none⟩=some (.int .i64 m.head.log):=Ak
  have d3:W0.cell? ⟨Wm.heap.size,3,none⟩=some (.int .i64 m.head.own):=Ak
  have d4:W0.cell? ⟨Wm.heap.size,4,none⟩=some (.slice bA bn bc):=Ak
  have s0:W0.cell? ⟨gG,kk*4,none⟩=some (.int .i64 y.head.size):=Ak
  have s1:W0.cell? ⟨gG,kk*4+1,none⟩=some (.int .i64 y.head.log):=Ak
  have s2:W0.cell? ⟨gG,kk*4+2,none⟩=some (.int .i64 y.head.own):=Ak
  have s3:W0.cell? ⟨gG,kk*4+3,none⟩=some (.slice xA xn xq):=Ak
  have sf:∀ i:Nat,W0.frozen? ⟨gG,i,none⟩=false:=fun i=>Ak
  have se:W0.cell? ⟨w.heap.size,7,none⟩=some (.int .i64 ii):=Ak
  have n8:W0.cell? ⟨g,8,none⟩=some (.slice (some ⟨gG,0,none⟩) Az BA):=Ak
  have n9:W0.cell? ⟨g,9,none⟩=some (.slice (some ⟨gB,0,none⟩) Ao aBc):=Ak
  have nf:∀ i:Nat,W0.frozen? ⟨g,i,none⟩=false:=fun i=>Ak
  have hvq:MZ W0 lo (some ⟨gB,0,none⟩) aBc Ao vs:=Wy.out.ow.keep AO
  have zt:=Lib.hid (show Ex w W0 from AA)
  have QA:w.heap.size+1≤W0.heap.size:=Aq
  have ZT:Wm.heap.size+1≤W0.heap.size:=Aq
  have AAh:w.heap.size+1≤Wm.heap.size:=Aq
  clear hb0 hc0 hf0 hb hc hf
  obtain⟨Wq,CE⟩:∃ z,z=W0:=⟨_,rfl⟩
  subst CE
  (focus (refine CF fun W0 hb0 hc0 hf0 hz0=>?_;refine Aj [0,10,11,12,13] (S:=fun w'=>Held W0 w') DC (fun hHeld=>?_);(repeat' (first|(revert hK;intro hK;go_simp;(try ((go_at_call 92;apply Calls.mono;apply (RN (lo:=lo) (ds:=vs));(exact Ow.keep hvq AO);exact hii;rintro E w4 ⟨rfl,Ki,Ap⟩;have hk1:=(Ap.cell (p:=⟨g,9,none⟩) (by exact Aq) qw.out);have hk2:=(Ap.frozen (p:=⟨g,9,none⟩) (by exact Aq) qw.out);have QB:=Ap.size;(try simp only[BO] at QB));(try go_wp2_with fail)));(first|(refine ER hK (h:=?_);clear hK K)|(refine CQ hK DC (h:=?_);clear hK K hHeld;intro hHeld)))|refine Mc [] [] (h:=?_)|refine FQ [] [] hHeld (h:=?_)|refine Mo (fun K hK=>?_) ?_|refine FW (fun K hK=>?_) ?_|refine FV ?_|exact Cf|refine Mh (fun K hK=>?_) ?_|refine FT (fun K hK=>?_) ?_));all_goals (refine FR ?_)))
  all_goals
   obtain⟨Wd,hWd⟩:∃ z,z=W0:=⟨_,rfl⟩
   subst hWd
   have m1:=UJ HS.out Wy.out PE.out PD.out rfl hii Ki (Ch.trans zt.out (by exact AA)) Ap
   have hk4:∀ t,t≠9→1≤t→KT τ t lo w (w4.setCell ⟨g,9,none⟩ (.slice (some ⟨gB,0,none⟩) (Ao-1) aBc)):=fun t h9 h1=>tS (KT.ch Ap (KT.ex (Ch.trans zt.out (by exact AA)) (KT.refl _ _ _ _)) (fun i hi=>.inr (by rw[show i=gB from hi,tB];exact Ne.symm h9))) (.inr (by have h2:=HS.out.g0;show τ g≠t;omega))
   have hst:=Ch.rules Ap rfl
   (try simp only[BO] at hst)
   obtain⟨hcx,hfx,hzx⟩:=hst
   clear hk1 hk2 hHeld
   go_upto_region 19 with fail
   (refine CF fun W0 hb0 hc0 hf0 hz0=>?_)
   have d0':W0.cell? ⟨Wm.heap.size,0,none⟩=some (.int .i64 kk):=Ak
   have d1':W0.cell? ⟨Wm.heap.size,1,none⟩=some (.int .i64 m.head.size):=Ak
   have d2':W0.cell? ⟨Wm.heap.size,2,none⟩=some (.int .i64 m.head.log):=Ak
   have d3':W0.cell? ⟨Wm.heap.size,3,none⟩=some (.int .i64 m.head.own):=Ak
   have d4':W0.cell? ⟨Wm.heap.size,4,none⟩=some (.slice bA bn bc):=Ak
   have s0':W0.cell? ⟨gG,kk*4,none⟩=some (.int .i64 y.head.size):=Ak
   have s1':W0.cell? ⟨gG,kk*4+1,none⟩=some (.int .i64 y.head.log):=Ak
   have s2':W0.cell? ⟨gG,kk*4+2,none⟩=some (.int .i64 y.head.own):=Ak
   have s3':W0.cell? ⟨gG,kk*4+3,none⟩=some (.slice xA xn xq):=Ak
   have sf':∀ i:Nat,W0.frozen? ⟨gG,i,none⟩=false:=fun i=>Ak
   have n8':W0.cell? ⟨g,8,none⟩=some (.slice (some ⟨gG,0,none⟩) Az BA):=Ak
   have oZ:RI W0 0 xA xq xn y.done:=(hdone.keep (KT.ex (by exact hb0) (hk4 (OM kk) (by unfold OM;omega) (by unfold OM;omega)))).rs.less (Nat.zero_le _)
   have hpq:RI W0 0 bA bc bn m.proof:=(hpr.keep (KT.ex (by exact hb0) (hk4 (Oi ii) (by unfold Oi;omega) (by unfold Oi;omega)))).rs.less (Nat.zero_le _)
   have hzz:w.heap.size+1≤W0.heap.size:=Aq
   have AAf:Wm.heap.size+1≤W0.heap.size:=Aq
   have AAe:gG<W0.heap.size:=Aq
   have AAd:g<W0.heap.size:=(m1.ex hb0).at_.lt
   have M2:=Lib.hid (m1.ex hb0)
   clear hb0 hc0 hf0 hcx hfx Ap hk4 m1 Ki
   obtain⟨We,hWe⟩:∃ z,z=W0:=⟨_,rfl⟩
   subst hWe
   (focus (refine CF fun W0 hb0 hc0 hf0 hz0=>?_;refine Aj [] (S:=fun w'=>Ce (gG) W0 w') mI (fun hHeld=>?_);(repeat' (first|(revert hK;intro hK;go_simp;(try ((go_at_call 31;apply Calls.mono;apply (RJ (t:=y.head) (u:=m.head) (xs:=y.done) (ps:=m.proof));(apply Rs.A8 oZ;(exact AO));(apply Rs.A8 hpq;(exact AO));rintro E w5 ⟨B3,d5,n5,rfl,Ki,hb⟩;rw[← HZ.out] at Ki;rw[← HZ.out];obtain⟨hc,hf,hz⟩:=xy hb);(try go_wp2_with fail)));refine CQ hK mI (h:=?_);clear hK K hHeld;intro hHeld)|refine FQ [13] [] hHeld (h:=?_)|refine FW (fun K hK=>?_) ?_|refine FV ?_|exact Cf|refine FT (fun K hK=>?_) ?_));all_goals (refine FR ?_);all_goals (have hb:=And.right (by assumption:Ce (gG) W0 _);obtain⟨hc,hf,hz⟩:=xd hb)))
  all_goals go_wp2_with fail
  all_goals go_ret
  all_goals have Rz:=Ki.less (show We.heap.size≤_ from Aq)
  all_goals have Lp:Ex We w5:=AA
  all_goals exact⟨aF,BD,A_,aL,Ae,AU,aP,Ag,AY,aD,Ac,AQ,aN,Ad,Aa,aS,Af,Ab,aI,BF,A7,some ⟨gG,0,none⟩,BA,Az,some ⟨gB,0,none⟩,aBc,Ao-1,_,rfl,WS.Zp (k:=kk) (y:=z.1) M2.out rfl uY Lp Rz⟩
end
end Go.Proofs.YtgaflnpmilikcaaGreat
