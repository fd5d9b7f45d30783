/- Texts joined: WldE, WldD, PtrX. -/
import Derived.Test.YtgaflnpmilikcaaGreatPx37
import Derived.Test.YtgaflnpmilikcaaGreatPx30
import Derived.Test.YtgaflnpmilikcaaGreatPx13
import Derived.Test.YtgaflnpmilikcaaGreatPx29
import Derived.Test.YtgaflnpmilikcaaGreatPx26
import Derived.Test.YtgaflnpmilikcaaGreatPx34
set_option maxRecDepth 100000
set_option linter.unusedSimpArgs false
set_option linter.unusedVariables false
namespace Go.Proofs.YtgaflnpmilikcaaGreat
open Go.RowKit Go
set_option maxHeartbeats 1000000
def Zr (τ:Nat→Nat) (k:Nat):Nat→Prop:=fun b=>b<k∧τ b=0
def JD (lo:Nat) (τ:Nat→Nat):Nat→Prop:=fun b=>lo≤b∧1≤τ b
def Sd (lo:Nat) (τ:Nat→Nat) (w w':World) (v:Value→Value) (E:Ending) (z:Sw.World):Prop:=
 ∃ (bF:Option Addr) (Di DZ:Nat) (bL:Option Addr) (Bg BR:Nat) (bP:Option Addr) (Bf BV:Nat) (bD:Option Addr) (Bh Ba:Nat) (bN:Option Addr) (Bd Bb:Nat) (bS:Option Addr) (Bc BZ:Nat) (bI:Option Addr) (Dg bIn:Nat) (bG:Option Addr) (Dh DL:Nat) (bB:Option Addr) (Dj Cy:Nat),E=.returned (v (.agg #[.slice bF DZ Di,.slice bL BR Bg,.slice bP BV Bf,.slice bD Ba Bh,.int .i64 z.AB.clock,.slice bN Bb Bd,.slice bS BZ Bc,.slice bI bIn Dg,.slice bG DL Dh,.slice bB Cy Dj]))∧(∀ w'',Ch (Zr τ w.heap.size) w' w''→RW w'' lo bF Di DZ bL Bg BR bP Bf BV bD Bh Ba bN Bd Bb bS Bc BZ bI Dg bIn bG Dh DL bB Dj Cy z)∧Ch (JD lo τ) w w'
section
variable {fd fp τ τ':Nat→Nat} {W w w' w1 w2 w3:World} {lo c k d n c1 g0 g1:Nat} {A B A1:Option Addr}
theorem KT.box {t k:Nat} {a:World} (h:KT τ t lo a w) (hx:Ch (Zr τ k) w w') (ht:1≤t):KT τ t lo a w':=
 KT.ch hx h fun i hi=>.inr (by rw[hi.2];omega)
theorem KT.kX {t k:Nat} {a:World} (h:KT τ' t lo a w) (hx:Ch (Zr τ k) w w') (hτ:∀ b,b<k→τ' b=τ b) (ht:1≤t):KT τ' t lo a w':=
 KT.ch hx h fun i hi=>.inr (by rw[hτ i hi.1,hi.2];omega)
theorem Eh.zeros {aF aL aP aD aN aS aI aG aB:Option Addr} {BD A_ Ae AU Ag AY Ac AQ Ad Aa Af Ab BF A7 BA Az aBc Ao:Nat} {x:Sw.World} (h:Eh Jk I4 τ w lo aF BD A_ aL Ae AU aP Ag AY aD Ac AQ aN Ad Aa aS Af Ab aI BF A7 aG BA Az aB aBc Ao x) (hx:Ch (Zr τ k) w w'):Eh Jk I4 τ w' lo aF BD A_ aL Ae AU aP Ag AY aD Ac AQ aN Ad Aa aS Af Ab aI BF A7 aG BA Az aB aBc Ao x:=by
 have K:∀ t,1≤t→KT τ t lo w w':=fun t ht=>(KT.refl _ _ _ _).box hx ht
 exact⟨h.first.keep (K 6 (by decide)),h.Dt.keep fun t h1 _=>K t h1,h.lines.keep (K 7 (by decide)),h.AV.keep (K 8 (by decide)) fun j=>K _ (by unfold Jk;omega),h.BS.keep (K 9 (by decide)) fun j=>K _ (by unfold I4;omega)⟩
theorem Zr.of {K:Nat} (h:Ch (BX w.heap.size g1) w1 w2) (hk:Ch (Zr τ w.heap.size) w2 w3) (hg:g1≤K) (hw:w.heap.size≤K):Ch (Zr (glue τ w.heap.size (fun _=>0)) K) w1 w3:=
 (h.mono fun i _ hi=>⟨by have:=hi.2;omega,if_neg (by have:=hi.1;omega)⟩).trans (hk.mono fun i _ hi=>⟨by have:=hi.1;omega,(if_pos hi.1).trans hi.2⟩)
theorem Eh.CX {aF aL aP aD aN aS aI aG aB:Option Addr} {BD A_ Ae AU Ag AY Ac AQ Ad Aa Af Ab BF A7 BA Az aBc Ao:Nat} {x:Sw.World} (h:Eh fd fp τ w lo aF BD A_ aL Ae AU aP Ag AY aD Ac AQ aN Ad Aa aS Af Ab aI BF A7 aG BA Az aB aBc Ao x) (hk:w.heap.size≤k):Eh fd fp (glue τ k τ') w lo aF BD A_ aL Ae AU aP Ag AY aD Ac AQ aN Ad Aa aS Af Ab aI BF A7 aG BA Az aB aBc Ao x:=h.retag fun b hb=>if_pos (by omega)
theorem Eh.tail {aF aL aP aD aN aS aI aG aB:Option Addr} {BD A_ Ae AU Ag AY Ac AQ Ad Aa Af Ab BF A7 BA Az aBc Ao:Nat} {x:Sw.World} (h:Eh Jk I4 τ W lo aF BD A_ aL Ae AU aP Ag AY aD Ac AQ aN Ad Aa aS Af Ab aI BF A7 aG BA Az aB aBc Ao x) (hb:Ex W w1) (hc:Ch (KW aB) w1 w2) (he:Ch (Zr τ W.heap.size) w2 w3) :
  RI w3 lo aF BD A_ x.first∧RM w3 lo aL Ae AU aP Ag AY aD Ac AQ aN Ad Aa aS Af Ab x.AB∧RQ w3 lo aI BF A7 x.lines∧RG w3 lo aG BA Az x.AV:=by
 have ht:∀ a,aB=some a→τ a.block=9:=by
  obtain⟨vs,h1,_⟩:=h.BS.ex
  exact h1.tag
 have K:∀ t,1≤t→t≠9→KT τ t lo W w3:=fun t h1 h9=>(KT.app hb hc ht (Ne.symm h9)).box he h1
 exact⟨(h.first.keep (K 6 (by decide) (by decide))).rs,(h.Dt.keep fun t h1 h5=>K t h1 (by omega)).rm,(h.lines.keep (K 7 (by decide) (by decide))).rs,(h.AV.keep (K 8 (by decide) (by decide)) fun j=>K _ (by unfold Jk;omega) (by unfold Jk;omega)).rg⟩
theorem Eh.Z4 {aF aL aP aD aN aS aI aG aB:Option Addr} {BD A_ Ae AU Ag AY Ac AQ Ad Aa Af Ab BF A7 BA Az aBc Ao:Nat} {x:Sw.World} (h:Eh fd fp τ w lo aF BD A_ aL Ae AU aP Ag AY aD Ac AQ aN Ad Aa aS Af Ab aI BF A7 aG BA Az aB aBc Ao x):∀ a,aB=some a→a.block<w.heap.size:=by
 obtain⟨vs,h1,_⟩:=h.BS.ex
 exact fun a ha=>(h1.ow.blk ha).2
theorem Eh.Ux {aF aL aP aD aN aS aI aG aB:Option Addr} {BD A_ Ae AU Ag AY Ac AQ Ad Aa Af Ab BF A7 BA Az aBc Ao:Nat} {x:Sw.World} (h:Eh fd fp τ w lo aF BD A_ aL Ae AU aP Ag AY aD Ac AQ aN Ad Aa aS Af Ab aI BF A7 aG BA Az aB aBc Ao x):∀ a,aG=some a→a.block<w.heap.size:=by
 obtain⟨vs,h1,_⟩:=h.AV.ex
 exact fun a ha=>(h1.ow.blk ha).2
theorem Eh.Z0 {aF aL aP aD aN aS aI aG aB:Option Addr} {BD A_ Ae AU Ag AY Ac AQ Ad Aa Af Ab BF A7 BA Az aBc Ao:Nat} {x:Sw.World} (h:Eh fd fp τ w lo aF BD A_ aL Ae AU aP Ag AY aD Ac AQ aN Ad Aa aS Af Ab aI BF A7 aG BA Az aB aBc Ao x):∀ a,aB=some a→JD lo τ a.block:=by
 obtain⟨vs,h1,_⟩:=h.BS.ex
 exact fun a ha=>⟨(h1.ow.blk ha).1,by rw[h1.tag a ha];omega⟩
theorem Eh.RZ {aF aL aP aD aN aS aI aG aB:Option Addr} {BD A_ Ae AU Ag AY Ac AQ Ad Aa Af Ab BF A7 BA Az aBc Ao:Nat} {x:Sw.World} (h:Eh fd fp τ w lo aF BD A_ aL Ae AU aP Ag AY aD Ac AQ aN Ad Aa aS Af Ab aI BF A7 aG BA Az aB aBc Ao x):∀ a,aG=some a→JD lo τ a.block:=by
 obtain⟨vs,h1,_⟩:=h.AV.ex
 exact fun a ha=>⟨(h1.ow.blk ha).1,by rw[h1.tag a ha];omega⟩
theorem JD.up {w w':World} (h:Ch (JD lo τ) w w'):Ch (zX lo) w w':=h.mono fun i _ hi=>hi.1
theorem KH.cap {xs:List Sw.IX} (h:KH fp τ w lo A c n xs):n≤c:=by
 obtain⟨vs,h1,_⟩:=h.ex
 exact h1.ow.rs.2.le
theorem KH.xJ {xs:List Sw.IX} (h:KH fp τ w lo A c n xs):c≤9223372036854775807:=by
 obtain⟨vs,h1,_⟩:=h.ex
 have:=h1.ow.rs.2.cap
 unfold maxLen at this
 omega
theorem Eh.sent {aF aL aP aD aN aS aI aG aB:Option Addr} {BD A_ Ae AU Ag AY Ac AQ Ad Aa Af Ab BF A7 BA Az aBc Ao:Nat} {x:Sw.World} {m:Sw.IX} {vs:List XV} (h:Eh Jk I4 τ W lo aF BD A_ aL Ae AU aP Ag AY aD Ac AQ aN Ad Aa aS Af Ab aI BF A7 aG BA Az aB aBc Ao x) (h1:TS τ 9 W lo aB aBc Ao vs) (h2:Ao=x.BS.length)
  (h3:∀ (j:Nat) (v:XV) (g:Sw.IX),vs[j]?=some v→x.BS[j]?=some g→v.g=g.gate∧v.h=g.head∧JY τ (I4 j) W lo v.A v.c v.n g.proof)
  (hb:Ex W w1) (hd:Ga w1 W.heap.size B d n m.proof) (hlo:lo≤W.heap.size) (ho:MZ w2 lo A1 c1 (Ao+1) (vs ++ [⟨m.gate,m.head,B,d,n⟩])) (hc:Ch (KW aB) w1 w2)
  (hat:∀ b,A1=some b→aB=some b∨w1.heap.size≤b.block) (he:Ch (Zr τ W.heap.size) w2 w3) :
  RW w3 lo aF BD A_ aL Ae AU aP Ag AY aD Ac AQ aN Ad Aa aS Af Ab aI BF A7 aG BA Az A1 c1 (Ao+1) { x with BS:=x.BS ++ [m] }:=by
 obtain⟨q1,q2,q3,q4⟩:=h.tail hb hc he
 have hz:=hb.size
 have hs:=KH.snoc h1 h2 h3 hb hd hlo ho hc hat WY
 have h0':∀ b,b<W.heap.size→glue (glue τ W.heap.size (fun _=>I4 Ao)) w1.heap.size (fun _=>9) b=τ b:=fun b h1=>(if_pos (by omega)).trans (if_pos h1)
 exact⟨q1,q2,q3,q4,(hs.keep ((KT.refl _ _ _ _).kX he h0' (by decide)) fun j=>(KT.refl _ _ _ _).kX he h0' (by unfold I4;omega)).rx⟩
theorem Eh.still {aF aL aP aD aN aS aI aG aB:Option Addr} {BD A_ Ae AU Ag AY Ac AQ Ad Aa Af Ab BF A7 BA Az aBc Ao:Nat} {x:Sw.World} (_:Eh Jk I4 τ W lo aF BD A_ aL Ae AU aP Ag AY aD Ac AQ aN Ad Aa aS Af Ab aI BF A7 aG BA Az aB aBc Ao x) (hb:Ex W w1) (he:Ch (Zr τ W.heap.size) w1 w3):∀ t,1≤t→KT τ t lo W w3:=
 fun t h1=>(KT.ex hb (KT.refl _ _ _ _)).box he h1
theorem Eh.pM {aF aL aP aD aN aS aI aG aB:Option Addr} {BD A_ Ae AU Ag AY Ac AQ Ad Aa Af Ab BF A7 BA Az aBc Ao:Nat} {x:Sw.World} {gG k0:Nat} {y:GV} (h:Eh Jk I4 τ W lo aF BD A_ aL Ae AU aP Ag AY aD Ac AQ aN Ad Aa aS Af Ab aI BF A7 aG BA Az aB aBc Ao x) (hA:aG=some ⟨gG,0,none⟩) (hb:Ex W w1)
  (he:Ch (Zr τ k0) (setCells w1 gG (k*4) y.enc) w3):∀ t,1≤t→t≠8→KT τ t lo W w3:=by
 obtain⟨vs,v1,v2,v3⟩:=h.AV.ex
 have tG:τ gG=8:=v1.tag _ hA
 have hset:Ch (· = gG) w1 (setCells w1 gG (k*4) y.enc):=JI (Ch.refl _ _) rfl
 exact fun t h1 h8=>(KT.ch hset (KT.ex hb (KT.refl _ _ _ _)) fun i hi=>.inr (by rw[show i=gG from hi,tG];exact Ne.symm h8)).box he h1
theorem Eh.Uy {aF aL aP aD aN aS aI aG aB:Option Addr} {BD A_ Ae AU Ag AY Ac AQ Ad Aa Af Ab BF A7 BA Az aBc Ao:Nat} {x:Sw.World} {gG k0:Nat} {y:Sw.Gate} (h:Eh Jk I4 τ W lo aF BD A_ aL Ae AU aP Ag AY aD Ac AQ aN Ad Aa aS Af Ab aI BF A7 aG BA Az aB aBc Ao x) (hA:aG=some ⟨gG,0,none⟩) (hk:k<Az) (hb:Ex W w1) (hd:Ga w1 W.heap.size B d n y.done) (hlo:lo≤W.heap.size) (hk0:k0≤W.heap.size)
  (he:Ch (Zr τ k0) (setCells w1 gG (k*4) (GV.enc ⟨y.head,B,d,n⟩)) w3) :
  RI w3 lo aF BD A_ x.first∧RM w3 lo aL Ae AU aP Ag AY aD Ac AQ aN Ad Aa aS Af Ab x.AB∧RQ w3 lo aI BF A7 x.lines∧RG w3 lo aG BA Az (x.AV.set k y)∧RX w3 lo aB aBc Ao x.BS:=by
 obtain⟨vs,v1,v2,v3⟩:=h.AV.ex
 have eH:=v1.ow.blk hA
 dsimp only at eH
 have tG:τ gG=8:=v1.tag _ hA
 have hz:=hb.size
 have hset:Ch (· = gG) w1 (setCells w1 gG (k*4) (GV.enc ⟨y.head,B,d,n⟩)):=JI (Ch.refl _ _) rfl
 have K:∀ t,1≤t→t≠8→KT τ t lo W w3:=fun t h1 h8=>(KT.ch hset (KT.ex hb (KT.refl _ _ _ _)) fun i hi=>.inr (by rw[show i=gG from hi,tG];exact Ne.symm h8)).box he h1
 have hne:∀ b,b≠gG→(setCells w1 gG (k*4) (GV.enc ⟨y.head,B,d,n⟩)).heap[b]?=w1.heap[b]?:=fun b hb=>EG hb _ _ _
 have hnb:∀ b,b<w1.heap.size→¬Zr τ k0 b→w3.heap[b]?=(setCells w1 gG (k*4) (GV.enc ⟨y.head,B,d,n⟩)).heap[b]?:=fun b h1 h2=>he.block b (by rw[Jz];exact h1) h2
 refine⟨(h.first.keep (K 6 (by decide) (by decide))).rs,(h.Dt.keep fun t h1 h5=>K t h1 (by omega)).rm,(h.lines.keep (K 7 (by decide) (by decide))).rs,?_,(h.BS.keep (K 9 (by decide) (by decide)) fun j=>K _ (by unfold I4;omega) (by unfold I4;omega)).rx⟩
 have hp:=Ow.put (v1.ow.keep (kE hb (kR _ _))) (fun _=>rfl) ⟨y.head,B,d,n⟩ hA hk
 refine⟨_,Ow.rs (hp.Hw fun a ha=>?_),by rw[List.length_set];exact v2,fun j v z hv hz'=>?_⟩
 ·rw[hA] at ha
  cases ha
  refine hnb gG (by omega) fun hbx=>?_
  have:=hbx.2
  omega
 ·rw[List.getElem?_set] at hv hz'
  by_cases hjk:k=j
  ·subst hjk
   rw[if_pos rfl,if_pos (by rw[← v1.ow.1];exact hk)] at hv
   rw[if_pos rfl,if_pos (by omega)] at hz'
   cases hv;cases hz'
   refine⟨rfl,Ow.rs ((hd.less hlo).Hw fun a ha=>?_)⟩
   have hab:=hd.blk ha
   rw[hnb _ hab.2 (fun h=>by have:=h.1;omega),hne _ (by omega)]
  ·rw[if_neg hjk] at hv hz'
   obtain⟨e,hr⟩:=v3 j v z hv hz'
   exact⟨e,(hr.keep (K _ (by unfold Jk;omega) (by unfold Jk;omega))).rs⟩
theorem SE {xs:List Sw.IX} {vs:List XV} (h3:∀ (j:Nat) (v:XV) (g:Sw.IX),vs[j]?=some v→xs[j]?=some g→v.g=g.gate∧v.h=g.head∧JY τ (I4 j) W lo v.A v.c v.n g.proof) (hk:∀ t,1≤t→KT τ t lo W w') :
  ∀ (j:Nat) (v:XV) (g:Sw.IX),vs[j]?=some v→xs[j]?=some g→v.g=g.gate∧v.h=g.head∧JY τ (I4 j) w' lo v.A v.c v.n g.proof:=
 fun j v g hv hg=>⟨(h3 j v g hv hg).1,(h3 j v g hv hg).2.1,(h3 j v g hv hg).2.2.keep (hk _ (by unfold I4;omega))⟩
theorem Eh.lost {aF aL aP aD aN aS aI aG aB:Option Addr} {BD A_ Ae AU Ag AY Ac AQ Ad Aa Af Ab BF A7 BA Az aBc Ao:Nat} {x:Sw.World} {vs:List XV} {i N c2 lw:Nat} {A2:Option Addr} (h:Eh Jk I4 τ W lo aF BD A_ aL Ae AU aP Ag AY aD Ac AQ aN Ad Aa aS Af Ab aI BF A7 aG BA Az aB aBc Ao x) (h1:TS τ 9 W lo aB aBc Ao vs) (h2:Ao=x.BS.length)
  (h3:∀ (j:Nat) (v:XV) (g:Sw.IX),vs[j]?=some v→x.BS[j]?=some g→v.g=g.gate∧v.h=g.head∧JY τ (I4 j) W lo v.A v.c v.n g.proof)
  (hb:Ex W w1) (he:Ch (Zr τ W.heap.size) w1 w3) (hlo:lo≤W.heap.size) (ho:MZ w1 lw A2 c2 N (vs.take i ++ vs.drop (i+1))) (hlw:W.heap.size≤lw) (hi:i<Ao) (hN:N=Ao-1) :
  RW w3 lo aF BD A_ aL Ae AU aP Ag AY aD Ac AQ aN Ad Aa aS Af Ab aI BF A7 aG BA Az A2 c2 N { x with BS:=x.BS.eraseIdx i }:=by
 have K:=h.still hb he
 have hz:=hb.size
 exact⟨(h.first.keep (K 6 (by decide))).rs,(h.Dt.keep fun t h1 h5=>K t h1).rm,(h.lines.keep (K 7 (by decide))).rs,(h.AV.keep (K 8 (by decide)) fun j=>K _ (by unfold Jk;omega)).rg,
  RX.erase h2 h1.ow.1 (fun j v z hv hz'=>⟨(h3 j v z hv hz').1,(h3 j v z hv hz').2.1,((h3 j v z hv hz').2.2.keep (K _ (by unfold I4;omega))).rs⟩)
   (Ow.rs ((ho.less (show lo≤lw by omega)).Hw fun a ha=>by have:=ho.blk ha;exact he.block _ this.2 fun hx=>by have:=hx.1;omega)) hi hN⟩
theorem Eh.heard {aF aL aP aD aN aS aI aG aB:Option Addr} {BD A_ Ae AU Ag AY Ac AQ Ad Aa Af Ab BF A7 BA Az aBc Ao:Nat} {x:Sw.World} {vs:List XV} {wz:World} {i N c2 lw gG k0:Nat} {A2:Option Addr} {y:Sw.Gate} (h:Eh Jk I4 τ W lo aF BD A_ aL Ae AU aP Ag AY aD Ac AQ aN Ad Aa aS Af Ab aI BF A7 aG BA Az aB aBc Ao x) (h1:TS τ 9 W lo aB aBc Ao vs) (h2:Ao=x.BS.length)
  (h3:∀ (j:Nat) (v:XV) (g:Sw.IX),vs[j]?=some v→x.BS[j]?=some g→v.g=g.gate∧v.h=g.head∧JY τ (I4 j) W lo v.A v.c v.n g.proof)
  (hA:aG=some ⟨gG,0,none⟩) (hk:k<Az) (hb:Ex W w1) (hd:Ga w1 W.heap.size B d n y.done) (he:Ch (Zr τ k0) (setCells w1 gG (k*4) (GV.enc ⟨y.head,B,d,n⟩)) w3) (hlo:lo≤W.heap.size)
  (ho:MZ wz lw A2 c2 N (vs.take i ++ vs.drop (i+1))) (D8:Ex wz w1) (hlw:k0≤lw) (hk0:k0≤W.heap.size) (hgl:gG<lw) (hll:lo≤lw) (hi:i<Ao) (hN:N=Ao-1) :
  RW w3 lo aF BD A_ aL Ae AU aP Ag AY aD Ac AQ aN Ad Aa aS Af Ab aI BF A7 aG BA Az A2 c2 N { x with AV:=x.AV.set k y,BS:=x.BS.eraseIdx i }:=by
 obtain⟨q1,q2,q3,q4,-⟩:=h.Uy (y:=y) hA hk hb hd hlo hk0 he
 have K:=h.pM hA hb he
 have hz:=hb.size
 have ho1:MZ w1 lw A2 c2 N (vs.take i ++ vs.drop (i+1)):=ho.keep (kE D8 (kR _ _))
 exact⟨q1,q2,q3,q4,
  RX.erase h2 h1.ow.1 (fun j v z hv hz'=>⟨(h3 j v z hv hz').1,(h3 j v z hv hz').2.1,((h3 j v z hv hz').2.2.keep (K _ (by unfold I4;omega) (by unfold I4;omega))).rs⟩)
   (Ow.rs ((ho1.less hll).Hw fun a ha=>by
    have hab:=ho1.blk ha
    rw[he.block _ (by rw[Jz];exact hab.2) (fun hx=>by have:=hx.1;omega)]
    exact EG (by omega) _ _ _)) hi hN⟩
end
end Go.Proofs.YtgaflnpmilikcaaGreat
namespace Go.Proofs.YtgaflnpmilikcaaGreat
open Go.RowKit Go
set_option maxHeartbeats 4000000
theorem Ym (aF:Option Addr) (BD A_:Nat) (aL:Option Addr) (Ae AU:Nat) (aP:Option Addr) (Ag AY:Nat) (aD:Option Addr) (Ac AQ:Nat) (aN:Option Addr) (Ad Aa:Nat) (aS:Option Addr) (Af Ab:Nat) (aI:Option Addr) (BF A7:Nat) (aG:Option Addr) (BA Az:Nat) (aB:Option Addr) (aBc Ao:Nat) (x:Sw.World) (rows:List Sw.Row) (lo:Nat) (τ:Nat→Nat) (w:World) (hM:Cn τ w lo aL Ae AU aP Ag AY aD Ac AQ aN Ad Aa aS Af Ab x.AB) (hI:TT τ 7 w lo aI BF A7 x.lines) (hok:Sw.IL x.AB rows) (hln:A7≤300) (hlo:lo≤w.heap.size):Calls Tryz.prog 99 #[.agg #[.slice aF A_ BD,.slice aL AU Ae,.slice aP AY Ag,.slice aD AQ Ac,.int .i64 x.AB.clock,.slice aN Aa Ad,.slice aS Ab Af,.slice aI A7 BF,.slice aG Az BA,.slice aB Ao aBc]] w fun E w'=>Qd lo τ w w' (fun u=>u) E aF BD A_ aG BA Az aB aBc Ao (Sw.Gg x):=by
 have hll:=Lib.hid hI.ow.1
 have hsz:=Le hok
 have hl1:=hM.AJ.ow.1
 have hl2:=hM.Ai.ow.1
 have hD4:AQ≤4194304:=by omega
 have hP4:AY≤4194304:=by omega
 have hck:=hok.Qa
 clear hsz hl1 hl2
 by_cases g1:x.AB.clock=99999
 ·have g1':(x.AB.clock==99999)=true:=by simp[g1]
  have e:Sw.Gg x=x:=by simp[Sw.Gg,g1]
  rw[e];clear e g1
  go_enter Tryz.func99,Tryz.ntmps99
  go_wp2_with fail
  refine bodyPost_ret (v:=.agg #[.slice aF A_ BD,.slice aL AU Ae,.slice aP AY Ag,.slice aD AQ Ac,.int .i64 x.AB.clock,.slice aN Aa Ad,.slice aS Ab Af,.slice aI A7 BF,.slice aG Az BA,.slice aB Ao aBc]) (by simp[results,Tryz.results99,go_sem, *]) rfl ?_
  exact⟨aL,Ae,AU,aP,Ag,AY,aD,Ac,AQ,aN,Ad,Aa,aS,Af,Ab,aI,BF,A7,τ,rfl,hM.Av AO,hI.Av AO,fun _ _=>rfl,AA⟩
 have g1':(x.AB.clock==99999)=false:=by simp[g1]
 by_cases g2:A7=300
 ·have g2':((A7:Int)==300)=true:=by simp;omega
  have e:Sw.Gg x=x:=by simp[Sw.Gg,← hll.out,g2]
  rw[e];clear e g2 g1
  go_enter Tryz.func99,Tryz.ntmps99
  go_wp2_with fail
  refine bodyPost_ret (v:=.agg #[.slice aF A_ BD,.slice aL AU Ae,.slice aP AY Ag,.slice aD AQ Ac,.int .i64 x.AB.clock,.slice aN Aa Ad,.slice aS Ab Af,.slice aI A7 BF,.slice aG Az BA,.slice aB Ao aBc]) (by simp[results,Tryz.results99,go_sem, *]) rfl ?_
  exact⟨aL,Ae,AU,aP,Ag,AY,aD,Ac,AQ,aN,Ad,Aa,aS,Af,Ab,aI,BF,A7,τ,rfl,hM.Av AO,hI.Av AO,fun _ _=>rfl,AA⟩
 have g2':((A7:Int)==300)=false:=by simp;omega
 have hlt:x.lines.length<300:=by rw[← hll.out];omega
 have e:Sw.Gg x={ x with AB:=Sw.tick x.AB,lines:=x.lines ++ [Sw.Eu] }:=by simp[Sw.Gg,g1,hlt]
 rw[e]
 clear e hlt g1 g2 hok
 have hG:=hM.CX (τ':=fun _=>0) (Nat.le_refl _)
 have wu:=hI.CX (τ':=fun _=>0) (Nat.le_refl _)
 go_enter Tryz.func99,Tryz.ntmps99
 go_wp2_with fail
 apply Calls.mono
 apply (XE (m:=x.AB) (τ:=glue τ w.heap.size (fun _=>0)) (lo:=lo))
 ·exact hG.Av AO
 ·exact hck.1
 ·exact hck.2
 ·exact hD4
 ·exact hP4
 ·exact Aq
 rintro E w6 ⟨A6,c6,τ6,rfl,YZ,RP,hb6⟩
 have pG:TT τ6 7 w6 lo aI BF A7 x.lines:=(wu.Av (show KF lo w _ from AO)).sm hb6 (by decide) RP
 obtain⟨hB0,Ta⟩:=Ch.Gv hb6 (g:=w.heap.size) Aq (if_neg (by omega))
 obtain⟨hB1,hF1⟩:=Ch.Gv hb6 (g:=w.heap.size+1) Aq (if_neg (by omega))
 have Pe:=hb6.size
 (try simp only[BO] at Pe)
 have fK:∀ b,w.heap.size≤b→b<w.heap.size+2→τ6 b=0:=fun b h1 h2=>(RP b Aq).trans (if_neg (by omega))
 have hcA:Ch (SA lo τ) w w6:=Ch.trans' (show Ch (SA lo τ) w _ from AA) hb6 (fun i hi h=>SA.sm (by
  obtain⟨h1,h2,h3⟩:=h
  unfold glue at h2 h3
  rw[if_pos (by exact hi)] at h2 h3
  exact⟨h1,h2,h3⟩))
 have oz:=hb6
 clear hb6
 go_upto_region 4 with fail
 (refine CF fun W0 hb0 hc0 hf0 hz0=>?_)
 have Fu:Lb W0 (w.heap.size+1) 10:=by
  refine Lb.ex ?_ hb0
  repeat apply Lb.set
  refine Lb.MB oz ?_ (fun h=>(by have h2:=h.2.1;rw[glue,if_neg (by omega)] at h2;omega))
  exact Dw
 have p0:W0.cell? ⟨w.heap.size,0,none⟩=some (.slice aF A_ BD):=(Ak);have p1:W0.cell? ⟨w.heap.size,1,none⟩=some (.slice aL AU Ae):=(Ak);have p2:W0.cell? ⟨w.heap.size,2,none⟩=some (.slice A6 AY c6):=(Ak);have p3:W0.cell? ⟨w.heap.size,3,none⟩=some (.slice aD AQ Ac):=(Ak);have p4:W0.cell? ⟨w.heap.size,4,none⟩=some (.int .i64 (x.AB.clock+1)):=(Ak);have p5:W0.cell? ⟨w.heap.size,5,none⟩=some (.slice aN Aa Ad):=(Ak);have p6:W0.cell? ⟨w.heap.size,6,none⟩=some (.slice aS Ab Af):=(Ak);have p7:W0.cell? ⟨w.heap.size,7,none⟩=some (.slice aI A7 BF):=(Ak);have p8:W0.cell? ⟨w.heap.size,8,none⟩=some (.slice aG Az BA):=(Ak);have p9:W0.cell? ⟨w.heap.size,9,none⟩=some (.slice aB Ao aBc):=(Ak)
 have pf:∀ i:Nat,W0.frozen? ⟨w.heap.size,i,none⟩=false:=fun i=>Ak
 have jw:=pG.box (g0:=w.heap.size) (g1:=w.heap.size+2) (show Ch (BX w.heap.size (w.heap.size+2)) w6 W0 from KA) fK (by decide)
 have ZW:=YZ.box (g0:=w.heap.size) (g1:=w.heap.size+2) (show Ch (BX w.heap.size (w.heap.size+2)) w6 W0 from KA) fK
 have hcB:Ch (SA lo τ) w W0:=AA
 have hz7:w6.heap.size≤W0.heap.size:=Aq
 have rH:w.heap.size+2≤W0.heap.size:=Aq
 clear hc0 hf0 hb0 hB0 hB1 Ta hF1 oz hcA
 obtain⟨hcz,hfz⟩:=Lb.rules Fu
 go_wp2_with (at_builtin;apply BL (lo:=lo) Wj Qv rfl rfl rfl rfl;(exact Ow.keep jw.ow AO);(refine Rs.new [Sw.Eu] (by (first|with_reducible rfl|(simp only[BO];done)|(simp only[BO];omega))) rfl rfl (fun _=>rfl) (by omega));omega;(exact Aq);intro A1 c1 w7 ho1 Ap Bo Ay Ah;clear Ay Ah;obtain⟨hC0,hG0⟩:=Ch.DK Ap (g:=w.heap.size) (by exact Aq) (Ow.apart hI.ow (by omega));obtain⟨Zo,hG1⟩:=Ch.DK Ap (g:=w.heap.size+1) (by exact Aq) (Ow.apart hI.ow (by omega));have QB:=Ap.size;(try simp only[BO] at QB))
 refine bodyPost_ret (v:=.agg #[.slice aF A_ BD,.slice aL AU Ae,.slice A6 AY c6,.slice aD AQ Ac,.int .i64 (x.AB.clock+1),.slice aN Aa Ad,.slice aS Ab Af,.slice A1 (A7+1) c1,.slice aG Az BA,.slice aB Ao aBc]) (by simp[results,Tryz.results99,go_sem, *]) rfl ?_
 have hlA:∀ a,aI=some a→a.block<W0.heap.size:=fun a ha=>(jw.ow.blk ha).2
 have m2:=Cn.app (τ':=fun _=>7) (ZW.Av (show KF lo W0 _ from AO)) Ap pG.tag (by decide) (fun a ha=>Nat.lt_of_lt_of_le (hlA a ha) Aq)
 have i2:=CK.full ho1 (jw.Av (show KF lo W0 _ from AO)) Bo
 have hS:=Ch.trans' (show Ch (SA lo τ) w _ from AA) Ap (fun i _ ⟨a,ha,e⟩=>by
  have h1:=hI.ow.blk ha;have h2:=hI.tag a ha
  subst e
  exact⟨h1.1,by omega,by omega,by omega⟩)
 exact⟨aL,Ae,AU,A6,c6,AY,aD,Ac,AQ,aN,Ad,Aa,aS,Af,Ab,A1,c1,A7+1,_,rfl,m2.box (g0:=w.heap.size) (g1:=w.heap.size+2) KA (Lj fK Aq),i2.box (g0:=w.heap.size) (g1:=w.heap.size+2) KA (Lj fK Aq) (by decide),fun b hb=>(if_pos Aq).trans ((RP b Aq).trans (if_pos hb)),AA⟩
end Go.Proofs.YtgaflnpmilikcaaGreat
namespace Go.Proofs.YtgaflnpmilikcaaGreat
open Go.RowKit Go
set_option maxHeartbeats 4000000
theorem nM {W:World} {gl:Nat} {T:TypeId} (r:Sw.Ee) (h:gl=W.heap.size):RQ (W.alloc (.cells #[.int .i64 r.user,.int .i64 r.n,.int .i64 r.kind,.int .i64 r.ticket,.int .i64 r.who,.int .i64 r.Al] T)).drew 0 (some ⟨gl,0,none⟩) 1 1 [r]:=
 Rs.keep (Rs.new (enc:=Sw.Ee.enc) (sz:=6) [r] h rfl rfl (fun _=>rfl) (by decide)) (kD (kR _ _))
def ko (g lo:Nat) (τ0 τ:Nat→Nat) (w0 w w':World) (E:Ending) (v:Value) (F:Option Addr) (Fc Fn:Nat) (G:Option Addr) (Gc Gn:Nat) (X:Option Addr) (Xc Xn:Nat) (z:Sw.World):Prop:=
 ∃ (bL:Option Addr) (Bg BR:Nat) (bP:Option Addr) (Bf BV:Nat) (bD:Option Addr) (Bh Ba:Nat) (bN:Option Addr) (Bd Bb:Nat) (bS:Option Addr) (Bc BZ:Nat) (I:Option Addr) (Ic In:Nat) (τ':Nat→Nat),E=.returned v∧WS g lo τ0 w0 F Fc Fn bL Bg BR bP Bf BV bD Bh Ba bN Bd Bb bS Bc BZ I Ic In G Gc Gn X Xc Xn z τ' w'∧(∀ b,b<w.heap.size→τ' b=τ b)∧∀ t,t=6∨8≤t→KT τ t lo w w'
theorem KT.comp {τ τ':Nat→Nat} {t lo:Nat} {a b c:World} (h:KT τ t lo a b) (k:KT τ' t lo b c) (ht:∀ i,i<a.heap.size→τ' i=τ i):KT τ t lo a c:=
 ⟨Nat.le_trans h.size k.size,fun i h1 h2 h3=>(k.block i h1 (Nat.lt_of_lt_of_le h2 h.size) ((ht i h2).trans h3)).trans (h.block i h1 h2 h3)⟩
theorem KT.sgx {τ:Nat→Nat} {t g lo:Nat} {w w':World} (hc:Ch (SG g lo τ) w w') (hg:τ g=0) (ht:6≤t):KT τ t lo w w':=
 ⟨hc.size,fun b h1 h2 h3=>hc.block b h2 fun h=>by
  rcases h with h | ⟨_,_,h5⟩
  ·subst h;omega
  ·omega⟩
section
variable {g lo:Nat} {τ0 τ:Nat→Nat} {w0 w:World} {aF aL aP aD aN aS aI aG aB:Option Addr} {BD A_ Ae AU Ag AY Ac AQ Ad Aa Af Ab BF A7 BA Az aBc Ao:Nat} {x:Sw.World}
theorem XK (hS:WS g lo τ0 w0 aF BD A_ aL Ae AU aP Ag AY aD Ac AQ aN Ad Aa aS Af Ab aI BF A7 aG BA Az aB aBc Ao x τ w) (r:Sw.Ee) {rows:List Sw.Row} (hok:Sw.IL x.AB rows) (hln:A7≤300):Calls Tryz.prog 88 #[.pointer (some ⟨g,0,none⟩),.agg #[.int .i64 r.user,.int .i64 r.n,.int .i64 r.kind,.int .i64 r.ticket,.int .i64 r.who,.int .i64 r.Al]] w fun E w'=>
  ko g lo τ0 τ w0 w w' E (.int .i64 (Sw.ask x r).2) aF BD A_ aG BA Az aB aBc Ao (Sw.ask x r).1:=by
 obtain⟨ru,rn,rk,rt,rh,rp⟩:=r
 have hll:=Lib.hid hS.ow.lines.ow.1
 have k7:=hS.lines
 have kf:=hS.at_.free
 have HS:=Lib.hid hS
 have LM:=hS.at_.lt
 have hlo:=hS.lo_le
 have HK:=Lib.hid hok
 clear hS hok
 cases g1:Sw.CR ⟨ru,rn,rk,rt,rh,rp⟩
 case false=>
  have e:Sw.ask x ⟨ru,rn,rk,rt,rh,rp⟩=(x,0):=by simp[Sw.ask,g1]
  rw[e];clear e
  go_enter Tryz.func88,Tryz.ntmps88
  go_wp2_with (go_at_call 56;apply Calls.mono;apply (JN ⟨ru,rn,rk,rt,rh,rp⟩);rintro E w3 ⟨rfl,hb⟩;rw[g1];obtain⟨hc,hf,hz⟩:=xy hb)
  go_ret
  exact⟨aL,Ae,AU,aP,Ag,AY,aD,Ac,AQ,aN,Ad,Aa,aS,Af,Ab,aI,BF,A7,τ,rfl,HS.out.ex AA,fun _ _=>rfl,fun t _=>.of AO⟩
 by_cases g2:A7=300
 ·have g2':((A7:Int)==300)=true:=by simp;omega
  have e:Sw.ask x ⟨ru,rn,rk,rt,rh,rp⟩=(x,0):=by simp[Sw.ask,g1,← hll.out,g2]
  rw[e];clear e g2
  go_enter Tryz.func88,Tryz.ntmps88
  go_wp2_with (go_at_call 56;apply Calls.mono;apply (JN ⟨ru,rn,rk,rt,rh,rp⟩);rintro E w3 ⟨rfl,hb⟩;rw[g1];obtain⟨hc,hf,hz⟩:=xy hb)
  go_ret
  exact⟨aL,Ae,AU,aP,Ag,AY,aD,Ac,AQ,aN,Ad,Aa,aS,Af,Ab,aI,BF,A7,τ,rfl,HS.out.ex AA,fun _ _=>rfl,fun t _=>.of AO⟩
 have g2':((A7:Int)==300)=false:=by simp;omega
 have hlt:x.lines.length<300:=by rw[← hll.out];omega
 have e:Sw.ask x ⟨ru,rn,rk,rt,rh,rp⟩=({ { x with lines:=x.lines ++ [(⟨ru,rn,rk,rt,rh,rp⟩:Sw.Ee)] } with AB:=(Sw.EZ x.AB ⟨ru,rn,rk,rt,rh,rp⟩).1 },(Sw.EZ x.AB ⟨ru,rn,rk,rt,rh,rp⟩).2):=by simp[Sw.ask,g1,hlt]
 rw[e]
 clear e hlt g2
 have iG:¬KW aI g:=fun ⟨a,ha,e⟩=>by have h1:=HS.out.ow.lines.tag a ha;have h2:=HS.out.g0;rw[← e] at h1;omega
 have HG:=Lib.hid iG
 clear iG
 go_enter Tryz.func88,Tryz.ntmps88
 go_wp2_with (go_at_call 56;apply Calls.mono;apply (JN ⟨ru,rn,rk,rt,rh,rp⟩);rintro E w3 ⟨rfl,hb⟩;rw[g1];obtain⟨hc,hf,hz⟩:=xy hb)
 (focus (refine CF fun W0 hb0 hc0 hf0 hz0=>?_;refine Aj [0,8,9,10,11] (S:=fun w'=>Held W0 w') DC (fun hHeld=>?_);(repeat' (first|refine Mc [] [] (h:=?_)|refine FQ [] [] hHeld (h:=?_)|refine Mo (fun K hK=>?_) ?_|refine FW (fun K hK=>?_) ?_|refine FV ?_|exact Cf|refine Mh (fun K hK=>?_) ?_|refine FT (fun K hK=>?_) ?_|((apply BM (lo:=lo) (m:=1) (ys:=[(⟨ru,rn,rk,rt,rh,rp⟩:Sw.Ee)]) Wj Qv rfl rfl rfl rfl;(exact Ow.keep HS.out.ow.lines.ow AO);(exact nM ⟨ru,rn,rk,rt,rh,rp⟩ (by first|with_reducible rfl|(simp only[BO];done)));omega;(exact Aq);intro A1 c1 w4 ho1 Ap Bo Ay Ah;clear Ay Ah;have QB:=Ap.size;(try simp only[BO] at QB);obtain⟨hB0,Ta⟩:=Ch.DK Ap (g:=w.heap.size) (by exact Aq) (Ow.apart HS.out.ow.lines.ow (by omega));have hk1:=(Ap.cell (p:=⟨g,7,none⟩) (by exact Aq) HG.out);have hk2:=(Ap.frozen (p:=⟨g,7,none⟩) (by exact Aq) HG.out));(first|(refine CQ hK DC (h:=?_);clear hK K hHeld;intro hHeld)|(refine ER hK (h:=?_);clear hK K)))|(revert hK;intro hK;go_simp;(first|(refine CQ hK DC (h:=?_);clear hK K hHeld;intro hHeld)|(refine ER hK (h:=?_);clear hK K)))));all_goals (refine FR ?_)))
 all_goals
  have hk4:∀ t,t=6∨8≤t→KT τ t lo w (w4.setCell ⟨g,7,none⟩ (.slice A1 (A7+1) c1)):=fun t ht=>tS (KT.ch Ap (KT.ex (by exact AA) (KT.refl _ _ _ _)) (fun i ⟨a,ha,hi⟩=>.inr (by rw[hi,HS.out.ow.lines.tag a ha];omega))) (.inr (by have h1:=HS.out.g0;show τ g≠t;omega))
  have g_:=Ap.size
  have D8:w.heap.size≤w4.heap.size:=by have h1:=g_;(try simp only[BO] at h1);omega
  have m1:=WS.ZB (HS.out.ex (show Ex w _ from AA)) ho1 Ap Bo
  clear Ap ho1 Bo hk1 hk2
  go_upto_region 4 with fail
  (focus (refine CF fun W0 hb0 hc0 hf0 hz0=>?_;refine Aj [4,5] (S:=fun w'=>Held W0 w') DC (fun hHeld=>?_);(repeat' (first|refine Mc [] [] (h:=?_)|refine FQ [] [] hHeld (h:=?_)|refine Mo (fun K hK=>?_) ?_|refine FW (fun K hK=>?_) ?_|refine FV ?_|exact Cf|refine Mh (fun K hK=>?_) ?_|refine FT (fun K hK=>?_) ?_|(revert hK;intro hK;go_simp;(try ((go_at_call 70;apply Calls.mono;apply (ZP (m1.ex (show Ex _ _ from AA)).ms ⟨ru,rn,rk,rt,rh,rp⟩ HK.out g1);rintro E w6 ⟨bL,Bg,BR,bP,Bf,BV,bD,Bh,Ba,bN,Bd,Bb,bS,Bc,BZ,τ6,rfl,TE⟩);(try go_wp2_with fail)));(first|(refine CQ hK DC (h:=?_);clear hK K hHeld;intro hHeld)|(refine ER hK (h:=?_);clear hK K)))));all_goals (refine FR ?_)))
  go_wp2_with fail
  go_ret
  exact⟨bL,Bg,BR,bP,Bf,BV,bD,Bh,Ba,bN,Bd,Bb,bS,Bc,BZ,A1,c1,A7+1,τ6,rfl,(m1.ex AA).AB TE,fun b hb=>(TE.tag b Aq).trans (if_pos Aq),fun t ht=>KT.comp (KT.ex (by exact AA) (hk4 t ht)) (KT.sgx TE.ch (m1.g0) (by omega)) (fun i hi=>if_pos Aq)⟩
end
end Go.Proofs.YtgaflnpmilikcaaGreat
