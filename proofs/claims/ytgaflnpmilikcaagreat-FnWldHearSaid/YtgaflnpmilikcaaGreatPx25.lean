/- Texts joined: WldB, One, GShowI, ImpF. -/
import Derived.Test.YtgaflnpmilikcaaGreatPx13
import Derived.Test.YtgaflnpmilikcaaGreatPx22
import Derived.Test.YtgaflnpmilikcaaGreatPx11
import Derived.Test.YtgaflnpmilikcaaGreatPx16
import Derived.Test.YtgaflnpmilikcaaGreatPx19
import Derived.Test.YtgaflnpmilikcaaGreatPx15
import Derived.Test.YtgaflnpmilikcaaGreatPx12
set_option maxRecDepth 100000
set_option linter.unusedSimpArgs false
set_option linter.unusedVariables false
namespace Go.Proofs.YtgaflnpmilikcaaGreat
open Go.RowKit Go
set_option maxHeartbeats 400000
section
variable {fd fp τ τ':Nat→Nat} {wr w w' w1 w2:World} {lo c k d m c1 n:Nat} {A B A1:Option Addr}
theorem KT.retag {t:Nat} (h:KT τ t lo w w') (ht:∀ b,b<w.heap.size→τ' b=τ b):KT τ' t lo w w':=
 ⟨h.size,fun b h1 h2 h3=>h.block b h1 h2 ((ht b h2).symm.trans h3)⟩
theorem KT.app {t s:Nat} (hb:Ex wr w1) (hc:Ch (KW A) w1 w2) (hs:∀ a,A=some a→τ a.block=s) (hne:s≠t):KT τ t lo wr w2:=
 KT.ch hc (KT.ex hb (KT.refl _ _ _ _)) fun i ⟨a,ha,hi⟩=>.inr (by rw[hi,hs a ha];exact hne)
theorem Kj.snoc {gs:List Sw.Gate} {vs:List GV} {g:Sw.Gate} (h1:ku τ 8 wr lo A c k vs) (h2:k=gs.length)
  (h3:∀ (j:Nat) (v:GV) (g:Sw.Gate),vs[j]?=some v→gs[j]?=some g→v.h=g.head∧JY τ (fd j) wr lo v.A v.c v.n g.done)
  (hb:Ex wr w1) (hd:Ga w1 wr.heap.size B d m g.done) (hlo:lo≤wr.heap.size) (ho:Z_ w2 lo A1 c1 (k+1) (vs ++ [⟨g.head,B,d,m⟩])) (hc:Ch (KW A) w1 w2)
  (hat:∀ b,A1=some b→A=some b∨w1.heap.size≤b.block) (oQ:∀ j,fd j≠8) :
  Kj fd (glue (glue τ wr.heap.size (fun _=>fd k)) w1.heap.size (fun _=>8)) w2 lo A1 c1 (k+1) (gs ++ [g]):=by
 have hz:=hb.size
 have t1:∀ b,b<wr.heap.size→glue (glue τ wr.heap.size (fun _=>fd k)) w1.heap.size (fun _=>8) b=τ b:=fun b hb=>by unfold glue;rw[if_pos (by omega),if_pos hb]
 have t2:∀ b,wr.heap.size≤b→b<w1.heap.size→glue (glue τ wr.heap.size (fun _=>fd k)) w1.heap.size (fun _=>8) b=fd k:=fun b h1 h2=>by unfold glue;rw[if_pos h2,if_neg (by omega)]
 have hA:∀ a,A=some a→glue (glue τ wr.heap.size (fun _=>fd k)) w1.heap.size (fun _=>8) a.block=8:=fun a ha=>(t1 _ (h1.ow.blk ha).2).trans (h1.tag a ha)
 refine⟨vs ++ [⟨g.head,B,d,m⟩],⟨ho,fun a ha=>?_⟩,by simp[h2],fun j v y hv hy=>?_⟩
 ·rcases hat a ha with h|h
  ·exact hA a h
  ·exact if_neg (by omega)
 ·have hlv:vs.length=k:=h1.ow.1.symm
  by_cases hj:j<k
  ·rw[List.getElem?_append_left (by omega)] at hv hy
   obtain⟨e,hr⟩:=h3 j v y hv hy
   exact⟨e,(hr.retag t1).keep (KT.app hb hc hA (Ne.symm (oQ j)))⟩
  ·have hjk:j=k:=by
    have:=(List.getElem?_eq_some_iff.1 hv).1
    simp at this;omega
   subst hjk
   rw[List.getElem?_append_right (by omega),hlv,Nat.sub_self] at hv
   rw[List.getElem?_append_right (by omega),← h2,Nat.sub_self] at hy
   cases hv;cases hy
   refine⟨rfl,⟨(hd.less hlo).Hw fun a ha=>?_,fun a ha=>t2 _ (hd.blk ha).1 (hd.blk ha).2⟩⟩
   refine hc.block _ (hd.blk ha).2 fun ⟨b,hb',e⟩=>?_
   have:=(h1.ow.blk hb').2
   have:=(hd.blk ha).1
   omega
theorem KH.snoc {gs:List Sw.IX} {vs:List XV} {g:Sw.IX} (h1:TS τ 9 wr lo A c k vs) (h2:k=gs.length)
  (h3:∀ (j:Nat) (v:XV) (g:Sw.IX),vs[j]?=some v→gs[j]?=some g→v.g=g.gate∧v.h=g.head∧JY τ (fp j) wr lo v.A v.c v.n g.proof)
  (hb:Ex wr w1) (hd:Ga w1 wr.heap.size B d m g.proof) (hlo:lo≤wr.heap.size) (ho:MZ w2 lo A1 c1 (k+1) (vs ++ [⟨g.gate,g.head,B,d,m⟩])) (hc:Ch (KW A) w1 w2)
  (hat:∀ b,A1=some b→A=some b∨w1.heap.size≤b.block) (oQ:∀ j,fp j≠9) :
  KH fp (glue (glue τ wr.heap.size (fun _=>fp k)) w1.heap.size (fun _=>9)) w2 lo A1 c1 (k+1) (gs ++ [g]):=by
 have hz:=hb.size
 have t1:∀ b,b<wr.heap.size→glue (glue τ wr.heap.size (fun _=>fp k)) w1.heap.size (fun _=>9) b=τ b:=fun b hb=>by unfold glue;rw[if_pos (by omega),if_pos hb]
 have t2:∀ b,wr.heap.size≤b→b<w1.heap.size→glue (glue τ wr.heap.size (fun _=>fp k)) w1.heap.size (fun _=>9) b=fp k:=fun b h1 h2=>by unfold glue;rw[if_pos h2,if_neg (by omega)]
 have hA:∀ a,A=some a→glue (glue τ wr.heap.size (fun _=>fp k)) w1.heap.size (fun _=>9) a.block=9:=fun a ha=>(t1 _ (h1.ow.blk ha).2).trans (h1.tag a ha)
 refine⟨vs ++ [⟨g.gate,g.head,B,d,m⟩],⟨ho,fun a ha=>?_⟩,by simp[h2],fun j v y hv hy=>?_⟩
 ·rcases hat a ha with h|h
  ·exact hA a h
  ·exact if_neg (by omega)
 ·have hlv:vs.length=k:=h1.ow.1.symm
  by_cases hj:j<k
  ·rw[List.getElem?_append_left (by omega)] at hv hy
   obtain⟨e0,e,hr⟩:=h3 j v y hv hy
   exact⟨e0,e,(hr.retag t1).keep (KT.app hb hc hA (Ne.symm (oQ j)))⟩
  ·have hjk:j=k:=by
    have:=(List.getElem?_eq_some_iff.1 hv).1
    simp at this;omega
   subst hjk
   rw[List.getElem?_append_right (by omega),hlv,Nat.sub_self] at hv
   rw[List.getElem?_append_right (by omega),← h2,Nat.sub_self] at hy
   cases hv;cases hy
   refine⟨rfl,rfl,⟨(hd.less hlo).Hw fun a ha=>?_,fun a ha=>t2 _ (hd.blk ha).1 (hd.blk ha).2⟩⟩
   refine hc.block _ (hd.blk ha).2 fun ⟨b,hb',e⟩=>?_
   have:=(h1.ow.blk hb').2
   have:=(hd.blk ha).1
   omega
def SA (lo:Nat) (τ:Nat→Nat):Nat→Prop:=fun b=>lo≤b∧1≤τ b∧τ b≤7∧τ b≠6
theorem KT.sa {t:Nat} (h:Ch (SA lo τ) w w') (ht:t=6∨8≤t):KT τ t lo w w':=
 ⟨h.size,fun b h1 h2 h3=>h.block b h2 fun ⟨_,_,h4,h5⟩=>by omega⟩
def zX (lo:Nat):Nat→Prop:=fun b=>lo≤b
theorem Ch.up {S:Nat→Prop} (h:Ch S w w') (hS:∀ b,S b→lo≤b):Ch (zX lo) w w':=h.mono fun i _ hi=>hS i hi
theorem Zv (j:Nat):Jk j≠8:=by unfold Jk;omega
theorem WY (j:Nat):I4 j≠9:=by unfold I4;omega
theorem Wi (j:Nat):8≤Jk j:=by unfold Jk;omega
theorem Zu (j:Nat):8≤I4 j:=by unfold I4;omega
theorem RX.erase {xs:List Sw.IX} {vs:List XV} {i:Nat} {N:Nat} (h2:n=xs.length) (h1:n=vs.length)
  (h3:∀ (k:Nat) (v:XV) (x:Sw.IX),vs[k]?=some v→xs[k]?=some x→v.g=x.gate∧v.h=x.head∧RI w lo v.A v.c v.n x.proof)
  (ho:Rs XV.enc 5 w lo A c N (vs.take i ++ vs.drop (i+1))) (hi:i<n) (hN:N=n-1):RX w lo A c N (xs.eraseIdx i):=by
 rw[← List.eraseIdx_eq_take_drop_succ] at ho
 refine⟨_,ho,by rw[List.length_eraseIdx,if_pos (by omega)];omega,fun k v x hv hx=>?_⟩
 rw[List.getElem?_eraseIdx] at hv hx
 split at hv
 ·rw[if_pos (by assumption)] at hx;exact h3 _ v x hv hx
 ·rw[if_neg (by assumption)] at hx;exact h3 _ v x hv hx
end
section
variable {α:Type} {enc:α→List Value} {sz:Nat} {e:TypeId} {τ τ':Nat→Nat} {t:Nat} {w w':World} {lo c n g0 g1:Nat} {A B:Option Addr} {xs:List α}
theorem CK.box (h:CK enc sz e τ t w lo A c n xs) (hx:Ch (BX g0 g1) w w') (h0:∀ b,g0≤b→b<g1→τ b=0) (ht:1≤t):CK enc sz e τ t w' lo A c n xs:=
 h.keep (KT.ch hx (KT.refl _ _ _ _) fun i hi=>.inr (by rw[h0 i hi.1 hi.2];omega))
theorem CK.sm (h:CK enc sz e τ t w lo A c n xs) (hc:Ch (SM lo τ) w w') (ht:6≤t) (hτ:∀ b,b<w.heap.size→τ' b=τ b):CK enc sz e τ' t w' lo A c n xs:=
 (h.retag hτ).keep ⟨hc.size,fun b h1 h2 h3=>hc.block b h2 fun ⟨_,_,h5⟩=>by have:=hτ b h2;omega⟩
theorem Cn.app {aL aP aD aN aS:Option Addr} {Ae AU Ag AY Ac AQ Ad Aa Af Ab:Nat} {m:Sw.CV} {s:Nat} (h:Cn τ w lo aL Ae AU aP Ag AY aD Ac AQ aN Ad Aa aS Af Ab m) (hc:Ch (KW A) w w') (hs:∀ a,A=some a→τ a.block=s) (h6:6≤s) (hA:∀ a,A=some a→a.block<w.heap.size):Cn (glue τ w.heap.size τ') w' lo aL Ae AU aP Ag AY aD Ac AQ aN Ad Aa aS Af Ab m:=
 (h.CX (Nat.le_refl _)).keep fun t h1 h5=>KT.ch hc (KT.refl _ _ _ _) fun i ⟨a,ha,hi⟩=>.inr (by rw[hi,glue,if_pos (hA a ha),hs a ha];omega)
theorem Ch.bJ {lo k B:Nat} {τ:Nat→Nat} {w w':World} (h:Ch (SM lo (glue τ k (fun _=>0))) w w') (hB:w.heap.size=B) (hl:lo≤B) :
  (∀ b o,¬((⟨b,0,none⟩:Addr)=⟨b-lo+lo,0,none⟩)→w'.cell? ⟨b,o,none⟩=w.cell? ⟨b,o,none⟩)∧(∀ b o,¬((⟨b,0,none⟩:Addr)=⟨b-lo+lo,0,none⟩)→w'.frozen? ⟨b,o,none⟩=w.frozen? ⟨b,o,none⟩) ∧
  (∀ b o,((⟨b,0,none⟩:Addr)=⟨b-k+k,0,none⟩)→¬((⟨b,0,none⟩:Addr)=⟨b-B+B,0,none⟩)→w'.cell? ⟨b,o,none⟩=w.cell? ⟨b,o,none⟩) ∧
  (∀ b o,((⟨b,0,none⟩:Addr)=⟨b-k+k,0,none⟩)→¬((⟨b,0,none⟩:Addr)=⟨b-B+B,0,none⟩)→w'.frozen? ⟨b,o,none⟩=w.frozen? ⟨b,o,none⟩)∧B≤w'.heap.size:=by
 subst hB
 have l1:∀ b,b<lo→w'.heap[b]?=w.heap[b]?:=fun b hb=>h.block b (by omega) fun h=>absurd h.1 (by omega)
 have l2:∀ b,((⟨b,0,none⟩:Addr)=⟨b-k+k,0,none⟩)→¬((⟨b,0,none⟩:Addr)=⟨b-w.heap.size+w.heap.size,0,none⟩)→w'.heap[b]?=w.heap[b]?:=fun b h1 h2=>by
  have h1:b=b-k+k:=congrArg Addr.block h1
  refine h.block b (A9 h2) fun ⟨_,h3,_⟩=>?_
  rw[glue,if_neg (by omega)] at h3
  exact absurd h3 (by decide)
 exact⟨(BJ l1).1,(BJ l1).2,fun b o h1 h2=>World.cell?_of_block (w:=w) (a:=⟨b,o,none⟩) (l2 b h1 h2),fun b o h1 h2=>World.frozen?_of_block (w:=w) (a:=⟨b,o,none⟩) (l2 b h1 h2),h.size⟩
theorem Cn.zeros {τ:Nat→Nat} {w w':World} {lo:Nat} {aL aP aD aN aS:Option Addr} {Ae AU Ag AY Ac AQ Ad Aa Af Ab:Nat} {m:Sw.CV} (h:Cn τ w lo aL Ae AU aP Ag AY aD Ac AQ aN Ad Aa aS Af Ab m) (hc:Ch (fun b=>τ b=0) w w'):Cn τ w' lo aL Ae AU aP Ag AY aD Ac AQ aN Ad Aa aS Af Ab m:=
 h.keep fun t h1 _=>KT.ch hc (KT.refl _ _ _ _) fun i hi=>.inr (by rw[show τ i=0 from hi];omega)
theorem CK.zeros {α:Type} {enc:α→List Value} {sz:Nat} {e:TypeId} {τ:Nat→Nat} {t:Nat} {w w':World} {lo c n:Nat} {A:Option Addr} {xs:List α} (h:CK enc sz e τ t w lo A c n xs) (hc:Ch (fun b=>τ b=0) w w') (ht:1≤t):CK enc sz e τ t w' lo A c n xs:=
 h.keep (KT.ch hc (KT.refl _ _ _ _) fun i hi=>.inr (by rw[show τ i=0 from hi];omega))
def mid (lo k:Nat) (τ:Nat→Nat):Nat→Nat:=glue (glue (fun _=>0) lo τ) k (fun _=>0)
theorem cZ {τ τd:Nat→Nat} {B lo k:Nat} {a w:World} {p:Addr} {u:Value} (hτ:∀ b,b<B→τ b=mid lo k τd b) (h:Ch (fun b=>τ b=0) a w) (h1:p.block<B) (h2:p.block<lo∨k≤p.block):Ch (fun b=>τ b=0) a (w.setCell p u):=
 h.setCell (.inl (by
  show τ p.block=0
  rw[hτ _ h1]
  unfold mid glue
  split
  ·rw[if_pos (by omega)]
  ·rfl)) u
theorem S9 {lo k b:Nat} {τ:Nat→Nat} (h:b<lo∨k≤b):mid lo k τ b=0:=by
 unfold mid glue
 split
 ·rw[if_pos (by omega)]
 ·rfl
end
end Go.Proofs.YtgaflnpmilikcaaGreat
namespace Go.Proofs.YtgaflnpmilikcaaGreat
open Go.RowKit Go
set_option maxHeartbeats 400000
structure K1 (b:Nat) (w w':World):Prop where
 size:w.heap.size≤w'.heap.size
 block:b<w.heap.size→w'.heap[b]?=w.heap[b]?
section
variable {b g:Nat} {a w w':World}
theorem oR (b:Nat) (w:World):K1 b w w:=⟨Nat.le_refl _,fun _=>rfl⟩
theorem oA {o:Obj} (h:K1 b a w):K1 b a (w.alloc o):=⟨by simp;have:=h.size;omega,fun hi=>(Below.heap_alloc _ _ _ (Nat.lt_of_lt_of_le hi h.size)).trans (h.block hi)⟩
theorem oD (h:K1 b a w):K1 b a w.drew:=⟨h.size,h.block⟩
theorem oN {n:Nat} (h:K1 b a w):K1 b a (w.drewN n):=⟨h.size,h.block⟩
theorem oS {p:Addr} {u:Value} (h:K1 b a w) (hp:b≠p.block):K1 b a (w.setCell p u):=⟨by simpa [World.setCell] using h.size,fun hi=>(Below.heap_setCell _ _ _ _ hp).trans (h.block hi)⟩
theorem oE (hb:Ex w w') (h:K1 b a w):K1 b a w':=⟨Nat.le_trans h.size hb.size,fun hi=>(hb.block b (Nat.lt_of_lt_of_le hi h.size) (fun h=>h)).trans (h.block hi)⟩
theorem oC (hb:Ch (· = g) w w') (h:K1 b a w) (hg:b≠g):K1 b a w':=⟨Nat.le_trans h.size hb.size,fun hi=>(hb.block b (Nat.lt_of_lt_of_le hi h.size) hg).trans (h.block hi)⟩
end
theorem dJ {p:Prop} (h:p:=by with_reducible repeat (first|exact oR _ _|apply oA|apply oD|apply oN|(refine oS ?_ (by first|omega|(simp only[BO];omega)))|(refine oC (by assumption) ?_ (by first|omega|(simp only[BO];omega)))|(apply oE;assumption))):p:=h
def Nw (w:World) (g:Nat) (T:TypeId):Prop:=w.heap[g]?=some (.cells #[] T (0,0))
section
variable {g k:Nat} {T:TypeId} {w w':World}
theorem Nw.lt (h:Nw w g T):g<w.heap.size:=(Array.getElem?_eq_some_iff.1 h).1
theorem Nw.new (hg:g=w.heap.size):Nw (w.alloc (.cells #[] T)) g T:=by subst hg;exact heap_alloc_new w _
theorem Nw.alloc {o:Obj} (h:Nw w g T):Nw (w.alloc o) g T:=(Below.heap_alloc w o g h.lt).trans h
theorem Nw.drew (h:Nw w g T):Nw w.drew g T:=h
theorem Nw.drewN {n:Nat} (h:Nw w g T):Nw (w.drewN n) g T:=h
theorem Nw.set {p:Addr} {u:Value} (h:Nw w g T) (hp:g≠p.block):Nw (w.setCell p u) g T:=(Below.heap_setCell _ _ _ _ hp).trans h
theorem Nw.ex (hb:Ex w w') (h:Nw w g T):Nw w' g T:=(hb.block g h.lt (fun h=>h)).trans h
theorem Nw.Wo (hb:Ch (· = k) w w') (h:Nw w g T) (hk:g≠k):Nw w' g T:=(hb.block g h.lt hk).trans h
theorem Nw.ow {α:Type} {enc:α→List Value} {sz lo:Nat} (h:Nw w g T) (hl:lo≤g):Ow enc sz T w lo (some ⟨g,0,none⟩) 0 0 []:=by
 refine⟨rfl,by simp,.inr ⟨g,0,#[],rfl,hl,h,Nat.le_refl _,Nat.zero_le _,by simp,by simp⟩⟩
end
theorem rF {p:Prop} (h:p:=by with_reducible repeat (first|assumption|(refine Nw.new (by first|rfl|(simp only[BO];done)|omega))|apply Nw.alloc|apply Nw.drew|apply Nw.drewN|(refine Nw.set ?_ (by first|omega|(simp only[BO];omega)))|(refine Nw.Wo (by assumption) ?_ (by first|omega|(simp only[BO];omega)))|(refine Nw.ex (by assumption) ?_))):p:=h
theorem Ch.sD {g:Nat} {o:Nat} {s:Option Nat} {w w':World} (h:Ch (KW (some ⟨g,o,s⟩)) w w'):Ch (· = g) w w':=h.mono fun i _ ⟨a,ha,e⟩=>by cases ha;exact e
theorem o7 {A:Option Addr} {g o k:Nat} {s:Option Nat} (h:∀ b,A=some b→some (⟨g,o,s⟩:Addr)=some b∨k≤b.block):∀ b,A=some b→g=b.block∨k≤b.block:=
 fun b hb=>(h b hb).imp (fun e=>by cases e;rfl) id
theorem wJ {A:Option Addr} {k:Nat} (h:∀ b,A=some b→(none:Option Addr)=some b∨k≤b.block):∀ b,A=some b→k≤b.block:=
 fun b hb=>(h b hb).elim (fun e=>by cases e) id
def Xj (F I:Option Addr) (lM uM:Nat) (τM:Nat→Nat):Nat→Nat:=fun b=>if F.map (·.block)=some b then 6 else if I.map (·.block)=some b then 7 else if lM≤b∧b<uM then τM b else 0
section
variable {α:Type} {enc:α→List Value} {sz:Nat} {e:TypeId} {τ τ' τM fd fp:Nat→Nat} {t:Nat} {w w' wx wF wM wI W1 W2 W3:World} {l lF lM lI lo c n g:Nat} {A F I:Option Addr} {xs:List α} {Fc Fn Ic In:Nat} {fs:List Int} {ls:List Sw.Ee}
theorem CK.MF (h:CK enc sz e τ t w lo A c n xs) (ht:∀ b,lo≤b→b<w.heap.size→τ' b=τ b):CK enc sz e τ' t w lo A c n xs:=
 ⟨h.ow,fun a ha=>(ht _ (h.ow.blk ha).1 (h.ow.blk ha).2).trans (h.tag a ha)⟩
theorem Cn.MF {aL aP aD aN aS:Option Addr} {Ae AU Ag AY Ac AQ Ad Aa Af Ab:Nat} {m:Sw.CV} (h:Cn τ w lo aL Ae AU aP Ag AY aD Ac AQ aN Ad Aa aS Af Ab m) (ht:∀ b,lo≤b→b<w.heap.size→τ' b=τ b):Cn τ' w lo aL Ae AU aP Ag AY aD Ac AQ aN Ad Aa aS Af Ab m:=⟨h.1.MF ht,h.2.MF ht,h.3.MF ht,h.4.MF ht,h.5.MF ht⟩
theorem CK.NI {k:Nat} (h:CK enc sz e τ t w lo A c n xs) (ht:∀ b,b<k→τ' b=τ b) (hk:∀ a,A=some a→a.block<k):CK enc sz e τ' t w lo A c n xs:=⟨h.ow,fun a ha=>(ht _ (hk a ha)).trans (h.tag a ha)⟩
theorem Cn.mid {aL aP aD aN aS:Option Addr} {Ae AU Ag AY Ac AQ Ad Aa Af Ab:Nat} {m:Sw.CV} (h:Cn τ w lo aL Ae AU aP Ag AY aD Ac AQ aN Ad Aa aS Af Ab m):Cn (mid lo w.heap.size τ) w lo aL Ae AU aP Ag AY aD Ac AQ aN Ad Aa aS Af Ab m:=h.MF fun b h1 h2=>by unfold Go.Proofs.YtgaflnpmilikcaaGreat.mid glue;rw[if_pos h2,if_neg (by omega)]
structure Sg (wx:World) (l g:Nat) (F:Option Addr) (Fc Fn:Nat) (aL:Option Addr) (Ae AU:Nat) (aP:Option Addr) (Ag AY:Nat) (aD:Option Addr) (Ac AQ:Nat) (aN:Option Addr) (Ad Aa:Nat) (aS:Option Addr) (Af Ab:Nat) (I:Option Addr) (Ic In:Nat) (τ:Nat→Nat) (fs:List Int) (m:Sw.CV) (ls:List Sw.Ee):Prop where
 c0:wx.cell? ⟨g,0,none⟩=some (.slice F Fn Fc)
 Dt:Cs wx g 1 aL Ae AU aP Ag AY aD Ac AQ aN Ad Aa aS Af Ab m.clock
 c7:wx.cell? ⟨g,7,none⟩=some (.slice I In Ic)
 c8:wx.cell? ⟨g,8,none⟩=some (.slice none 0 0)
 c9:wx.cell? ⟨g,9,none⟩=some (.slice none 0 0)
 lb:Lb wx g 10
 first:JY τ 6 wx l F Fc Fn fs
 ow:Cn τ wx l aL Ae AU aP Ag AY aD Ac AQ aN Ad Aa aS Af Ab m
 lines:TT τ 7 wx l I Ic In ls
 gz:τ g=0
 le:l≤g
theorem Sg.of {aL aP aD aN aS:Option Addr} {Ae AU Ag AY Ac AQ Ad Aa Af Ab:Nat} {m:Sw.CV} (hF:Ga wF lF F Fc Fn fs) (hM:Cn τM wM lM aL Ae AU aP Ag AY aD Ac AQ aN Ad Aa aS Af Ab m) (hI:xP wI lI I Ic In ls) (kF:∀ a,F=some a→K1 a.block wF wx) (kM:KF lM wM wx) (kI:∀ a,I=some a→K1 a.block wI wx)
  (dFI:∀ a b,F=some a→I=some b→a.block≠b.block) (dF:∀ a,F=some a→a.block<lM∨wM.heap.size≤a.block) (dI:∀ a,I=some a→a.block<lM∨wM.heap.size≤a.block)
  (gF:∀ a,F=some a→a.block≠g) (gI:∀ a,I=some a→a.block≠g) (gM:g<lM∨wM.heap.size≤g) (lF':l≤lF) (lM':l≤lM) (lI':l≤lI) (lg:l≤g)
  (c0:wx.cell? ⟨g,0,none⟩=some (.slice F Fn Fc)) (Dt:Cs wx g 1 aL Ae AU aP Ag AY aD Ac AQ aN Ad Aa aS Af Ab m.clock) (c7:wx.cell? ⟨g,7,none⟩=some (.slice I In Ic)) (c8:wx.cell? ⟨g,8,none⟩=some (.slice none 0 0)) (c9:wx.cell? ⟨g,9,none⟩=some (.slice none 0 0)) (lb:Lb wx g 10) :
  Sg wx l g F Fc Fn aL Ae AU aP Ag AY aD Ac AQ aN Ad Aa aS Af Ab I Ic In (Xj F I lM wM.heap.size τM) fs m ls:=by
 refine⟨c0,Dt,c7,c8,c9,lb,⟨(hF.less lF').Hw fun a ha=>(kF a ha).block (hF.blk ha).2,fun a ha=>by simp[Xj,ha]⟩,?_,⟨(hI.less lI').Hw fun a ha=>(kI a ha).block (hI.blk ha).2,fun b hb=>?_⟩,?_,lg⟩
 ·refine ((hM.MF (τ':=Xj F I lM wM.heap.size τM) fun b h1 h2=>?_).Av kM).less lM'
  unfold Xj
  rw[if_neg,if_neg,if_pos ⟨h1,h2⟩]
  ·intro h
   obtain⟨a,ha,e⟩:=Option.map_eq_some_iff.1 h
   have:=dI a ha
   omega
  ·intro h
   obtain⟨a,ha,e⟩:=Option.map_eq_some_iff.1 h
   have:=dF a ha
   omega
 ·unfold Xj
  rw[if_neg,if_pos (by rw[hb];rfl)]
  intro h
  obtain⟨a,ha,e⟩:=Option.map_eq_some_iff.1 h
  exact dFI a b ha hb e
 ·unfold Xj
  rw[if_neg,if_neg,if_neg (by omega)]
  ·intro h
   obtain⟨a,ha,e⟩:=Option.map_eq_some_iff.1 h
   exact gI a ha e
  ·intro h
   obtain⟨a,ha,e⟩:=Option.map_eq_some_iff.1 h
   exact gF a ha e
theorem CK.Wo (h:CK enc sz e τ t w lo A c n xs) (hc:Ch (· = g) w w') (hg:τ g=0) (ht:1≤t):CK enc sz e τ t w' lo A c n xs:=
 h.keep (KT.ch hc (KT.refl _ _ _ _) fun i hi=>.inr (by rw[show i=g from hi,hg];omega))
theorem Cn.Wo {aL aP aD aN aS:Option Addr} {Ae AU Ag AY Ac AQ Ad Aa Af Ab:Nat} {m:Sw.CV} (h:Cn τ w lo aL Ae AU aP Ag AY aD Ac AQ aN Ad Aa aS Af Ab m) (hc:Ch (· = g) w w') (hg:τ g=0):Cn τ w' lo aL Ae AU aP Ag AY aD Ac AQ aN Ad Aa aS Af Ab m:=
 h.keep fun t h1 _=>KT.ch hc (KT.refl _ _ _ _) fun i hi=>.inr (by rw[show i=g from hi,hg];omega)
theorem Eh.yI {τ1 τ2 τ3:Nat→Nat} {aF aL aP aD aN aS aI aG aB:Option Addr} {BD A_ Ae AU Ag AY Ac AQ Ad Aa Af Ab BF A7 BA Az aBc Ao:Nat} {x:Sw.World} (h1:JY τ1 6 W1 lo aF BD A_ x.first) (h2:Cn τ1 W1 lo aL Ae AU aP Ag AY aD Ac AQ aN Ad Aa aS Af Ab x.AB) (h3:TT τ1 7 W1 lo aI BF A7 x.lines) (hg:τ1 g=0)
  (h4:Kj fd τ2 W2 W1.heap.size aG BA Az x.AV) (h5:KH fp τ3 W3 W2.heap.size aB aBc Ao x.BS) (c12:Ch (· = g) W1 W2) (c23:Ch (· = g) W2 W3) (hlt:g<W1.heap.size) (hlo:lo≤W1.heap.size) :
  Eh fd fp (glue (glue τ1 W1.heap.size τ2) W2.heap.size τ3) W3 lo aF BD A_ aL Ae AU aP Ag AY aD Ac AQ aN Ad Aa aS Af Ab aI BF A7 aG BA Az aB aBc Ao x:=by
 have z12:=c12.size
 have z23:=c23.size
 have c13:=c12.trans c23
 have e:∀ b,b<W1.heap.size→glue (glue τ1 W1.heap.size τ2) W2.heap.size τ3 b=τ1 b:=fun b hb=>(if_pos (by omega)).trans (if_pos hb)
 have k23:KF W1.heap.size W2 W3:=⟨z23,fun b h1 h2=>c23.block b h2 (by omega)⟩
 refine⟨(h1.Wo c13 hg (by decide)).NI e (fun a ha=>(h1.ow.blk ha).2),?_,(h3.Wo c13 hg (by decide)).NI e (fun a ha=>(h3.ow.blk ha).2),?_,(h5.EM (Nat.le_refl _)).less (by omega)⟩
 ·have k:=h2.Wo c13 hg
  exact⟨k.1.NI e (fun a ha=>(h2.1.ow.blk ha).2),k.2.NI e (fun a ha=>(h2.2.ow.blk ha).2),k.3.NI e (fun a ha=>(h2.3.ow.blk ha).2),k.4.NI e (fun a ha=>(h2.4.ow.blk ha).2),k.5.NI e (fun a ha=>(h2.5.ow.blk ha).2)⟩
 ·exact (((h4.EM (τ':=τ1) (Nat.le_refl _)).CX (Nat.le_refl _)).Av k23).less hlo
end
end Go.Proofs.YtgaflnpmilikcaaGreat
namespace Go.Proofs.YtgaflnpmilikcaaGreat
open Go.RowKit Go
set_option maxHeartbeats 2000000
theorem U0 {h:Sw.Head} {xs:List Int} (k:Sw.DF ⟨h,xs⟩=true):xs.Pairwise (· < ·):=by
 simp only[Sw.DF,Bool.and_eq_true] at k
 exact ((Sw.Js xs (-1)).1 k.2).2
theorem V3 (t:Sw.Head) (A:Option Addr) (c n:Nat) (xs:List Int) (k who:Int) (r:Sw.Row) (B:Option Addr) (d m:Nat) (ps:List Int) (w:World) (hxs:RI w 0 A c n xs) (hps:RI w 0 B d m ps):Calls Tryz.prog 140 #[.agg #[.int .i64 t.size,.int .i64 t.log,.int .i64 t.own,.slice A n c],.int .i64 k,.int .i64 who,.agg #[.int .i64 r.who,.int .i64 r.EY,.bool r.used],.slice B m d] w fun E w'=>∃ A' c' n',E=.returned (.tuple #[.agg #[.int .i64 (Sw.CB ⟨t,xs⟩ k who r ps).1.head.size,.int .i64 (Sw.CB ⟨t,xs⟩ k who r ps).1.head.log,.int .i64 (Sw.CB ⟨t,xs⟩ k who r ps).1.head.own,.slice A' n' c'],.bool (Sw.CB ⟨t,xs⟩ k who r ps).2])∧Ga w' w.heap.size A' c' n' (Sw.CB ⟨t,xs⟩ k who r ps).1.done∧Ex w w':=by
 obtain⟨rh,rf,ru⟩:=r
 have hl:=Lib.hid hxs.1
 cases g1:Sw.DF ⟨t,xs⟩
 case false=>
  have e:Sw.CB ⟨t,xs⟩ k who ⟨rh,rf,ru⟩ ps=(Sw.Ra,false):=by simp[Sw.CB,g1]
  have He:=Lib.hid e;clear e
  go_enter Tryz.func140,Tryz.ntmps140
  go_wp2_with (go_at_call 21;apply Calls.mono;apply GG;(exact Bt);rintro E w1 ⟨rfl,hb⟩;obtain⟨hc,hf,hz⟩:=xy hb)
  refine bodyPost_ret (v:=.tuple #[.agg #[.int .i64 0,.int .i64 0,.int .i64 0,.slice none 0 0],.bool false]) (by simp[results,Tryz.results140,go_sem, *]) rfl ?_
  exact⟨none,0,0,by rw[He.out];rfl,by rw[He.out];exact Ow.nil _ _,AA⟩
 have h8:n≤8:=by have:=K7 g1;have:=hl.out;simp at *;omega
 cases g2:Sw.Br who 1 5
 case false=>
  have e:Sw.CB ⟨t,xs⟩ k who ⟨rh,rf,ru⟩ ps=(⟨t,xs⟩,false):=by unfold Sw.CB;rw[if_pos g1,if_neg (by simp[Sw.G7,g2])]
  have He:=Lib.hid e;clear e
  go_enter Tryz.func140,Tryz.ntmps140
  go_wp2_with (first|(go_at_call 21;apply Calls.mono;apply GG;(exact Bt);rintro E w1 ⟨rfl,hb⟩;obtain⟨hc,hf,hz⟩:=xy hb)|(go_at_call 76;apply Calls.mono;apply H9;(exact Bt);(exact Bu);rintro E w1 ⟨A',c',rfl,hr,hb⟩;obtain⟨hc,hf,hz⟩:=xy hb)|(go_at_call 113;refine (CG _ _).mono ?_;rintro E w' ⟨rfl,rfl⟩)|(go_at_call 170;apply Calls.mono;apply IW;(apply Rs.A8 hxs;(exact AO));rintro E w' ⟨rfl,rfl⟩)|(go_at_call 171;apply Calls.mono;apply G5;(apply Rs.A8 hps;(exact AO));rintro E wq ⟨rfl,hbq⟩;obtain⟨hcq,XP,QA⟩:=xy hbq))
  refine bodyPost_ret (v:=.tuple #[.agg #[.int .i64 t.size,.int .i64 t.log,.int .i64 t.own,.slice A' n c'],.bool false]) (by simp[results,Tryz.results140,go_sem, *]) rfl ?_
  exact⟨A',c',n,by rw[He.out],by rw[He.out];exact (hr.keep (by (exact AO))).less (by exact Aq),AA⟩
 by_cases h3:who=rh
 case neg=>
  have g3:(who != rh)=true:=by rw[bne_iff_ne];exact h3
  have H3:=Lib.hid h3;clear h3
  have e:Sw.CB ⟨t,xs⟩ k who ⟨rh,rf,ru⟩ ps=(⟨t,xs⟩,false):=by unfold Sw.CB;rw[if_pos g1,if_neg (by simp[Sw.G7,H3.out])]
  have He:=Lib.hid e;clear e
  go_enter Tryz.func140,Tryz.ntmps140
  go_wp2_with (first|(go_at_call 21;apply Calls.mono;apply GG;(exact Bt);rintro E w1 ⟨rfl,hb⟩;obtain⟨hc,hf,hz⟩:=xy hb)|(go_at_call 76;apply Calls.mono;apply H9;(exact Bt);(exact Bu);rintro E w1 ⟨A',c',rfl,hr,hb⟩;obtain⟨hc,hf,hz⟩:=xy hb)|(go_at_call 113;refine (CG _ _).mono ?_;rintro E w' ⟨rfl,rfl⟩)|(go_at_call 170;apply Calls.mono;apply IW;(apply Rs.A8 hxs;(exact AO));rintro E w' ⟨rfl,rfl⟩)|(go_at_call 171;apply Calls.mono;apply G5;(apply Rs.A8 hps;(exact AO));rintro E wq ⟨rfl,hbq⟩;obtain⟨hcq,XP,QA⟩:=xy hbq))
  refine bodyPost_ret (v:=.tuple #[.agg #[.int .i64 t.size,.int .i64 t.log,.int .i64 t.own,.slice A' n c'],.bool false]) (by simp[results,Tryz.results140,go_sem, *]) rfl ?_
  exact⟨A',c',n,by rw[He.out],by rw[He.out];exact (hr.keep (by (exact AO))).less (by exact Aq),AA⟩
 subst h3
 cases ru
 case true=>
  have e:Sw.CB ⟨t,xs⟩ k who ⟨who,rf,true⟩ ps=(⟨t,xs⟩,false):=by unfold Sw.CB;rw[if_pos g1,if_neg (by simp[Sw.G7])]
  have He:=Lib.hid e;clear e
  go_enter Tryz.func140,Tryz.ntmps140
  go_wp2_with (first|(go_at_call 21;apply Calls.mono;apply GG;(exact Bt);rintro E w1 ⟨rfl,hb⟩;obtain⟨hc,hf,hz⟩:=xy hb)|(go_at_call 76;apply Calls.mono;apply H9;(exact Bt);(exact Bu);rintro E w1 ⟨A',c',rfl,hr,hb⟩;obtain⟨hc,hf,hz⟩:=xy hb)|(go_at_call 113;refine (CG _ _).mono ?_;rintro E w' ⟨rfl,rfl⟩)|(go_at_call 170;apply Calls.mono;apply IW;(apply Rs.A8 hxs;(exact AO));rintro E w' ⟨rfl,rfl⟩)|(go_at_call 171;apply Calls.mono;apply G5;(apply Rs.A8 hps;(exact AO));rintro E wq ⟨rfl,hbq⟩;obtain⟨hcq,XP,QA⟩:=xy hbq))
  refine bodyPost_ret (v:=.tuple #[.agg #[.int .i64 t.size,.int .i64 t.log,.int .i64 t.own,.slice A' n c'],.bool false]) (by simp[results,Tryz.results140,go_sem, *]) rfl ?_
  exact⟨A',c',n,by rw[He.out],by rw[He.out];exact (hr.keep (by (exact AO))).less (by exact Aq),AA⟩
 cases g5:Ph xs k
 case true=>
  have H5:=Lib.hid (show k∈xs by simpa [Ph] using g5)
  have e:Sw.CB ⟨t,xs⟩ k who ⟨who,rf,false⟩ ps=(⟨t,xs⟩,false):=by unfold Sw.CB;rw[if_pos g1,if_neg (by simp[Sw.G7,H5.out])]
  have He:=Lib.hid e;clear e
  go_enter Tryz.func140,Tryz.ntmps140
  go_wp2_with (first|(go_at_call 21;apply Calls.mono;apply GG;(exact Bt);rintro E w1 ⟨rfl,hb⟩;obtain⟨hc,hf,hz⟩:=xy hb)|(go_at_call 76;apply Calls.mono;apply H9;(exact Bt);(exact Bu);rintro E w1 ⟨A',c',rfl,hr,hb⟩;obtain⟨hc,hf,hz⟩:=xy hb)|(go_at_call 113;refine (CG _ _).mono ?_;rintro E w' ⟨rfl,rfl⟩)|(go_at_call 170;apply Calls.mono;apply IW;(apply Rs.A8 hxs;(exact AO));rintro E w' ⟨rfl,rfl⟩)|(go_at_call 171;apply Calls.mono;apply G5;(apply Rs.A8 hps;(exact AO));rintro E wq ⟨rfl,hbq⟩;obtain⟨hcq,XP,QA⟩:=xy hbq))
  refine bodyPost_ret (v:=.tuple #[.agg #[.int .i64 t.size,.int .i64 t.log,.int .i64 t.own,.slice A' n c'],.bool false]) (by simp[results,Tryz.results140,go_sem, *]) rfl ?_
  exact⟨A',c',n,by rw[He.out],by rw[He.out];exact (hr.keep (by (exact AO))).less (by exact Aq),AA⟩
 have H5:=Lib.hid (show k ∉ xs by simpa [Ph] using g5)
 cases g6:Sw.Hu t.own k ⟨who,rf,false⟩ ps
 case false=>
  have e:Sw.CB ⟨t,xs⟩ k who ⟨who,rf,false⟩ ps=(⟨t,xs⟩,false):=by unfold Sw.CB;rw[if_pos g1,if_neg (by simp[Sw.G7,g6])]
  have He:=Lib.hid e;clear e
  go_enter Tryz.func140,Tryz.ntmps140
  go_wp2_with (first|(go_at_call 21;apply Calls.mono;apply GG;(exact Bt);rintro E w1 ⟨rfl,hb⟩;obtain⟨hc,hf,hz⟩:=xy hb)|(go_at_call 76;apply Calls.mono;apply H9;(exact Bt);(exact Bu);rintro E w1 ⟨A',c',rfl,hr,hb⟩;obtain⟨hc,hf,hz⟩:=xy hb)|(go_at_call 113;refine (CG _ _).mono ?_;rintro E w' ⟨rfl,rfl⟩)|(go_at_call 170;apply Calls.mono;apply IW;(apply Rs.A8 hxs;(exact AO));rintro E w' ⟨rfl,rfl⟩)|(go_at_call 171;apply Calls.mono;apply G5;(apply Rs.A8 hps;(exact AO));rintro E wq ⟨rfl,hbq⟩;obtain⟨hcq,XP,QA⟩:=xy hbq))
  refine bodyPost_ret (v:=.tuple #[.agg #[.int .i64 t.size,.int .i64 t.log,.int .i64 t.own,.slice A' n c'],.bool false]) (by simp[results,Tryz.results140,go_sem, *]) rfl ?_
  exact⟨A',c',n,by rw[He.out],by rw[He.out];exact (hr.keep (by (exact AO))).less (by exact Aq),AA⟩
 have e:Sw.CB ⟨t,xs⟩ k who ⟨who,rf,false⟩ ps=(⟨t,Sw.insert k xs⟩,true):=by unfold Sw.CB;rw[if_pos g1,if_pos (by simp[Sw.G7,g2,H5.out,g6])]
 have He:=Lib.hid e;clear e
 have HS:=Lib.hid (U0 g1)
 go_enter Tryz.func140,Tryz.ntmps140
 go_wp2_with (first|(have _:=ho3;(go_at_call 76;apply Calls.mono;apply H9;(exact Bt);(exact Bu);rintro E w1 ⟨AZ,cZ,rfl,hrZ,hb⟩;obtain⟨hc,hf,hz⟩:=xy hb))|(go_at_call 21;apply Calls.mono;apply GG;(first|assumption|(exact Bt)|omega);rintro E wg ⟨rfl,hbg⟩;obtain⟨hcg,hfg,hzg⟩:=xy hbg)|(go_at_call 76;apply Calls.mono;apply H9;(exact Bt);omega;rintro E wc ⟨A',c',rfl,hr,hb1⟩;obtain⟨hc1,hf1,hz1⟩:=xy hb1)|(go_at_call 113;refine (CG _ _).mono ?_;rintro E w' ⟨rfl,rfl⟩)|(go_at_call 170;apply Calls.mono;apply IW;(apply Rs.A8 hxs;(exact AO));rintro E w' ⟨rfl,rfl⟩)|(go_at_call 171;apply Calls.mono;apply G5;(apply Rs.A8 hps;(exact AO));rintro E wq ⟨rfl,hbq⟩;obtain⟨hcq,XP,QA⟩:=xy hbq)|(at_builtin;apply BL (lo:=wg.heap.size) FO Dz rfl rfl rfl rfl;(exact Ow.keep hr AO);(refine Rs.new [k] (by (first|rfl|(simp only[BO];done)|omega)) rfl rfl (fun _=>rfl) (by omega));omega;(exact Aq);intro A1 c1 w2 ho1 Ap Bo Ay Ah;have hb2:=Ay (fun _=>False) w AA Aq;obtain⟨hB0,Ta⟩:=Ch.DK Ap (g:=wc.heap.size) Aq (Ow.apart hr (Nat.le_refl _));obtain⟨hc2,hf2⟩:=BJ Ah;have hz2:=Ap.size;(try simp only[BO] at hz2);have hA1:∀ a,A1=some a→a.block≠wc.heap.size:=(fun a ha=>by rcases Bo a ha with e|e;(exact Ow.apart hr (Nat.le_refl _) a e);(simp only[BO] at e;omega)))|(go_at_call 172;apply Calls.mono;apply (dR (lo:=wg.heap.size));(exact ho1.Hw fun a ha=>(Ch.setCell (S:=(· = wc.heap.size)) (Ch.refl _ _) (Or.inl rfl) _).block a.block (ho1.blk ha).2 (hA1 a ha));omega;omega;rintro E w3 ⟨rfl,ho3,fA⟩;rw[Tk HS.out H5.out] at ho3;obtain⟨hB3,hF3⟩:=Ch.DK fA (g:=wc.heap.size) Aq hA1;obtain⟨hB4,hF4⟩:=Ch.DK fA (g:=w.heap.size+1+1) Aq (fun a ha=>by have:=(ho1.blk ha).1;omega);have hz3:=fA.size;(try simp only[BO] at hz3)))
 refine bodyPost_ret (v:=.tuple #[.agg #[.int .i64 t.size,.int .i64 t.log,.int .i64 t.own,.slice AZ (n+1) cZ],.bool true]) (by simp[results,Tryz.results140,go_sem, *]) rfl ?_
 have hS:∀ i,KW A1 i→w.heap.size≤i:=fun i ⟨a,ha,e⟩=>by have:=(ho1.blk ha).1;omega
 have hb3:Ch (fun _=>False) w w3:=(show Ch (fun _=>False) w (w2.setCell ⟨wc.heap.size,3,none⟩ (.slice A1 (n+1) c1)) from AA).trans' fA (fun i hi ht=>by have:=hS i ht;omega)
 exact⟨AZ,cZ,n+1,by rw[He.out],by rw[He.out];exact (hrZ.keep AO).less Aq,AA⟩
set_option maxHeartbeats 4000000
theorem JA (a b c d e f:Int) (w:World):Calls Tryz.prog 56 #[.agg #[.int .i64 a,.int .i64 b,.int .i64 c,.int .i64 d,.int .i64 e,.int .i64 f]] w fun E w'=>E=.returned (.bool (Sw.CR ⟨a,b,c,d,e,f⟩))∧Ex w w':=
 JN ⟨a,b,c,d,e,f⟩ w
theorem RA (r:Sw.Ee) (w:World):Calls Tryz.prog 55 #[.agg #[.int .i64 r.user,.int .i64 r.n,.int .i64 r.kind,.int .i64 r.ticket,.int .i64 r.who,.int .i64 r.Al]] w fun E w'=>E=.returned (.bool (F5 r))∧Ex w w':=by
 obtain⟨f1,f2,f3,f4,f5,f6⟩:=r
 dsimp only
 by_cases z1:f1=0
 ·subst z1
  by_cases z2:f2=0
  ·subst z2
   by_cases z3:f3=0
   ·subst z3
    by_cases z4:f4=0
    ·subst z4
     by_cases z5:f5=0
     ·subst z5
      by_cases z6:f6=0
      ·subst z6
       go_enter Tryz.func55,Tryz.ntmps55
       go_wp2_with (go_at_call 56;refine (JA _ _ _ _ _ _ _).mono ?_;rintro E w1 ⟨rfl,hb⟩;obtain⟨hc,hf,hz⟩:=xy hb)
       go_ret
       exact⟨Ar (by simp[F5,Sw.D_,Sw.Eu]),AA⟩
      ·cases c1:Sw.CR ⟨0,0,0,0,0,f6⟩
       all_goals
        go_enter Tryz.func55,Tryz.ntmps55
        go_wp2_with (go_at_call 56;refine (JA _ _ _ _ _ _ _).mono ?_;rintro E w1 ⟨rfl,hb⟩;obtain⟨hc,hf,hz⟩:=xy hb)
        go_ret
        exact⟨Ar (by simp[F5,Sw.D_,Sw.Eu,c1,z6]),AA⟩
     ·cases c1:Sw.CR ⟨0,0,0,0,f5,f6⟩
      all_goals
       go_enter Tryz.func55,Tryz.ntmps55
       go_wp2_with (go_at_call 56;refine (JA _ _ _ _ _ _ _).mono ?_;rintro E w1 ⟨rfl,hb⟩;obtain⟨hc,hf,hz⟩:=xy hb)
       go_ret
       exact⟨Ar (by simp[F5,Sw.D_,Sw.Eu,c1,z5]),AA⟩
    ·cases c1:Sw.CR ⟨0,0,0,f4,f5,f6⟩
     all_goals
      go_enter Tryz.func55,Tryz.ntmps55
      go_wp2_with (go_at_call 56;refine (JA _ _ _ _ _ _ _).mono ?_;rintro E w1 ⟨rfl,hb⟩;obtain⟨hc,hf,hz⟩:=xy hb)
      go_ret
      exact⟨Ar (by simp[F5,Sw.D_,Sw.Eu,c1,z4]),AA⟩
   ·cases c1:Sw.CR ⟨0,0,f3,f4,f5,f6⟩
    all_goals
     go_enter Tryz.func55,Tryz.ntmps55
     go_wp2_with (go_at_call 56;refine (JA _ _ _ _ _ _ _).mono ?_;rintro E w1 ⟨rfl,hb⟩;obtain⟨hc,hf,hz⟩:=xy hb)
     go_ret
     exact⟨Ar (by simp[F5,Sw.D_,Sw.Eu,c1,z3]),AA⟩
  ·cases c1:Sw.CR ⟨0,f2,f3,f4,f5,f6⟩
   all_goals
    go_enter Tryz.func55,Tryz.ntmps55
    go_wp2_with (go_at_call 56;refine (JA _ _ _ _ _ _ _).mono ?_;rintro E w1 ⟨rfl,hb⟩;obtain⟨hc,hf,hz⟩:=xy hb)
    go_ret
    exact⟨Ar (by simp[F5,Sw.D_,Sw.Eu,c1,z2]),AA⟩
 ·cases c1:Sw.CR ⟨f1,f2,f3,f4,f5,f6⟩
  all_goals
   go_enter Tryz.func55,Tryz.ntmps55
   go_wp2_with (go_at_call 56;refine (JA _ _ _ _ _ _ _).mono ?_;rintro E w1 ⟨rfl,hb⟩;obtain⟨hc,hf,hz⟩:=xy hb)
   go_ret
   exact⟨Ar (by simp[F5,Sw.D_,Sw.Eu,c1,z1]),AA⟩
theorem RF (A:Option Addr) (c n:Nat) (y:Sw.Gate) (w:World) (hxs:RI w 0 A c n y.done):Calls Tryz.prog 58 #[.agg #[.int .i64 y.head.size,.int .i64 y.head.log,.int .i64 y.head.own,.slice A n c]] w fun E w'=>E=.returned (.bool (KV y))∧Ex w w':=by
 go_enter Tryz.func58,Tryz.ntmps58
 go_wp2_with (go_at_call 21;apply Calls.mono;apply GG;(exact Bt);rintro E w1 ⟨rfl,hb⟩;obtain⟨hc,hf,hz⟩:=xy hb)
 all_goals (go_ret;exact⟨rfl,AA⟩)
theorem SN (A:Option Addr) (c n:Nat) (y:Sw.IX) (w:World) (hxs:RI w 0 A c n y.proof):Calls Tryz.prog 60 #[.agg #[.int .i64 y.gate,.int .i64 y.head.size,.int .i64 y.head.log,.int .i64 y.head.own,.slice A n c]] w fun E w'=>E=.returned (.bool (Kb y))∧Ex w w':=by
 go_enter Tryz.func60,Tryz.ntmps60
 go_wp2_with (first|(go_at_call 61;refine (Cm _ _ _ _).mono ?_;rintro E w' ⟨rfl,rfl⟩)|(go_at_call 22;refine (Ip _ _).mono ?_;rintro E w1 ⟨rfl,hb⟩;obtain⟨hc,hf,hz⟩:=xy hb)|(go_at_call 62;apply Calls.mono;apply Ff;(exact Bt);rintro E w' ⟨rfl,rfl⟩))
 all_goals (go_ret;refine⟨Ar ?_,AA⟩;go_tidy;first|(simp[Kb,Sw.Fs, *];done)|(simp_all [Kb,Sw.Fs];done))
theorem TB (A:Option Addr) (c n:Nat) (xs:List Sw.Ee) (w:World) (hxs:RQ w 0 A c n xs):Calls Tryz.prog 112 #[.slice A n c,.func (.func 55) #[] #[]] w fun E w'=>E=.returned (.int .i64 (KU F5 xs))∧Ex w w':=by
 have hl:=Lib.hid hxs.1
 have hbig:=Rs.big hxs
 go_enter Tryz.func112,Tryz.ntmps112
 go_wp2_with fail
 go_loopw [8] (fun i wr=>∃ k:Nat,k≤n∧i=.int .i64 k∧Ex w wr∧∀ j,j<k→∀ z,xs[j]?=some z→F5 z=false) (fun i _=>n-(intOf i).toNat)
 case atStart=>exact⟨0,Nat.zero_le _,rfl,(by exact AA),by omega⟩
 case round=>
  obtain⟨k,hk,rfl,hb2,hrel⟩:=hrel
  have BI:=Lib.hid hrel;clear hrel
  have hst:=xr hb2
  (try simp only[BO] at hst)
  obtain⟨hc2,hf2,hz2⟩:=hst
  by_cases hlt:k<n
  ·obtain⟨g,off,y,rfl,hg0,hg,hd,hy,YA,Zj,Zi,Zh,jc,ABY⟩:=YP hxs hlt
   have Hy:=Lib.hid hy;clear hd hy
   cases hmx:F5 y
   case true=>
    go_wp2_with (go_at_call 55;refine (RA _ _).mono ?_;rintro E w1 ⟨rfl,hb⟩;obtain⟨hc,hf,hz⟩:=xy hb)
    go_ret
    exact⟨Cv (IJ Hy.out BI.out hmx).symm,(by exact AA)⟩
   case false=>
    go_wp2_with (go_at_call 55;refine (RA _ _).mono ?_;rintro E w1 ⟨rfl,hb⟩;obtain⟨hc,hf,hz⟩:=xy hb)
    go_roundw
    case rel=>exact⟨k+1,by omega,by go_num,(by exact AA),Gi Hy.out BI.out hmx⟩
    case measure=>simp[intOf];omega
  ·go_wp2_with fail
   go_ret
   exact⟨Cv (II (by have:=hl.out;omega) BI.out).symm,(by exact AA)⟩
theorem TD (A:Option Addr) (c n:Nat) (xs:List Sw.Gate) (w:World) (hxs:RG w 0 A c n xs):Calls Tryz.prog 115 #[.slice A n c,.func (.func 58) #[] #[]] w fun E w'=>E=.returned (.int .i64 (KU KV xs))∧Ex w w':=by
 have hl:=Lib.hid hxs.len.1
 have hbig:=hxs.len.2
 go_enter Tryz.func115,Tryz.ntmps115
 go_wp2_with fail
 go_loopw [8] (fun i wr=>∃ k:Nat,k≤n∧i=.int .i64 k∧Ex w wr∧∀ j,j<k→∀ z,xs[j]?=some z→KV z=false) (fun i _=>n-(intOf i).toNat)
 case atStart=>exact⟨0,Nat.zero_le _,rfl,(by exact AA),by omega⟩
 case round=>
  obtain⟨k,hk,rfl,hb2,hrel⟩:=hrel
  have BI:=Lib.hid hrel;clear hrel
  have hst:=xr hb2
  (try simp only[BO] at hst)
  obtain⟨hc2,hf2,hz2⟩:=hst
  by_cases hlt:k<n
  ·obtain⟨g,off,y,B,d,m,rfl,hg0,hg,hd,hy,YA,Zj,Zi,Zh,hr⟩:=Ld hxs hlt
   have Hy:=Lib.hid hy;clear hd hy
   cases hmx:KV y
   case true=>
    go_wp2_with (go_at_call 58;apply Calls.mono;apply RF;(exact Bt);rintro E w1 ⟨rfl,hb⟩;obtain⟨hc,hf,hz⟩:=xy hb)
    go_ret
    exact⟨Cv (IJ Hy.out BI.out hmx).symm,(by exact AA)⟩
   case false=>
    go_wp2_with (go_at_call 58;apply Calls.mono;apply RF;(exact Bt);rintro E w1 ⟨rfl,hb⟩;obtain⟨hc,hf,hz⟩:=xy hb)
    go_roundw
    case rel=>exact⟨k+1,by omega,by go_num,(by exact AA),Gi Hy.out BI.out hmx⟩
    case measure=>simp[intOf];omega
  ·go_wp2_with fail
   go_ret
   exact⟨Cv (II (by have:=hl.out;omega) BI.out).symm,(by exact AA)⟩
theorem Uf (A:Option Addr) (c n:Nat) (xs:List Sw.IX) (w:World) (hxs:RX w 0 A c n xs):Calls Tryz.prog 116 #[.slice A n c,.func (.func 60) #[] #[]] w fun E w'=>E=.returned (.int .i64 (KU Kb xs))∧Ex w w':=by
 have hl:=Lib.hid hxs.len.1
 have hbig:=hxs.len.2
 go_enter Tryz.func116,Tryz.ntmps116
 go_wp2_with fail
 go_loopw [8] (fun i wr=>∃ k:Nat,k≤n∧i=.int .i64 k∧Ex w wr∧∀ j,j<k→∀ z,xs[j]?=some z→Kb z=false) (fun i _=>n-(intOf i).toNat)
 case atStart=>exact⟨0,Nat.zero_le _,rfl,(by exact AA),by omega⟩
 case round=>
  obtain⟨k,hk,rfl,hb2,hrel⟩:=hrel
  have BI:=Lib.hid hrel;clear hrel
  have hst:=xr hb2
  (try simp only[BO] at hst)
  obtain⟨hc2,hf2,hz2⟩:=hst
  by_cases hlt:k<n
  ·obtain⟨g,off,y,B,d,m,rfl,hg0,hg,hd,hy,YA,Zj,Zi,Zh,jc,hr⟩:=QU hxs hlt
   have Hy:=Lib.hid hy;clear hd hy
   cases hmx:Kb y
   case true=>
    go_wp2_with (go_at_call 60;apply Calls.mono;apply SN;(exact Bt);rintro E w1 ⟨rfl,hb⟩;obtain⟨hc,hf,hz⟩:=xy hb)
    go_ret
    exact⟨Cv (IJ Hy.out BI.out hmx).symm,(by exact AA)⟩
   case false=>
    go_wp2_with (go_at_call 60;apply Calls.mono;apply SN;(exact Bt);rintro E w1 ⟨rfl,hb⟩;obtain⟨hc,hf,hz⟩:=xy hb)
    go_roundw
    case rel=>exact⟨k+1,by omega,by go_num,(by exact AA),Gi Hy.out BI.out hmx⟩
    case measure=>simp[intOf];omega
  ·go_wp2_with fail
   go_ret
   exact⟨Cv (II (by have:=hl.out;omega) BI.out).symm,(by exact AA)⟩
theorem NS (A:Option Addr) (c n:Nat) (xs:List Sw.Ee) (w:World) (hxs:RQ w 0 A c n xs):Calls Tryz.prog 54 #[.slice A n c,.func (.func 55) #[] #[]] w fun E w'=>E=.returned (.bool (xs.any F5))∧Ex w w':=by
 have Hb:=Lib.hid (K3 F5 xs)
 go_enter Tryz.func54,Tryz.ntmps54
 go_wp2_with (go_at_call 112;apply Calls.mono;apply TB;(exact Bt);rintro E w1 ⟨rfl,hb⟩;obtain⟨hc,hf,hz⟩:=xy hb)
 go_ret
 exact⟨Ar Hb.out,AA⟩
theorem RD (A:Option Addr) (c n:Nat) (xs:List Sw.Gate) (w:World) (hxs:RG w 0 A c n xs):Calls Tryz.prog 57 #[.slice A n c,.func (.func 58) #[] #[]] w fun E w'=>E=.returned (.bool (xs.any KV))∧Ex w w':=by
 have Hb:=Lib.hid (K3 KV xs)
 go_enter Tryz.func57,Tryz.ntmps57
 go_wp2_with (first|(go_at_call 115;apply Calls.mono;apply TD;((first|(apply RG.A8;assumption)|(apply Kj.su;assumption));exact AO);rintro E w1 ⟨rfl,hb⟩;obtain⟨hc,hf,hz⟩:=xy hb))
 go_ret
 exact⟨Ar Hb.out,AA⟩
theorem Xz (A:Option Addr) (c n:Nat) (xs:List Sw.IX) (w:World) (hxs:RX w 0 A c n xs):Calls Tryz.prog 59 #[.slice A n c,.func (.func 60) #[] #[]] w fun E w'=>E=.returned (.bool (xs.any Kb))∧Ex w w':=by
 have Hb:=Lib.hid (K3 Kb xs)
 go_enter Tryz.func59,Tryz.ntmps59
 go_wp2_with (first|(go_at_call 116;apply Calls.mono;apply Uf;((first|(apply RX.A8;assumption)|(apply KH.yF;assumption));exact AO);rintro E w1 ⟨rfl,hb⟩;obtain⟨hc,hf,hz⟩:=xy hb))
 go_ret
 exact⟨Ar Hb.out,AA⟩
theorem J8 (aF:Option Addr) (BD A_:Nat) (aL:Option Addr) (Ae AU:Nat) (aP:Option Addr) (Ag AY:Nat) (aD:Option Addr) (Ac AQ:Nat) (aN:Option Addr) (Ad Aa:Nat) (aS:Option Addr) (Af Ab:Nat) (aI:Option Addr) (BF A7:Nat) (aG:Option Addr) (BA Az:Nat) (aB:Option Addr) (aBc Ao:Nat) (x:Sw.World) (w:World) (hx:RW w 0 aF BD A_ aL Ae AU aP Ag AY aD Ac AQ aN Ad Aa aS Af Ab aI BF A7 aG BA Az aB aBc Ao x):Calls Tryz.prog 19 #[.agg #[.slice aF A_ BD,.slice aL AU Ae,.slice aP AY Ag,.slice aD AQ Ac,.int .i64 x.AB.clock,.slice aN Aa Ad,.slice aS Ab Af,.slice aI A7 BF,.slice aG Az BA,.slice aB Ao aBc]] w fun E w'=>E=.returned (.bool (Sw.Cc x))∧Ex w w':=by
 obtain⟨x1,x2,x3,x4,x5⟩:=hx
 have b3:=Rs.big x3
 have b4:=x4.len.2
 have b5:=x5.len.2
 have l3:=Lib.hid x3.1
 have l4:=Lib.hid x4.len.1
 have l5:=Lib.hid x5.len.1
 have e1:(!x.lines.any F5)=x.lines.all Sw.D_:=Qb _ _
 have e2:(!x.AV.any KV)=x.AV.all Sw.DF:=Qb _ _
 have e3:(!x.BS.any Kb)=x.BS.all Sw.Fs:=Qb _ _
 have e:=Px x
 rw[← e1,← e2,← e3] at e
 have He:=Lib.hid e;clear e e1 e2 e3
 cases g1:Sw.GX x.AB
 case false=>
  go_enter Tryz.func19,Tryz.ntmps19
  go_wp2_with (go_at_call 23;apply Calls.mono;apply GD;(exact Jg);rintro E w1 ⟨rfl,hb⟩;obtain⟨hc,hf,hz⟩:=xy hb)
  go_ret
  exact⟨Ar (by rw[He.out];simp[Fa,g1]),AA⟩
 cases g2:Sw.DR x.first
 case false=>
  go_enter Tryz.func19,Tryz.ntmps19
  go_wp2_with (first|(go_at_call 23;apply Calls.mono;apply GD;(exact Jg);rintro E w1 ⟨rfl,hb⟩;obtain⟨hc,hf,hz⟩:=xy hb)|(go_at_call 53;apply Calls.mono;apply Dm;(exact Bt);rintro E w1 ⟨rfl,hb⟩;obtain⟨hc,hf,hz⟩:=xy hb))
  go_ret
  exact⟨Ar (by rw[He.out];simp[Fa,g2]),AA⟩
 by_cases g3:A7≤300
 case neg=>
  go_enter Tryz.func19,Tryz.ntmps19
  go_wp2_with (first|(go_at_call 23;apply Calls.mono;apply GD;(exact Jg);rintro E w1 ⟨rfl,hb⟩;obtain⟨hc,hf,hz⟩:=xy hb)|(go_at_call 53;apply Calls.mono;apply Dm;(exact Bt);rintro E w1 ⟨rfl,hb⟩;obtain⟨hc,hf,hz⟩:=xy hb))
  go_ret
  exact⟨Ar (by rw[He.out,Fa,← l3.out];simp[g3]),AA⟩
 by_cases g4:Az=2
 case neg=>
  have q4:((Az:Int) != 2)=true:=by rw[bne_iff_ne];omega
  go_enter Tryz.func19,Tryz.ntmps19
  go_wp2_with (first|(go_at_call 23;apply Calls.mono;apply GD;(exact Jg);rintro E w1 ⟨rfl,hb⟩;obtain⟨hc,hf,hz⟩:=xy hb)|(go_at_call 53;apply Calls.mono;apply Dm;(exact Bt);rintro E w1 ⟨rfl,hb⟩;obtain⟨hc,hf,hz⟩:=xy hb))
  go_ret
  exact⟨Ar (by rw[He.out,Fa,← l4.out];simp[g4]),AA⟩
 subst g4
 by_cases g5:Ao≤6
 case neg=>
  go_enter Tryz.func19,Tryz.ntmps19
  go_wp2_with (first|(go_at_call 23;apply Calls.mono;apply GD;(exact Jg);rintro E w1 ⟨rfl,hb⟩;obtain⟨hc,hf,hz⟩:=xy hb)|(go_at_call 53;apply Calls.mono;apply Dm;(exact Bt);rintro E w1 ⟨rfl,hb⟩;obtain⟨hc,hf,hz⟩:=xy hb))
  go_ret
  exact⟨Ar (by rw[He.out,Fa,← l5.out];simp[g5]),AA⟩
 have hgate:Fa x=true:=by simp[Fa,g1,g2,← l3.out,← l4.out,← l5.out,g3,g5]
 have e2:=He.out
 rw[hgate,Bool.true_and] at e2
 have HE:=Lib.hid e2
 clear e2 He hgate
 cases k1:x.lines.any F5
 case true=>
  go_enter Tryz.func19,Tryz.ntmps19
  go_wp2_with (first|(go_at_call 23;apply Calls.mono;apply GD;(exact Jg);rintro E w1 ⟨rfl,hb⟩;obtain⟨hc,hf,hz⟩:=xy hb)|(go_at_call 53;apply Calls.mono;apply Dm;(exact Bt);rintro E w1 ⟨rfl,hb⟩;obtain⟨hc,hf,hz⟩:=xy hb)|(go_at_call 54;apply Calls.mono;apply NS;(exact Bt);rintro E w1 ⟨rfl,hb⟩;obtain⟨hc,hf,hz⟩:=xy hb))
  go_ret
  exact⟨Ar (by rw[HE.out,k1];rfl),AA⟩
 cases k2:x.AV.any KV
 case true=>
  go_enter Tryz.func19,Tryz.ntmps19
  go_wp2_with (first|(go_at_call 23;apply Calls.mono;apply GD;(exact Jg);rintro E w1 ⟨rfl,hb⟩;obtain⟨hc,hf,hz⟩:=xy hb)|(go_at_call 53;apply Calls.mono;apply Dm;(exact Bt);rintro E w1 ⟨rfl,hb⟩;obtain⟨hc,hf,hz⟩:=xy hb)|(go_at_call 54;apply Calls.mono;apply NS;(exact Bt);rintro E w1 ⟨rfl,hb⟩;obtain⟨hc,hf,hz⟩:=xy hb)|(go_at_call 57;apply Calls.mono;apply RD;((first|(apply RG.A8;assumption)|(apply Kj.su;assumption));exact AO);rintro E w1 ⟨rfl,hb⟩;obtain⟨hc,hf,hz⟩:=xy hb))
  go_ret
  exact⟨Ar (by rw[HE.out,k1,k2];rfl),AA⟩
 cases k3:x.BS.any Kb
 all_goals
  go_enter Tryz.func19,Tryz.ntmps19
  go_wp2_with (first|(go_at_call 23;apply Calls.mono;apply GD;(exact Jg);rintro E w1 ⟨rfl,hb⟩;obtain⟨hc,hf,hz⟩:=xy hb)|(go_at_call 53;apply Calls.mono;apply Dm;(exact Bt);rintro E w1 ⟨rfl,hb⟩;obtain⟨hc,hf,hz⟩:=xy hb)|(go_at_call 54;apply Calls.mono;apply NS;(exact Bt);rintro E w1 ⟨rfl,hb⟩;obtain⟨hc,hf,hz⟩:=xy hb)|(go_at_call 57;apply Calls.mono;apply RD;((first|(apply RG.A8;assumption)|(apply Kj.su;assumption));exact AO);rintro E w1 ⟨rfl,hb⟩;obtain⟨hc,hf,hz⟩:=xy hb)|(go_at_call 59;apply Calls.mono;apply Xz;((first|(apply RX.A8;assumption)|(apply KH.yF;assumption));exact AO);rintro E w1 ⟨rfl,hb⟩;obtain⟨hc,hf,hz⟩:=xy hb))
  go_ret
  exact⟨Ar (by rw[HE.out,k1,k2,k3];rfl),AA⟩
end Go.Proofs.YtgaflnpmilikcaaGreat
