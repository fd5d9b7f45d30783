/- Texts joined: Mkt3, ImpD. -/
import Derived.Test.YtgaflnpmilikcaaGreatPx9
import Derived.Test.YtgaflnpmilikcaaGreatPx17
import Derived.Test.YtgaflnpmilikcaaGreatPx16
import Derived.Test.YtgaflnpmilikcaaGreatPx11
set_option maxRecDepth 100000
set_option linter.unusedSimpArgs false
set_option linter.unusedVariables false
namespace Go.Proofs.YtgaflnpmilikcaaGreat
open Go.RowKit Go
set_option maxHeartbeats 1000000
section
variable {τ:Nat→Nat} {t lo:Nat} {a w w':World}
theorem tR (τ:Nat→Nat) (t lo:Nat) (w:World):KT τ t lo w w:=KT.refl τ t lo w
theorem tA {o:Obj} (h:KT τ t lo a w):KT τ t lo a (w.alloc o):=h.alloc
theorem tD (h:KT τ t lo a w):KT τ t lo a w.drew:=h.drew
theorem tN {n:Nat} (h:KT τ t lo a w):KT τ t lo a (w.drewN n):=h.drewN
theorem tS {p:Addr} {u:Value} (h:KT τ t lo a w) (hp:a.heap.size≤p.block∨τ p.block≠t):KT τ t lo a (w.setCell p u):=h.setCell hp
theorem tE (hb:Ex w w') (h:KT τ t lo a w):KT τ t lo a w':=h.ex hb
end
def SM (lo:Nat) (τ:Nat→Nat):Nat→Prop:=fun k=>lo≤k∧1≤τ k∧τ k≤5
structure Cs (w:World) (g o:Nat) (aL:Option Addr) (Ae AU:Nat) (aP:Option Addr) (Ag AY:Nat) (aD:Option Addr) (Ac AQ:Nat) (aN:Option Addr) (Ad Aa:Nat) (aS:Option Addr) (Af Ab:Nat) (clock:Int):Prop where
 lt:g<w.heap.size
 log:w.cell? ⟨g,o,none⟩=some (.slice aL AU Ae)
 Ai:w.cell? ⟨g,o+1,none⟩=some (.slice aP AY Ag)
 AJ:w.cell? ⟨g,o+2,none⟩=some (.slice aD AQ Ac)
 Qa:w.cell? ⟨g,o+3,none⟩=some (.int .i64 clock)
 nums:w.cell? ⟨g,o+4,none⟩=some (.slice aN Aa Ad)
 said:w.cell? ⟨g,o+5,none⟩=some (.slice aS Ab Af)
 free:∀ i,w.frozen? ⟨g,i,none⟩=false
theorem Cs.keep {w w':World} {g o:Nat} {aL aP aD aN aS:Option Addr} {Ae AU Ag AY Ac AQ Ad Aa Af Ab:Nat} {clock:Int} (h:Cs w g o aL Ae AU aP Ag AY aD Ac AQ aN Ad Aa aS Af Ab clock) (hk:KF 0 w w'):Cs w' g o aL Ae AU aP Ag AY aD Ac AQ aN Ad Aa aS Af Ab clock:=by
 have hb:=hk.block g (Nat.zero_le _) h.lt
 have hc:∀ i,w'.cell? ⟨g,i,none⟩=w.cell? ⟨g,i,none⟩:=fun i=>World.cell?_of_block (w:=w) (a:=⟨g,i,none⟩) hb
 exact⟨Nat.lt_of_lt_of_le h.lt hk.size,(hc _).trans h.log,(hc _).trans h.Ai,(hc _).trans h.AJ,(hc _).trans h.Qa,(hc _).trans h.nums,(hc _).trans h.said,fun i=>(World.frozen?_of_block (w:=w) (a:=⟨g,i,none⟩) hb).trans (h.free i)⟩
theorem Cs.iq {w:World} {g o:Nat} {aL aP aD aN aS:Option Addr} {Ae AU Ag AY Ac AQ Ad Aa Af Ab:Nat} {clock:Int} (h:Cs w g o aL Ae AU aP Ag AY aD Ac AQ aN Ad Aa aS Af Ab clock) (B:Option Addr) (n d:Nat):Cs (w.setCell ⟨g,o+1,none⟩ (.slice B n d)) g o aL Ae AU B d n aD Ac AQ aN Ad Aa aS Af Ab clock:=by
 have ne:∀ i j:Nat,i≠j→(⟨g,i,none⟩:Addr)≠⟨g,j,none⟩:=fun i j hij e=>hij (by injection e)
 exact⟨by simpa [World.setCell] using h.lt,(World.cell?_setCell_other _ _ _ _ (ne _ _ (by omega))).trans h.log,World.cell?_setCell_same _ _ _ h.Ai,(World.cell?_setCell_other _ _ _ _ (ne _ _ (by omega))).trans h.AJ,(World.cell?_setCell_other _ _ _ _ (ne _ _ (by omega))).trans h.Qa,
  (World.cell?_setCell_other _ _ _ _ (ne _ _ (by omega))).trans h.nums,(World.cell?_setCell_other _ _ _ _ (ne _ _ (by omega))).trans h.said,fun i=>by simpa using h.free i⟩
theorem Cs.si {w:World} {g o:Nat} {aL aP aD aN aS:Option Addr} {Ae AU Ag AY Ac AQ Ad Aa Af Ab:Nat} {clock:Int} (h:Cs w g o aL Ae AU aP Ag AY aD Ac AQ aN Ad Aa aS Af Ab clock) (t:Int):Cs (w.setCell ⟨g,o+3,none⟩ (.int .i64 t)) g o aL Ae AU aP Ag AY aD Ac AQ aN Ad Aa aS Af Ab t:=by
 have ne:∀ i j:Nat,i≠j→(⟨g,i,none⟩:Addr)≠⟨g,j,none⟩:=fun i j hij e=>hij (by injection e)
 exact⟨by simpa [World.setCell] using h.lt,(World.cell?_setCell_other _ _ _ _ (ne _ _ (by omega))).trans h.log,(World.cell?_setCell_other _ _ _ _ (ne _ _ (by omega))).trans h.Ai,(World.cell?_setCell_other _ _ _ _ (ne _ _ (by omega))).trans h.AJ,World.cell?_setCell_same _ _ _ h.Qa,
  (World.cell?_setCell_other _ _ _ _ (ne _ _ (by omega))).trans h.nums,(World.cell?_setCell_other _ _ _ _ (ne _ _ (by omega))).trans h.said,fun i=>by simpa using h.free i⟩
theorem Cs.other {w:World} {g o:Nat} {aL aP aD aN aS:Option Addr} {Ae AU Ag AY Ac AQ Ad Aa Af Ab:Nat} {clock:Int} (h:Cs w g o aL Ae AU aP Ag AY aD Ac AQ aN Ad Aa aS Af Ab clock) {p:Addr} (v:Value) (hp:p.block≠g):Cs (w.setCell p v) g o aL Ae AU aP Ag AY aD Ac AQ aN Ad Aa aS Af Ab clock:=by
 have ne:∀ i:Nat,p≠⟨g,i,none⟩:=fun i e=>hp (by rw[e])
 exact⟨by simpa [World.setCell] using h.lt,(World.cell?_setCell_other _ _ _ _ (ne _)).trans h.log,(World.cell?_setCell_other _ _ _ _ (ne _)).trans h.Ai,(World.cell?_setCell_other _ _ _ _ (ne _)).trans h.AJ,(World.cell?_setCell_other _ _ _ _ (ne _)).trans h.Qa,
  (World.cell?_setCell_other _ _ _ _ (ne _)).trans h.nums,(World.cell?_setCell_other _ _ _ _ (ne _)).trans h.said,fun i=>by simpa using h.free i⟩
theorem Cs.drew {w:World} {g o:Nat} {aL aP aD aN aS:Option Addr} {Ae AU Ag AY Ac AQ Ad Aa Af Ab:Nat} {clock:Int} (h:Cs w g o aL Ae AU aP Ag AY aD Ac AQ aN Ad Aa aS Af Ab clock):Cs w.drew g o aL Ae AU aP Ag AY aD Ac AQ aN Ad Aa aS Af Ab clock:=⟨h.1,h.2,h.3,h.4,h.5,h.6,h.7,h.8⟩
theorem Ow.rG {α:Type} {enc:α→List Value} {sz:Nat} {e:TypeId} {w:World} {lo c n g:Nat} {xs:List α} (h:Ow enc sz e w lo (some ⟨g,0,none⟩) c n xs):Lb w g (c*sz):=by
 rcases h.form with⟨h1,_⟩ | ⟨g',cur,h1,h2,h3,h4,h5,h6,h7,h8⟩
 ·cases h1
 ·cases h1;exact⟨cur,e,h4,h7⟩
theorem TV {w:World} {lo c n k g:Nat} {A:Option Addr} {xs:List Sw.BC} (h:Pw w lo A c n xs) (hA:A=some ⟨g,0,none⟩) {x:Sw.BC} (hx:xs[k]?=some x) (v:Int) :
  Pw (w.setCell ⟨g,k*5+3,none⟩ (.int .i64 v)) lo A c n (xs.set k { x with BN:=v }):=by
 obtain⟨a,b,c',d,e⟩:=x
 exact Ow.set h (fun _=>rfl) (j:=3) (u:=.int .i64 v) hA hx (by omega) (y:=⟨a,b,c',v,e⟩) rfl
theorem Xb {w:World} {lo c n k g:Nat} {A:Option Addr} {xs:List Sw.BC} (h:Pw w lo A c n xs) (hA:A=some ⟨g,0,none⟩) {x:Sw.BC} (hx:xs[k]?=some x) (v:Int) :
  Pw (w.setCell ⟨g,k*5+4,none⟩ (.int .i64 v)) lo A c n (xs.set k { x with due:=v }):=by
 obtain⟨a,b,c',d,e⟩:=x
 exact Ow.set h (fun _=>rfl) (j:=4) (u:=.int .i64 v) hA hx (by omega) (y:=⟨a,b,c',d,v⟩) rfl
def Je (clock:Int) (ds:List Sw.BC) (k:Nat):List Sw.BC:=(ds.take k).map (Sw.Dq clock) ++ ds.drop k
theorem MW {clock:Int} {ds:List Sw.BC} {k:Nat} {y:Sw.BC} (h:ds[k]?=some y):(Je clock ds k)[k]?=some y:=by
 have hk:=(List.getElem?_eq_some_iff.1 h).1
 unfold Je
 rw[List.getElem?_append_right (by simp;omega),List.length_map,List.length_take,Nat.min_eq_left (by omega),Nat.sub_self,List.getElem?_drop]
 exact h
theorem OP {clock:Int} {ds:List Sw.BC} {k:Nat} {y:Sw.BC} (h:ds[k]?=some y):(Je clock ds k).set k (Sw.Dq clock y)=Je clock ds (k+1):=by
 have hk:=(List.getElem?_eq_some_iff.1 h).1
 unfold Je
 rw[List.set_append_right _ _ (by simp;omega),List.length_map,List.length_take,Nat.min_eq_left (by omega),Nat.sub_self,List.take_add_one,h]
 simp only[List.map_append,List.map_cons,List.append_assoc,Option.toList_some,List.map_nil,List.cons_append,List.nil_append]
 rw[List.drop_eq_getElem_cons hk]
 rfl
theorem XC {α:Type} {xs:List α} {k:Nat} {x y:α} (h:xs[k]?=some x):(xs.set k y)[k]?=some y:=by
 rw[List.getElem?_set,if_pos rfl,if_pos (List.getElem?_eq_some_iff.1 h).1]
theorem Rm {clock:Int} {ds:List Sw.BC} {k:Nat} {y:Sw.BC} (h:ds[k]?=some y) (hb:Sw.Dq clock y=y):Je clock ds (k+1)=Je clock ds k:=by
 rw[← OP h,hb]
 have h1:=MW (clock:=clock) h
 apply List.ext_getElem?
 intro i
 rw[List.getElem?_set]
 split
 ·rename_i e
  subst e
  rw[h1,if_pos (List.getElem?_eq_some_iff.1 h1).1]
 ·rfl
theorem YO {clock:Int} {ds:List Sw.BC} {k:Nat} (h:ds.length≤k):Je clock ds k=ds.map (Sw.Dq clock):=by
 unfold Je
 rw[List.take_of_length_le h,List.drop_of_length_le h,List.append_nil]
def MG (clock:Int) (m:Sw.CV) (k:Nat):List Int:=(m.AJ.take k).foldl (Sw.En clock) m.Ai
theorem JF {clock:Int} {m:Sw.CV} {k:Nat} {y:Sw.BC} (h:m.AJ[k]?=some y):MG clock m (k+1)=Sw.En clock (MG clock m k) y:=by
 unfold MG
 rw[List.take_add_one,h]
 simp
theorem Cn.backed {τ:Nat→Nat} {wr w1 w2:World} {lo g0 o gD k zu:Nat} {A3:Option Addr} {aL aP aN aS:Option Addr} {Ae AU Ag AY Ac AQ Ad Aa Af Ab:Nat} {m:Sw.CV} {ps:List Int} {y:Sw.BC} {v:Value}
  (h:Cn τ wr lo aL Ae AU aP Ag AY (some ⟨gD,0,none⟩) Ac AQ aN Ad Aa aS Af Ab m) (hb:Ex wr w1) (hb2:Ex (w1.setCell ⟨g0,o,none⟩ v) w2) (ho:Ga w1 wr.heap.size A3 zu AY ps) (t0:τ g0=0) (hg0:g0<wr.heap.size) (hx:m.AJ[k]?=some y) (hlo:lo≤wr.heap.size) :
  Cn (glue τ wr.heap.size (fun _=>2)) ((w2.setCell ⟨gD,k*5+3,none⟩ (.int .i64 0)).setCell ⟨gD,k*5+4,none⟩ (.int .i64 0)) lo aL Ae AU A3 zu AY (some ⟨gD,0,none⟩) Ac AQ aN Ad Aa aS Af Ab
   ⟨m.log,ps,m.AJ.set k { y with BN:=0,due:=0 },m.clock,m.nums,m.said⟩:=by
 have rW:=h.AJ.ow.blk rfl
 dsimp only at rW
 have tD:τ gD=3:=h.AJ.tag _ rfl
 have sV:glue τ wr.heap.size (fun _=>2) gD=3:=by unfold glue;rw[if_pos rW.2];exact tD
 have t0':glue τ wr.heap.size (fun _=>2) g0=0:=by unfold glue;rw[if_pos hg0];exact t0
 have hne:g0≠gD:=by rintro rfl;omega
 have hz1:=hb.size
 have hz2:w1.heap.size≤w2.heap.size:=by have:=hb2.size;simpa [World.setCell] using this
 have K:∀ t,t≠0→t≠3→KT (glue τ wr.heap.size (fun _=>2)) t lo wr ((w2.setCell ⟨gD,k*5+3,none⟩ (.int .i64 0)).setCell ⟨gD,k*5+4,none⟩ (.int .i64 0)):=by
  intro t h0 h3
  refine ((KT.ex hb2 ((KT.ex hb (KT.refl _ _ _ _)).setCell ?_)).setCell ?_).setCell ?_
  ·exact Or.inr (by rw[t0'];exact Ne.symm h0)
  ·exact Or.inr (by rw[sV];exact Ne.symm h3)
  ·exact Or.inr (by rw[sV];exact Ne.symm h3)
 have k2:∀ b,b<w1.heap.size→b≠g0→w2.heap[b]?=w1.heap[b]?:=fun b hb1 hb0=>
  (hb2.block b (by simpa [World.setCell] using hb1) (fun h=>h)).trans (Below.heap_setCell _ _ _ _ hb0)
 refine⟨(h.log.CX (Nat.le_refl _)).keep (K 1 (by omega) (by omega)),⟨?_,fun a ha=>?_⟩,⟨?_,fun a ha=>?_⟩,(h.nums.CX (Nat.le_refl _)).keep (K 4 (by omega) (by omega)),(h.said.CX (Nat.le_refl _)).keep (K 5 (by omega) (by omega))⟩
 ·refine (ho.less hlo).Hw fun a ha=>?_
  have:=ho.blk ha
  rw[Below.heap_setCell _ _ _ _ (show a.block≠gD by omega),Below.heap_setCell _ _ _ _ (show a.block≠gD by omega)]
  exact k2 _ this.2 (by omega)
 ·have:=(ho.blk ha).1
  unfold glue;rw[if_neg (by omega)]
 ·have h1:Pw w2 lo (some ⟨gD,0,none⟩) Ac AQ m.AJ:=h.AJ.ow.Hw fun a ha=>by
   cases ha
   exact (k2 gD (by omega) (Ne.symm hne)).trans (hb.block gD rW.2 (fun h=>h))
  have h2:=Xb (TV h1 rfl hx 0) rfl (XC hx) 0
  rw[List.set_set] at h2
  exact h2
 ·cases ha
  exact sV
theorem Cn.XT {τ:Nat→Nat} {w:World} {lo:Nat} {aL aP aD aN aS:Option Addr} {Ae AU Ag AY Ac AQ Ad Aa Af Ab:Nat} {m:Sw.CV} (h:Cn τ w lo aL Ae AU aP Ag AY aD Ac AQ aN Ad Aa aS Af Ab m) (t:Int):Cn τ w lo aL Ae AU aP Ag AY aD Ac AQ aN Ad Aa aS Af Ab { m with clock:=t }:=⟨h.1,h.2,h.3,h.4,h.5⟩
theorem Z5 {clock:Int} {y:Sw.BC} (h1:0<y.BN) (h2:y.due<clock):Sw.Dq clock y={ y with BN:=0,due:=0 }:=by simp[Sw.Dq,Sw.held,h1,h2]
theorem Z6 {clock:Int} {y:Sw.BC} (h:¬(0<y.BN∧y.due<clock)):Sw.Dq clock y=y:=by
 have:(Sw.held y&&decide (y.due<clock))=false:=by
  rw[Sw.held,← Bool.decide_and,decide_eq_false_iff_not];exact h
 simp[Sw.Dq,this]
theorem XU {clock:Int} {p:List Int} {y:Sw.BC} (h1:0<y.BN) (h2:y.due<clock):Sw.En clock p y=Sw.Dy p y.BN y.Al:=by simp[Sw.En,Sw.held,h1,h2]
theorem XW {clock:Int} {p:List Int} {y:Sw.BC} (h:¬(0<y.BN∧y.due<clock)):Sw.En clock p y=p:=by
 have:(Sw.held y&&decide (y.due<clock))=false:=by
  rw[Sw.held,← Bool.decide_and,decide_eq_false_iff_not];exact h
 simp[Sw.En,this]
def E_ (m:Sw.CV) (k:Nat):Sw.CV:=⟨m.log,MG (m.clock+1) m k,Je (m.clock+1) m.AJ k,m.clock+1,m.nums,m.said⟩
theorem Qe {m:Sw.CV} {k:Nat} (h:m.AJ.length≤k):E_ m k=Sw.tick m:=by
 unfold E_ Sw.tick
 rw[YO h]
 unfold MG
 rw[List.take_of_length_le h]
theorem XE (aL:Option Addr) (Ae AU:Nat) (aP:Option Addr) (Ag AY:Nat) (aD:Option Addr) (Ac AQ:Nat) (aN:Option Addr) (Ad Aa:Nat) (aS:Option Addr) (Af Ab:Nat) (m:Sw.CV) (lo:Nat) (τ:Nat→Nat) (w:World) (hM:Cn τ w lo aL Ae AU aP Ag AY aD Ac AQ aN Ad Aa aS Af Ab m) (eu:0≤m.clock) (eZ:m.clock≤99999) (hn:AQ≤4194304) (hp:AY≤4194304) (hlo:lo≤w.heap.size):Calls Tryz.prog 143 #[.agg #[.slice aL AU Ae,.slice aP AY Ag,.slice aD AQ Ac,.int .i64 m.clock,.slice aN Aa Ad,.slice aS Ab Af]] w fun E w'=>∃ A c,∃ τ':Nat→Nat,E=.returned (.agg #[.slice aL AU Ae,.slice A AY c,.slice aD AQ Ac,.int .i64 (m.clock+1),.slice aN Aa Ad,.slice aS Ab Af])∧Cn τ' w' lo aL Ae AU A c AY aD Ac AQ aN Ad Aa aS Af Ab (Sw.tick m)∧(∀ b,b<w.heap.size→τ' b=τ b)∧Ch (SM lo τ) w w':=by
 have l3:=Lib.hid hM.AJ.ow.1
 go_enter Tryz.func143,Tryz.ntmps143
 go_wp2_with fail
 go_loopw [3] (fun i wr=>∃ (k:Nat) (B:Option Addr) (d:Nat) (τr:Nat→Nat),k≤AQ∧i=.int .i64 k∧Ch (SM lo τ) w wr∧(∀ b,b<w.heap.size→τr b=τ b)∧τr w.heap.size=0∧τr (w.heap.size+1)=0 ∧
  Cs wr w.heap.size 0 aL Ae AU B d AY aD Ac AQ aN Ad Aa aS Af Ab (m.clock+1)∧w.heap.size+2≤wr.heap.size∧Lb wr (w.heap.size+1) 6 ∧
  Cn τr wr lo aL Ae AU B d AY aD Ac AQ aN Ad Aa aS Af Ab (E_ m k)) (fun i _=>AQ-(intOf i).toNat)
 case atStart=>
  have g0:glue τ w.heap.size (fun _=>0) w.heap.size=0:=by unfold glue;rw[if_neg (by omega)]
  refine⟨0,aP,Ag,glue τ w.heap.size (fun _=>0),Nat.zero_le _,rfl,(by (exact AA)),fun b hb=>if_pos hb,g0,(by unfold glue;rw[if_neg (by omega)]),⟨by simp;omega,?_,?_,?_,?_,?_,?_,?_⟩,by simp,(by exact Dw),?_⟩
  case refine_8=>
   refine Cn.keep (Cn.CX (m:=E_ m 0) (Cn.XT hM _) (Nat.le_refl _)) fun t h1 h5=>?_
   have g0':glue τ w.heap.size (fun _=>0) w.heap.size≠t:=by rw[g0];omega
   (with_reducible repeat (first|exact tR _ _ _ _|apply tA|apply tD|apply tN|(apply tE;assumption)|(refine tS ?_ (by first|exact Or.inl (by first|omega|(simp only[BO];omega))|exact Or.inr (by rw[g0];decide)|exact Or.inr g0))))
  all_goals first|(simp[go_sem];done)|(intro i;simp[go_sem];done)
 case round=>
  obtain⟨k,B,d,τr,hk,rfl,hb2,hτ,h0,h01,hmk,hsz,Fu,ho⟩:=hrel
  obtain⟨k0,k1,k2,k3,k4,k5,k6,kf⟩:=hmk
  have hmk:Cs wr w.heap.size 0 aL Ae AU B d AY aD Ac AQ aN Ad Aa aS Af Ab (m.clock+1):=⟨k0,k1,k2,k3,k4,k5,k6,kf⟩
  simp only[Nat.zero_add] at k1 k2 k3 k4 k5 k6
  have Hτ:=Lib.hid hτ
  clear hτ
  by_cases hlt:k<AQ
  ·obtain⟨y,hy⟩:∃ y,m.AJ[k]?=some y:=⟨_,List.getElem?_eq_getElem (by have:=l3.out;omega)⟩
   have hyb:=MW (clock:=m.clock+1) hy
   obtain⟨gD,x,hA,R4,Ur,hx,q0,q1,q2,q3,q4,hfz⟩:=MX ho.AJ.ow hlt
   obtain rfl:x=y:=by rw[show (E_ m k).AJ=Je (m.clock+1) m.AJ k from rfl,hyb] at hx;exact (Option.some.inj hx).symm
   subst hA
   have HX:=Lib.hid hx
   have HY:=Lib.hid hy
   clear hx hy hyb
   by_cases hh:0<x.BN∧x.due<m.clock+1
   case neg=>
    have e:E_ m (k+1)=E_ m k:=by
     unfold E_
     rw[JF HY.out,XW hh,Rm HY.out (Z6 hh)]
    have He:=Lib.hid e;clear e
    by_cases hb1:0<x.BN
    ·have jZ:¬x.due<m.clock+1:=fun h=>hh ⟨hb1,h⟩
     clear hh
     go_wp2_with fail
     go_roundw
     case rel=>
      exact⟨k+1,B,d,τr,by omega,by go_num,(by (exact AA)),Hτ.out,h0,h01,hmk.keep (by (exact AO)),by exact Aq,(by exact Dw),by rw[He.out];exact ho.Av (by (exact AO))⟩
     case measure=>simp[intOf];omega
    ·clear hh
     go_wp2_with fail
     go_roundw
     case rel=>
      exact⟨k+1,B,d,τr,by omega,by go_num,(by (exact AA)),Hτ.out,h0,h01,hmk.keep (by (exact AO)),by exact Aq,(by exact Dw),by rw[He.out];exact ho.Av (by (exact AO))⟩
     case measure=>simp[intOf];omega
   case pos=>
    obtain⟨hb1,jZ⟩:=hh
    go_wp2_with (go_at_call 175;apply Calls.mono;apply F3;(apply Rs.A8 ho.Ai.rs;(exact AO));omega;rintro E w3 ⟨A3,c3,rfl,ho3,hb⟩;obtain⟨hc,hf,hz⟩:=xy hb)
    have e:E_ m (k+1)=⟨m.log,Sw.Dy (E_ m k).Ai x.BN x.Al,(E_ m k).AJ.set k { x with BN:=0,due:=0 },m.clock+1,m.nums,m.said⟩:=by
     unfold E_
     dsimp only
     rw[JF HY.out,XU hb1 jZ,← OP HY.out,Z5 hb1 jZ]
    have He:=Lib.hid e;clear e
    have tD:τr gD=3:=ho.AJ.tag _ rfl
    have hne:gD≠w.heap.size:=by rintro rfl;rw[h0] at tD;cases tD
    have Ya:SM lo τ gD∨w.heap.size≤gD:=by
     by_cases hg:gD<w.heap.size
     ·exact .inl ⟨R4,by rw[← Hτ.out gD hg,tD];omega,by rw[← Hτ.out gD hg,tD];omega⟩
     ·exact .inr (by omega)
    have hex:Ex wr w3:=AA
    go_roundw
    case rel=>
     refine⟨k+1,A3,c3,glue τr wr.heap.size (fun _=>2),by omega,by go_num,(by (with_reducible repeat (first|exact cR _ _|apply cA|apply cD|apply cN|(refine cS ?_ (Or.inr (by first|omega|(simp only[BO];omega))) _)|(refine cS ?_ Ya _)|(apply cE;assumption)|(apply cK;assumption)))),fun b hb=>(if_pos (by omega)).trans (Hτ.out b hb),(if_pos k0).trans h0,(if_pos (by omega)).trans h01,?_,by exact Aq,(by exact Dw),?_⟩
     ·exact (((hmk.keep (by (exact AO))).iq A3 AY c3).other _ hne).other _ hne
     ·rw[He.out]
      exact Cn.backed ho hex (Ch.refl _ _) (ho3.less (by simp)) h0 k0 (MW HY.out) (by omega)
    case measure=>simp[intOf];omega
  ·obtain⟨hcr,hfr⟩:=Lb.rules Fu
   go_wp2_with fail
   refine bodyPost_ret (v:=.agg #[.slice aL AU Ae,.slice B AY d,.slice aD AQ Ac,.int .i64 (m.clock+1),.slice aN Aa Ad,.slice aS Ab Af]) (by simp[results,Tryz.results143,go_sem, *]) rfl ?_
   obtain rfl:k=AQ:=by omega
   refine⟨B,d,τr,rfl,?_,Hτ.out,(by (exact AA))⟩
   rw[← Qe (Nat.le_of_eq l3.out.symm)]
   refine ho.keep fun t t1 t5=>?_
   have hnt:τr (w.heap.size+1)≠t:=by rw[h01];omega
   (with_reducible repeat (first|exact tR _ _ _ _|apply tA|apply tD|apply tN|(apply tE;assumption)|(refine tS ?_ (by first|exact Or.inl (by first|omega|(simp only[BO];omega))|exact Or.inr (by rw[hnt];decide)|exact Or.inr hnt))))
end Go.Proofs.YtgaflnpmilikcaaGreat
namespace Go.Proofs.YtgaflnpmilikcaaGreat
open Go.RowKit Go
set_option maxHeartbeats 1000000
theorem F6 (A:Option Addr) (c n:Nat) (xs:List Int) (who v:Int) (w:World) (hxs:RI w 0 A c n xs) (hn:n≤4194304):Calls Tryz.prog 137 #[.slice A n c,.int .i64 who,.int .i64 v] w fun E w'=>∃ A' c',E=.returned (.tuple #[.slice A' n c',.bool (Sw.Bz xs who v)])∧Ga w' w.heap.size A' c' n (Sw.Dy xs who v)∧Ex w w':=by
 cases g1:Sw.DR xs
 case false=>
  have e:Sw.Bz xs who v=false:=by simp[Sw.Bz,g1]
  rw[e,IU e];clear e
  go_enter Tryz.func137,Tryz.ntmps137
  go_wp2_with (first|(go_at_call 86;apply Calls.mono;apply Bj;(exact Bt);(exact Bu);rintro E w1 ⟨A1,c1,rfl,ho1,hb⟩;obtain⟨hc,hf,hz⟩:=xy hb)|(go_at_call 53;apply Calls.mono;apply Dm;(exact Bt);rintro E w1 ⟨rfl,hb⟩;obtain⟨hc,hf,hz⟩:=xy hb))
  go_ret2
  exact⟨A1,c1,rfl,(ho1.keep (by (exact AO))).less (by exact Aq),AA⟩
 have h5:=I9 g1
 have dw:n=5:=by rw[hxs.1,h5]
 subst dw
 clear h5
 cases g2:Sw.Br who 1 5
 case false=>
  have e:Sw.Bz xs who v=false:=by simp[Sw.Bz,g2]
  rw[e,IU e];clear e
  go_enter Tryz.func137,Tryz.ntmps137
  go_wp2_with (first|(go_at_call 86;apply Calls.mono;apply Bj;(exact Bt);(exact Bu);rintro E w1 ⟨A1,c1,rfl,ho1,hb⟩;obtain⟨hc,hf,hz⟩:=xy hb)|(go_at_call 53;apply Calls.mono;apply Dm;(exact Bt);rintro E w1 ⟨rfl,hb⟩;obtain⟨hc,hf,hz⟩:=xy hb)|(go_at_call 113;refine (CG _ _).mono ?_;rintro E w' ⟨rfl,rfl⟩)|(go_at_call 61;refine (Cm _ _ _ _).mono ?_;rintro E w' ⟨rfl,rfl⟩))
  go_ret2
  exact⟨A1,c1,rfl,(ho1.keep (by (exact AO))).less (by exact Aq),AA⟩
 cases g3:Sw.Br v (-100000) 100000
 case false=>
  have e:Sw.Bz xs who v=false:=by simp[Sw.Bz,g3]
  rw[e,IU e];clear e
  go_enter Tryz.func137,Tryz.ntmps137
  go_wp2_with (first|(go_at_call 86;apply Calls.mono;apply Bj;(exact Bt);(exact Bu);rintro E w1 ⟨A1,c1,rfl,ho1,hb⟩;obtain⟨hc,hf,hz⟩:=xy hb)|(go_at_call 53;apply Calls.mono;apply Dm;(exact Bt);rintro E w1 ⟨rfl,hb⟩;obtain⟨hc,hf,hz⟩:=xy hb)|(go_at_call 113;refine (CG _ _).mono ?_;rintro E w' ⟨rfl,rfl⟩)|(go_at_call 61;refine (Cm _ _ _ _).mono ?_;rintro E w' ⟨rfl,rfl⟩))
  go_ret2
  exact⟨A1,c1,rfl,(ho1.keep (by (exact AO))).less (by exact Aq),AA⟩
 have hw:=Sw.BB.1 g2
 have hv:=Sw.BB.1 g3
 obtain⟨k,rfl⟩:∃ k:Nat,who=k+1:=⟨(who-1).toNat,by omega⟩
 have hk:k<5:=by omega
 obtain⟨g,off,y,rfl,hg0,hg,hd,hy,hc0⟩:=G8 hxs hk
 have hyb:0≤y∧y≤100000:=(Sw.Ci.1 g1).2 y (List.mem_of_getElem? hy)
 have nZ:=T_ hy
 have lD:=Lib.hid nZ
 have Hy:=Lib.hid hy
 clear hd hy nZ
 obtain⟨y0,y1⟩:=hyb
 obtain⟨v0,v1⟩:=hv
 clear hw
 have t2:IntKind.i64.wrap ((k:Int)+1-1)=k:=by rw[IntWalk.i64_in _ (by omega)];omega
 cases g4:Sw.Br (y+v) 0 100000
 case false=>
  have e:Sw.Bz xs (k+1) v=false:=by simp[Sw.Bz,lD.out,g4]
  rw[e,IU e];clear e
  go_enter Tryz.func137,Tryz.ntmps137
  go_wp2_with (go_at_call 86;apply Calls.mono;apply Bj;(exact Bt);(exact Bu);rintro E w1 ⟨A1,c1,rfl,ho1,hb⟩;obtain⟨hc,hf,hz⟩:=xy hb)
  obtain⟨g',x',hA,hlo,hlt,hx,hcx,hfz⟩:=KC ho1 hk
  obtain rfl:x'=y:=by have:=Hy.out;rw[hx] at this;exact Option.some.inj this
  subst hA
  clear hx
  go_wp2_with (first|(go_at_call 53;apply Calls.mono;apply Dm;(exact Bt);rintro E w1 ⟨rfl,hb⟩;obtain⟨hc,hf,hz⟩:=xy hb)|(go_at_call 113;refine (CG _ _).mono ?_;rintro E w' ⟨rfl,rfl⟩)|(go_at_call 61;refine (Cm _ _ _ _).mono ?_;rintro E w' ⟨rfl,rfl⟩))
  go_ret2
  exact⟨_,c1,rfl,(ho1.keep (by (exact AO))).less (by exact Aq),AA⟩
 have e:Sw.Bz xs (k+1) v=true:=by simp[Sw.Bz,g1,g2,g3,lD.out,g4]
 rw[e,Jt e];clear e
 go_enter Tryz.func137,Tryz.ntmps137
 go_wp2_with (go_at_call 86;apply Calls.mono;apply Bj;(exact Bt);(exact Bu);rintro E w1 ⟨A1,c1,rfl,ho1,hb⟩;obtain⟨hc,hf,hz⟩:=xy hb)
 obtain⟨g',x',hA,hlo,hlt,hx,hcx,hfz⟩:=KC ho1 hk
 obtain rfl:x'=y:=by have:=Hy.out;rw[hx] at this;exact Option.some.inj this
 subst hA
 clear hx
 apply Calls.mono;apply Dm;(first|assumption|(exact Bt)|omega);rintro E w3 ⟨rfl,hb3⟩;have hst:=xr hb3;(try simp only[zA,zC,zD] at hst);obtain⟨hc3,hf3,hz3⟩:=hst
 have ho3:=Ow.keep ho1 (KF.ex hb3 (KF.refl _ _))
 go_wp2_with (first|(go_at_call 113;refine (CG _ _).mono ?_;rintro E w' ⟨rfl,rfl⟩)|(go_at_call 61;refine (Cm _ _ _ _).mono ?_;rintro E w' ⟨rfl,rfl⟩))
 go_ret2
 refine⟨_,_,rfl,?_,AA⟩
 have r:=aA ho3 rfl Hy.out (x'+v)
 rw[Sw.turned,lD.out,show ((k:Int)+1-1).toNat=k from by omega]
 exact r.less (by omega)
theorem Q_ (A:Option Addr) (c n:Nat) (xs:List Int) (a b v:Int) (w:World) (hxs:RI w 0 A c n xs) (hn:n≤4194304):Calls Tryz.prog 188 #[.slice A n c,.int .i64 a,.int .i64 b,.int .i64 v] w fun E w'=>∃ A' c',E=.returned (.tuple #[.slice A' n c',.bool (Sw.C8 xs a b v)])∧Ga w' w.heap.size A' c' n (Sw.Db xs a b v)∧Ex w w':=by
 cases g1:Sw.Br v 0 100000
 case false=>
  have e:Sw.C8 xs a b v=false:=by simp[Sw.C8,g1]
  have e2:Sw.Db xs a b v=xs:=by simp[Sw.Db,e]
  rw[e,e2];clear e e2
  go_enter Tryz.func188,Tryz.ntmps188
  go_wp2_with (first|(go_at_call 86;apply Calls.mono;apply Bj;(exact Bt);(exact Bu);rintro E w1 ⟨A1,c1,rfl,ho1,hb⟩;obtain⟨hc,hf,hz⟩:=xy hb)|(go_at_call 61;refine (Cm _ _ _ _).mono ?_;rintro E w' ⟨rfl,rfl⟩))
  go_ret2
  exact⟨A1,c1,rfl,(ho1.keep (by (exact AO))).less (by exact Aq),AA⟩
 have hv:=Sw.BB.1 g1
 obtain⟨v0,v1⟩:=hv
 by_cases g2:a=b
 case pos=>
  have hab:(a==b)=true:=by simp[g2]
  have e:Sw.C8 xs a b v=false:=by simp[Sw.C8,g2]
  have e2:Sw.Db xs a b v=xs:=by simp[Sw.Db,e]
  rw[e,e2];clear e e2 g2
  go_enter Tryz.func188,Tryz.ntmps188
  go_wp2_with (first|(go_at_call 86;apply Calls.mono;apply Bj;(exact Bt);(exact Bu);rintro E w1 ⟨A1,c1,rfl,ho1,hb⟩;obtain⟨hc,hf,hz⟩:=xy hb)|(go_at_call 61;refine (Cm _ _ _ _).mono ?_;rintro E w' ⟨rfl,rfl⟩))
  go_ret2
  exact⟨A1,c1,rfl,(ho1.keep (by (exact AO))).less (by exact Aq),AA⟩
 have hab:(a==b)=false:=by simp[g2]
 cases g3:Sw.Bz xs a (-v)
 case false=>
  have e:Sw.C8 xs a b v=false:=by simp[Sw.C8,g3]
  have e2:Sw.Db xs a b v=xs:=by simp[Sw.Db,e]
  rw[e,e2];clear e e2 g2
  go_enter Tryz.func188,Tryz.ntmps188
  go_wp2_with (first|(go_at_call 86;apply Calls.mono;apply Bj;(exact Bt);(exact Bu);rintro E w1 ⟨A1,c1,rfl,ho1,hb⟩;obtain⟨hc,hf,hz⟩:=xy hb)|(go_at_call 61;refine (Cm _ _ _ _).mono ?_;rintro E w' ⟨rfl,rfl⟩)|(go_at_call 137;apply Calls.mono;apply F6;(exact Bt);(exact Bu);rintro E w1 ⟨A3,c3,rfl,ho3,hb⟩;obtain⟨hc,hf,hz⟩:=xy hb))
  go_ret2
  exact⟨A1,c1,rfl,(ho1.keep (by (exact AO))).less (by exact Aq),AA⟩
 have e3:=Jt g3
 have E3:=Lib.hid e3;clear e3
 cases g4:Sw.Bz (Sw.turned xs a (-v)) b v
 case false=>
  have e:Sw.C8 xs a b v=false:=by simp[Sw.C8,g4]
  have e2:Sw.Db xs a b v=xs:=by simp[Sw.Db,e]
  rw[e,e2];clear e e2 g2
  go_enter Tryz.func188,Tryz.ntmps188
  go_wp2_with (first|(go_at_call 86;apply Calls.mono;apply Bj;(exact Bt);(exact Bu);rintro E w1 ⟨A1,c1,rfl,ho1,hb⟩;obtain⟨hc,hf,hz⟩:=xy hb)|(go_at_call 61;refine (Cm _ _ _ _).mono ?_;rintro E w' ⟨rfl,rfl⟩)|(go_at_call 137;apply Calls.mono;apply (F6 (xs:=Sw.turned xs a (-v)));(first|assumption|(exact Bt)|omega);omega;rintro E w4 ⟨A4,c4,rfl,Uo,hb⟩;obtain⟨hc,hf,hz⟩:=xy hb)|(go_at_call 137;apply Calls.mono;apply (F6 (xs:=xs));(first|assumption|(exact Bt)|omega);omega;rintro E w3 ⟨A3,c3,rfl,ho3,hb⟩;rw[E3.out] at ho3;obtain⟨hc,hf,hz⟩:=xy hb))
  go_ret2
  exact⟨A1,c1,rfl,(ho1.keep (by (exact AO))).less (by exact Aq),AA⟩
 have e:Sw.C8 xs a b v=true:=by simp[Sw.C8,g1,g2,g3,g4]
 have e2:Sw.Db xs a b v=Sw.turned (Sw.turned xs a (-v)) b v:=by simp[Sw.Db,e]
 have e4:=Jt g4
 have E4:=Lib.hid e4;clear e4
 rw[e,e2];clear e e2 g2
 go_enter Tryz.func188,Tryz.ntmps188
 go_wp2_with (first|(go_at_call 61;refine (Cm _ _ _ _).mono ?_;rintro E w' ⟨rfl,rfl⟩)|(go_at_call 137;apply Calls.mono;apply (F6 (xs:=Sw.turned xs a (-v)));(first|assumption|(exact Bt)|omega);omega;rintro E w4 ⟨A4,c4,rfl,Uo,hb⟩;rw[E4.out] at Uo;obtain⟨hc,hf,hz⟩:=xy hb)|(go_at_call 137;apply Calls.mono;apply (F6 (xs:=xs));(first|assumption|(exact Bt)|omega);omega;rintro E w3 ⟨A3,c3,rfl,ho3,hb⟩;rw[E3.out] at ho3;obtain⟨hc,hf,hz⟩:=xy hb))
 go_ret2
 exact⟨A4,c4,rfl,(Uo.keep (by (exact AO))).less (by exact Aq),AA⟩
theorem JN (r:Sw.Ee) (w:World):Calls Tryz.prog 56 #[.agg #[.int .i64 r.user,.int .i64 r.n,.int .i64 r.kind,.int .i64 r.ticket,.int .i64 r.who,.int .i64 r.Al]] w fun E w'=>E=.returned (.bool (Sw.CR r))∧Ex w w':=by
 cases g1:Sw.Br r.user 1 5
 case false=>go_enter Tryz.func56,Tryz.ntmps56;go_wp2_with (first|(go_at_call 61;refine (Cm _ _ _ _).mono ?_;rintro E w' ⟨rfl,rfl⟩)|(go_at_call 113;refine (CG _ _).mono ?_;rintro E w' ⟨rfl,rfl⟩)|(go_at_call 63;refine (BQ _ _).mono ?_;rintro E w' ⟨rfl,rfl⟩)|(go_at_call 114;refine (GA _ _).mono ?_;rintro E w' ⟨rfl,rfl⟩));go_ret;exact⟨Ar (by simp[Sw.CR,g1]),AA⟩
 cases g2:Sw.Br r.n 1 99999
 case false=>go_enter Tryz.func56,Tryz.ntmps56;go_wp2_with (first|(go_at_call 61;refine (Cm _ _ _ _).mono ?_;rintro E w' ⟨rfl,rfl⟩)|(go_at_call 113;refine (CG _ _).mono ?_;rintro E w' ⟨rfl,rfl⟩)|(go_at_call 63;refine (BQ _ _).mono ?_;rintro E w' ⟨rfl,rfl⟩)|(go_at_call 114;refine (GA _ _).mono ?_;rintro E w' ⟨rfl,rfl⟩));go_ret;exact⟨Ar (by simp[Sw.CR,g2]),AA⟩
 cases g3:Sw.Br r.kind 1 6
 case false=>go_enter Tryz.func56,Tryz.ntmps56;go_wp2_with (first|(go_at_call 61;refine (Cm _ _ _ _).mono ?_;rintro E w' ⟨rfl,rfl⟩)|(go_at_call 113;refine (CG _ _).mono ?_;rintro E w' ⟨rfl,rfl⟩)|(go_at_call 63;refine (BQ _ _).mono ?_;rintro E w' ⟨rfl,rfl⟩)|(go_at_call 114;refine (GA _ _).mono ?_;rintro E w' ⟨rfl,rfl⟩));go_ret;exact⟨Ar (by simp[Sw.CR,g3]),AA⟩
 cases g4:Sw.Br r.ticket 0 7
 case false=>go_enter Tryz.func56,Tryz.ntmps56;go_wp2_with (first|(go_at_call 61;refine (Cm _ _ _ _).mono ?_;rintro E w' ⟨rfl,rfl⟩)|(go_at_call 113;refine (CG _ _).mono ?_;rintro E w' ⟨rfl,rfl⟩)|(go_at_call 63;refine (BQ _ _).mono ?_;rintro E w' ⟨rfl,rfl⟩)|(go_at_call 114;refine (GA _ _).mono ?_;rintro E w' ⟨rfl,rfl⟩));go_ret;exact⟨Ar (by simp[Sw.CR,g4]),AA⟩
 have e:Sw.CR r=(if r.kind=1 then Sw.Br r.who 1 5&&Sw.Br r.Al 1 50 else decide (r.who=0)&&(if r.kind=2 then Sw.Br r.Al 1 999 else decide (r.Al=0))):=by simp[Sw.CR,g1,g2,g3,g4]
 have He:=Lib.hid e;clear e
 by_cases k1:r.kind=1
 ·have k1':(r.kind==1)=true:=by simp[k1]
  have K1:=Lib.hid k1;clear k1
  cases g5:Sw.Br r.who 1 5
  all_goals
   go_enter Tryz.func56,Tryz.ntmps56
   go_wp2_with (first|(go_at_call 61;refine (Cm _ _ _ _).mono ?_;rintro E w' ⟨rfl,rfl⟩)|(go_at_call 113;refine (CG _ _).mono ?_;rintro E w' ⟨rfl,rfl⟩)|(go_at_call 63;refine (BQ _ _).mono ?_;rintro E w' ⟨rfl,rfl⟩)|(go_at_call 114;refine (GA _ _).mono ?_;rintro E w' ⟨rfl,rfl⟩))
   go_ret
   exact⟨Ar (by rw[He.out,if_pos K1.out];simp[g5]),AA⟩
 have k1':(r.kind==1)=false:=by simp[k1]
 cases g5:(r.who==0)
 all_goals
  by_cases k2:r.kind=2
  ·have k2':(r.kind==2)=true:=by simp[k2]
   have K2:=Lib.hid k2;clear k2
   cases g6:Sw.Br r.Al 1 999
   all_goals
    go_enter Tryz.func56,Tryz.ntmps56
    go_wp2_with (first|(go_at_call 61;refine (Cm _ _ _ _).mono ?_;rintro E w' ⟨rfl,rfl⟩)|(go_at_call 113;refine (CG _ _).mono ?_;rintro E w' ⟨rfl,rfl⟩)|(go_at_call 63;refine (BQ _ _).mono ?_;rintro E w' ⟨rfl,rfl⟩)|(go_at_call 114;refine (GA _ _).mono ?_;rintro E w' ⟨rfl,rfl⟩))
    go_ret
    exact⟨Ar (by rw[He.out,if_neg k1,if_pos K2.out];rw[← Em,g5,g6];rfl),AA⟩
  have k2':(r.kind==2)=false:=by simp[k2]
  cases g6:(r.Al==0)
  all_goals
   go_enter Tryz.func56,Tryz.ntmps56
   go_wp2_with (first|(go_at_call 61;refine (Cm _ _ _ _).mono ?_;rintro E w' ⟨rfl,rfl⟩)|(go_at_call 113;refine (CG _ _).mono ?_;rintro E w' ⟨rfl,rfl⟩)|(go_at_call 63;refine (BQ _ _).mono ?_;rintro E w' ⟨rfl,rfl⟩)|(go_at_call 114;refine (GA _ _).mono ?_;rintro E w' ⟨rfl,rfl⟩))
   go_ret
   exact⟨Ar (by rw[He.out,if_neg k1,if_neg k2];rw[← Em,← Em,g5,g6];rfl),AA⟩
theorem Ky (aL:Option Addr) (Ae AU:Nat) (aP:Option Addr) (Ag AY:Nat) (aD:Option Addr) (Ac AQ:Nat) (aN:Option Addr) (Ad Aa:Nat) (aS:Option Addr) (Af Ab:Nat) (m:Sw.CV) (d:Sw.BC) (A:Option Addr) (c:Nat) (rows:List Sw.Row) (w:World) (hrr:RR w 0 A c 8 rows) (eu:0≤m.clock) (eZ:m.clock≤99999):Calls Tryz.prog 65 #[.agg #[.slice aL AU Ae,.slice aP AY Ag,.slice aD AQ Ac,.int .i64 m.clock,.slice aN Aa Ad,.slice aS Ab Af],.agg #[.int .i64 d.ticket,.int .i64 d.BP,.int .i64 d.Al,.int .i64 d.BN,.int .i64 d.due],.slice A 8 c] w fun E w'=>E=.returned (.bool (Sw.Ew m.clock rows d))∧Ex w w':=by
 cases c1:Sw.Br d.ticket 0 7
 case false=>
  go_enter Tryz.func65,Tryz.ntmps65;go_wp2_with (first|(go_at_call 63;refine (BQ _ _).mono ?_;rintro E w' ⟨rfl,rfl⟩)|(go_at_call 113;refine (CG _ _).mono ?_;rintro E w' ⟨rfl,rfl⟩));go_ret;exact⟨Ar (by simp[Sw.Ew,c1]),AA⟩
 cases c2:Sw.Br d.BP 1 5
 case false=>
  go_enter Tryz.func65,Tryz.ntmps65;go_wp2_with (first|(go_at_call 63;refine (BQ _ _).mono ?_;rintro E w' ⟨rfl,rfl⟩)|(go_at_call 113;refine (CG _ _).mono ?_;rintro E w' ⟨rfl,rfl⟩));go_ret;exact⟨Ar (by simp[Sw.Ew,c2]),AA⟩
 obtain⟨y0,y7⟩:=Sw.BB.1 c1
 obtain⟨t,ht⟩:=Int.eq_ofNat_of_zero_le y0
 have e0:d.ticket.toNat=t:=by omega
 have uH:t<8:=by omega
 have y8:d.ticket<8:=by omega
 have HT:=Lib.hid ht
 clear ht
 obtain⟨gr,tK,r,rfl,ug,hgr,hdr,dY,r0,r1,r2⟩:=VF hrr uH
 have hrow:Sw.rowAt rows d.ticket=r:=by simp[Sw.rowAt,e0,dY]
 have e:Sw.Ew m.clock rows d=(decide (r.who=d.BP) && !r.used&&Sw.Br d.Al 1 (Sw.C9 r.EY)&&(if d.BN=0 then decide (d.due=0) else Sw.Br d.BN 1 5&&decide (d.BN≠d.BP)&&Sw.Br d.due m.clock (m.clock+5))):=by
  rw[Sw.Ew,hrow,c1,c2];simp
 have He:=Lib.hid e
 clear hdr dY hrow e
 obtain⟨JU,rf,ru⟩:=r
 dsimp only at r0 r1 r2
 cases c3:(JU==d.BP)
 case false=>
  have c3':(JU != d.BP)=true:=by rw[bne,c3];rfl
  go_enter Tryz.func65,Tryz.ntmps65;go_wp2_with (first|(go_at_call 63;refine (BQ _ _).mono ?_;rintro E w' ⟨rfl,rfl⟩)|(go_at_call 113;refine (CG _ _).mono ?_;rintro E w' ⟨rfl,rfl⟩));go_quiet ((first|(go_at_call 119;exact Calls.AR (D7 _ _))|(go_at_call 61;exact Calls.AR (Cm _ _ _ _))));go_wp2_with (first|(go_at_call 113;refine (CG _ _).mono ?_;rintro E w' ⟨rfl,rfl⟩)|(go_at_call 61;refine (Cm _ _ _ _).mono ?_;rintro E w' ⟨rfl,rfl⟩));go_ret;exact⟨Ar (by rw[He.out,← Em,c3];simp),AA⟩
 have c3':(JU != d.BP)=false:=by rw[bne,c3];rfl
 cases ru
 case true=>
  go_enter Tryz.func65,Tryz.ntmps65;go_wp2_with (first|(go_at_call 63;refine (BQ _ _).mono ?_;rintro E w' ⟨rfl,rfl⟩)|(go_at_call 113;refine (CG _ _).mono ?_;rintro E w' ⟨rfl,rfl⟩));go_quiet ((first|(go_at_call 119;exact Calls.AR (D7 _ _))|(go_at_call 61;exact Calls.AR (Cm _ _ _ _))));go_wp2_with (first|(go_at_call 113;refine (CG _ _).mono ?_;rintro E w' ⟨rfl,rfl⟩)|(go_at_call 61;refine (Cm _ _ _ _).mono ?_;rintro E w' ⟨rfl,rfl⟩));go_ret;exact⟨Ar (by rw[He.out];simp),AA⟩
 cases c6:Sw.Br d.Al 1 (Sw.C9 rf)
 case false=>
  go_enter Tryz.func65,Tryz.ntmps65;go_wp2_with (first|(go_at_call 63;refine (BQ _ _).mono ?_;rintro E w' ⟨rfl,rfl⟩)|(go_at_call 113;refine (CG _ _).mono ?_;rintro E w' ⟨rfl,rfl⟩));go_quiet ((first|(go_at_call 119;exact Calls.AR (D7 _ _))|(go_at_call 61;exact Calls.AR (Cm _ _ _ _))));go_wp2_with (first|(go_at_call 113;refine (CG _ _).mono ?_;rintro E w' ⟨rfl,rfl⟩)|(go_at_call 61;refine (Cm _ _ _ _).mono ?_;rintro E w' ⟨rfl,rfl⟩));go_ret;exact⟨Ar (by rw[He.out];simp[c6]),AA⟩
 by_cases b0:d.BN=0
 ·have b1:(d.BN==0)=true:=by simp[b0]
  have B0:=Lib.hid b0;clear b0
  go_enter Tryz.func65,Tryz.ntmps65;go_wp2_with (first|(go_at_call 63;refine (BQ _ _).mono ?_;rintro E w' ⟨rfl,rfl⟩)|(go_at_call 113;refine (CG _ _).mono ?_;rintro E w' ⟨rfl,rfl⟩));go_quiet ((first|(go_at_call 119;exact Calls.AR (D7 _ _))|(go_at_call 61;exact Calls.AR (Cm _ _ _ _))));go_wp2_with (first|(go_at_call 113;refine (CG _ _).mono ?_;rintro E w' ⟨rfl,rfl⟩)|(go_at_call 61;refine (Cm _ _ _ _).mono ?_;rintro E w' ⟨rfl,rfl⟩));go_ret;exact⟨Ar (by rw[He.out,if_pos B0.out,← Em,c3,c6,← Em];simp),AA⟩
 have b1:(d.BN==0)=false:=by simp[b0]
 have B0:=Lib.hid b0;clear b0
 cases c7:Sw.Br d.BN 1 5
 case false=>
  go_enter Tryz.func65,Tryz.ntmps65;go_wp2_with (first|(go_at_call 63;refine (BQ _ _).mono ?_;rintro E w' ⟨rfl,rfl⟩)|(go_at_call 113;refine (CG _ _).mono ?_;rintro E w' ⟨rfl,rfl⟩));go_quiet ((first|(go_at_call 119;exact Calls.AR (D7 _ _))|(go_at_call 61;exact Calls.AR (Cm _ _ _ _))));go_wp2_with (first|(go_at_call 113;refine (CG _ _).mono ?_;rintro E w' ⟨rfl,rfl⟩)|(go_at_call 61;refine (Cm _ _ _ _).mono ?_;rintro E w' ⟨rfl,rfl⟩));go_ret;exact⟨Ar (by rw[He.out,if_neg B0.out,c7];simp),AA⟩
 cases c8:(d.BN==d.BP)
 case true=>
  have qh:(d.BN != d.BP)=false:=by rw[bne,c8];rfl
  go_enter Tryz.func65,Tryz.ntmps65;go_wp2_with (first|(go_at_call 63;refine (BQ _ _).mono ?_;rintro E w' ⟨rfl,rfl⟩)|(go_at_call 113;refine (CG _ _).mono ?_;rintro E w' ⟨rfl,rfl⟩));go_quiet ((first|(go_at_call 119;exact Calls.AR (D7 _ _))|(go_at_call 61;exact Calls.AR (Cm _ _ _ _))));go_wp2_with (first|(go_at_call 113;refine (CG _ _).mono ?_;rintro E w' ⟨rfl,rfl⟩)|(go_at_call 61;refine (Cm _ _ _ _).mono ?_;rintro E w' ⟨rfl,rfl⟩));go_ret;exact⟨Ar (by rw[He.out,if_neg B0.out,decide_not,← Em d.BN,c8];simp),AA⟩
 have qh:(d.BN != d.BP)=true:=by rw[bne,c8];rfl
 go_enter Tryz.func65,Tryz.ntmps65;go_wp2_with (first|(go_at_call 63;refine (BQ _ _).mono ?_;rintro E w' ⟨rfl,rfl⟩)|(go_at_call 113;refine (CG _ _).mono ?_;rintro E w' ⟨rfl,rfl⟩));go_quiet ((first|(go_at_call 119;exact Calls.AR (D7 _ _))|(go_at_call 61;exact Calls.AR (Cm _ _ _ _))));go_wp2_with (first|(go_at_call 113;refine (CG _ _).mono ?_;rintro E w' ⟨rfl,rfl⟩)|(go_at_call 61;refine (Cm _ _ _ _).mono ?_;rintro E w' ⟨rfl,rfl⟩));go_ret;exact⟨Ar (by rw[He.out,if_neg B0.out,decide_not,← Em d.BN,c8,← Em,c3,c6,c7];simp),AA⟩
end Go.Proofs.YtgaflnpmilikcaaGreat
