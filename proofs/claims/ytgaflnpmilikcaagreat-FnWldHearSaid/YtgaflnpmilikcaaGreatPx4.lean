/- Texts joined: Plain3, RegX. -/
import Derived.Test.YtgaflnpmilikcaaGreatPx3
import Derived.Test.YtgaflnpmilikcaaGreatPx1
set_option maxRecDepth 100000
set_option linter.unusedSimpArgs false
set_option linter.unusedVariables false
namespace Go.Proofs.YtgaflnpmilikcaaGreat.Sw
open Go.RowKit (wrap64)
theorem XG {a:Int}:BK a=true↔0≤a∧a≤65520:=by simp[BK,BB]
theorem Y4 (a b:Int):BK (pair a b)=true:=by
 rw[XG];unfold pair
 exact⟨Int.emod_nonneg _ (by omega),by have:=Int.emod_lt_of_pos (a*8191+b*127+a*b+31) (show (0:Int)<65521 by omega);omega⟩
theorem ME:∀ (xs:List Int),xs.all BK=true→BK (root xs)=true
 | [],_=>by simp[root];decide
 | [x],h=>by simpa [root] using h
 | x::y::r,_=>by rw[root];exact Y4 _ _
theorem P7 (l:List Int):BK (JH l)=true:=by
 rw[XG];unfold JH
 exact⟨Int.emod_nonneg _ (by omega),by have:=Int.emod_lt_of_pos (Gl 7 l*31+l.length) (show (0:Int)<65521 by omega);omega⟩
theorem UD (t:Int) (r:Row):BK (FM t r)=true:=by
 unfold FM
 split
 ·exact P7 _
 ·rfl
theorem MK:∀ (rows:List Row) (t:Int),(D6 t rows).all BK=true
 | [],_=>rfl
 | r::rs,t=>by simp only[D6,List.all_cons,UD,MK rs,Bool.and_self]
theorem KZ (rows:List Row):(C_ rows).all BK=true:=MK rows 0
theorem R6 (es:List FC):(es.map EF).all BK=true:=by
 rw[List.all_map,List.all_eq_true];exact fun e _=>P7 _
theorem Dr {p:Int→Bool} {xs:List Int} {k:Nat} (h:xs.all p=true):(xs.take k).all p=true:=by
 rw[List.all_eq_true] at *;exact fun x hx=>h x (List.mem_of_mem_take hx)
theorem Ey {p:Int→Bool} {xs:List Int} {k:Nat} (h:xs.all p=true):(xs.drop k).all p=true:=by
 rw[List.all_eq_true] at *;exact fun x hx=>h x (List.mem_of_mem_drop hx)
theorem TM:∀ (n:Nat) (l:List Int) (m:Nat) (known:Bool),l.all BK=true→1≤m→m≤l.length→(grow n l m known).all BK=true∧(grow n l m known).length≤l.length
 | 0,l,m,known,_,_,_=>by simp[grow]
 | n+1,l,m,known,h,h0,h1=>by
  rw[grow]
  split
  ·rename_i hm
   split
   ·simp
   ·simp[ME l h];omega
  ·have hs:=FJ (n:=l.length) (by omega)
   have hp:=EL l.length
   split
   ·have ih:=TM n (l.take (split l.length)) m known (Dr h) h0 (by rw[List.length_take];omega)
    rw[List.length_take] at ih
    simp only[List.all_append,List.all_cons,List.all_nil,Bool.and_true,Bool.and_eq_true,List.length_append,List.length_singleton]
    exact⟨⟨ih.1,ME _ (Ey h)⟩,by omega⟩
   ·have ih:=TM n (l.drop (split l.length)) (m-split l.length) false (Ey h) (by omega) (by rw[List.length_drop];omega)
    rw[List.length_drop] at ih
    simp only[List.all_append,List.all_cons,List.all_nil,Bool.and_true,Bool.and_eq_true,List.length_append,List.length_singleton]
    exact⟨⟨ih.1,ME _ (Dr h)⟩,by omega⟩
theorem Gu {l:List Int}:DW l=true↔l.length≤40∧l.all BK=true:=by simp[DW]
theorem VD (l:List Int) (m:Int):DW (Dx l m)=true:=by
 unfold Dx
 split
 ·rename_i h
  simp only[Bool.and_eq_true,BB] at h
  have h1:=Gu.1 h.1
  have:=TM l.length l m.toNat true h1.2 (by omega) (by omega)
  exact Gu.2 ⟨by unfold growth;omega,this.1⟩
 ·rfl
theorem Uu (l:List FC) (m:Int):DW (Dn l m)=true:=by
 unfold Dn
 split
 ·exact VD _ _
 ·rfl
theorem X_ {h:Head}:E9 h=true↔(0≤h.size∧h.size≤40)∧BK h.log=true∧BK h.own=true:=by
 simp[E9,BB,and_assoc]
theorem UC (rows:List Row):BK (ownRoot rows)=true:=by
 unfold ownRoot
 split
 ·exact ME _ (KZ _)
 ·rfl
theorem WM {l:List FC} {h:Head}:Cw l=some h↔∃ rows,Bq l=some rows∧h=⟨l.length,root (l.map EF),ownRoot rows⟩:=by
 unfold Cw
 rw[Option.map_eq_some_iff]
 constructor
 ·rintro⟨r,h1,rfl⟩;exact⟨r,h1,rfl⟩
 ·rintro⟨r,h1,rfl⟩;exact⟨r,h1,rfl⟩
theorem Zf {l:List FC} {h:Head} (e:Cw l=some h):E9 h=true∧h.size=l.length:=by
 obtain⟨rows,h1,rfl⟩:=WM.1 e
 have:=(B_.1 h1).1
 rw[X_]
 exact⟨⟨by dsimp only;omega,ME _ (R6 _),UC _⟩,rfl⟩
theorem M8 (l:List FC):E9 ((Cw l).getD DX)=true:=by
 cases h:Cw l with
 | none=>decide
 | some x=>exact (Zf h).1
theorem Js:∀ (xs:List Int) (p:Int),DT p xs=true↔(∀ x∈xs,(0≤x∧x≤7)∧p<x)∧xs.Pairwise (· < ·)
 | [],p=>by simp[DT]
 | x::xs,p=>by
  rw[DT,Bool.and_eq_true,Bool.and_eq_true,BB,decide_eq_true_eq,Js xs]
  simp only[List.mem_cons,forall_eq_or_imp,List.pairwise_cons]
  constructor
  ·rintro⟨⟨h1,h2⟩,h3,h4⟩
   exact⟨⟨⟨h1,h2⟩,fun y hy=>⟨(h3 y hy).1,Int.lt_trans h2 (h3 y hy).2⟩⟩,fun y hy=>(h3 y hy).2,h4⟩
  ·rintro⟨⟨⟨h1,h2⟩,h3⟩,h4,h5⟩
   exact⟨⟨h1,h2⟩,fun y hy=>⟨(h3 y hy).1,h4 y hy⟩,h5⟩
theorem K8 {g:Gate}:DF g=true↔E9 g.head=true∧(∀ x∈g.done,0≤x∧x≤7)∧g.done.Pairwise (· < ·):=by
 unfold DF
 rw[Bool.and_eq_true,Js]
 constructor
 ·rintro⟨h1,h2,h3⟩;exact⟨h1,fun x hx=>(h2 x hx).1,h3⟩
 ·rintro⟨h1,h2,h3⟩;exact⟨h1,fun x hx=>⟨h2 x hx,by have:=h2 x hx;omega⟩,h3⟩
theorem NP {d x:Int}:∀ {ds:List Int},x∈insert d ds↔x=d∨x∈ds
 | []=>by simp[insert]
 | y::ys=>by
  rw[insert]
  split
  ·simp
  ·rw[List.mem_cons,NP,List.mem_cons]
   constructor
   ·rintro (h|h|h)
    ·exact .inr (.inl h)
    ·exact .inl h
    ·exact .inr (.inr h)
   ·rintro (h|h|h)
    ·exact .inr (.inl h)
    ·exact .inl h
    ·exact .inr (.inr h)
theorem LH {d:Int}:∀ {ds:List Int},ds.Pairwise (· < ·)→d ∉ ds→(insert d ds).Pairwise (· < ·)
 | [],_,_=>by simp[insert]
 | y::ys,h,hn=>by
  rw[List.pairwise_cons] at h
  simp only[List.mem_cons,not_or] at hn
  rw[insert]
  split
  ·rw[List.pairwise_cons,List.pairwise_cons]
   refine⟨fun x hx=>?_,h.1,h.2⟩
   rcases List.mem_cons.1 hx with rfl|hx
   ·assumption
   ·have:=h.1 x hx;omega
  ·rw[List.pairwise_cons]
   refine⟨fun x hx=>?_,LH h.2 hn.2⟩
   rcases NP.1 hx with rfl|hx
   ·omega
   ·exact h.1 x hx
theorem R5 {o h:Head} {p:List Int} (e:CU o h p=true):E9 o=true∧E9 h=true∧o.size≤h.size:=by
 simp only[CU,Bool.and_eq_true,decide_eq_true_eq] at e
 exact⟨e.1.1.1.1,e.1.1.1.2,e.1.1.2⟩
theorem WT {g:Gate} {h:Head} {p:List Int} (hg:DF g=true):DF (Ck g h p).1=true:=by
 unfold Ck
 rw[if_pos hg]
 split
 ·rename_i hf
  rw[K8] at hg ⊢
  exact⟨(R5 hf).2.1,hg.2⟩
 ·exact hg
theorem TP {g:Gate} {t who:Int} {r:Row} {p:List Int} (h:G7 g t who r p=true):(1≤who∧who≤5)∧who=r.who∧r.used=false∧t ∉ g.done∧(0≤t∧t≤7):=by
 simp only[G7,Hu,Bool.and_eq_true,BB,decide_eq_true_eq,Bool.not_eq_true'] at h
 refine⟨h.1.1.1.1,h.1.1.1.2,h.1.1.2,?_,h.2.1⟩
 have:=h.1.2
 intro hm
 simp[hm] at this
theorem WV {g:Gate} {t who:Int} {r:Row} {p:List Int} (hg:DF g=true):DF (CB g t who r p).1=true:=by
 unfold CB
 rw[if_pos hg]
 split
 ·rename_i hf
  have hf:=TP hf
  rw[K8] at hg ⊢
  refine⟨hg.1,fun x hx=>?_,LH hg.2.2 hf.2.2.2.1⟩
  rcases NP.1 hx with rfl|hx
  ·exact hf.2.2.2.2
  ·exact hg.2.1 x hx
 ·exact hg
theorem YG:DF Kg=true:=by
 rw[K8]
 exact⟨M8 [],by simp[Kg],by simp[Kg]⟩
structure Iu (w:World):Prop where
 Dt:GX w.AB=true
 first:DR w.first=true
 lines:w.lines.length≤300
 GU:w.AV.length=2
 Ir:w.BS.length≤6
 jC:∀ r∈w.lines,D_ r=true
 Yd:∀ g∈w.AV,DF g=true
 aj:∀ x∈w.BS,Fs x=true
theorem Am {w:World}:Cc w=true↔Iu w:=by
 simp only[Cc,Bool.and_eq_true,decide_eq_true_eq,List.all_eq_true]
 constructor
 ·rintro⟨⟨⟨⟨⟨⟨⟨h1,h2⟩,h3⟩,h4⟩,h5⟩,h6⟩,h7⟩,h8⟩;exact⟨h1,h2,h3,h4,h5,h6,h7,h8⟩
 ·rintro⟨h1,h2,h3,h4,h5,h6,h7,h8⟩;exact⟨⟨⟨⟨⟨⟨⟨h1,h2⟩,h3⟩,h4⟩,h5⟩,h6⟩,h7⟩,h8⟩
theorem K6 {w:World} (h:Iu w) {k:Int} (hk:0≤k∧k≤1):DF (Cb w k)=true:=by
 unfold Cb
 have hl:=h.GU
 obtain⟨g,hg⟩:∃ g,w.AV[k.toNat]?=some g:=⟨_,List.getElem?_eq_getElem (by omega)⟩
 rw[CP hg]
 exact h.Yd g (List.mem_of_getElem? hg)
theorem Qx {w:World} (h:Iu w) {i:Int} (hi:0≤i∧i≤(w.BS.length:Int)-1):Fs (Gj w i)=true:=by
 unfold Gj
 obtain⟨g,hg⟩:∃ g,w.BS[i.toNat]?=some g:=⟨_,List.getElem?_eq_getElem (by omega)⟩
 rw[CP hg]
 exact h.aj g (List.mem_of_getElem? hg)
theorem Z8 {w:World} (h:Iu w) (r:Ee):Iu (ask w r).1:=by
 unfold ask
 split
 ·rename_i hr
  simp only[Bool.and_eq_true,decide_eq_true_eq] at hr
  refine⟨Rj h.Dt hr.1,h.first,by simp;omega,h.GU,h.Ir,fun x hx=>?_,h.Yd,h.aj⟩
  rcases List.mem_append.1 hx with hx|hx
  ·exact h.jC x hx
  ·obtain rfl:=List.mem_singleton.1 hx
   simp[D_,hr.1]
 ·exact h
theorem Yh {w:World} (h:Iu w):Iu (Gg w):=by
 unfold Gg
 split
 ·rename_i hr
  simp only[Bool.and_eq_true,decide_eq_true_eq] at hr
  refine⟨Qf h.Dt hr.1,h.first,by simp;omega,h.GU,h.Ir,fun x hx=>?_,h.Yd,h.aj⟩
  rcases List.mem_append.1 hx with hx|hx
  ·exact h.jC x hx
  ·obtain rfl:=List.mem_singleton.1 hx
   rfl
 ·exact h
theorem LQ:∀ (rs:List Ee) (m x:CV),GX m=true→Df m rs=some x→GX x=true
 | [],m,x,h,e=>by simp[Df] at e;rw[← e];exact h
 | r::rs,m,x,h,e=>by
  rw[Df] at e
  split at e
  ·split at e
   ·cases e
   ·exact LQ rs _ x (Qf h ‹_›) e
  ·split at e
   ·exact LQ rs _ x (Rj h ‹_›) e
   ·cases e
theorem VO {first:List Int} {lines:List Ee} {x:CV} (e:Cr first lines=some x):GX x=true:=by
 unfold Cr at e
 split at e
 ·rename_i h
  simp only[Bool.and_eq_true,decide_eq_true_eq] at h
  exact LQ _ _ _ (BU.2 ⟨_,Mi h.1.1 h.1.2⟩) e
 ·cases e
theorem fM {w:World} (h:Iu w):Iu (fall w):=by
 refine⟨?_,h.first,h.lines,h.GU,by simp[fall],h.jC,h.Yd,by simp[fall]⟩
 show GX ((Cr w.first w.lines).getD w.AB)=true
 cases e:Cr w.first w.lines with
 | none=>exact h.Dt
 | some x=>exact VO e
theorem bK {w:World} (h:Iu w) (k:Int):Iu (send w k):=by
 unfold send
 split
 ·rename_i hr
  simp only[Bool.and_eq_true,decide_eq_true_eq,BB] at hr
  refine⟨h.Dt,h.first,h.lines,h.GU,by simp;omega,h.jC,h.Yd,fun x hx=>?_⟩
  rcases List.mem_append.1 hx with hx|hx
  ·exact h.aj x hx
  ·obtain rfl:=List.mem_singleton.1 hx
   simp only[Fs,Bool.and_eq_true,BB]
   exact⟨⟨hr.1,M8 _⟩,Uu _ _⟩
 ·exact h
theorem XH {w:World} (h:Iu w) (i:Int):Iu (lose w i):=
 ⟨h.Dt,h.first,h.lines,h.GU,Nat.le_trans (List.eraseIdx_sublist w.BS i.toNat).length_le h.Ir,h.jC,h.Yd,fun x hx=>h.aj x ((List.eraseIdx_sublist w.BS i.toNat).subset hx)⟩
theorem Qk {w:World} (h:Iu w) {k:Nat} {g:Gate} (hg:DF g=true):Iu { w with AV:=w.AV.set k g }:=by
 refine⟨h.Dt,h.first,h.lines,by simpa using h.GU,h.Ir,h.jC,fun x hx=>?_,h.aj⟩
 rcases List.mem_or_eq_of_mem_set hx with hx|rfl
 ·exact h.Yd x hx
 ·exact hg
theorem Zg {w:World} (h:Iu w) {x:IX} (hx:Fs x=true):Iu (heard w x):=by
 simp only[Fs,Bool.and_eq_true,BB] at hx
 exact Qk h (WT (K6 h hx.1.1))
theorem eY {w:World} (h:Iu w) {i:Int} (hi:0≤i∧i≤(w.BS.length:Int)-1):Iu (hear w i):=Zg (XH h i) (Qx h hi)
theorem Yg {w:World} (h:Iu w) {i:Int} (hi:0≤i∧i≤(w.BS.length:Int)-1):Iu (twice w i):=by
 unfold twice
 split
 ·refine⟨h.Dt,h.first,h.lines,h.GU,by simp;omega,h.jC,h.Yd,fun x hx=>?_⟩
  rcases List.mem_append.1 hx with hx|hx
  ·exact h.aj x hx
  ·obtain rfl:=List.mem_singleton.1 hx
   exact Qx h hi
 ·exact h
theorem Xl {w:World} (h:Iu w) (k t who:Int):Iu (Da w k t who).1:=by
 unfold Da
 split
 ·rename_i hr
  simp only[Bool.and_eq_true,decide_eq_true_eq,BB] at hr
  split
  ·exact h
  ·split
   ·exact Qk h (WV (K6 h hr.1.1))
   ·exact h
 ·exact h
theorem LB {w:World} (h:Iu w) (t:Int):Iu (Bp w t):=by
 unfold Bp
 split
 ·exact Z8 h _
 ·exact h
theorem Kk:∀ (ts:List Int) {w:World},Iu w→Iu (ts.foldl Bp w)
 | [],_,h=>h
 | t::ts,_,h=>Kk ts (LB h t)
theorem a_ {w:World} (h:Iu w) (k:Int):Iu (tell w k):=by
 unfold tell
 split
 ·exact Kk _ h
 ·exact h
theorem step_ok {w:World} (h:Iu w) (e:Ev):Iu (step w e).1:=by
 unfold step
 split
 ·exact Z8 h _
 split
 ·exact Yh h
 split
 ·exact fM h
 split
 ·exact bK h _
 split
 ·dsimp only;split
  ·exact eY h (BB.1 ‹_›)
  ·exact h
 split
 ·dsimp only;split
  ·exact XH h _
  ·exact h
 split
 ·dsimp only;split
  ·exact Yg h (BB.1 ‹_›)
  ·exact h
 split
 ·exact Xl h _ _ _
 split
 ·exact a_ h _
 ·exact h
theorem Xh {p:List Int} (hp:DR p=true) (hs:DV p≤100000):Iu (Jv p):=by
 have e:Jv p=⟨p,CY p,[],[Kg,Kg],[]⟩:=by simp[Jv,hp,hs]
 rw[e]
 exact⟨BU.2 ⟨_,Mi hp hs⟩,hp,by simp,rfl,by simp,by simp,by simp[YG],by simp⟩
theorem Sr:∀ (es:List Ev) {w:World},Iu w→Iu (Gx w es)
 | [],_,h=>h
 | e::es,_,h=>Sr es (step_ok h e)
end Go.Proofs.YtgaflnpmilikcaaGreat.Sw
namespace Go.Proofs.YtgaflnpmilikcaaGreat
open Go
section
variable {P:Program} {ops:Array Oper} {Q:Exit→Act→World→Prop} {md:Region.Mode} {S:World→Prop} {X:List Nat}
def Cq (P:Program) (md:Region.Mode) (ops:Array Oper) (Q:Exit→Act→World→Prop) (S:World→Prop) (X:List Nat):Nat→Array Bool→Act→World→Prop
 | 0=>fun l a w=>Region.ready md ops l=[]∧Q .normal a w
 | n+1=>fun l a w=>(Region.ready md ops l=[]→Q .normal a w)∧∀ i,i∈Region.ready md ops l→wpOp P ops Q i (fun b v=>(X.contains i=false→S v)∧Cq P md ops Q S X n (l.setIfInBounds i true) b v) a w
theorem Cq.any:∀ {n:Nat} {l:Array Bool} {a:Act} {w:World},Cq P md ops Q S X n l a w→wpAny P md ops Q n l a w
 | 0,_,_,_,h=>h
 | _+1,_,_,_,h=>⟨h.1,fun i hi=>wpOp_mono (fun _ _ k=>Cq.any k.2) (h.2 i hi)⟩
def M3 (md:Region.Mode) (ops:Array Oper) (X R:List Nat) (l:Array Bool) (i:Nat):Bool:=
 (R.all fun x=>!l.getD x true&&(match ops[x]? with|some o=>o.after.any (fun e=>Region.binds md e&&(e.on==i||R.contains e.on))|none=>false))&&X.all fun x=>l.getD x true||R.contains x
theorem Tm {l:Array Bool} {x:Nat}:(l.setIfInBounds x true).getD x true=true:=by
 by_cases hs:x<l.size
 ·simp[Array.getD,hs]
 ·simp[Array.getD,hs]
theorem SI {R:List Nat} {l:Array Bool} {i j:Nat} (h:M3 md ops X R l i=true) (hi:l.getD i true=false) (hj:j∈Region.ready md ops l):R.contains j=false:=by
 cases hx:R.contains j with
 | false=>rfl
 | true=>
  exfalso
  obtain⟨yO,o,ho,hall⟩:=mem_ready.1 hj
  have hR:=List.all_eq_true.1 (Bool.and_eq_true_iff.1 h).1
  have h1:=hR j (by simpa using hx)
  rw[ho,Bool.and_eq_true] at h1
  obtain⟨e,he,hb⟩:=Array.any_eq_true'.1 h1.2
  rw[Bool.and_eq_true,Bool.or_eq_true,beq_iff_eq] at hb
  have h2:=hall e he hb.1
  have h3:l.getD e.on true=false:=by
   rcases hb.2 with hb|hb
   ·rw[hb];exact hi
   ·have h4:=hR e.on (by simpa using hb)
    rw[Bool.and_eq_true,Bool.not_eq_true'] at h4
    exact h4.1
  by_cases hs:e.on<l.size
  ·simp[Array.getD,hs] at h2 h3;rw[h2] at h3;cases h3
  ·simp[Array.getD,hs] at h2
theorem dO {R:List Nat} {l:Array Bool} {i j:Nat} (h:M3 md ops X R l i=true) (hi:l.getD i true=false) (hj:j∈Region.ready md ops l):X.contains j=false:=by
 have h1:=SI h hi hj
 cases hx:X.contains j with
 | false=>rfl
 | true=>
  have h2:=List.all_eq_true.1 (Bool.and_eq_true_iff.1 h).2 j (by simpa using hx)
  rw[h1,(mem_ready.1 hj).1] at h2
  cases h2
theorem Vl {R:List Nat} {l:Array Bool} {i j:Nat} (h:M3 md ops X R l i=true) (hj:R.contains j=false):M3 md ops X R (l.setIfInBounds j true) i=true:=by
 obtain⟨h1,h2⟩:=Bool.and_eq_true_iff.1 h
 refine Bool.and_eq_true_iff.2 ⟨List.all_eq_true.2 fun x hx=>?_,List.all_eq_true.2 fun x hx=>?_⟩
 ·have h3:=List.all_eq_true.1 h1 x hx
  have Zc:j≠x:=by
   rintro rfl
   simp at hj
   exact hj hx
  rw[getD_set_ne true Zc];exact h3
 ·have h3:=List.all_eq_true.1 h2 x hx
  by_cases Zc:j=x
  ·subst Zc
   rw[Tm];rfl
  ·rw[getD_set_ne true Zc];exact h3
theorem YH {l:Array Bool} {i j:Nat} (h:Region.free md ops l i=true):Region.free md ops (l.setIfInBounds j true) i=true:=by
 unfold Region.free at h ⊢
 cases hi:ops[i]? with
 | none=>rw[hi] at h;exact h
 | some oi=>
  rw[hi] at h
  dsimp only at h ⊢
  rw[List.all_eq_true] at h ⊢
  intro x hx
  have h1:=h x hx
  by_cases Zc:j=x
  ·subst Zc
   simp[Tm]
  ·rw[getD_set_ne true Zc];exact h1
theorem Cq.first {T:World→Prop} {R:List Nat} {i:Nat} {oi:Oper} {v:Value} (hi:ops[i]?=some oi) (hsel:Region.noSelect ops=true)
  (hQ:∀ c a w,Q (.panic c) (a.put oi.dst v) w→Q (.panic c) a w):∀ (n:Nat) (l:Array Bool) (a:Act) (w:World),
   ((X.contains i=true∧∀ w,T w)∨(M3 md ops X R l i=true∧(∀ w,S w→T w)∧S w))→Region.free md ops l i=true→i∈Region.ready md ops l→YieldsIf P ops T oi v a →
   Cq P md ops Q S X n (l.setIfInBounds i true) (a.put oi.dst v) w→Cq P md ops Q S X (n+1) l a w:=by
 have ns:=Region.noSelect_spec hsel
 intro n
 induction n with
 | zero=>
  intro l a w rz _ hr hy H
  refine⟨fun h=>absurd (h▸hr) (List.not_mem_nil),fun j hj=>?_⟩
  rcases Decidable.em (j=i) with rfl|hji
  ·rcases rz with⟨h1,h2⟩ | ⟨h1,h2,h3⟩
   ·exact hy.wpOp hi (h2 w) ⟨fun h=>(by rw[h1] at h;cases h),H⟩
   ·exact hy.wpOp hi (h2 w h3) ⟨fun _=>h3,H⟩
  ·exact absurd (H.1▸ready_mono hj hji) (List.not_mem_nil)
 | succ n ih=>
  intro l a w rz hf hr hy H
  refine⟨fun h=>absurd (h▸hr) (List.not_mem_nil),fun j hj=>?_⟩
  rcases Decidable.em (j=i) with rfl|hji
  ·rcases rz with⟨h1,h2⟩ | ⟨h1,h2,h3⟩
   ·exact hy.wpOp hi (h2 w) ⟨fun h=>(by rw[h1] at h;cases h),H⟩
   ·exact hy.wpOp hi (h2 w h3) ⟨fun _=>h3,H⟩
  obtain⟨yO,oj,hoj,hall⟩:=mem_ready.1 hj
  have nO:=(mem_ready.1 hr).1
  have hno:∀ e∈oj.after,Region.binds md e=true→e.on≠i:=by
   rintro e he hb rfl
   have h1:=hall e he hb
   by_cases hs:e.on<l.size
   ·simp[Array.getD,hs] at h1 nO;rw[h1] at nO;cases nO
   ·simp[Array.getD,hs] at h1
  have key:=wpOp_putIf hoj (Region.free_spec hi hf j oj hoj hji yO hno) (fun cs b=>ns i oi cs b hi) (fun cs b=>ns j oj cs b hoj) hQ hy (H.2 j (ready_mono hj hji))
  refine wpOp_mono (fun b u k=>⟨k.2.1,?_⟩) key
  refine ih _ b u (rz.imp id (fun h=>⟨Vl h.1 (SI h.1 nO hj),h.2.1,k.2.1 (dO h.1 nO hj)⟩)) (YH hf) (ready_mono hr (Ne.symm hji)) k.1 ?_
  rw[Array.setIfInBounds_comm _ _ hji]
  exact k.2.2
theorem Cq.take (i d:Nat) (R:List Nat) {v:Value} {oi:Oper} {n:Nat} {l:Array Bool} {a b:Act} {w:World} (hS:S w) (hi:ops[i]?=some oi:=by rfl) (hd:oi.dst=some d:=by rfl)
  (hs:Region.noSelect ops=true:=by kernel_rfl) (hf:Region.free md ops l i=true:=by kernel_rfl) (hr:(Region.ready md ops l).contains i=true:=by kernel_rfl) (hl:M3 md ops X R l i=true:=by kernel_rfl)
  (hw:Region.wanted oi (yielded ops a.tmps)=true:=by rfl) (hy:∀ w,S w→(execOp a.eval oi).run P w=.ok (.value v) w:=by (intro w hSw;(try dsimp only at hSw);go_simp;(try with_reducible rfl)))
  (hQ:∀ c a w,Q (.panic c) (a.put (some d) v) w→Q (.panic c) a w:=by (exact (fun _ _ _ h=>h))) (hb:a.put (some d) v=b:=by (simp only[Act.put,List.setIfInBounds_toArray,List.set_cons_zero,List.set_cons_succ];rfl))
  (h:Cq P md ops Q S X n (l.setIfInBounds i true) b w):Cq P md ops Q S X (n+1) l a w:=
 Cq.first (T:=S) hi hs (by rw[hd];exact hQ) n l a w (.inr ⟨hl,fun _ h=>h,hS⟩) hf (by simpa using hr) (.inl ⟨hw,hy⟩) (by rw[hd,hb];exact h)
theorem tk (i d:Nat) {v:Value} {oi:Oper} {n:Nat} {l:Array Bool} {a b:Act} {w:World} (hS:S w:=by exact hHeld) (hi:ops[i]?=some oi:=by rfl) (hd:oi.dst=some d:=by rfl)
  (hs:Region.noSelect ops=true:=by kernel_rfl) (hf:Region.free md ops l i=true:=by kernel_rfl) (hr:(Region.ready md ops l).contains i=true:=by kernel_rfl) (hl:M3 md ops X [] l i=true:=by kernel_rfl)
  (hw:Region.wanted oi (yielded ops a.tmps)=true:=by rfl) (hy:∀ w,S w→(execOp a.eval oi).run P w=.ok (.value v) w:=by (intro w hSw;(try dsimp only at hSw);go_simp;(try with_reducible rfl)))
  (hQ:∀ c a w,Q (.panic c) (a.put (some d) v) w→Q (.panic c) a w:=by (exact (fun _ _ _ h=>h))) (hb:a.put (some d) v=b:=by (simp only[Act.put,List.setIfInBounds_toArray,List.set_cons_zero,List.set_cons_succ];rfl))
  (h:Cq P md ops Q S X n (l.setIfInBounds i true) b w):Cq P md ops Q S X (n+1) l a w:=
 Cq.first (T:=S) hi hs (by rw[hd];exact hQ) n l a w (.inr ⟨hl,fun _ h=>h,hS⟩) hf (by simpa using hr) (.inl ⟨hw,hy⟩) (by rw[hd,hb];exact h)
theorem Cq.nG (i d:Nat) {v:Value} {oi:Oper} {n:Nat} {l:Array Bool} {a b:Act} {w:World} (hi:ops[i]?=some oi:=by rfl) (hd:oi.dst=some d:=by rfl)
  (hs:Region.noSelect ops=true:=by kernel_rfl) (hf:Region.free md ops l i=true:=by kernel_rfl) (hr:(Region.ready md ops l).contains i=true:=by kernel_rfl) (hx:X.contains i=true:=by kernel_rfl)
  (hw:Region.wanted oi (yielded ops a.tmps)=true:=by rfl) (hy:∀ w,(execOp a.eval oi).run P w=.ok (.value v) w:=by (intro w;go_simp;(try with_reducible rfl)))
  (hQ:∀ c a w,Q (.panic c) (a.put (some d) v) w→Q (.panic c) a w:=by (exact (fun _ _ _ h=>h))) (hb:a.put (some d) v=b:=by (simp only[Act.put,List.setIfInBounds_toArray,List.set_cons_zero,List.set_cons_succ];rfl))
  (h:Cq P md ops Q S X n (l.setIfInBounds i true) b w):Cq P md ops Q S X (n+1) l a w:=
 Cq.first (T:=fun _=>True) (R:=[]) hi hs (by rw[hd];exact hQ) n l a w (.inl ⟨hx,fun _=>trivial⟩) hf (by simpa using hr) (.inl ⟨hw,fun w _=>hy w⟩) (by rw[hd,hb];exact h)
theorem Cq.skip (i d:Nat) (R:List Nat) {oi:Oper} {n:Nat} {l:Array Bool} {a b:Act} {w:World} (hS:S w) (hi:ops[i]?=some oi:=by rfl) (hd:oi.dst=some d:=by rfl)
  (hs:Region.noSelect ops=true:=by kernel_rfl) (hf:Region.free md ops l i=true:=by kernel_rfl) (hr:(Region.ready md ops l).contains i=true:=by kernel_rfl) (hl:M3 md ops X R l i=true:=by kernel_rfl)
  (hw:Region.wanted oi (yielded ops a.tmps)=false:=by rfl)
  (hQ:∀ c a w,Q (.panic c) (a.put (some d) undef) w→Q (.panic c) a w:=by (exact (fun _ _ _ h=>h))) (hb:a.put (some d) undef=b:=by (simp only[Act.put,List.setIfInBounds_toArray,List.set_cons_zero,List.set_cons_succ];rfl))
  (h:Cq P md ops Q S X n (l.setIfInBounds i true) b w):Cq P md ops Q S X (n+1) l a w:=
 Cq.first (T:=S) hi hs (by rw[hd];exact hQ) n l a w (.inr ⟨hl,fun _ h=>h,hS⟩) hf (by simpa using hr) (.inr ⟨hw,rfl⟩) (by rw[hd,hb];exact h)
def Fx (P:Program) (md:Region.Mode) (ops:Array Oper) (Q:Exit→Act→World→Prop) (S:World→Prop) (X:List Nat) (n:Nat) (l:Array Bool) (a:Act) (w:World) (rs:List Nat):Prop:=
 ∀ i,i∈rs→wpOp P ops Q i (fun b v=>(X.contains i=false→S v)∧Cq P md ops Q S X n (l.setIfInBounds i true) b v) a w
theorem Fx.nil {n:Nat} {l:Array Bool} {a:Act} {w:World}:Fx P md ops Q S X n l a w []:=fun _ h=>absurd h List.not_mem_nil
theorem Fx.put {n:Nat} {l:Array Bool} {a:Act} {w:World} {i:Nat} {o:Oper} {rs:List Nat} (ho:ops[i]?=some o) 
  (h:∀ K:Act→World→Prop,Shut (∀ b v,(X.contains i=false→S v)→Cq P md ops Q S X n (l.setIfInBounds i true) b v→K b v)→if Region.wanted o (yielded ops a.tmps)=true then Oper.wp P o a w K Q else K (a.put o.dst undef) w)
  (hs:Fx P md ops Q S X n l a w rs):Fx P md ops Q S X n l a w (i::rs):=fun j hj=>by
 rcases List.mem_cons.1 hj with rfl|hj
 ·exact wpOp_step ho (fun K hK=>h K (fun b v h1 h2=>hK b v ⟨h1,h2⟩))
 ·exact hs j hj
theorem Fx.cons {n:Nat} {l:Array Bool} {a:Act} {w:World} {i:Nat} {o:Oper} {rs:List Nat} (ho:ops[i]?=some o)
  (h:∀ K:Act→World→Prop,Shut (∀ b v,S v→(S v→Cq P md ops Q S X n (l.setIfInBounds i true) b v)→K b v)→if Region.wanted o (yielded ops a.tmps)=true then Oper.wp P o a w K Q else K (a.put o.dst undef) w)
  (hs:Fx P md ops Q S X n l a w rs):Fx P md ops Q S X n l a w (i::rs):=
 Fx.put ho (fun K hK=>h K (fun b v hS hG=>hK b v (fun _=>hS) (hG hS))) hs
theorem Fx.last {n:Nat} {l:Array Bool} {a:Act} {w:World} {i:Nat} {o:Oper} {rs:List Nat} (ho:ops[i]?=some o) (hx:X.contains i=true)
  (h:∀ K:Act→World→Prop,Shut (∀ b v,Cq P md ops Q S X n (l.setIfInBounds i true) b v→K b v)→if Region.wanted o (yielded ops a.tmps)=true then Oper.wp P o a w K Q else K (a.put o.dst undef) w)
  (hs:Fx P md ops Q S X n l a w rs):Fx P md ops Q S X n l a w (i::rs):=
 Fx.put ho (fun K hK=>h K (fun b v hG=>hK b v (fun h=>by rw[hx] at h;cases h) hG)) hs
theorem Cq.ready {rs:List Nat} {n:Nat} {l:Array Bool} {a:Act} {w:World} (hr:Region.ready md ops l=rs) (hne:rs≠[]) (h:Fx P md ops Q S X n l a w rs):Cq P md ops Q S X (n+1) l a w:=
 ⟨fun h0=>absurd (hr▸h0) hne,fun i hi=>h i (hr▸hi)⟩
theorem Cq.done {l:Array Bool} {a:Act} {w:World} (hr:Region.ready md ops l=[]) (h:Q .normal a w):∀ n,Cq P md ops Q S X n l a w
 | 0=>⟨hr,h⟩
 | _+1=>⟨fun _=>h,fun i hi=>absurd (hr▸hi) List.not_mem_nil⟩
theorem CQ {n:Nat} {l:Array Bool} {a b:Act} {w:World} {K:Act→World→Prop} (hK:Shut (∀ b v,S v→(S v→Cq P md ops Q S X n l b v)→K b v)) (hS:S w)
  (hb:a=b:=by first|rfl|(simp only[Act.put,List.getElem_toArray,List.getElem_cons_succ,List.getElem_cons_zero,List.setIfInBounds_toArray,List.set_cons_zero,List.set_cons_succ];rfl)) (h:S w→Cq P md ops Q S X n l b w):K a w:=by
 subst hb;exact hK.out _ _ hS h
theorem ER {n:Nat} {l:Array Bool} {a b:Act} {w:World} {K:Act→World→Prop} (hK:Shut (∀ b v,Cq P md ops Q S X n l b v→K b v))
  (hb:a=b:=by first|rfl|(simp only[Act.put,List.getElem_toArray,List.getElem_cons_succ,List.getElem_cons_zero,List.setIfInBounds_toArray,List.set_cons_zero,List.set_cons_succ];rfl)) (h:Cq P md ops Q S X n l b w):K a w:=by
 subst hb;exact hK.out _ _ h
theorem Aj (X:List Nat) {id:Nat} {a:Act} {w:World} (hS:S w.drew)
  (h:S w.drew→Cq P .any ops Q S X ops.size (Array.replicate ops.size false) a w.drew) (hm:P.follows .mixedOrders=true:=by kernel_rfl):(Code.region id ops true).wp P Q a w:=wp_region_any hm (Cq.any (h hS))
end
theorem DC {p:Prop} (h:p:=by ((try dsimp only);(first|with_reducible assumption|with_reducible exact Held.start _|with_reducible exact Held.of (by assumption)|with_reducible exact Held.ex (by assumption) (by assumption)|((repeat (first|with_reducible refine Held.set ?_ (by simp only[BO];omega)|with_reducible refine Held.alloc ?_ _|with_reducible refine Held.drew ?_));(first|with_reducible assumption|with_reducible exact Held.refl _|with_reducible exact Held.of (by assumption)|with_reducible exact Held.ex (by assumption) (by assumption)))|exact Held.of (by exact AA)))):p:=h
theorem MQ {p:Prop} (h:p:=by ((try dsimp only);(first|assumption|exact Ce.of (by assumption)|exact Ce.start _ _|exact Ce.ch (by assumption) (by assumption)|exact Ce.ex (by assumption) (by assumption)|exact Ce.alloc (by assumption) _|exact Ce.set (by assumption) (by simp only[BO];omega)))):p:=h
end Go.Proofs.YtgaflnpmilikcaaGreat
