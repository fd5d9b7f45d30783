/- Texts joined: Plain10, Plain12, Plain14, PlainE. -/
import Derived.Test.YtgaflnpmilikcaaGreatPx4
import Derived.Test.YtgaflnpmilikcaaGreatPx5
set_option maxRecDepth 100000
set_option linter.unusedSimpArgs false
set_option linter.unusedVariables false
namespace Go.Proofs.YtgaflnpmilikcaaGreat.Sw
open Go.RowKit (wrap64)
end Go.Proofs.YtgaflnpmilikcaaGreat.Sw
namespace Go.Proofs.YtgaflnpmilikcaaGreat.Sw
theorem YR (w:World) (r:Ee):∃ ls,(ask w r).1.lines=w.lines ++ ls∧ls.length≤1∧((ask w r).2≠0→ls.length=1)∧(ask w r).1.AV=w.AV∧(ask w r).1.BS=w.BS∧(ask w r).1.first=w.first:=by
 unfold ask
 split
 ·exact⟨[r],rfl,by simp,by simp,rfl,rfl,rfl⟩
 ·exact⟨[],by simp,by simp,by simp,rfl,rfl,rfl⟩
theorem fu {w:World} (h:Iu w) (r:Ee):∃ es,(ask w r).1.AB.log=w.AB.log ++ es:=by
 unfold ask
 split
 ·rename_i hr
  simp only[Bool.and_eq_true,decide_eq_true_eq] at hr
  obtain⟨rows,hm⟩:=BU.1 h.Dt
  rcases Zz hm hr.1 with e | ⟨x,e⟩
  ·exact⟨[],by rw[List.append_nil];exact e⟩
  ·exact⟨[x],e⟩
 ·exact⟨[],by simp⟩
theorem Ru {w:World} (h:Iu w) (t:Int):∃ ls,(Bp w t).lines=w.lines ++ ls∧ls.length≤1∧(Bp w t).AV=w.AV∧(Bp w t).BS=w.BS∧∃ es,(Bp w t).AB.log=w.AB.log ++ es:=by
 unfold Bp
 split
 ·obtain⟨ls,h1,h2,h3,h4,h5,h6⟩:=YR w ⟨(rowAt (CS w.AB) t).who,lastOf w.AB.nums (rowAt (CS w.AB) t).who+1,6,t,0,0⟩
  exact⟨ls,h1,h2,h4,h5,fu h _⟩
 ·exact⟨[],by simp,by simp,rfl,rfl,[],by simp⟩
theorem Py:∀ (ts:List Int) {w:World},Iu w→∃ ls,(ts.foldl Bp w).lines=w.lines ++ ls∧ls.length≤ts.length∧(ts.foldl Bp w).AV=w.AV∧(ts.foldl Bp w).BS=w.BS∧∃ es,(ts.foldl Bp w).AB.log=w.AB.log ++ es
 | [],w,h=>⟨[],by simp,by simp,rfl,rfl,[],by simp⟩
 | t::ts,w,h=>by
  obtain⟨l1,a1,a2,a3,a4,e1,a5⟩:=Ru h t
  obtain⟨l2,b1,b2,b3,b4,e2,b5⟩:=Py ts (LB h t)
  refine⟨l1 ++ l2,?_,by simp;omega,?_,?_,e1 ++ e2,?_⟩
  ·rw[List.foldl_cons,b1,a1,List.append_assoc]
  ·rw[List.foldl_cons,b3,a3]
  ·rw[List.foldl_cons,b4,a4]
  ·rw[List.foldl_cons,b5,a5,List.append_assoc]
theorem WX {g:Gate} (h:DF g=true):g.done.length≤8:=by
 have key:∀ (xs:List Int) (p:Int),DT p xs=true → -1≤p→p≤7→(xs.length:Int)≤7-p:=by
  intro xs
  induction xs with
  | nil=>intro p _ _ _;simp only[List.length_nil];omega
  | cons x xs ih=>
   intro p h hp hq
   simp only[DT,Bool.and_eq_true,decide_eq_true_eq,Br] at h
   have:=ih x h.2 (by omega) (by omega)
   simp only[List.length_cons]
   omega
 simp only[DF,Bool.and_eq_true] at h
 have:=key g.done (-1) h.2 (by omega) (by omega)
 omega
theorem VR {w:World} (h:Iu w) (k:Int):∃ ls,(tell w k).lines=w.lines ++ ls∧ls.length≤8∧(tell w k).AV=w.AV∧(tell w k).BS=w.BS∧∃ es,(tell w k).AB.log=w.AB.log ++ es:=by
 unfold tell
 split
 ·rename_i hk
  obtain⟨ls,h1,h2,h3,h4,h5⟩:=Py (Cb w k).done h
  have:=WX (K6 h (BB.1 hk))
  exact⟨ls,h1,by omega,h3,h4,h5⟩
 ·exact⟨[],by simp,by simp,rfl,rfl,[],by simp⟩
def Let (w x:World) (k t who:Int):Prop:=
 (0≤k∧k≤1)∧(0≤t∧t≤7)∧(Cb w k).head.size≤w.AB.log.length∧∃ rows,Bq (w.AB.log.take (Cb w k).head.size.toNat)=some rows ∧
  G7 (Cb w k) t who (rowAt rows t) (Dl rows t)=true∧x.AV=w.AV.set k.toNat ⟨(Cb w k).head,insert t (Cb w k).done⟩
structure Turns (w:World) (e:Ev) (x:World) (n:Int):Prop where
 lines:∃ ls,x.lines=w.lines ++ ls∧ls.length≤(if e.kind=1∨e.kind=2 then 1 else if e.kind=9 then 8 else 0)∧(e.kind=1→n≠0→ls.length=1)
 AV:x.AV=w.AV∧¬(e.kind=8∧n=1) ∨
  (e.kind=5∧∃ (k:Nat) (g y:Gate),w.AV[k]?=some g∧x.AV=w.AV.set k y∧y.done=g.done∧g.head.size≤y.head.size) ∨
  (e.kind=8∧n=1∧Let w x e.at_ e.ticket e.who)
end Go.Proofs.YtgaflnpmilikcaaGreat.Sw
namespace Go.Proofs.YtgaflnpmilikcaaGreat.Sw
structure YT (w x:World):Prop where
 AJ:x.AB.AJ=w.AB.AJ
 log:∃ es,x.AB.log=w.AB.log ++ es∧∀ e∈es,e.kind=3
 nums:∀ u,1≤u∧u≤5→lastOf w.AB.nums u≤lastOf x.AB.nums u
 lines:w.lines.length≤x.lines.length
theorem YT.refl (w:World):YT w w:=⟨rfl,⟨[],by simp,by simp⟩,fun _ _=>Int.le_refl _,Nat.le_refl _⟩
theorem YT.trans {a b c:World} (h:YT a b) (k:YT b c):YT a c:=by
 obtain⟨e1,h1,h2⟩:=h.log
 obtain⟨e2,k1,k2⟩:=k.log
 refine⟨k.AJ.trans h.AJ,⟨e1 ++ e2,by rw[k1,h1,List.append_assoc],fun e he=>?_⟩,fun u hu=>Int.le_trans (h.nums u hu) (k.nums u hu),Nat.le_trans h.lines k.lines⟩
 rcases List.mem_append.1 he with he|he
 ·exact h2 e he
 ·exact k2 e he
theorem UF {m x:CV} {rows:List Row} {r:Ee} {a:Int} (h:IL m rows) (hr:CR r=true) (hx:x.nums=m.nums) (hn:lastOf m.nums r.user<r.n):∀ u,1≤u∧u≤5→lastOf m.nums u≤lastOf (Il x r a).nums u:=by
 intro u hu
 show _≤lastOf (x.nums.set _ _) u
 rw[Vm (by rw[hx,h.NL]) (EB.1 hr).1 hu.1,hx]
 split
 ·rename_i e;subst e;omega
 ·exact Int.le_refl _
theorem P5 {w:World} (h:Iu w) (t:Int):YT w (Bp w t):=by
 unfold Bp
 split
 ·unfold ask
  split
  ·rename_i hr
   simp only[Bool.and_eq_true,decide_eq_true_eq] at hr
   obtain⟨rows,hm⟩:=BU.1 h.Dt
   generalize hq:(⟨(rowAt (CS w.AB) t).who,lastOf w.AB.nums (rowAt (CS w.AB) t).who+1,6,t,0,0⟩:Ee)=q at hr ⊢
   have hk:q.kind=6:=by rw[← hq]
   have hd:=did hm hr.1
   refine⟨?_,?_,?_,by simp⟩
   ·show (EZ w.AB q).1.AJ=_
    generalize (EZ w.AB q).1=x at hd
    generalize (EZ w.AB q).2=n at hd
    cases hd with
    | again _=>rfl
    | old _=>rfl
    | no a _ _ _=>rfl
    | yes y _ d _=>cases d <;> first|rfl|omega
   ·show ∃ es,(EZ w.AB q).1.log=_∧_
    generalize (EZ w.AB q).1=x at hd
    generalize (EZ w.AB q).2=n at hd
    cases hd with
    | again _=>exact⟨[],by simp,by simp⟩
    | old _=>exact⟨[],by simp,by simp⟩
    | no a _ _ _=>exact⟨[],by simp[Il],by simp⟩
    | yes y _ d _=>cases d <;> first|omega|exact⟨[_],rfl,by simp⟩
   ·show ∀ u,_→_≤lastOf (EZ w.AB q).1.nums u
    generalize (EZ w.AB q).1=x at hd
    generalize (EZ w.AB q).2=n at hd
    cases hd with
    | again _=>exact fun u _=>Int.le_refl _
    | old _=>exact fun u _=>Int.le_refl _
    | no a h1 _ _=>exact UF hm hr.1 rfl h1
    | yes y h1 d e=>exact UF hm hr.1 e.nums h1
  ·exact YT.refl w
 ·exact YT.refl w
theorem PS:∀ (ts:List Int) {w:World},Iu w→YT w (ts.foldl Bp w)
 | [],w,_=>YT.refl w
 | t::ts,w,h=>(P5 h t).trans (PS ts (LB h t))
theorem iH {t:Int} (ht:0≤t):∀ (es:List FC) (rows r:List Row),DY rows es=some r→EH rows=true→(∀ e∈es,e.kind=3)→(rowAt r t).who=(rowAt rows t).who∧((rowAt rows t).used=true→(rowAt r t).used=true)
 | [],rows,r,h,_,_=>by simp only[DY,Option.some.injEq] at h;rw[h];exact⟨rfl,fun h=>h⟩
 | e::es,rows,r,h,ho,hk=>by
  rw[DY] at h
  split at h
  ·rename_i hf
   have h3:=hk e (List.mem_cons_self ..)
   obtain⟨h1,h2,_⟩:=FN.1 hf
   obtain⟨a,b⟩:=iH ht es (JE rows e) r h (Qt hf) fun x hx=>hk x (List.mem_cons_of_mem _ hx)
   have hp:=Jr (Ct ho) (FH.1 h2).1 ht
   by_cases hte:t=e.ticket
   ·rw[if_pos hte] at hp
    have hq:putRow (rowAt rows e.ticket) e=⟨(rowAt rows e.ticket).who,(rowAt rows e.ticket).EY,true⟩:=by simp[putRow,h3]
    rw[hp,hq] at a b
    exact⟨a.trans (by rw[hte]),fun _=>b rfl⟩
   ·rw[if_neg hte] at hp
    rw[hp] at a b
    exact⟨a,b⟩
  ·cases h
theorem YT.row {w x:World} (h:Iu w) (k:Iu x) (hT:YT w x) {t:Int} (ht:0≤t):(rowAt (CS x.AB) t).who=(rowAt (CS w.AB) t).who∧((rowAt (CS w.AB) t).used=true→(rowAt (CS x.AB) t).used=true):=by
 obtain⟨rows,hm⟩:=BU.1 h.Dt
 obtain⟨r,hn⟩:=BU.1 k.Dt
 obtain⟨es,h1,h2⟩:=hT.log
 have hx:=(B_.1 hn.fold).2
 rw[h1,JX,(B_.1 hm.fold).2] at hx
 rw[Cu hm.fold,Cu hn.fold]
 exact iH ht es rows r hx (Bv hm.fold) h2
theorem QO {w:World} (h:Iu w) {t:Int} (ht:0≤t∧t≤7) (h1:0<(rowAt (CS w.AB) t).who) (h2:(rowAt (CS w.AB) t).used=false) (h3:∀ d∈w.AB.AJ,d.ticket≠t)
  (h4:w.AB.log.length<40) (h5:w.lines.length<300) (h6:lastOf w.AB.nums (rowAt (CS w.AB) t).who<99999):(rowAt (CS (Bp w t).AB) t).used=true:=by
 obtain⟨rows,hm⟩:=BU.1 h.Dt
 rw[Cu hm.fold] at h1 h2 h6
 have hro:=IQ.1 (J4 (Bv hm.fold) t)
 have hw:1≤(rowAt rows t).who∧(rowAt rows t).who≤5:=by omega
 have AA3:=Kr.1 (Sn hm hw)
 unfold Bp
 rw[Cu hm.fold,if_pos (by simp[h1,h2,h6])]
 have hr:CR ⟨(rowAt rows t).who,lastOf w.AB.nums (rowAt rows t).who+1,6,t,0,0⟩=true:=by
  rw[EB];dsimp only;omega
 unfold ask
 rw[if_pos (by simp[hr,h5])]
 show (rowAt (CS (EZ w.AB _).1) t).used=true
 rw[Zy (by dsimp only;omega)]
 have hdn:BH w.AB.AJ t=none:=by
  unfold BH
  rw[List.findIdx?_eq_none_iff]
  intro d hd
  simpa using h3 d hd
 have e1:effect w.AB ⟨(rowAt rows t).who,lastOf w.AB.nums (rowAt rows t).who+1,6,t,0,0⟩=({ w.AB with log:=w.AB.log ++ [⟨3,t,(rowAt rows t).who,0⟩] },1):=by
  have:w.AB.log.length≠40:=by omega
  simp[effect,enter,Cu hm.fold,h2,hdn,this]
 rw[e1]
 have hf:Bn rows ⟨3,t,(rowAt rows t).who,0⟩=true:=by
  rw[FN]
  refine⟨Bv hm.fold,?_,?_⟩
  ·rw[FH];dsimp only;omega
  ·simp[DI,h2]
 have hs:=Ik hm.fold h4 hf
 show (rowAt (CS { w.AB with log:=w.AB.log ++ [⟨3,t,(rowAt rows t).who,0⟩] }) t).used=true
 rw[Cu (m:={ w.AB with log:=w.AB.log ++ [⟨3,t,(rowAt rows t).who,0⟩] }) hs,Jr (Ct (Bv hm.fold)) ht ht.1,if_pos rfl]
 simp[putRow]
theorem Xi {w:World} (h:Iu w) {k:Int} (hk:0≤k∧k≤1) {t:Int} (ht:t∈(Cb w k).done) (h1:0<(rowAt (CS (tell w k).AB) t).who) (h2:(rowAt (CS (tell w k).AB) t).used=false)
  (h3:La w.AB.AJ t=none) (h4:(tell w k).AB.log.length<40) (h5:(tell w k).lines.length<300) (h6:lastOf (tell w k).AB.nums (rowAt (CS (tell w k).AB) t).who<99999):False:=by
 have hg:=K6 h hk
 have rP:=(K8.1 hg).2.1 t ht
 obtain⟨a,b,hab⟩:=List.append_of_mem ht
 have ex:tell w k=b.foldl Bp (Bp (a.foldl Bp w) t):=by
  unfold tell
  rw[if_pos (BB.2 hk),hab,List.foldl_append,List.foldl_cons]
 rw[ex] at h1 h2 h4 h5 h6
 have o1:=Kk a h
 have T1:=PS a h
 have o2:=LB o1 t
 have T2:=P5 o1 t
 have o3:=Kk b o2
 have T3:=PS b o2
 generalize a.foldl Bp w=w1 at *
 generalize b.foldl Bp (Bp w1 t)=x at *
 have r12:=T2.row o1 o2 rP.1
 have r23:=T3.row o2 o3 rP.1
 have R:=(T2.trans T3).row o1 o3 rP.1
 obtain⟨e13,l13,_⟩:=(T2.trans T3).log
 have L13:=(T2.trans T3).lines
 have hro:(rowAt (CS x.AB) t).who≤5:=by
  obtain⟨rows,hm⟩:=BU.1 o3.Dt
  have:=IQ.1 (J4 (Bv hm.fold) t)
  rw[Cu hm.fold]
  omega
 have N13:=(T2.trans T3).nums (rowAt (CS x.AB) t).who (by omega)
 have hu:(rowAt (CS w1.AB) t).used=false:=by
  cases hc:(rowAt (CS w1.AB) t).used with
  | false=>rfl
  | true=>rw[R.2 hc] at h2;cases h2
 rw[l13,List.length_append] at h4
 have hent:=QO o1 rP (by rw[← R.1];exact h1) hu (by rw[T1.AJ];exact VC.1 h3) (by omega) (by omega) (by rw[← R.1];omega)
 rw[r23.2 hent] at h2
 cases h2
def newest (w:World) (k:Int):World:={ w with AV:=w.AV.set k.toNat ⟨(Cw w.AB.log).getD DX,(Cb w k).done⟩,BS:=[] }
end Go.Proofs.YtgaflnpmilikcaaGreat.Sw
namespace Go.Proofs.YtgaflnpmilikcaaGreat.Sw
theorem Sz {z:World} (h:Cc z=true) {k:Int} (h2:k≠2) (h3:k≠3):Cg z ⟨k,Eu,9,0,0⟩=(z,0):=by
 have hb:=(Am.1 h).Ir
 have h9:Br 9 0 ((z.BS.length:Int)-1)=false:=by
  rw[Bool.eq_false_iff];intro hh;have:=BB.1 hh;omega
 have h1:Br 9 0 1=false:=rfl
 simp only[Cg,h,if_true,step,ask,dA,Bool.false_and,send,tell,Da,h9,h1,if_neg h2,if_neg h3]
 (repeat' split) <;> first|rfl|simp_all
theorem ic {z:World} {e:Ev} (k:e.kind=1):step z e=ask z e.EK:=by simp[step,k]
theorem iZ {z:World} {e:Ev} (k:e.kind=4):step z e=(send z e.at_,0):=by simp[step,k]
theorem iY {z:World} {e:Ev} (k:e.kind=5):step z e=(if Br e.at_ 0 (z.BS.length-1) then hear z e.at_ else z,0):=by simp[step,k]
theorem Yj {z:World} {e:Ev} (k:e.kind=6):step z e=(if Br e.at_ 0 (z.BS.length-1) then lose z e.at_ else z,0):=by simp[step,k]
theorem Yi {z:World} {e:Ev} (k:e.kind=7):step z e=(if Br e.at_ 0 (z.BS.length-1) then twice z e.at_ else z,0):=by simp[step,k]
theorem iX {z:World} {e:Ev} (k:e.kind=9):step z e=(tell z e.at_,0):=by simp[step,k]
theorem Vr {a lo hi:Int} (h:lo≤a∧a≤hi):Br a lo hi=true:=BB.2 h
theorem XJ {a lo hi:Int} (h:¬(lo≤a∧a≤hi)):Br a lo hi=false:=by rw[Bool.eq_false_iff];exact fun hh=>h (BB.1 hh)
theorem fo {z:World} (h:Cc z=true) {r:Ee} (hr:CR r=true) (hl:z.lines.length≠300) :
  (ask z r).1.AB=(KN z.AB r).1∧(ask z r).2=(KN z.AB r).2∧(ask z r).1.AV=z.AV∧(ask z r).1.BS=z.BS:=by
 have hw:=Am.1 h
 have hlt:z.lines.length<300:=by have:=hw.lines;omega
 rw[show KN z.AB r=EZ z.AB r by simp[KN,hw.Dt,hr]]
 simp[ask,hr,hlt]
theorem fq {z:World} {r:Ee} (hr:CR r=false∨z.lines.length=300):ask z r=(z,0):=by
 rcases hr with h|h <;> simp[ask,h]
theorem Xm {z:World} {k:Int} (hb:z.BS.length=6):send z k=z:=by simp[send,hb]
theorem iw {z:World} {k:Int} (hk:0≤k∧k≤1) (hb:z.BS.length<6):(send z k).BS=z.BS ++ [⟨k,(Cw z.AB.log).getD DX,Dn z.AB.log (Cb z k).head.size⟩]∧(send z k).AB=z.AB∧(send z k).AV=z.AV:=by
 simp[send,Vr hk,hb]
theorem ZA {z:World} {i:Nat} (hi:i<z.BS.length):(lose z (i:Int)).BS.length=z.BS.length-1∧(lose z (i:Int)).AB=z.AB:=by
 refine⟨?_,rfl⟩
 show (z.BS.eraseIdx ((i:Int)).toNat).length=_
 rw[List.length_eraseIdx,if_pos (by simpa using hi)]
theorem ay {z:World} {i:Nat} (hi:i<z.BS.length) (hb:z.BS.length<6):(twice z (i:Int)).BS=z.BS ++ [Gj z (i:Int)]∧(twice z (i:Int)).AB=z.AB∧z.BS[i]?=some (Gj z (i:Int)):=by
 refine⟨by simp[twice,hb],by simp[twice,hb],?_⟩
 unfold Gj
 rw[show ((i:Int)).toNat=i from rfl,List.getD_eq_getElem?_getD,List.getElem?_eq_getElem hi];rfl
theorem VP {z:World} {i:Int} (hb:z.BS.length=6):twice z i=z:=by simp[twice,hb]
theorem eX {z:World} (h:Cc z=true) {i:Nat} (hi:i<z.BS.length):∃ (x:IX) (k:Nat) (g:Gate),z.BS[i]?=some x∧Gj z (i:Int)=x∧x.gate=(k:Int)∧k<2∧z.AV.length=2∧z.AV[k]?=some g∧DF g=true ∧
  (hear z (i:Int)).AV=z.AV.set k (Ck g x.head x.proof).1∧(hear z (i:Int)).BS.length=z.BS.length-1∧(hear z (i:Int)).AB=z.AB:=by
 have hw:=Am.1 h
 have hx:=Qx hw (i:=(i:Int)) ⟨by omega,by omega⟩
 simp only[Fs,Bool.and_eq_true,BB] at hx
 have hg:=K6 hw hx.1.1
 have hl:=hw.GU
 obtain⟨x,hx0⟩:∃ x,x=Gj z (i:Int):=⟨_,rfl⟩
 rw[← hx0] at hx hg
 obtain⟨k,hk⟩:∃ k:Nat,x.gate=(k:Int):=⟨x.gate.toNat,by omega⟩
 obtain⟨g,hge⟩:∃ g,z.AV[k]?=some g:=⟨_,List.getElem?_eq_getElem (by omega)⟩
 have e1:Cb z x.gate=g:=by unfold Cb;rw[hk];exact CP hge
 rw[e1] at hg
 refine⟨x,k,g,?_,hx0.symm,hk,by omega,hl,hge,hg,?_,?_,rfl⟩
 ·rw[hx0];unfold Gj
  rw[show ((i:Int)).toNat=i from rfl,List.getD_eq_getElem?_getD,List.getElem?_eq_getElem hi];rfl
 ·show z.AV.set (Gj z (i:Int)).gate.toNat (Ck (Cb (lose z (i:Int)) (Gj z (i:Int)).gate) (Gj z (i:Int)).head (Gj z (i:Int)).proof).1=_
  rw[← hx0]
  have e2:Cb (lose z (i:Int)) x.gate=g:=e1
  rw[e2,hk];rfl
 ·exact (ZA hi).1
theorem WU {g:Gate} {h:Head} {p:List Int} (hg:DF g=true) (hn:(Ck g h p).2=false):(Ck g h p).1=g:=by
 unfold Ck at hn ⊢
 rw[hg] at hn ⊢
 revert hn
 cases CU g.head h p <;> simp
end Go.Proofs.YtgaflnpmilikcaaGreat.Sw
