/- Texts joined: Typed, Plain1, Plain2. -/
import Derived.Test.YtgaflnpmilikcaaGreatPx1
import Derived.Test.YtgaflnpmilikcaaGreatPx2
set_option maxRecDepth 100000
set_option linter.unusedSimpArgs false
set_option linter.unusedVariables false
namespace Go.Proofs.YtgaflnpmilikcaaGreat
open Go.RowKit Go
theorem Rd.A8 {w0 W:World} {lo c sz n:Nat} {A:Option Addr} {cs:List Value} (h:Rd w0 lo A c sz n cs) (hk:KF lo w0 W):Rd W 0 A c sz n cs:=(h.keep hk).less (Nat.zero_le _)
def Rs {α:Type} (enc:α→List Value) (sz:Nat) (w:World) (lo:Nat) (A:Option Addr) (c n:Nat) (xs:List α):Prop:=
 n=xs.length∧Rd w lo A c sz n (xs.flatMap enc)
section
variable {α:Type} {enc:α→List Value} {sz:Nat} {w w0 W:World} {lo lo' c n:Nat} {A:Option Addr} {xs:List α}
theorem Rs.A8 (h:Rs enc sz w0 lo A c n xs) (hk:KF lo w0 W):Rs enc sz W 0 A c n xs:=⟨h.1,h.2.A8 hk⟩
theorem Rs.keep (h:Rs enc sz w0 lo A c n xs) (hk:KF lo w0 W):Rs enc sz W lo A c n xs:=⟨h.1,h.2.keep hk⟩
theorem Rs.less (h:Rs enc sz w0 lo A c n xs) (hl:lo'≤lo):Rs enc sz w0 lo' A c n xs:=⟨h.1,h.2.less hl⟩
theorem flat_get (hsz:∀ x,(enc x).length=sz):∀ (xs:List α) (k j:Nat) (hk:k<xs.length),j<sz→(xs.flatMap enc)[k*sz+j]?=(enc xs[k])[j]?:=by
 intro xs
 induction xs with
 | nil=>intro k j h;simp at h
 | cons x xs ih=>
  intro k j h hj
  cases k with
  | zero=>
   simp only[List.flatMap_cons,Nat.zero_mul,Nat.zero_add,List.getElem_cons_zero]
   rw[List.getElem?_append_left (by rw[hsz];exact hj)]
  | succ k=>
   simp only[List.flatMap_cons,List.getElem_cons_succ]
   rw[List.getElem?_append_right (by rw[hsz];simp only[Nat.succ_mul];omega)]
   rw[show (k+1)*sz+j-(enc x).length=k*sz+j from by rw[hsz];simp only[Nat.succ_mul];omega]
   exact ih k j (by simpa using h) hj
theorem Rs.at_ (h:Rs enc sz w lo A c n xs) (hsz:∀ x,(enc x).length=sz) {k:Nat} (hk:k<n) :
  ∃ g off x,A=some ⟨g,off,none⟩∧lo≤g∧g<w.heap.size∧xs.drop k=x::xs.drop (k+1)∧xs[k]?=some x ∧
   ∀ j u,j<sz→(enc x)[j]?=some u→w.cell? ⟨g,off+(k*sz+j),none⟩=some u:=by
 obtain⟨rfl,h⟩:=h
 cases A with
 | none=>have:=h.nil rfl;have:=h.le;omega
 | some a=>
  obtain⟨h1,h2,h3,h4⟩:=h.cells a rfl (by omega)
  obtain⟨g,off,spot⟩:=a
  dsimp only at h1 h2 h3 h4
  subst h1
  refine⟨g,off,xs[k],rfl,h2,h3,List.drop_eq_getElem_cons hk,List.getElem?_eq_getElem hk,fun j u hj hu=>h4 (k*sz+j) u ?_⟩
  rw[flat_get hsz xs k j hk hj]
  exact hu
end
theorem Rs.new {α:Type} {enc:α→List Value} {sz:Nat} {w:World} {cs:Array Value} {T:TypeId} {g n:Nat} (xs:List α) (hg:g=w.heap.size) (hcs:cs=(xs.flatMap enc).toArray) (hn:n=xs.length)
  (hsz:∀ x,(enc x).length=sz) (hm:n≤4194304):Rs enc sz (w.alloc (.cells cs T)) 0 (some ⟨g,0,none⟩) n n xs:=by
 subst hg hcs hn
 refine⟨rfl,?_,Nat.le_refl _,(by unfold maxLen;omega),(fun h=>by cases h),fun a ha _=>?_⟩
 ·clear hm
  induction xs with
  | nil=>simp
  | cons x xs ih=>simp only[List.flatMap_cons,List.length_append,hsz,ih,List.length_cons,Nat.succ_mul];omega
 ·obtain rfl:=Option.some.inj ha
  refine⟨rfl,Nat.zero_le _,by simp,fun j u hu=>?_⟩
  simpa using hu
def encI (x:Int):List Value:=[.int .i64 x]
def qd (x:Int):List Value:=[.int .u8 x]
def Sw.FC.enc (e:Sw.FC):List Value:=[.int .i64 e.kind,.int .i64 e.ticket,.int .i64 e.who,.int .i64 e.Al]
def Sw.Row.enc (r:Sw.Row):List Value:=[.int .i64 r.who,.int .i64 r.EY,.bool r.used]
def Sw.Head.enc (h:Sw.Head):List Value:=[.int .i64 h.size,.int .i64 h.log,.int .i64 h.own]
abbrev RI:=Rs encI 1
abbrev RB:=Rs qd 1
abbrev RE:=Rs Sw.FC.enc 4
abbrev RR:=Rs Sw.Row.enc 3
abbrev RH:=Rs Sw.Head.enc 3
section
variable {w:World} {lo c n k:Nat} {A:Option Addr}
theorem G8 {xs:List Int} (h:RI w lo A c n xs) (hk:k<n) :
  ∃ g off x,A=some ⟨g,off,none⟩∧lo≤g∧g<w.heap.size∧xs.drop k=x::xs.drop (k+1)∧xs[k]?=some x∧w.cell? ⟨g,off+k,none⟩=some (.int .i64 x):=by
 obtain⟨g,off,x,h1,h2,h3,h4,h5,h6⟩:=Rs.at_ h (fun _=>rfl) hk
 exact⟨g,off,x,h1,h2,h3,h4,h5,by simpa using h6 0 _ (by omega) rfl⟩
theorem kZ {xs:List Int} (h:RB w lo A c n xs) (hk:k<n) :
  ∃ g off x,A=some ⟨g,off,none⟩∧lo≤g∧g<w.heap.size∧xs.drop k=x::xs.drop (k+1)∧xs[k]?=some x∧w.cell? ⟨g,off+k,none⟩=some (.int .u8 x):=by
 obtain⟨g,off,x,h1,h2,h3,h4,h5,h6⟩:=Rs.at_ h (fun _=>rfl) hk
 exact⟨g,off,x,h1,h2,h3,h4,h5,by simpa using h6 0 _ (by omega) rfl⟩
theorem YQ {xs:List Sw.FC} (h:RE w lo A c n xs) (hk:k<n) :
  ∃ g off x,A=some ⟨g,off,none⟩∧lo≤g∧g<w.heap.size∧xs.drop k=x::xs.drop (k+1)∧xs[k]?=some x ∧
   w.cell? ⟨g,off+k*4,none⟩=some (.int .i64 x.kind)∧w.cell? ⟨g,off+k*4+1,none⟩=some (.int .i64 x.ticket) ∧
   w.cell? ⟨g,off+k*4+2,none⟩=some (.int .i64 x.who)∧w.cell? ⟨g,off+k*4+3,none⟩=some (.int .i64 x.Al):=by
 obtain⟨g,off,x,h1,h2,h3,h4,h5,h6⟩:=Rs.at_ h (fun _=>rfl) hk
 exact⟨g,off,x,h1,h2,h3,h4,h5,by simpa using h6 0 _ (by omega) rfl,h6 1 _ (by omega) rfl,h6 2 _ (by omega) rfl,h6 3 _ (by omega) rfl⟩
theorem VF {xs:List Sw.Row} (h:RR w lo A c n xs) (hk:k<n) :
  ∃ g off x,A=some ⟨g,off,none⟩∧lo≤g∧g<w.heap.size∧xs.drop k=x::xs.drop (k+1)∧xs[k]?=some x ∧
   w.cell? ⟨g,off+k*3,none⟩=some (.int .i64 x.who)∧w.cell? ⟨g,off+k*3+1,none⟩=some (.int .i64 x.EY) ∧
   w.cell? ⟨g,off+k*3+2,none⟩=some (.bool x.used):=by
 obtain⟨g,off,x,h1,h2,h3,h4,h5,h6⟩:=Rs.at_ h (fun _=>rfl) hk
 exact⟨g,off,x,h1,h2,h3,h4,h5,by simpa using h6 0 _ (by omega) rfl,h6 1 _ (by omega) rfl,h6 2 _ (by omega) rfl⟩
end
theorem MP {a b:Sw.Head}:a=b↔a.size=b.size∧a.log=b.log∧a.own=b.own:=by
 cases a;cases b;simp
theorem PV:∀ (xs:List Int) (p:Int),Sw.DT p xs=true → -1≤p→p≤7→(xs.length:Int)≤7-p
 | [],p,h,hp,hq=>by simp only[List.length_nil];omega
 | x::xs,p,h,hp,hq=>by
  simp only[Sw.DT,Bool.and_eq_true,decide_eq_true_eq,Sw.Br] at h
  have:=PV xs x h.2 (by omega) (by omega)
  simp only[List.length_cons]
  omega
theorem K7 {g:Sw.Gate} (h:Sw.DF g=true):g.done.length≤8:=by
 simp only[Sw.DF,Bool.and_eq_true] at h
 have:=PV g.done (-1) h.2 (by omega) (by omega)
 omega
end Go.Proofs.YtgaflnpmilikcaaGreat
namespace Go.Proofs.YtgaflnpmilikcaaGreat.Sw
open Go.RowKit (wrap64)
theorem BB {n a b:Int}:Br n a b=true↔a≤n∧n≤b:=by simp[Br]
theorem J4 {rows:List Row} (h:EH rows=true) (t:Int):rowOk (rowAt rows t)=true:=by
 simp only[EH,Bool.and_eq_true] at h
 unfold rowAt
 rw[List.getD_eq_getElem?_getD]
 cases he:rows[t.toNat]? with
 | none=>rfl
 | some r=>exact List.all_eq_true.1 h.1 r (List.mem_of_getElem? he)
theorem Ct {rows:List Row} (h:EH rows=true):rows.length=8:=by
 simp only[EH,Bool.and_eq_true,decide_eq_true_eq] at h;exact h.2
theorem FH {e:FC}:GI e=true↔(0≤e.ticket∧e.ticket≤7)∧(1≤e.who∧e.who≤5)∧((e.kind=1∧1≤e.Al∧e.Al≤50)∨(e.kind=2∧1≤e.Al∧e.Al≤60)∨(e.kind=3∧e.Al=0)):=by
 unfold GI
 rw[Bool.and_eq_true,Bool.and_eq_true,BB,BB,and_assoc]
 refine and_congr_right fun _=>and_congr_right fun _=>?_
 split
 ·rw[BB];omega
 ·split
  ·rw[BB];omega
  ·simp only[Bool.and_eq_true,decide_eq_true_eq];omega
theorem IQ {r:Row}:rowOk r=true↔(r.who=0∧r.EY=0∧r.used=false)∨((1≤r.who∧r.who≤5)∧1≤r.EY∧r.EY≤50):=by
 unfold rowOk
 rw[Bool.or_eq_true,Bool.and_eq_true,Bool.and_eq_true,Bool.and_eq_true,BB,BB]
 simp[and_assoc]
theorem Gt {r:Row} {e:FC} (hk:e.kind=1∨e.kind=2∨e.kind=3):DI r e=true ↔
  (e.kind=1∧r.who=0)∨(e.kind=2∧r.who≠0∧r.who≠e.who∧r.used=false∧e.Al≤C9 r.EY)∨(e.kind=3∧r.who=e.who∧r.used=false):=by
 unfold DI
 rcases hk with h|h|h <;> simp[h,and_assoc]
theorem FN {rows:List Row} {e:FC}:Bn rows e=true↔EH rows=true∧GI e=true∧DI (rowAt rows e.ticket) e=true:=by
 simp[Bn,and_assoc]
theorem Xt {r:Row} {e:FC} (hr:rowOk r=true) (he:GI e=true) (hf:DI r e=true):rowOk (putRow r e)=true:=by
 have he':=FH.1 he
 have hk:e.kind=1∨e.kind=2∨e.kind=3:=by omega
 rw[Gt hk] at hf
 rw[IQ] at hr
 rw[IQ]
 unfold putRow
 rcases hk with h|h|h <;> simp only[h] at hf he' ⊢ <;> simp <;> omega
theorem Qt {rows:List Row} {e:FC} (h:Bn rows e=true):EH (JE rows e)=true:=by
 rw[FN] at h
 obtain⟨h1,h2,h3⟩:=h
 have hr:=Xt (J4 h1 e.ticket) h2 h3
 have h8:=Ct h1
 simp only[EH,Bool.and_eq_true,decide_eq_true_eq,JE,List.length_set] at h1 ⊢
 refine⟨?_,h8⟩
 rw[List.all_eq_true] at h1 ⊢
 intro x hx
 rcases List.mem_or_eq_of_mem_set hx with hx|rfl
 ·exact h1.1 x hx
 ·exact hr
theorem Yy:EH Qs=true:=by decide
theorem QG:∀ (es:List FC) (rows r:List Row),DY rows es=some r→EH rows=true→EH r=true
 | [],rows,r,h,h8=>by simp[DY] at h;rw[← h];exact h8
 | e::es,rows,r,h,h8=>by
  rw[DY] at h
  split at h
  ·exact QG es _ r h (Qt ‹_›)
  ·cases h
theorem B_ {es:List FC} {rows:List Row}:Bq es=some rows↔es.length≤40∧DY Qs es=some rows:=by
 unfold Bq
 split <;> simp[*]
theorem Bv {es:List FC} {rows:List Row} (h:Bq es=some rows):EH rows=true:=QG es _ _ (B_.1 h).2 Yy
theorem JX:∀ (es fs:List FC) (rows:List Row),DY rows (es ++ fs)=(DY rows es).bind fun r=>DY r fs
 | [],fs,rows=>rfl
 | e::es,fs,rows=>by
  rw[List.cons_append,DY,DY]
  split
  ·exact JX es fs _
  ·rfl
theorem Ik {es:List FC} {rows:List Row} {e:FC} (h:Bq es=some rows) (hl:es.length<40) (hf:Bn rows e=true):Bq (es ++ [e])=some (JE rows e):=by
 rw[B_] at h ⊢
 refine⟨by simp;omega,?_⟩
 rw[JX,h.2]
 simp[DY,hf]
theorem Jr {rows:List Row} {e:FC} {t:Int} (h8:rows.length=8) (he:0≤e.ticket∧e.ticket≤7) (ht:0≤t):rowAt (JE rows e) t=if t=e.ticket then putRow (rowAt rows e.ticket) e else rowAt rows t:=by
 unfold rowAt JE
 rw[List.getD_eq_getElem?_getD,List.getElem?_set]
 by_cases h:t=e.ticket
 ·subst h
  rw[if_pos rfl,if_pos rfl,if_pos (by omega)]
  rfl
 ·rw[if_neg (by omega),if_neg h,List.getD_eq_getElem?_getD]
theorem wrap64_in {n:Int} (h:-9223372036854775808≤n∧n≤9223372036854775807):wrap64 n=n:=by unfold wrap64;omega
theorem Ci {p:List Int}:DR p=true↔p.length=5∧∀ n∈p,0≤n∧n≤100000:=by
 simp[DR,List.all_eq_true,BB]
theorem VS:∀ (p:List Int) (b:Int),0≤b→(∀ n∈p,0≤n∧n≤b)→0≤p.sum∧p.sum≤b*p.length
 | [],b,hb,h=>by simp
 | x::xs,b,hb,h=>by
  have h1:=h x (List.mem_cons_self ..)
  have h2:=VS xs b hb (fun n hn=>h n (List.mem_cons_of_mem _ hn))
  have e:b*((x::xs).length:Int)=b*(xs.length:Int)+b:=by rw[List.length_cons,Int.natCast_add,Int.mul_add];simp
  rw[e,List.sum_cons]
  omega
theorem Qi:∀ (p:List Int) (s:Int),0≤s→s+100000*p.length≤9223372036854775807→(∀ n∈p,0≤n∧n≤100000)→KJ s p=s+p.sum
 | [],s,_,_,_=>by simp[KJ]
 | x::xs,s,h0,h1,h=>by
  have hx:=h x (List.mem_cons_self ..)
  have e:(100000:Int)*((x::xs).length:Int)=100000*(xs.length:Int)+100000:=by rw[List.length_cons,Int.natCast_add,Int.mul_add];simp
  rw[e] at h1
  have:=Qi xs (s+x) (by omega) (by omega) (fun n hn=>h n (List.mem_cons_of_mem _ hn))
  unfold KJ at this ⊢
  rw[List.foldl_cons,wrap64_in (by omega),this,List.sum_cons]
  omega
theorem Kt {p:List Int} (h:DR p=true):DV p=p.sum:=by
 rw[Ci] at h
 have:=Qi p 0 (by omega) (by rw[h.1];decide) h.2
 rw[DV,this];omega
theorem SF {p:List Int} (h:DR p=true):0≤DV p∧DV p≤500000:=by
 rw[Kt h]
 rw[Ci] at h
 have:=VS p 100000 (by omega) h.2
 rw[h.1] at this
 omega
theorem XB:∀ (p:List Int) (k:Nat) (v:Int),k<p.length→(p.set k v).sum=p.sum-p.getD k 0+v
 | [],k,v,h=>by simp at h
 | x::xs,0,v,h=>by simp;omega
 | x::xs,k+1,v,h=>by
  have:=XB xs k v (by simpa using h)
  simp only[List.set_cons_succ,List.sum_cons,this,List.getD_cons_succ]
  omega
theorem MC {p:List Int} {who n:Int}:Bz p who n=true↔DR p=true∧(1≤who∧who≤5)∧(-100000≤n∧n≤100000)∧(0≤purse p who+n∧purse p who+n≤100000):=by
 simp[Bz,BB,and_assoc]
theorem Ma {p:List Int} {who n:Int} (h:Bz p who n=true):DR (turned p who n)=true:=by
 rw[MC] at h
 obtain⟨h1,h2,h3,h4⟩:=h
 rw[Ci] at h1 ⊢
 refine⟨by simp[turned,h1.1],fun x hx=>?_⟩
 rcases List.mem_or_eq_of_mem_set hx with hx|rfl
 ·exact h1.2 x hx
 ·exact h4
theorem I5 {p:List Int} {who n:Int} (h:Bz p who n=true):(turned p who n).sum=p.sum+n:=by
 rw[MC,Ci] at h
 rw[turned,XB p _ _ (by omega)]
 unfold purse
 omega
theorem Y0 {p:List Int} (h:DR p=true) (who:Int):0≤purse p who∧purse p who≤100000:=by
 rw[Ci] at h
 unfold purse
 rw[List.getD_eq_getElem?_getD]
 cases he:p[(who-1).toNat]? with
 | none=>simp
 | some x=>exact h.2 x (List.mem_of_getElem? he)
theorem Sy {p:List Int} (h:DR p=true) (who:Int):purse p who≤p.sum:=by
 rw[Ci] at h
 have key:∀ (l:List Int) (k:Nat),(∀ n∈l,0≤n)→l.getD k 0≤l.sum:=by
  intro l
  induction l with
  | nil=>intro k _;simp
  | cons x xs ih=>
   intro k hl
   have h1:=hl x (List.mem_cons_self ..)
   have h2:0≤xs.sum:=by
    clear ih
    induction xs with
    | nil=>simp
    | cons y ys ih2=>
     have:=hl y (by simp)
     have:=ih2 (fun n hn=>hl n (by
      rcases List.mem_cons.1 hn with rfl|hn
      ·exact List.mem_cons_self ..
      ·exact List.mem_cons_of_mem _ (List.mem_cons_of_mem _ hn)))
     rw[List.sum_cons];omega
   cases k with
   | zero=>simp only[List.getD_cons_zero,List.sum_cons];omega
   | succ k=>
    have:=ih k (fun n hn=>hl n (List.mem_cons_of_mem _ hn))
    simp only[List.getD_cons_succ,List.sum_cons];omega
 exact key p _ (fun n hn=>(h.2 n hn).1)
theorem NF {p:List Int} {who n:Int} (h:DR p=true) (hw:1≤who∧who≤5) (hn:0≤n) (hs:p.sum+n≤100000):Bz p who n=true:=by
 rw[MC]
 have h1:=Y0 h who
 have h2:=Sy h who
 have h3:=VS p 100000 (by omega) (Ci.1 h).2
 exact⟨h,hw,by omega,by omega⟩
theorem UG {p:List Int} {a b n:Int}:C8 p a b n=true↔(0≤n∧n≤100000)∧a≠b∧Bz p a (-n)=true∧Bz (turned p a (-n)) b n=true:=by
 simp[C8,BB,and_assoc]
end Go.Proofs.YtgaflnpmilikcaaGreat.Sw
namespace Go.Proofs.YtgaflnpmilikcaaGreat.Sw
open Go.RowKit (wrap64)
theorem CZ {clock:Int} {rows:List Row} {d:BC}:Ew clock rows d=true↔(0≤d.ticket∧d.ticket≤7)∧(1≤d.BP∧d.BP≤5)∧(rowAt rows d.ticket).who=d.BP∧(rowAt rows d.ticket).used=false ∧
  (1≤d.Al∧d.Al≤C9 (rowAt rows d.ticket).EY)∧((d.BN=0∧d.due=0)∨((1≤d.BN∧d.BN≤5)∧d.BN≠d.BP∧(clock≤d.due∧d.due≤clock+5))):=by
 unfold Ew
 by_cases h:d.BN=0
 ·rw[if_pos h]
  simp only[Bool.and_eq_true,BB,decide_eq_true_eq,Bool.not_eq_true',and_assoc]
  simp[h]
 ·rw[if_neg h]
  simp only[Bool.and_eq_true,BB,decide_eq_true_eq,Bool.not_eq_true',and_assoc]
  simp[h]
theorem K9 (f:Int):C9 f≤60:=by
 unfold C9
 split
 ·have:=BB.1 ‹_›;omega
 ·omega
def QM (clock:Int) (rows:List Row) (ds:List BC):Prop:=(∀ d∈ds,Ew clock rows d=true)∧ds.Pairwise (fun a b=>a.ticket<b.ticket)
theorem QK {clock:Int} {rows:List Row}:∀ (ds:List BC) (p:Int),FP clock rows p ds=true↔QM clock rows ds∧∀ d∈ds,p<d.ticket
 | [],p=>by simp[FP,QM]
 | d::ds,p=>by
  rw[FP,Bool.and_eq_true,Bool.and_eq_true,QK ds,decide_eq_true_eq]
  unfold QM
  simp only[List.mem_cons,forall_eq_or_imp,List.pairwise_cons]
  constructor
  ·rintro⟨⟨h1,h2⟩,⟨h3,h4⟩,h5⟩
   exact⟨⟨⟨h1,h3⟩,h5,h4⟩,h2,fun x hx=>Int.lt_trans h2 (h5 x hx)⟩
  ·rintro⟨⟨⟨h1,h3⟩,h5,h4⟩,h2,_⟩
   exact⟨⟨h1,h2⟩,⟨h3,h4⟩,h5⟩
theorem LZ {clock:Int} {rows:List Row} {ds:List BC}:FP clock rows (-1) ds=true↔QM clock rows ds:=by
 rw[QK]
 exact⟨fun h=>h.1,fun h=>⟨h,fun d hd=>by have:=(CZ.1 (h.1 d hd)).1;omega⟩⟩
theorem QM.get {clock:Int} {rows:List Row} {ds:List BC} (h:QM clock rows ds) {k:Nat} {d:BC} (hk:ds[k]?=some d):Ew clock rows d=true:=h.1 d (List.mem_of_getElem? hk)
theorem QM.inj {clock:Int} {rows:List Row} {ds:List BC} (h:QM clock rows ds) {i j:Nat} {a b:BC} (hi:ds[i]?=some a) (hj:ds[j]?=some b) (e:a.ticket=b.ticket):i=j:=by
 have hp:=List.pairwise_iff_getElem.1 h.2
 obtain⟨hi',rfl⟩:=List.getElem?_eq_some_iff.1 hi
 obtain⟨hj',rfl⟩:=List.getElem?_eq_some_iff.1 hj
 rcases Nat.lt_trichotomy i j with hij|hij|hij
 ·have:=hp i j hi' hj' hij;omega
 ·exact hij
 ·have:=hp j i hj' hi' hij;omega
theorem QM.sub {clock:Int} {rows:List Row} {ds es:List BC} (h:QM clock rows ds) (hs:es.Sublist ds):QM clock rows es:=
 ⟨fun d hd=>h.1 d (hs.subset hd),h.2.sublist hs⟩
theorem QM.rows {clock:Int} {rows rows':List Row} {ds:List BC} (h:QM clock rows ds) (hr:∀ d∈ds,rowAt rows' d.ticket=rowAt rows d.ticket):QM clock rows' ds:=
 ⟨fun d hd=>by have:=h.1 d hd;rw[CZ] at this ⊢;rw[hr d hd];exact this,h.2⟩
theorem U9 {clock:Int} {rows:List Row} {ds:List BC} (h:QM clock rows ds) {k:Nat} {d:BC} (hk:ds[k]?=some d):∀ x∈ds.eraseIdx k,x.ticket≠d.ticket:=by
 intro x hx e
 rw[List.mem_eraseIdx_iff_getElem?] at hx
 obtain⟨i,hi,hx⟩:=hx
 exact hi (h.inj hx hk e)
theorem QM.set {clock:Int} {rows:List Row} {ds:List BC} (h:QM clock rows ds) {k:Nat} {d e:BC} (hk:ds[k]?=some d) (ht:e.ticket=d.ticket) (he:Ew clock rows e=true):QM clock rows (ds.set k e):=by
 refine⟨fun x hx=>?_,?_⟩
 ·rcases List.mem_or_eq_of_mem_set hx with hx|rfl
  ·exact h.1 x hx
  ·exact he
 ·rw[List.pairwise_iff_getElem]
  obtain⟨hk',rfl⟩:=List.getElem?_eq_some_iff.1 hk
  intro i j hi hj hij
  have hp:=List.pairwise_iff_getElem.1 h.2 i j (by simpa using hi) (by simpa using hj) hij
  rw[List.getElem_set,List.getElem_set]
  split <;> split <;> subst_vars <;> (try rw[ht]) <;> (try exact hp) <;> omega
theorem J7 {d x:BC}:∀ {ds:List BC},x∈CL d ds↔x=d∨x∈ds
 | []=>by simp[CL]
 | y::ys=>by
  rw[CL]
  split
  ·simp
  ·rw[List.mem_cons,J7,List.mem_cons]
   constructor
   ·rintro (h|h|h)
    ·exact .inr (.inl h)
    ·exact .inl h
    ·exact .inr (.inr h)
   ·rintro (h|h|h)
    ·exact .inr (.inl h)
    ·exact .inl h
    ·exact .inr (.inr h)
theorem Kv {d:BC}:∀ {ds:List BC},ds.Pairwise (fun a b=>a.ticket<b.ticket)→(∀ x∈ds,x.ticket≠d.ticket)→(CL d ds).Pairwise (fun a b=>a.ticket<b.ticket)
 | [],_,_=>by simp[CL]
 | y::ys,h,hn=>by
  rw[List.pairwise_cons] at h
  have hy:=hn y (List.mem_cons_self ..)
  rw[CL]
  split
  ·rw[List.pairwise_cons,List.pairwise_cons]
   refine⟨fun x hx=>?_,h.1,h.2⟩
   rcases List.mem_cons.1 hx with rfl|hx
   ·assumption
   ·have:=h.1 x hx;omega
  ·rw[List.pairwise_cons]
   refine⟨fun x hx=>?_,Kv h.2 (fun x hx=>hn x (List.mem_cons_of_mem _ hx))⟩
   rcases J7.1 hx with rfl|hx
   ·omega
   ·exact h.1 x hx
theorem Dc {ds:List BC} {t:Int} {k:Nat} (h:BH ds t=some k):∃ d,ds[k]?=some d∧d.ticket=t:=by
 unfold BH at h
 rw[List.findIdx?_eq_some_iff_getElem] at h
 obtain⟨hk,h1,_⟩:=h
 exact⟨ds[k],List.getElem?_eq_getElem hk,by simpa using h1⟩
theorem MV {ds:List BC} {t:Int} (h:BH ds t=none):∀ d∈ds,d.ticket≠t:=by
 unfold BH at h
 rw[List.findIdx?_eq_none_iff] at h
 intro d hd e
 have:=h d hd
 simp[e] at this
theorem CP {α:Type} {l:List α} {k:Nat} {x z:α} (h:l[k]?=some x):l.getD k z=x:=by rw[List.getD_eq_getElem?_getD,h];rfl
def EC (d:BC):Int:=if held d then d.Al else 0
def CO (ds:List BC):Int:=(ds.map EC).sum
theorem Pg {clock:Int} {rows:List Row} {d:BC} (h:Ew clock rows d=true):0≤EC d∧EC d≤60:=by
 have:=(CZ.1 h).2.2.2.2.1
 have:=K9 (rowAt rows d.ticket).EY
 unfold EC
 split <;> omega
theorem JB {clock:Int} {rows:List Row}:∀ {ds:List BC},(∀ d∈ds,Ew clock rows d=true)→0≤CO ds∧CO ds≤60*ds.length
 | [],_=>by simp[CO]
 | d::ds,h=>by
  have h1:=Pg (h d (List.mem_cons_self ..))
  have h2:=JB (fun x hx=>h x (List.mem_cons_of_mem _ hx))
  unfold CO at h2 ⊢
  rw[List.map_cons,List.sum_cons,List.length_cons]
  omega
theorem QD {clock:Int} {rows:List Row}:∀ (ds:List BC) (s:Int),0≤s→s+60*ds.length≤9223372036854775807→(∀ d∈ds,Ew clock rows d=true)→JP s ds=s+CO ds
 | [],s,_,_,_=>by simp[JP,CO]
 | d::ds,s,h0,h1,h=>by
  have hd:=Pg (h d (List.mem_cons_self ..))
  rw[List.length_cons] at h1
  have:=QD ds (s+EC d) (by omega) (by omega) (fun x hx=>h x (List.mem_cons_of_mem _ hx))
  unfold JP at this ⊢
  rw[List.foldl_cons]
  have e:IA s d=s+EC d:=by
   unfold IA EC
   unfold EC at hd
   split
   ·rw[if_pos ‹_›] at hd
    rw[wrap64_in (by omega)]
   ·omega
  rw[e,this]
  unfold CO
  rw[List.map_cons,List.sum_cons]
  omega
theorem K4 {clock:Int} {rows:List Row} {ds:List BC} (h:QM clock rows ds) (h8:ds.length≤8):WL ds=CO ds:=by
 rw[WL,QD ds 0 (by omega) (by omega) h.1];omega
theorem H_:∀ {ds:List BC} {k:Nat} {d:BC},ds[k]?=some d→CO (ds.eraseIdx k)=CO ds-EC d
 | [],k,d,h=>by simp at h
 | x::xs,0,d,h=>by
  obtain rfl:x=d:=by simpa using h
  unfold CO
  simp only[List.eraseIdx_cons_zero,List.map_cons,List.sum_cons]
  omega
 | x::xs,k+1,d,h=>by
  have:=H_ (ds:=xs) (k:=k) (d:=d) (by simpa using h)
  unfold CO at this ⊢
  simp only[List.eraseIdx_cons_succ,List.map_cons,List.sum_cons,this]
  omega
theorem QC:∀ {ds:List BC} {k:Nat} {d e:BC},ds[k]?=some d→CO (ds.set k e)=CO ds-EC d+EC e
 | [],k,d,e,h=>by simp at h
 | x::xs,0,d,e,h=>by
  obtain rfl:x=d:=by simpa using h
  unfold CO
  simp only[List.set_cons_zero,List.map_cons,List.sum_cons]
  omega
 | x::xs,k+1,d,e,h=>by
  have:=QC (ds:=xs) (k:=k) (d:=d) (e:=e) (by simpa using h)
  unfold CO at this ⊢
  simp only[List.set_cons_succ,List.map_cons,List.sum_cons,this]
  omega
theorem MO {d:BC}:∀ {ds:List BC},CO (CL d ds)=EC d+CO ds
 | []=>by simp[CL,CO]
 | x::xs=>by
  have:=MO (d:=d) (ds:=xs)
  unfold CO at this ⊢
  rw[CL]
  split
  ·simp
  ·simp only[List.map_cons,List.sum_cons,this]
   omega
structure IL (m:CV) (rows:List Row):Prop where
 fold:Bq m.log=some rows
 Rp:DR m.Ai=true
 Ms:m.AJ.length≤8
 Qa:0≤m.clock∧m.clock≤99999
 NL:m.nums.length=5
 Rv:m.said.length=5
 AJ:QM m.clock rows m.AJ
 nums:GR m.nums m.said=true
 sum:m.Ai.sum+CO m.AJ≤100000
theorem Cu {m:CV} {rows:List Row} (h:Bq m.log=some rows):CS m=rows:=by rw[CS,h];rfl
theorem BU {m:CV}:GX m=true↔∃ rows,IL m rows:=by
 unfold GX
 simp only[Bool.and_eq_true,decide_eq_true_eq,BB,LZ]
 constructor
 ·rintro⟨⟨⟨⟨⟨⟨⟨⟨h1,h2⟩,h3⟩,h4⟩,h5⟩,h6⟩,h7⟩,h8⟩,h9⟩
  obtain⟨rows,hr⟩:=Option.isSome_iff_exists.1 h1
  rw[Cu hr] at h7
  refine⟨rows,hr,h2,h3,h4,h5,h6,h7,h8,?_⟩
  rw[Kt h2,Ef,K4 h7 h3] at h9
  exact h9
 ·rintro⟨rows,hr,h2,h3,h4,h5,h6,h7,h8,h9⟩
  rw[Cu hr]
  refine⟨⟨⟨⟨⟨⟨⟨⟨by rw[hr];rfl,h2⟩,h3⟩,h4⟩,h5⟩,h6⟩,h7⟩,h8⟩,?_⟩
  rw[Kt h2,Ef,K4 h7 h3]
  exact h9
def total (m:CV):Int:=m.Ai.sum+CO m.AJ
theorem IL.total {m:CV} {rows:List Row} (h:IL m rows):DV m.Ai+Ef m=m.Ai.sum+CO m.AJ:=by
 rw[Kt h.Rp,Ef,K4 h.AJ h.Ms]
theorem EB {r:Ee}:CR r=true↔(1≤r.user∧r.user≤5)∧(1≤r.n∧r.n≤99999)∧(1≤r.kind∧r.kind≤6)∧(0≤r.ticket∧r.ticket≤7) ∧
  ((r.kind=1∧(1≤r.who∧r.who≤5)∧(1≤r.Al∧r.Al≤50))∨(r.kind=2∧r.who=0∧(1≤r.Al∧r.Al≤999))∨(r.kind≠1∧r.kind≠2∧r.who=0∧r.Al=0)):=by
 unfold CR
 by_cases h1:r.kind=1
 ·rw[if_pos h1];simp only[Bool.and_eq_true,BB,and_assoc];simp[h1]
 ·by_cases h2:r.kind=2
  ·rw[if_neg h1,if_pos h2];simp only[Bool.and_eq_true,BB,and_assoc,decide_eq_true_eq];simp[h2]
  ·rw[if_neg h1,if_neg h2];simp only[Bool.and_eq_true,BB,and_assoc,decide_eq_true_eq];simp[h1,h2]
structure Eff (m x:CV):Prop where
 rows:∃ rows,Bq x.log=some rows∧QM x.clock rows x.AJ
 Rp:DR x.Ai=true
 Ms:x.AJ.length≤8
 Qa:x.clock=m.clock
 nums:x.nums=m.nums
 said:x.said=m.said
 sum:x.Ai.sum+CO x.AJ=m.Ai.sum+CO m.AJ
theorem Eff.refl {m:CV} {rows:List Row} (h:IL m rows):Eff m m:=⟨⟨rows,h.fold,h.AJ⟩,h.Rp,h.Ms,rfl,rfl,rfl,rfl⟩
theorem Vg {clock:Int} {rows:List Row} {ds:List BC} (h:QM clock rows ds):ds.length≤8:=by
 have key:∀ (ds:List BC) (p:Int),ds.Pairwise (fun a b=>a.ticket<b.ticket)→(∀ d∈ds,p<d.ticket∧d.ticket≤7) → -1≤p→p≤7→(ds.length:Int)≤7-p:=by
  intro ds
  induction ds with
  | nil=>intro p _ _ h0 h1;simp;omega
  | cons d ds ih=>
   intro p hp hd h0 h1
   rw[List.pairwise_cons] at hp
   have h2:=hd d (List.mem_cons_self ..)
   have:=ih d.ticket hp.2 (fun x hx=>⟨hp.1 x hx,(hd x (List.mem_cons_of_mem _ hx)).2⟩) (by omega) h2.2
   rw[List.length_cons]
   omega
 have:=key ds (-1) h.2 (fun d hd=>by have:=(CZ.1 (h.1 d hd)).1;omega) (by omega) (by omega)
 omega
theorem Xw {m:CV} {rows:List Row} {r:Ee} (h:IL m rows) (hr:CR r=true) (hk:r.kind=1):Eff m (issue m r (rowAt rows r.ticket)).1:=by
 have hr:=EB.1 hr
 unfold issue
 split
 ·exact .refl h
 split
 ·exact .refl h
 split
 ·exact .refl h
 split
 case isFalse=>exact .refl h
 rename_i h1 h2 h3 h4
 rw[UG] at h4
 obtain⟨h4,h5,h6,h7⟩:=h4
 have hl:m.log.length<40:=by have:=(B_.1 h.fold).1;omega
 have hf:Bn rows ⟨1,r.ticket,r.who,r.Al⟩=true:=by
  rw[FN]
  refine⟨Bv h.fold,FH.2 ?_,(Gt (.inl rfl)).2 (.inl ⟨rfl,by simpa using h2⟩)⟩
  dsimp only
  omega
 have hno:∀ d∈m.AJ,d.ticket≠r.ticket:=fun d hd e=>by
  have:=(CZ.1 (h.AJ.1 d hd))
  rw[e] at this
  omega
 refine⟨⟨_,Ik h.fold hl hf,h.AJ.rows fun d hd=>?_⟩,Ma h7,h.Ms,rfl,rfl,rfl,?_⟩
 ·rw[Jr (Ct (Bv h.fold)) ⟨hr.2.2.2.1.1,hr.2.2.2.1.2⟩ (CZ.1 (h.AJ.1 d hd)).1.1,if_neg (hno d hd)]
 ·show (turned _ _ _).sum+CO m.AJ=_
  rw[I5 h7,I5 h6]
  omega
theorem QX {α:Type} {o:Option α} (h:o.isSome=false):o=none:=by cases o <;> simp_all
theorem Xu {m:CV} {rows:List Row} {r:Ee} (h:IL m rows) (hr:CR r=true) (hk:r.kind=2):Eff m (offer m r (rowAt rows r.ticket) (BH m.AJ r.ticket)).1:=by
 have hr:=EB.1 hr
 unfold offer
 split
 ·exact .refl h
 split
 ·exact .refl h
 split
 ·exact .refl h
 rename_i h1 h2 h3
 simp only[not_or,Bool.not_eq_true] at h2
 have hno:=MV (QX h2.1)
 have hd:QM m.clock rows (CL ⟨r.ticket,r.user,r.Al,0,0⟩ m.AJ):=by
  refine⟨fun d hd=>?_,Kv h.AJ.2 hno⟩
  rcases J7.1 hd with rfl|hd
  ·rw[CZ]
   dsimp only
   refine⟨hr.2.2.2.1,hr.1,by simpa using h1,h2.2,by omega,.inl ⟨rfl,rfl⟩⟩
  ·exact h.AJ.1 d hd
 refine⟨⟨rows,h.fold,hd⟩,h.Rp,Vg hd,rfl,rfl,rfl,?_⟩
 show _+CO (CL _ _)=_
 rw[MO]
 simp[EC,held]
theorem Zx {m:CV} {rows:List Row} {r:Ee} (h:IL m rows):Eff m (ED m r (rowAt rows r.ticket) (BH m.AJ r.ticket)).1:=by
 unfold ED
 split
 ·exact .refl h
 split
 ·exact .refl h
 rename_i k hk
 obtain⟨d,hd,ht⟩:=Dc hk
 rw[CP hd]
 split
 ·exact .refl h
 rename_i h2
 have hs:=List.eraseIdx_sublist m.AJ k
 refine⟨⟨rows,h.fold,h.AJ.sub hs⟩,h.Rp,Nat.le_trans hs.length_le h.Ms,rfl,rfl,rfl,?_⟩
 show _+CO (m.AJ.eraseIdx k)=_
 rw[H_ hd]
 simp[EC,h2]
theorem Zt {m:CV} {rows:List Row} {r:Ee} (h:IL m rows) (hr:CR r=true):Eff m (Gf m r (BH m.AJ r.ticket)).1:=by
 have hr:=EB.1 hr
 unfold Gf
 split
 ·exact .refl h
 rename_i k hk
 obtain⟨d,hd,ht⟩:=Dc hk
 rw[CP hd]
 split
 ·exact .refl h
 split
 ·exact .refl h
 split
 case isFalse=>exact .refl h
 rename_i h1 h2 h3
 have hdo:=CZ.1 (h.AJ.get hd)
 have he:QM m.clock rows (m.AJ.set k { d with BN:=r.user,due:=m.clock+5 }):=by
  refine h.AJ.set hd rfl (CZ.2 ?_)
  dsimp only
  refine⟨hdo.1,hdo.2.1,hdo.2.2.1,hdo.2.2.2.1,hdo.2.2.2.2.1,.inr ⟨hr.1,fun e=>h2 e.symm,by omega⟩⟩
 refine⟨⟨rows,h.fold,he⟩,Ma h3,by simpa using h.Ms,rfl,rfl,rfl,?_⟩
 show (turned _ _ _).sum+CO (m.AJ.set k _)=_
 rw[I5 h3,QC hd]
 have hu:EC { d with BN:=r.user,due:=m.clock+5 }=d.Al:=if_pos (by simp[held];omega)
 have hb:EC d=0:=if_neg h1
 rw[hu,hb]
 omega
theorem VU {m:CV} {rows:List Row} {r:Ee} (h:IL m rows) (hr:CR r=true):Eff m (settle m r (BH m.AJ r.ticket)).1:=by
 have hr:=EB.1 hr
 unfold settle
 split
 ·exact .refl h
 rename_i k hk
 obtain⟨d,hd,ht⟩:=Dc hk
 rw[CP hd]
 split
 ·exact .refl h
 split
 ·exact .refl h
 split
 ·exact .refl h
 rename_i h1 h2 h3
 have hdo:=CZ.1 (h.AJ.get hd)
 have hh:held d=true:=by simpa using h1
 have hb:0<d.BN:=by simpa [held] using hh
 have hl:m.log.length<40:=by have:=(B_.1 h.fold).1;omega
 have hp:=hdo.2.2.2.2.1
 have hcap:=K9 (rowAt rows d.ticket).EY
 have hf:Bn rows ⟨2,r.ticket,d.BN,d.Al⟩=true:=by
  rw[FN]
  refine⟨Bv h.fold,FH.2 ?_,(Gt (.inr (.inl rfl))).2 (.inr (.inl ⟨rfl,?_⟩))⟩ <;> dsimp only
  ·omega
  ·rw[← ht]
   refine⟨by omega,?_,hdo.2.2.2.1,hp.2⟩
   rw[hdo.2.2.1];omega
 have hs:=List.eraseIdx_sublist m.AJ k
 have hsum:Bz m.Ai d.BP d.Al=true:=by
  refine NF h.Rp hdo.2.1 (by omega) ?_
  have h4:=h.sum
  have h5:=H_ hd
  have h6:=(JB (h.AJ.sub hs).1).1
  have:EC d=d.Al:=by simp[EC,hh]
  omega
 have e:Dy m.Ai d.BP d.Al=turned m.Ai d.BP d.Al:=by simp[Dy,hsum]
 refine⟨⟨_,Ik h.fold hl hf,(h.AJ.sub hs).rows fun x hx=>?_⟩,by dsimp only;rw[e];exact Ma hsum,Nat.le_trans hs.length_le h.Ms,rfl,rfl,rfl,?_⟩
 ·have:=U9 h.AJ hd x hx
  rw[Jr (Ct (Bv h.fold)) ⟨hr.2.2.2.1.1,hr.2.2.2.1.2⟩ (CZ.1 ((h.AJ.sub hs).1 x hx)).1.1,if_neg (by dsimp only;omega)]
 ·show (Dy _ _ _).sum+CO (m.AJ.eraseIdx k)=_
  rw[e,I5 hsum,H_ hd]
  simp only[EC,hh,if_true]
  omega
theorem YJ {m:CV} {rows:List Row} {r:Ee} (h:IL m rows) (hr:CR r=true):Eff m (enter m r (rowAt rows r.ticket) (BH m.AJ r.ticket)).1:=by
 have hr:=EB.1 hr
 unfold enter
 split
 ·exact .refl h
 split
 ·exact .refl h
 split
 ·exact .refl h
 rename_i h1 h2 h3
 simp only[not_or,Bool.not_eq_true] at h2
 have hno:=MV (QX h2.2)
 have hl:m.log.length<40:=by have:=(B_.1 h.fold).1;omega
 have hf:Bn rows ⟨3,r.ticket,r.user,0⟩=true:=by
  rw[FN]
  refine⟨Bv h.fold,FH.2 ?_,(Gt (.inr (.inr rfl))).2 (.inr (.inr ⟨rfl,by simpa using h1,h2.1⟩))⟩
  dsimp only
  omega
 refine⟨⟨_,Ik h.fold hl hf,h.AJ.rows fun d hd=>?_⟩,h.Rp,h.Ms,rfl,rfl,rfl,rfl⟩
 rw[Jr (Ct (Bv h.fold)) ⟨hr.2.2.2.1.1,hr.2.2.2.1.2⟩ (CZ.1 (h.AJ.1 d hd)).1.1,if_neg (hno d hd)]
theorem OO {m:CV} {rows:List Row} {r:Ee} (h:IL m rows) (hr:CR r=true):Eff m (effect m r).1:=by
 unfold effect
 rw[Cu h.fold]
 split
 ·exact Xw h hr ‹_›
 split
 ·exact Xu h hr ‹_›
 split
 ·exact Zx h
 split
 ·exact Zt h hr
 split
 ·exact VU h hr
 ·exact YJ h hr
theorem Ri (m:CV) (r:Ee):1≤(effect m r).2∧(effect m r).2≤6:=by
 have key:∀ (P:CV × Int→Prop) (c:Prop) [Decidable c] (a b:CV × Int),P a→P b→P (if c then a else b):=by
  intro P c _ a b ha hb;split <;> assumption
 unfold effect issue offer ED Gf settle enter
 repeat' (first|(split)|decide)
 all_goals (first|decide|(dsimp only;omega))
theorem J5:∀ {ns ss:List Int},ns.length=ss.length→(GR ns ss=true↔∀ (k:Nat) (n s:Int),ns[k]?=some n→ss[k]?=some s→J6 n s=true)
 | [],[],_=>by simp[GR]
 | [],_::_,h=>by simp at h
 | _::_,[],h=>by simp at h
 | n::ns,s::ss,h=>by
  rw[GR,Bool.and_eq_true,J5 (by simpa using h)]
  constructor
  ·rintro⟨h1,h2⟩ k a b ha hb
   cases k with
   | zero=>simp at ha hb;subst ha hb;exact h1
   | succ k=>exact h2 k a b (by simpa using ha) (by simpa using hb)
  ·intro h
   exact⟨h 0 n s rfl rfl,fun k a b ha hb=>h (k+1) a b (by simpa using ha) (by simpa using hb)⟩
theorem Kr {n s:Int}:J6 n s=true↔(0≤n∧n≤99999)∧(0≤s∧s≤6)∧(n=0↔s=0):=by
 unfold J6
 simp only[Bool.and_eq_true,BB,and_assoc]
 simp
theorem Vj {ns ss:List Int} (hn:ns.length=5) (hs:ss.length=5) (h:GR ns ss=true) {k:Nat} {n s:Int} (ho:J6 n s=true):GR (ns.set k n) (ss.set k s)=true:=by
 rw[J5 (by rw[hn,hs])] at h
 rw[J5 (by simp[hn,hs])]
 intro j a b ha hb
 rw[List.getElem?_set] at ha hb
 by_cases hj:k=j
 ·rw[if_pos hj] at ha hb
  split at ha
  ·split at hb
   ·cases ha;cases hb;exact ho
   ·cases hb
  ·cases ha
 ·rw[if_neg hj] at ha hb
  exact h j a b ha hb
theorem Eff.Il {m x:CV} {rows:List Row} {r:Ee} {a:Int} (h:IL m rows) (he:Eff m x) (hr:CR r=true) (ha:1≤a∧a≤6):∃ rows',IL (Il x r a) rows':=by
 have hr:=EB.1 hr
 obtain⟨rows',h1,h2⟩:=he.rows
 have hck:=h.Qa
 refine⟨rows',h1,he.Rp,he.Ms,by show 0≤x.clock∧x.clock≤99999;rw[he.Qa];exact hck,by simp[Sw.Il,he.nums,h.NL],by simp[Sw.Il,he.said,h.Rv],h2,?_,by show x.Ai.sum+CO x.AJ≤_;rw[he.sum];exact h.sum⟩
 show GR (x.nums.set _ _) (x.said.set _ _)=true
 rw[he.nums,he.said]
 exact Vj h.NL h.Rv h.nums (Kr.2 ⟨by omega,by omega,by omega⟩)
theorem QZ {m:CV} {rows:List Row} {r:Ee} (h:IL m rows) (hr:CR r=true):∃ rows',IL (EZ m r).1 rows':=by
 unfold EZ
 split
 ·exact⟨rows,h⟩
 split
 ·exact⟨rows,h⟩
 ·exact (OO h hr).Il h hr (Ri m r)
theorem Rj {m:CV} {r:Ee} (h:GX m=true) (hr:CR r=true):GX (EZ m r).1=true:=by
 obtain⟨rows,h⟩:=BU.1 h
 exact BU.2 (QZ h hr)
theorem VE {clock:Int} {rows:List Row} {d:BC} (h:Ew clock rows d=true):Ew (clock+1) rows (Dq (clock+1) d)=true:=by
 rw[CZ] at h ⊢
 unfold Dq
 split
 ·exact⟨h.1,h.2.1,h.2.2.1,h.2.2.2.1,h.2.2.2.2.1,.inl ⟨rfl,rfl⟩⟩
 ·rename_i hh
  refine⟨h.1,h.2.1,h.2.2.1,h.2.2.2.1,h.2.2.2.2.1,?_⟩
  simp only[held,Bool.and_eq_true,decide_eq_true_eq,not_and] at hh
  rcases h.2.2.2.2.2 with h6|h6
  ·exact .inl h6
  ·have:=hh (by omega)
   exact .inr ⟨h6.1,h6.2.1,by omega⟩
theorem Lh (clock:Int) (d:BC):(Dq clock d).ticket=d.ticket:=by unfold Dq;split <;> rfl
theorem Je {clock ck:Int} {rows:List Row}:∀ (ds:List BC) (p:List Int),DR p=true→(∀ d∈ds,Ew ck rows d=true)→p.sum+CO ds≤100000 →
  DR (ds.foldl (En clock) p)=true∧(ds.foldl (En clock) p).sum+CO (ds.map (Dq clock))=p.sum+CO ds
 | [],p,hp,_,_=>⟨hp,rfl⟩
 | d::ds,p,hp,hd,hs=>by
  have hdo:=CZ.1 (hd d (List.mem_cons_self ..))
  have hb:=(JB (fun x hx=>hd x (List.mem_cons_of_mem _ hx))).1
  have hd':=fun x hx=>hd x (List.mem_cons_of_mem d hx)
  have e1:CO (d::ds)=EC d+CO ds:=by simp[CO]
  have e2:CO ((d::ds).map (Dq clock))=EC (Dq clock d)+CO (ds.map (Dq clock)):=by simp[CO]
  rw[e1] at hs
  rw[e1,e2,List.foldl_cons]
  unfold En Dq
  by_cases hc:(held d&&decide (d.due<clock))=true
  ·rw[if_pos hc,if_pos hc]
   simp only[Bool.and_eq_true] at hc
   have hi:EC d=d.Al:=by simp[EC,hc.1]
   have hb0:0<d.BN:=by simpa [held] using hc.1
   have hm:=NF hp (who:=d.BN) (n:=d.Al) (by omega) (by omega) (by omega)
   have e:Dy p d.BN d.Al=turned p d.BN d.Al:=by simp[Dy,hm]
   rw[e]
   have ih:=Je (clock:=clock) ds (turned p d.BN d.Al) (Ma hm) hd' (by rw[I5 hm];omega)
   refine⟨ih.1,?_⟩
   have h0:EC { d with BN:=0,due:=0 }=0:=by simp[EC,held]
   rw[h0]
   have:=ih.2
   rw[I5 hm] at this
   unfold En at this
   unfold Dq at this
   omega
  ·rw[if_neg hc,if_neg hc]
   have hi:=(Pg (hd d (List.mem_cons_self ..))).1
   have ih:=Je (clock:=clock) ds p hp hd' (by omega)
   refine⟨ih.1,?_⟩
   have:=ih.2
   unfold En at this
   unfold Dq at this
   omega
theorem Sj {m:CV} {rows:List Row} (h:IL m rows) (hc:m.clock≠99999):IL (tick m) rows:=by
 have hb:=Je (clock:=m.clock+1) m.AJ m.Ai h.Rp h.AJ.1 h.sum
 have hck:=h.Qa
 refine⟨h.fold,hb.1,by simpa [tick] using h.Ms,by show 0≤m.clock+1∧m.clock+1≤99999;omega,h.NL,h.Rv,⟨fun d hd=>?_,?_⟩,h.nums,?_⟩
 ·simp only[tick,List.mem_map] at hd
  obtain⟨x,hx,rfl⟩:=hd
  exact VE (h.AJ.1 x hx)
 ·show (m.AJ.map _).Pairwise _
  rw[List.pairwise_map]
  refine h.AJ.2.imp fun {a b} hab=>?_
  rw[Lh,Lh]
  exact hab
 ·show (m.AJ.foldl (En (m.clock+1)) m.Ai).sum+CO (m.AJ.map (Dq (m.clock+1)))≤_
  rw[hb.2]
  exact h.sum
theorem Qf {m:CV} (h:GX m=true) (hc:m.clock≠99999):GX (tick m)=true:=by
 obtain⟨rows,h⟩:=BU.1 h
 exact BU.2 ⟨rows,Sj h hc⟩
theorem Mi {p:List Int} (hp:DR p=true) (hs:DV p≤100000):IL (CY p) Qs:=by
 have e:CY p=⟨[],p,[],0,[0,0,0,0,0],[0,0,0,0,0]⟩:=by simp[CY,hp,hs]
 rw[e]
 refine⟨rfl,hp,by simp,by simp,rfl,rfl,⟨by simp,by simp⟩,rfl,?_⟩
 rw[Kt hp] at hs
 simpa [CO] using hs
end Go.Proofs.YtgaflnpmilikcaaGreat.Sw
