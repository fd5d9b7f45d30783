/- Texts joined: Own, Seat, Law1, Law2, Impl1, Law3, SortL, RegQ, Law4. -/
import Derived.Test.YtgaflnpmilikcaaGreatPx3
import Derived.Maps.AppendAt
import Derived.OwnWalk
import Derived.Test.YtgaflnpmilikcaaGreatProg
import Derived.Test.YtgaflnpmilikcaaGreatPx5
import Derived.Shelf.Sort.Plain
import Derived.Sort.OwnSortedInts
set_option maxRecDepth 100000
set_option linter.unusedSimpArgs false
set_option linter.unusedVariables false
namespace Go.Proofs.YtgaflnpmilikcaaGreat
open Go.RowKit Go
structure G9 (P:Program) (t e:TypeId) (sz bytes:Nat):Prop where
 sl:P.underlying t=some (.slice e)
 info:∃ i z,P.info? e=some i∧i.zero=some z∧i.size=sz∧i.bytes=bytes∧z.cells.size=sz
 pos:0<sz
theorem G9.mk' {P:Program} {t e:TypeId} {sz bytes:Nat} {z:Value} (h1:P.underlying t=some (.slice e)) (h2:(P.info? e).map (fun i=>(i.zero,i.size,i.bytes))=some (some z,sz,bytes)) (h3:z.cells.size=sz) (h4:0<sz):G9 P t e sz bytes:=by
 obtain⟨i,hi,hz,hs,hb⟩:=info_parts h2
 exact⟨h1,⟨i,z,hi,hz,hs,hb,h3⟩,h4⟩
def Ow {α:Type} (enc:α→List Value) (sz:Nat) (e:TypeId) (w:World) (lo:Nat) (A:Option Addr) (c n:Nat) (xs:List α):Prop:=
 n=xs.length∧w.ownsRow lo e sz (.slice A n c) n (xs.flatMap enc)
section
variable {α:Type} {enc:α→List Value} {sz:Nat} {e:TypeId} {w w' w0:World} {lo lo' c n:Nat} {A:Option Addr} {xs:List α}
theorem Ow.rs (h:Ow enc sz e w lo A c n xs):Rs enc sz w lo A c n xs:=⟨h.1,Rd.Y6 h.2⟩
theorem Ow.nil (w:World) (lo:Nat):Ow enc sz e w lo none 0 0 []:=⟨rfl,World.ownsRow_nil w lo e sz⟩
theorem Ow.form (h:Ow enc sz e w lo A c n xs):(A=none∧n=0∧c=0)∨∃ g cur,A=some ⟨g,0,none⟩∧lo≤g∧g<w.heap.size∧w.heap[g]?=some (.cells cur e (0,0))∧n≤c∧c≤maxLen∧cur.size=c*sz∧cur.toList.take (n*sz)=xs.flatMap enc:=by
 rcases h.2.2 with⟨hv,h0⟩ | ⟨g,cap,cur,hv,hb,hh,hn,hm,hs,ht⟩
 ·injection hv with h1 h2 h3;exact .inl ⟨h1,h2,h3⟩
 ·injection hv with h1 h2 h3
  subst h3
  exact .inr ⟨g,cur,h1,hb,(Array.getElem?_eq_some_iff.1 hh).1,hh,hn,hm,hs,ht⟩
theorem Ow.blk (h:Ow enc sz e w lo A c n xs) {a:Addr} (ha:A=some a):lo≤a.block∧a.block<w.heap.size:=by
 rcases h.form with⟨h1,_⟩ | ⟨g,cur,h1,h2,h3,_⟩
 ·rw[h1] at ha;cases ha
 ·rw[h1] at ha;cases ha;exact⟨h2,h3⟩
theorem Ow.Hw (h:Ow enc sz e w lo A c n xs) (hk:∀ a,A=some a→w'.heap[a.block]?=w.heap[a.block]?):Ow enc sz e w' lo A c n xs:=by
 refine⟨h.1,h.2.1,?_⟩
 rcases h.2.2 with hv | ⟨g,cap,cur,hv,hb,hh,r⟩
 ·exact .inl hv
 ·have hA:A=some ⟨g,0,none⟩:=by injection hv
  exact .inr ⟨g,cap,cur,hv,hb,(hk _ hA).trans hh,r⟩
theorem Ow.keep (h:Ow enc sz e w lo A c n xs) (hk:KF lo w w'):Ow enc sz e w' lo A c n xs:=h.Hw fun a ha=>hk.block _ (h.blk ha).1 (h.blk ha).2
theorem Ow.less (h:Ow enc sz e w lo A c n xs) (hl:lo'≤lo):Ow enc sz e w lo' A c n xs:=by
 refine⟨h.1,h.2.1,?_⟩
 rcases h.2.2 with hv | ⟨g,cap,cur,hv,hb,r⟩
 ·exact .inl hv
 ·exact .inr ⟨g,cap,cur,hv,Nat.le_trans hl hb,r⟩
theorem Ow.Es (h:Ow enc sz e w0 lo A c n xs) (hk:KF lo w0 w):Rs enc sz w 0 A c n xs:=h.rs.A8 hk
def KW (A:Option Addr):Nat→Prop:=fun k=>∃ a,A=some a∧k=a.block
theorem Ch.app {S:Nat→Prop} (h:Ch S w0 w) (ho:Ow enc sz e w lo A c n xs) (hl:w0.heap.size≤lo) (hc:Ch (KW A) w w'):Ch S w0 w':=
 h.trans' hc (fun i hi ⟨a,ha,hk⟩=>by have:=(ho.blk ha).1;omega)
theorem Ow.new {cs:Array Value} {g:Nat} (xs:List α) (hg:g=w.heap.size) (hcs:cs=(xs.flatMap enc).toArray) (hn:n=xs.length) (hsz:∀ x,(enc x).length=sz) (hl:lo≤g) (hm:n≤4194304) :
  Ow enc sz e (w.alloc (.cells cs e)) lo (some ⟨g,0,none⟩) n n xs:=by
 subst hg hcs
 have hlen:∀ xs:List α,(xs.flatMap enc).length=xs.length*sz:=by
  intro xs
  induction xs with
  | nil=>simp
  | cons x xs ih=>simp only[List.flatMap_cons,List.length_append,hsz,ih,List.length_cons,Nat.succ_mul];omega
 refine⟨hn,?_⟩
 have:=World.ownsRow_lit (base:=lo) (e:=e) (size:=sz) w (xs.flatMap enc).toArray n hl (by unfold maxLen;omega) (by simp only[List.size_toArray];rw[hlen,hn])
 simpa using this
end
section
variable {α:Type} {enc:α→List Value} {sz:Nat} {e:TypeId} {w:World} {lo c n:Nat} {A:Option Addr} {xs:List α}
theorem Ow.at_ (h:Ow enc sz e w lo A c n xs) (hsz:∀ x,(enc x).length=sz) {k:Nat} (hk:k<n) :
  ∃ g x,A=some ⟨g,0,none⟩∧lo≤g∧g<w.heap.size∧xs[k]?=some x∧(∀ j u,j<sz→(enc x)[j]?=some u→w.cell? ⟨g,k*sz+j,none⟩=some u)∧(∀ i,w.frozen? ⟨g,i,none⟩=false):=by
 obtain⟨g',off,x,h1,h2,h3,h4,h5,h6⟩:=h.rs.at_ hsz hk
 rcases h.form with⟨hA,_⟩ | ⟨g,cur,hA,hlo,hlt,hh,_⟩
 ·rw[hA] at h1;cases h1
 ·rw[hA] at h1
  have e:=Option.some.inj h1
  injection e with e1 e2
  subst e1 e2
  exact⟨g,x,hA,hlo,hlt,h5,fun j u hj hu=>by have:=h6 j u hj hu;rwa [Nat.zero_add] at this,fun i=>by simp[World.frozen?,hh]⟩
theorem U8 (hsz:∀ x,(enc x).length=sz) {u:Value} {j:Nat} (hj:j<sz):∀ (xs:List α) (k:Nat) (x y:α),xs[k]?=some x→enc y=(enc x).set j u →
  (xs.flatMap enc).set (k*sz+j) u=(xs.set k y).flatMap enc:=by
 intro xs
 induction xs with
 | nil=>intro k x y h;simp at h
 | cons a xs ih=>
  intro k x y h hy
  cases k with
  | zero=>
   obtain rfl:a=x:=by simpa using h
   simp only[List.flatMap_cons,Nat.zero_mul,Nat.zero_add,List.set_cons_zero]
   rw[List.set_append_left _ _ (by rw[hsz];exact hj),hy]
  | succ k=>
   simp only[List.flatMap_cons,List.set_cons_succ]
   rw[List.set_append_right _ _ (by rw[hsz,Nat.succ_mul];omega)]
   rw[show (k+1)*sz+j-(enc a).length=k*sz+j from by rw[hsz,Nat.succ_mul];omega]
   rw[ih k x y (by simpa using h) hy]
theorem Ow.set (h:Ow enc sz e w lo A c n xs) (hsz:∀ x,(enc x).length=sz) {g k j:Nat} {u:Value} {x y:α} (hA:A=some ⟨g,0,none⟩) (hx:xs[k]?=some x) (hj:j<sz) (hy:enc y=(enc x).set j u) :
  Ow enc sz e (w.setCell ⟨g,k*sz+j,none⟩ u) lo A c n (xs.set k y):=by
 have hk:k<xs.length:=(List.getElem?_eq_some_iff.1 hx).1
 refine⟨by rw[List.length_set];exact h.1,?_,?_⟩
 ·rw[← U8 hsz hj xs k x y hx hy,List.length_set];exact h.2.1
 ·rcases h.form with⟨hA',_⟩ | ⟨g',cur,hA',hlo,hlt,hh,hn,hm,hs,ht⟩
  ·rw[hA'] at hA;cases hA
  ·rw[hA'] at hA
   have e1:=Option.some.inj hA
   injection e1 with e1
   subst e1
   refine .inr ⟨g',c,cur.setIfInBounds (k*sz+j) u,by rw[hA'],hlo,?_,hn,hm,by simpa using hs,?_⟩
   ·simp[World.setCell,Array.getElem?_modify,hh]
   ·rw[Array.toList_setIfInBounds,List.take_set,ht]
    exact U8 hsz hj xs k x y hx hy
end
theorem BJ {W w1:World} {lo:Nat} (h:∀ b,b<lo→w1.heap[b]?=W.heap[b]?) :
  (∀ b o,¬((⟨b,0,none⟩:Addr)=⟨b-lo+lo,0,none⟩)→w1.cell? ⟨b,o,none⟩=W.cell? ⟨b,o,none⟩) ∧
  (∀ b o,¬((⟨b,0,none⟩:Addr)=⟨b-lo+lo,0,none⟩)→w1.frozen? ⟨b,o,none⟩=W.frozen? ⟨b,o,none⟩):=
 ⟨fun b o hb=>World.cell?_of_block (w:=W) (a:=⟨b,o,none⟩) (h b (A9 hb)),fun b o hb=>World.frozen?_of_block (w:=W) (a:=⟨b,o,none⟩) (h b (A9 hb))⟩
theorem Yf {P:Program} {w:World} {o:Oper} {a:Act} {Kx:Act→World→Prop} {Q:Exit→Act→World→Prop} {α:Type} {enc:α→List Value} {sz bytes:Nat} {t e:TypeId} {s x:Operand}
  {lo lo2 c n m d:Nat} {A B:Option Addr} {xs ys:List α}
  (hel:G9 P t e sz bytes) (h1:∀ x,∀ u∈enc x,u.oneCell'=true)
  (ho:o.op=.call { callee:=.builtin .append,args:=#[s,x],argTypes:=#[t,t] }) (hs:a.eval s=.slice A n c) (hx:a.eval x=.slice B m d)
  (hown:Ow enc sz e w lo A c n xs) (hnew:Rs enc sz w lo2 B d m ys) (hb:(n+m)*bytes≤140737488355328∧n+m≤9223372036854775807) (hlo:lo≤w.heap.size)
  (K:∀ A' c' w',Ow enc sz e w' lo A' c' (n+m) (xs ++ ys)→Ch (KW A) w w'→(∀ b,A'=some b→A=some b∨w.heap.size≤b.block)→(∀ S w0,Ch S w0 w→w0.heap.size≤lo→Ch S w0 w')→(∀ b,b<lo→w'.heap[b]?=w.heap[b]?)→Kx (a.put o.dst (.slice A' (n+m) c')) w') :
  o.wp P a w Kx Q:=by
 obtain⟨i,z,hi,hz,hsz',hby,hzs⟩:=hel.info
 have hmem:∀ u∈ys.flatMap enc,u.oneCell'=true:=by
  intro u hu
  obtain⟨y,_,hy⟩:=List.mem_flatMap.1 hu
  exact h1 y u hy
 have run:∃ v' w',(Builtin.append_ #[t,t] o.type #[.slice A n c,.slice B m d]).run P w=.ok v' w'∧w'.ownsRow lo e sz v' (n+m) ((xs ++ ys).flatMap enc)∧w.grownBy w' (Value.slice A n c).ownBlock ∧
   (v'.ownBlock=(Value.slice A n c).ownBlock∨v'.ownBlock=some w.heap.size):=by
  cases B with
  | none=>
   have hd:=hnew.2.nil rfl
   have hm:m=0:=by have:=hnew.2.le;omega
   subst hd hm
   have hy:ys=[]:=List.eq_nil_of_length_eq_zero hnew.1.symm
   subst hy
   exact⟨_,w,run_append_owned_none w lo t o.type e i sz hel.sl hi _ n _ hown.2,by simpa using hown.2,World.grownBy.refl w _,.inl rfl⟩
  | some ad=>
   obtain⟨v',w',hrun,h2,h3,_,h5⟩:=run_append_own_at (P:=P) w lo t o.type e i z sz bytes hel.sl hi hz hsz' hby hzs hel.pos _ n _ hown.2 ad m d (ys.flatMap enc) hnew.2.len
    (fun j u hu=>by
     have hm:0<m:=by
      have h1:=(List.getElem?_eq_some_iff.1 hu).1
      rw[hnew.2.len] at h1
      rcases Nat.eq_zero_or_pos m with h0|h0
      ·subst h0;simp at h1
      ·exact h0
     obtain⟨h1',_,_,h4⟩:=hnew.2.cells _ rfl hm
     obtain⟨g,off,spot⟩:=ad
     dsimp only at h1' h4
     subst h1'
     rw[Addr.add_lit];exact h4 j u hu) hmem (by unfold maxLen;omega) hb.1 hlo
   exact⟨v',w',hrun,by simpa using h2,h3,h5⟩
 obtain⟨v',w',hrun,h2,h3,h5⟩:=run
 unfold Oper.wp execOp
 simp only[ho,resolve,invoke,builtin,Sem.run_bind,Sem.run_pure,Result.andThen_ok,List.map_toArray,List.map_cons,List.map_nil,hs,hx,hrun]
 have hlen:n+m=(xs ++ ys).length:=by rw[List.length_append,hown.1,hnew.1]
 have hch:Ch (KW A) w w':=⟨h3.os,h3.tape,h3.output,h3.size,fun k hk hS=>h3.block k hk (fun e=>hS (by
  cases A with
  | none=>simp[Value.ownBlock] at e
  | some a=>simp[Value.ownBlock] at e;exact⟨a,rfl,e⟩))⟩
 have hlow:∀ b,b<lo→w'.heap[b]?=w.heap[b]?:=fun b hb=>hch.block b (by omega) (fun ⟨a,ha,hk⟩=>by have:=(hown.blk ha).1;omega)
 rcases h2.2 with⟨rfl,h0⟩ | ⟨g,cap,cur,rfl,r⟩
 ·rw[h0] at hlen
  have hx':xs ++ ys=[]:=List.eq_nil_of_length_eq_zero hlen.symm
  have:=K none 0 w' ⟨by rw[hx'];simpa using h0,by rw[hx',h0];simpa using World.ownsRow_nil w' lo e sz⟩ hch (fun b hb=>by cases hb) (fun S w0 h hl=>Ch.app h hown hl hch) hlow
  rw[h0] at this
  exact this
 ·refine K (some ⟨g,0,none⟩) cap w' ⟨hlen,h2⟩ hch (fun b hb=>?_) (fun S w0 h hl=>Ch.app h hown hl hch) hlow
  obtain rfl:=Option.some.inj hb
  rcases h5 with h5|h5
  ·left
   rcases hown.form with⟨hA,_,_⟩ | ⟨g',cur',hA,_⟩
   ·subst hA;simp[Value.ownBlock] at h5
   ·subst hA;simp[Value.ownBlock] at h5;subst h5;rfl
  ·right
   simp[Value.ownBlock] at h5
   subst h5
   exact Nat.le_refl _
theorem BL {P:Program} {w:World} {ops:Array Oper} {rest:List Oper} {o:Oper} {a:Act} {Q:Exit→Act→World→Prop} {α:Type} {enc:α→List Value} {sz bytes:Nat} {t e:TypeId} {s x:Operand}
  {lo lo2 c n m d:Nat} {A B:Option Addr} {xs ys:List α}
  (hel:G9 P t e sz bytes) (h1:∀ x,∀ u∈enc x,u.oneCell'=true) (hgd:o.guard=none)
  (ho:o.op=.call { callee:=.builtin .append,args:=#[s,x],argTypes:=#[t,t] }) (hs:a.eval s=.slice A n c) (hx:a.eval x=.slice B m d)
  (hown:Ow enc sz e w lo A c n xs) (hnew:Rs enc sz w lo2 B d m ys) (hb:(n+m)*bytes≤140737488355328∧n+m≤9223372036854775807) (hlo:lo≤w.heap.size)
  (K:∀ A' c' w',Ow enc sz e w' lo A' c' (n+m) (xs ++ ys)→Ch (KW A) w w'→(∀ b,A'=some b→A=some b∨w.heap.size≤b.block)→(∀ S w0,Ch S w0 w→w0.heap.size≤lo→Ch S w0 w')→(∀ b,b<lo→w'.heap[b]?=w.heap[b]?)→wpList P ops Q rest (a.put o.dst (.slice A' (n+m) c')) w') :
  wpList P ops Q (o::rest) a w:=
 wpList_plain hgd fun K' hK'=>Yf hel h1 ho hs hx hown hnew hb hlo fun A' c' w' p1 p2 p3 p4 p5=>hK' _ _ (K A' c' w' p1 p2 p3 p4 p5)
theorem BM {P:Program} {w:World} {ops:Array Oper} {o:Oper} {a:Act} {Kx:Act→World→Prop} {Q:Exit→Act→World→Prop} {E:Prop} {α:Type} {enc:α→List Value} {sz bytes:Nat} {t e:TypeId} {s x:Operand}
  {lo lo2 c n m d:Nat} {A B:Option Addr} {xs ys:List α}
  (hel:G9 P t e sz bytes) (h1:∀ x,∀ u∈enc x,u.oneCell'=true) (hgd:o.guard=none)
  (ho:o.op=.call { callee:=.builtin .append,args:=#[s,x],argTypes:=#[t,t] }) (hs:a.eval s=.slice A n c) (hx:a.eval x=.slice B m d)
  (hown:Ow enc sz e w lo A c n xs) (hnew:Rs enc sz w lo2 B d m ys) (hb:(n+m)*bytes≤140737488355328∧n+m≤9223372036854775807) (hlo:lo≤w.heap.size)
  (K:∀ A' c' w',Ow enc sz e w' lo A' c' (n+m) (xs ++ ys)→Ch (KW A) w w'→(∀ b,A'=some b→A=some b∨w.heap.size≤b.block)→(∀ S w0,Ch S w0 w→w0.heap.size≤lo→Ch S w0 w')→(∀ b,b<lo→w'.heap[b]?=w.heap[b]?)→Kx (a.put o.dst (.slice A' (n+m) c')) w') :
  if Region.wanted o (yielded ops a.tmps)=true then o.wp P a w Kx Q else E:=by
 rw[if_pos (by simp[Region.wanted,hgd])]
 exact Yf hel h1 ho hs hx hown hnew hb hlo K
theorem MJ {α:Type} {enc:α→List Value} {sz:Nat} (zx:α) (hsz:(enc zx).length=sz) (hp:0<sz):∀ n:Nat,(madeCells (enc zx).toArray (n*sz)).toList=(List.replicate n zx).flatMap enc:=by
 intro n
 have key:∀ n:Nat,(List.range (n*sz)).map (fun j=>(enc zx).toArray[j%sz]!)=(List.replicate n zx).flatMap enc:=by
  intro n
  induction n with
  | zero=>simp
  | succ n ih=>
   rw[Nat.succ_mul,List.range_add,List.map_append,ih,List.replicate_succ',List.flatMap_append,List.flatMap_cons,List.flatMap_nil,List.append_nil]
   congr 1
   apply List.ext_getElem
   ·simp[hsz]
   ·intro j h1 h2
    have hj:j<sz:=by simpa using h1
    simp[Nat.mod_eq_of_lt hj,hsz,hj]
 rw[madeCells,Array.toList_map,Array.toList_range]
 simp only[List.size_toArray,hsz]
 exact key n
theorem PX {α:Type} {enc:α→List Value} {sz n lo g:Nat} {e:TypeId} {w:World} {cs:Array Value} (hg:g=w.heap.size:=by (first|rfl|(simp only[BO];done)|omega)) (hcs:cs=(([]:List α).flatMap enc).toArray:=by rfl) (hn:n=([]:List α).length:=by rfl) (hsz:∀ x,(enc x).length=sz:=by exact (fun _=>rfl)) (hl:lo≤g:=by exact Aq) (hm:n≤4194304:=by omega):Ow enc sz e (w.alloc (.cells cs e)) lo (some ⟨g,0,none⟩) n n ([]:List α):=Ow.new [] hg hcs hn hsz hl hm
theorem Co {p:Prop} (h:p:=by ((first|(apply Rs.A8;assumption)|(apply Ow.Es;assumption));exact AO)):p:=h
end Go.Proofs.YtgaflnpmilikcaaGreat
namespace Go.Proofs.YtgaflnpmilikcaaGreat
open Go.RowKit Go
theorem FO:G9 Tryz.prog 23 3 1 8:=.mk' (z:=.int .i64 0) Tryz.underlying23 (by kernel_rfl) rfl (by omega)
theorem Wl:G9 Tryz.prog 24 140 4 32:=.mk' (z:=.agg #[.int .i64 0,.int .i64 0,.int .i64 0,.int .i64 0]) Tryz.underlying24 (by kernel_rfl) rfl (by omega)
theorem kW:G9 Tryz.prog 68 75 3 24:=.mk' (z:=.agg #[.int .i64 0,.int .i64 0,.bool false]) Tryz.underlying68 (by kernel_rfl) rfl (by omega)
abbrev Ga:=Ow encI 1 3
abbrev sJ:=Ow Sw.FC.enc 4 140
abbrev PQ:=Ow Sw.Row.enc 3 75
theorem Dz (x:Int):∀ u∈encI x,u.oneCell'=true:=by simp[encI,Value.oneCell']
theorem Qw (x:Sw.FC):∀ u∈x.enc,u.oneCell'=true:=by simp[Sw.FC.enc,Value.oneCell']
theorem Y5 (x:Sw.Row):∀ u∈x.enc,u.oneCell'=true:=by simp[Sw.Row.enc,Value.oneCell']
set_option maxHeartbeats 400000
theorem rA:∀ i z,Tryz.prog.info? 3=some i→i.zero=some z→z.cells=(encI 0).toArray:=by
 have h:(Tryz.prog.info? 3).map (·.zero)=some (some (.int .i64 0)):=by kernel_rfl
 intro i z hi hz
 rw[hi] at h
 simp only[Option.map_some,Option.some.injEq] at h
 rw[hz] at h
 cases h
 rfl
theorem KC {w:World} {lo c n k:Nat} {A:Option Addr} {xs:List Int} (h:Ga w lo A c n xs) (hk:k<n) :
  ∃ g x,A=some ⟨g,0,none⟩∧lo≤g∧g<w.heap.size∧xs[k]?=some x∧w.cell? ⟨g,k,none⟩=some (.int .i64 x)∧(∀ i,w.frozen? ⟨g,i,none⟩=false):=by
 obtain⟨g,x,h1,h2,h3,h4,h5,h6⟩:=Ow.at_ h (fun _=>rfl) hk
 exact⟨g,x,h1,h2,h3,h4,by simpa using h5 0 _ (by omega) rfl,h6⟩
theorem aA {w:World} {lo c n k g:Nat} {A:Option Addr} {xs:List Int} (h:Ga w lo A c n xs) (hA:A=some ⟨g,0,none⟩) {a:Int} (hx:xs[k]?=some a) (v:Int) :
  Ga (w.setCell ⟨g,k,none⟩ (.int .i64 v)) lo A c n (xs.set k v):=by
 have:=Ow.set h (fun _=>rfl) (j:=0) (u:=.int .i64 v) hA hx (by omega) (y:=v) rfl
 simpa using this
set_option maxHeartbeats 400000
set_option maxHeartbeats 400000
def Rl (xs:List Int):Int:=match xs.findIdx? (fun x=>!Sw.BK x) with
 | some i=>i
 | none=>-1
theorem YN (xs:List Int):decide (0≤Rl xs) = !xs.all Sw.BK:=by
 unfold Rl
 cases h:xs.findIdx? (fun x=>!Sw.BK x) with
 | none=>
  rw[List.findIdx?_eq_none_iff] at h
  have:xs.all Sw.BK=true:=by
   rw[List.all_eq_true]
   intro x hx
   have:=h x hx
   simpa using this
  rw[this];rfl
 | some i=>
  have:xs.all Sw.BK=false:=by
   rw[List.findIdx?_eq_some_iff_getElem] at h
   obtain⟨h1,h2,_⟩:=h
   rw[List.all_eq_false]
   exact⟨xs[i],List.getElem_mem h1,by simpa using h2⟩
  rw[this]
  simp
theorem Wu {xs:List Int} {k:Nat} {y:Int} (hy:xs[k]?=some y) (h:∀ j,j<k→∀ z,xs[j]?=some z→Sw.BK z=true) (hm:Sw.BK y=false):Rl xs=k:=by
 unfold Rl
 have hk:=(List.getElem?_eq_some_iff.1 hy)
 obtain⟨hk,rfl⟩:=hk
 have:xs.findIdx? (fun x=>!Sw.BK x)=some k:=by
  rw[List.findIdx?_eq_some_iff_getElem]
  refine⟨hk,by simp[hm],fun j hj=>?_⟩
  have:=h j hj xs[j] (by simp)
  simp[this]
 rw[this]
theorem Wt {xs:List Int} {k:Nat} (hk:xs.length≤k) (h:∀ j,j<k→∀ z,xs[j]?=some z→Sw.BK z=true):Rl xs = -1:=by
 unfold Rl
 have:xs.findIdx? (fun x=>!Sw.BK x)=none:=by
  rw[List.findIdx?_eq_none_iff]
  intro x hx
  obtain⟨i,hi,rfl⟩:=List.getElem_of_mem hx
  have:=h i (by omega) xs[i] (by simp)
  simp[this]
 rw[this]
theorem ZQ (x:Int) (w:World):Calls Tryz.prog 117 #[.int .i64 x] w fun E w'=>E=.returned (.bool (!Sw.BK x))∧w=w':=by
 go_enter Tryz.func117,Tryz.ntmps117
 go_wp2_with (go_at_call 51;refine (H7 _ _).mono ?_;rintro E w' ⟨rfl,rfl⟩)
 go_ret
 exact⟨Ar rfl,rfl⟩
theorem ZR (A:Option Addr) (c n:Nat) (xs:List Int) (w:World) (hxs:RI w 0 A c n xs):Calls Tryz.prog 151 #[.slice A n c,.func (.func 117) #[] #[]] w fun E w'=>E=.returned (.int .i64 (Rl xs))∧w=w':=by
 have hl:=Lib.hid hxs.1
 have hm:n≤9223372036854775807:=by have:=hxs.2.le;have:=hxs.2.cap;unfold maxLen at this;omega
 go_enter Tryz.func151,Tryz.ntmps151
 go_wp2
 go_loop [8] (fun i=>∃ k:Nat,k≤n∧i=.int .i64 k∧∀ j,j<k→∀ z,xs[j]?=some z→Sw.BK z=true) (fun i=>n-(intOf i).toNat)
 case atStart=>exact⟨0,Nat.zero_le _,rfl,by omega⟩
 case round=>
  obtain⟨k,hk,rfl,hrel⟩:=hrel
  have BI:=Lib.hid hrel;clear hrel
  by_cases hlt:k<n
  ·obtain⟨g,off,y,rfl,hg0,hg,hd,hy,hc⟩:=G8 hxs hlt
   have Hy:=Lib.hid hy;clear hd hy
   cases hmx:Sw.BK y
   ·go_wp2_with (go_at_call 117;refine (ZQ _ _).mono ?_;rintro E w' ⟨rfl,rfl⟩)
    go_ret
    refine⟨Cv ?_,rfl⟩
    exact (Wu Hy.out BI.out hmx).symm
   ·go_wp2_with (go_at_call 117;refine (ZQ _ _).mono ?_;rintro E w' ⟨rfl,rfl⟩)
    go_round
    case rel=>
     refine⟨k+1,by omega,by go_num,?_⟩
     intro j hj z hz
     rcases Nat.lt_succ_iff_lt_or_eq.1 hj with hj'|rfl
     ·exact BI.out j hj' z hz
     ·rw[Hy.out] at hz;cases hz;exact hmx
    case measure=>simp[intOf];omega
  ·go_wp2
   go_ret
   refine⟨Cv ?_,rfl⟩
   exact (Wt (by have:=hl.out;omega) BI.out).symm
theorem SX (A:Option Addr) (c n:Nat) (xs:List Int) (w:World) (hxs:RI w 0 A c n xs):Calls Tryz.prog 110 #[.slice A n c,.func (.func 117) #[] #[]] w fun E w'=>E=.returned (.bool (!xs.all Sw.BK))∧w=w':=by
 have Hb:=Lib.hid (YN xs)
 go_enter Tryz.func110,Tryz.ntmps110
 go_wp2_with (go_at_call 151;apply Calls.mono;apply ZR;(exact Co);rintro E w' ⟨rfl,rfl⟩)
 go_ret
 exact⟨Ar Hb.out,rfl⟩
theorem Ff (A:Option Addr) (c n:Nat) (xs:List Int) (w:World) (hxs:RI w 0 A c n xs):Calls Tryz.prog 62 #[.slice A n c] w fun E w'=>E=.returned (.bool (Sw.DW xs))∧w=w':=by
 have hl:=Lib.hid hxs.1
 have hm:n≤9223372036854775807:=by have:=hxs.2.le;have:=hxs.2.cap;unfold maxLen at this;omega
 have e:Sw.DW xs=(decide (n≤40)&&xs.all Sw.BK):=by rw[Sw.DW,← hl.out]
 have He:=Lib.hid e;clear e
 by_cases hn:n≤40
 ·go_enter Tryz.func62,Tryz.ntmps62
  go_wp2_with (go_at_call 110;apply Calls.mono;apply SX;(exact Co);rintro E w' ⟨rfl,rfl⟩)
  go_ret
  exact⟨Ar (by rw[He.out];simp[hn]),rfl⟩
 ·go_enter Tryz.func62,Tryz.ntmps62
  go_wp2_with (go_at_call 110;apply Calls.mono;apply SX;(exact Co);rintro E w' ⟨rfl,rfl⟩)
  go_ret
  exact⟨Ar (by rw[He.out];simp[hn]),rfl⟩
set_option maxHeartbeats 400000
def marks:Int→Nat→List Int
 | _,0=>[]
 | k,n+1=>k::marks (k+1) n
theorem IV:∀ (n:Nat) (k:Int),(marks k n).length=n
 | 0,_=>rfl
 | n+1,k=>by rw[marks,List.length_cons,IV n]
theorem UI:∀ (n j:Nat) (k:Int),j<n→(marks k n)[j]?=some (k+j)
 | 0,j,k,h=>absurd h (Nat.not_lt_zero _)
 | n+1,0,k,_=>by simp[marks]
 | n+1,j+1,k,h=>by
  rw[marks,List.getElem?_cons_succ,UI n j (k+1) (by omega)]
  congr 1;omega
end Go.Proofs.YtgaflnpmilikcaaGreat
namespace Go.Proofs.YtgaflnpmilikcaaGreat
open Go.Shelf Go.Sort Go.RowKit Go
set_option maxHeartbeats 1000000
def EA:Ren:=Ren.mk (fun x=>match x with
 | 189=>172
 | 125=>198
 | 257=>197
 | 128=>223
 | 129=>224
 | 294=>214
 | 295=>215
 | 296=>216
 | 297=>217
 | 298=>218
 | 299=>219
 | 216=>220
 | 300=>221
 | 301=>222
 | 328=>232
 | 329=>233
 | 330=>234
 | 331=>235
 | 332=>236
 | 215=>237
 | 343=>239
 | n=>n)
 (fun x=>match x with
 | 28=>23
 | 3=>3
 | 46=>190
 | 0=>0
 | 51=>203
 | 53=>205
 | 4=>4
 | 183=>196
 | 182=>195
 | 131=>192
 | 5=>5
 | 9=>9
 | 218=>211
 | 222=>215
 | 228=>217
 | 229=>218
 | n=>n)
 (fun n=>n)
theorem Yk:Lays.n189 Tryz.prog EA where
 mixed:=rfl
 f125:=Eq.trans Tryz.func198 (congrArg some (Eq.refl (Body.n125 EA)))
 f128:=Eq.trans Tryz.func223 (congrArg some (Eq.refl (Body.n128 EA)))
 f129:=Eq.trans Tryz.func224 (congrArg some (Eq.refl (Body.n129 EA)))
 f189:=Eq.trans Tryz.func172 (congrArg some (Eq.refl (Body.n189 EA)))
 f215:=Eq.trans Tryz.func237 (congrArg some (Eq.refl (Body.n215 EA)))
 f216:=Eq.trans Tryz.func220 (congrArg some (Eq.refl (Body.n216 EA)))
 f257:=Eq.trans Tryz.func197 (congrArg some (Eq.refl (Body.n257 EA)))
 f294:=Eq.trans Tryz.func214 (congrArg some (Eq.refl (Body.n294 EA)))
 f295:=Eq.trans Tryz.func215 (congrArg some (Eq.refl (Body.n295 EA)))
 f296:=Eq.trans Tryz.func216 (congrArg some (Eq.refl (Body.n296 EA)))
 f297:=Eq.trans Tryz.func217 (congrArg some (Eq.refl (Body.n297 EA)))
 f298:=Eq.trans Tryz.func218 (congrArg some (Eq.refl (Body.n298 EA)))
 f299:=Eq.trans Tryz.func219 (congrArg some (Eq.refl (Body.n299 EA)))
 f300:=Eq.trans Tryz.func221 (congrArg some (Eq.refl (Body.n300 EA)))
 f301:=Eq.trans Tryz.func222 (congrArg some (Eq.refl (Body.n301 EA)))
 f328:=Eq.trans Tryz.func232 (congrArg some (Eq.refl (Body.n328 EA)))
 f329:=Eq.trans Tryz.func233 (congrArg some (Eq.refl (Body.n329 EA)))
 f330:=Eq.trans Tryz.func234 (congrArg some (Eq.refl (Body.n330 EA)))
 f331:=Eq.trans Tryz.func235 (congrArg some (Eq.refl (Body.n331 EA)))
 f332:=Eq.trans Tryz.func236 (congrArg some (Eq.refl (Body.n332 EA)))
 f343:=Eq.trans Tryz.func239 (congrArg some (Eq.refl (Body.n343 EA)))
 t0:=Tryz.underlying0
 a0:=Tryz.isAgg0
 z0:=Tryz.sizeOf0
 v0:=Tryz.zeroValue0
 t3:=Tryz.underlying3
 a3:=Tryz.isAgg3
 z3:=Tryz.sizeOf3
 v3:=Tryz.zeroValue3
 t4:=Tryz.underlying4
 a4:=Tryz.isAgg4
 z4:=Tryz.sizeOf4
 v4:=Tryz.zeroValue4
 t5:=Tryz.underlying5
 a5:=Tryz.isAgg5
 z5:=Tryz.sizeOf5
 v5:=Tryz.zeroValue5
 t9:=Tryz.underlying9
 a9:=Tryz.isAgg9
 z9:=Tryz.sizeOf9
 v9:=Tryz.zeroValue9
 t28:=Tryz.underlying23
 a28:=Tryz.isAgg23
 z28:=Tryz.sizeOf23
 v28:=Tryz.zeroValue23
 t46:=Tryz.underlying190
 a46:=Tryz.isAgg190
 z46:=Tryz.sizeOf190
 v46:=Tryz.zeroValue190
 t51:=Tryz.underlying203
 a51:=Tryz.isAgg203
 z51:=Tryz.sizeOf203
 v51:=Tryz.zeroValue203
 t53:=Tryz.underlying205
 a53:=Tryz.isAgg205
 z53:=Tryz.sizeOf205
 v53:=Tryz.zeroValue205
 t131:=Tryz.underlying192
 a131:=Tryz.isAgg192
 z131:=Tryz.sizeOf192
 v131:=Tryz.zeroValue192
 t182:=Tryz.underlying195
 a182:=Tryz.isAgg195
 z182:=Tryz.sizeOf195
 v182:=Tryz.zeroValue195
 t183:=Tryz.underlying196
 a183:=Tryz.isAgg196
 z183:=Tryz.sizeOf196
 v183:=Tryz.zeroValue196
 t218:=Tryz.underlying211
 a218:=Tryz.isAgg211
 z218:=Tryz.sizeOf211
 v218:=Tryz.zeroValue211
 t222:=Tryz.underlying215
 a222:=Tryz.isAgg215
 z222:=Tryz.sizeOf215
 v222:=Tryz.zeroValue215
 t228:=Tryz.underlying217
 a228:=Tryz.isAgg217
 z228:=Tryz.sizeOf217
 v228:=Tryz.zeroValue217
 t229:=Tryz.underlying218
 a229:=Tryz.isAgg218
 z229:=Tryz.sizeOf218
 v229:=Tryz.zeroValue218
theorem iI (xs:List Int):xs.flatMap encI=xs.map (Value.int .i64):=by
 induction xs with
 | nil=>rfl
 | cons x xs ih=>rw[List.flatMap_cons,ih];rfl
theorem dR (A:Option Addr) (c n lo:Nat) (xs:List Int) (w:World) (h:Ga w lo A c n xs) (h0:0<n) (hn:n≤4194304):Calls Tryz.prog 172 #[.slice A n c] w fun E w'=>E=.returned (.tuple #[])∧Ga w' lo A c n (xs.mergeSort fun x y=>decide (x≤y))∧Ch (KW A) w w':=by
 rcases h.form with⟨h1,h2,_⟩ | ⟨g,cur,rfl,hlo,hlt,hb,hnc,hcm,hsz,htk⟩
 ·omega
 obtain rfl:=h.1
 rw[iI,Nat.mul_one] at htk
 refine (Any.slices_Sort_int Yk g 0 c xs w (holds_of_blockI hb htk) hlt (by omega)).mono ?_
 rintro E w' ⟨rfl,k,os,rfl⟩
 have hl:(xs.mergeSort fun x y=>decide (x≤y)).length=xs.length:=by simp
 refine⟨rfl,⟨hl.symm,?_⟩,?_⟩
 ·have:=ownsRow_sortedI (n:=k) (os:=os) hl hlo hb hnc hcm hsz
  rw[iI]
  exact this
 ·have:=grownBy_sortedI (w:=w) (g:=g) (n:=k) (os:=os) (xs.mergeSort fun x y=>decide (x≤y)).toArray
  exact⟨this.os,this.tape,this.output,this.size,fun i hi hS=>this.block i hi (fun e=>hS ⟨_,rfl,Option.some.inj e⟩)⟩
end Go.Proofs.YtgaflnpmilikcaaGreat
namespace Go.Proofs.YtgaflnpmilikcaaGreat
open Go.RowKit Go
theorem Ce.sW {rb:Nat} {W w:World} {p:Addr} {u:Value} (h:Ce rb W w) (hp:p.block=rb):Ce rb W (w.setCell p u):=.of (h.2.setCell (.inl hp) u)
theorem Ce.drw {rb:Nat} {W w:World} (h:Ce rb W w):Ce rb W w.drew:=.of h.2.drew
theorem Ce.sw (rb:Nat) (W:World):Ce rb W W:=.of (Ch.refl _ _)
theorem mI {p:Prop} (h:p:=by ((try dsimp only);(repeat (first|with_reducible assumption|with_reducible exact Ce.start _ _|with_reducible refine Ce.sW ?_ rfl|with_reducible refine Ce.alloc ?_ _|with_reducible refine Ce.drw ?_|with_reducible exact Ce.ex (by assumption) (by assumption)|with_reducible exact Ce.of (Ex.ch (by assumption))|with_reducible exact Ce.sw _ _)))):p:=h
set_option maxHeartbeats 400000
theorem Hl (A:Option Addr) (c n:Nat) (xs:List Int) (B:Option Addr) (d m:Nat) (ys:List Int) (w:World) (hxs:RI w 0 A c n xs) (hys:RI w 0 B d m ys):Calls Tryz.prog 42 #[.slice A n c,.slice B m d] w fun E w'=>E=.returned (.bool (decide (xs=ys)))∧Ex w w':=by
 have hl:=Lib.hid hxs.1
 have hl':=Lib.hid hys.1
 have hbig:n≤9223372036854775807:=by have:=hxs.2.le;have:=hxs.2.cap;unfold maxLen at this;omega
 by_cases hnm:n=m
 case neg=>
  have hb:((n:Int)==m)=false:=by simp;omega
  have e:decide (xs=ys)=false:=by
   rw[decide_eq_false_iff_not];rintro rfl
   have:=hl.out;have:=hl'.out;omega
  rw[e];clear e
  go_enter Tryz.func42,Tryz.ntmps42
  go_wp2_with fail
  go_ret
  exact⟨rfl,AA⟩
 subst hnm
 go_enter Tryz.func42,Tryz.ntmps42
 go_wp2_with fail
 go_loopw [5] (fun i wr=>∃ k:Nat,k≤n∧i=.int .i64 k∧Ex w wr∧decide (xs=ys)=decide (xs.drop k=ys.drop k)) (fun i _=>n-(intOf i).toNat)
 case atStart=>exact⟨0,Nat.zero_le _,rfl,Ch.refl _ _,rfl⟩
 case round=>
  obtain⟨k,hk,rfl,hb2,hrel⟩:=hrel
  have hst:=Ex.rules hb2 rfl
  obtain⟨hc2,hf2,hz2⟩:=hst
  by_cases hlt:k<n
  ·obtain⟨g,off,y,rfl,hg0,hg,hd,hy,hcy⟩:=G8 hxs hlt
   obtain⟨g',off',z,rfl,hg0',hg',hd',hz',hcz⟩:=G8 hys hlt
   have t1:(0:Int)≤(k:Int):=by omega
   have t2:(k:Int)<(n:Int):=by omega
   rw[hd,hd'] at hrel
   have BI:=Lib.hid hrel
   clear hrel hd hd' hy hz'
   by_cases hyz:y=z
   ·subst hyz
    go_wp2_with fail
    go_quiet ((first|fail))
    go_wp2
    go_roundw
    case rel=>exact⟨k+1,by omega,by go_num,AA,by rw[BI.out];simp⟩
    case measure=>simp[intOf];omega
   ·go_wp2_with fail
    go_quiet ((first|fail))
    go_wp2
    go_ret
    exact⟨Ar (by rw[BI.out];simp[hyz]),AA⟩
  ·have BI:=Lib.hid hrel;clear hrel
   go_wp2_with fail
   go_ret
   refine⟨Ar ?_,AA⟩
   rw[BI.out,List.drop_of_length_le (by have:=hl.out;omega),List.drop_of_length_le (by have:=hl'.out;omega)]
   simp
theorem Ie (w:World):Calls Tryz.prog 16 #[] w fun E w'=>E=.returned (.bool true)∧w=w':=by
 have h1:Sw.BK 1=true:=rfl
 go_enter Tryz.func16,Tryz.ntmps16
 go_wp2_with (go_at_call 51;refine (H7 _ _).mono ?_;rintro E w' ⟨rfl,rfl⟩)
 go_ret
 exact⟨Ar (by simp[h1]),rfl⟩
theorem Ho (t:Sw.Head) (A:Option Addr) (c n:Nat) (xs:List Int) (u:Sw.Head) (B:Option Addr) (d m:Nat) (ys:List Int) (w:World) (hxs:RI w 0 A c n xs) (hys:RI w 0 B d m ys):Calls Tryz.prog 28 #[.agg #[.int .i64 t.size,.int .i64 t.log,.int .i64 t.own,.slice A n c],.agg #[.int .i64 u.size,.int .i64 u.log,.int .i64 u.own,.slice B m d]] w fun E w'=>E=.returned (.bool (decide (t=u)&&decide (xs=ys)))∧Ex w w':=by
 go_enter Tryz.func28,Tryz.ntmps28
 go_wp2_with (go_at_call 42;apply Calls.mono;apply Hl;(exact Co);(exact Co);rintro E w1 ⟨rfl,hb⟩;obtain⟨hc,hf,hz⟩:=xy hb)
 all_goals (go_ret;refine⟨Ar ?_,AA⟩;go_tidy;simp only[MP])
 all_goals (first|(simp[*];done)|(simp_all;done))
end Go.Proofs.YtgaflnpmilikcaaGreat
