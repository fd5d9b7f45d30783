/- Texts joined: LawTo, LawTo2, MktA, CopyK, DrawE, Draw2, WldA. -/
import Derived.Test.YtgaflnpmilikcaaGreatPx10
import Derived.Test.YtgaflnpmilikcaaGreatPx7
import Derived.Test.YtgaflnpmilikcaaGreatPx9
import Derived.Test.YtgaflnpmilikcaaGreatPx11
import Derived.Laws.IdiomCopy
import Derived.ArgAppend
import Derived.Lib.SliceRun
set_option maxRecDepth 100000
set_option linter.unusedSimpArgs false
set_option linter.unusedVariables false
namespace Go.Proofs.YtgaflnpmilikcaaGreat
open Go.RowKit Go
set_option maxHeartbeats 400000
section
variable {w:World} {lo c n k:Nat} {A:Option Addr}
theorem MX {xs:List Sw.BC} (h:Pw w lo A c n xs) (hk:k<n) :
  ∃ g x,A=some ⟨g,0,none⟩∧lo≤g∧g<w.heap.size∧xs[k]?=some x∧w.cell? ⟨g,k*5,none⟩=some (.int .i64 x.ticket)∧w.cell? ⟨g,k*5+1,none⟩=some (.int .i64 x.BP) ∧
   w.cell? ⟨g,k*5+2,none⟩=some (.int .i64 x.Al)∧w.cell? ⟨g,k*5+3,none⟩=some (.int .i64 x.BN)∧w.cell? ⟨g,k*5+4,none⟩=some (.int .i64 x.due)∧(∀ i,w.frozen? ⟨g,i,none⟩=false):=by
 obtain⟨g,x,h1,h2,h3,h4,h5,h6⟩:=Ow.at_ h (fun _=>rfl) hk
 exact⟨g,x,h1,h2,h3,h4,by simpa using h5 0 _ (by omega) rfl,h5 1 _ (by omega) rfl,h5 2 _ (by omega) rfl,h5 3 _ (by omega) rfl,h5 4 _ (by omega) rfl,h6⟩
theorem Lc {xs:List GV} (h:Z_ w lo A c n xs) (hk:k<n) :
  ∃ g x,A=some ⟨g,0,none⟩∧lo≤g∧g<w.heap.size∧xs[k]?=some x∧w.cell? ⟨g,k*4,none⟩=some (.int .i64 x.h.size)∧w.cell? ⟨g,k*4+1,none⟩=some (.int .i64 x.h.log) ∧
   w.cell? ⟨g,k*4+2,none⟩=some (.int .i64 x.h.own)∧w.cell? ⟨g,k*4+3,none⟩=some (.slice x.A x.n x.c)∧(∀ i,w.frozen? ⟨g,i,none⟩=false):=by
 obtain⟨g,x,h1,h2,h3,h4,h5,h6⟩:=Ow.at_ h (fun _=>rfl) hk
 exact⟨g,x,h1,h2,h3,h4,by simpa using h5 0 _ (by omega) rfl,h5 1 _ (by omega) rfl,h5 2 _ (by omega) rfl,h5 3 _ (by omega) rfl,h6⟩
theorem Wv {xs:List XV} (h:MZ w lo A c n xs) (hk:k<n) :
  ∃ g x,A=some ⟨g,0,none⟩∧lo≤g∧g<w.heap.size∧xs[k]?=some x∧w.cell? ⟨g,k*5,none⟩=some (.int .i64 x.g)∧w.cell? ⟨g,k*5+1,none⟩=some (.int .i64 x.h.size)∧w.cell? ⟨g,k*5+2,none⟩=some (.int .i64 x.h.log) ∧
   w.cell? ⟨g,k*5+3,none⟩=some (.int .i64 x.h.own)∧w.cell? ⟨g,k*5+4,none⟩=some (.slice x.A x.n x.c)∧(∀ i,w.frozen? ⟨g,i,none⟩=false):=by
 obtain⟨g,x,h1,h2,h3,h4,h5,h6⟩:=Ow.at_ h (fun _=>rfl) hk
 exact⟨g,x,h1,h2,h3,h4,by simpa using h5 0 _ (by omega) rfl,h5 1 _ (by omega) rfl,h5 2 _ (by omega) rfl,h5 3 _ (by omega) rfl,h5 4 _ (by omega) rfl,h6⟩
end
end Go.Proofs.YtgaflnpmilikcaaGreat
namespace Go.Proofs.YtgaflnpmilikcaaGreat
open Go.RowKit Go
set_option maxHeartbeats 400000
def Lf (τ:Nat→Nat) (w:World) (lo g0 k n:Nat) (gs:List Sw.Gate):Prop:=
 ∃ vs:List GV,Z_ w lo (some ⟨g0,0,none⟩) n n vs∧τ g0=8∧∀ (j:Nat) (v:GV) (g:Sw.Gate),j<k→vs[j]?=some v→gs[j]?=some g→v.h=g.head∧JY τ (Jk j) w lo v.A v.c v.n g.done
def OT (τ:Nat→Nat) (w:World) (lo g0 k n:Nat) (xs:List Sw.IX):Prop:=
 ∃ vs:List XV,MZ w lo (some ⟨g0,0,none⟩) n n vs∧τ g0=9∧∀ (j:Nat) (v:XV) (x:Sw.IX),j<k→vs[j]?=some v→xs[j]?=some x→v.g=x.gate∧v.h=x.head∧JY τ (I4 j) w lo v.A v.c v.n x.proof
theorem Lf.at_ {τ:Nat→Nat} {w:World} {lo g0 k n j:Nat} {gs:List Sw.Gate} (h:Lf τ w lo g0 k n gs) (hj:j<n) :
  ∃ x:GV,lo≤g0∧g0<w.heap.size∧w.cell? ⟨g0,j*4,none⟩=some (.int .i64 x.h.size)∧w.cell? ⟨g0,j*4+1,none⟩=some (.int .i64 x.h.log) ∧
   w.cell? ⟨g0,j*4+2,none⟩=some (.int .i64 x.h.own)∧w.cell? ⟨g0,j*4+3,none⟩=some (.slice x.A x.n x.c)∧(∀ i,w.frozen? ⟨g0,i,none⟩=false):=by
 obtain⟨vs,h1,_,_⟩:=h
 obtain⟨g,x,hA,h3,h4,_,h5,h6,h7,h8,h9⟩:=Lc h1 hj
 cases hA
 exact⟨x,h3,h4,h5,h6,h7,h8,h9⟩
theorem OT.at_ {τ:Nat→Nat} {w:World} {lo g0 k n j:Nat} {gs:List Sw.IX} (h:OT τ w lo g0 k n gs) (hj:j<n) :
  ∃ x:XV,lo≤g0∧g0<w.heap.size∧w.cell? ⟨g0,j*5,none⟩=some (.int .i64 x.g)∧w.cell? ⟨g0,j*5+1,none⟩=some (.int .i64 x.h.size)∧w.cell? ⟨g0,j*5+2,none⟩=some (.int .i64 x.h.log) ∧
   w.cell? ⟨g0,j*5+3,none⟩=some (.int .i64 x.h.own)∧w.cell? ⟨g0,j*5+4,none⟩=some (.slice x.A x.n x.c)∧(∀ i,w.frozen? ⟨g0,i,none⟩=false):=by
 obtain⟨vs,h1,_,_⟩:=h
 obtain⟨g,x,hA,h3,h4,_,h5,h6,h7,h8,h9,h10⟩:=Wv h1 hj
 cases hA
 exact⟨x,h3,h4,h5,h6,h7,h8,h9,h10⟩
theorem EG {g b:Nat} (h:b≠g):∀ (vs:List Value) (w:World) (i:Nat),(setCells w g i vs).heap[b]?=w.heap[b]?
 | [],_,_=>rfl
 | v::vs,w,i=>by rw[setCells,EG h vs];exact Below.heap_setCell _ _ _ _ h
theorem Jz {g:Nat}:∀ (vs:List Value) (w:World) (i:Nat),(setCells w g i vs).heap.size=w.heap.size
 | [],_,_=>rfl
 | v::vs,w,i=>by rw[setCells,Jz vs];simp
theorem Lf.step {τ:Nat→Nat} {w w1:World} {lo g0 k n g1 m:Nat} {gs:List Sw.Gate} {y:Sw.Gate} (h:Lf τ w lo g0 k n gs) (hk:k<n) (hy:gs[k]?=some y) (hb:Ex w w1)
  (ho:Ga w1 w.heap.size (some ⟨g1,0,none⟩) m m y.done) (hlo:lo≤w.heap.size) :
  Lf (glue τ w.heap.size (fun _=>Jk k)) (setCells w1 g0 (k*4) (GV.enc ⟨y.head,some ⟨g1,0,none⟩,m,m⟩)) lo g0 (k+1) n gs:=by
 obtain⟨vs,h1,h2,h3⟩:=h
 have hg0:=(h1.blk rfl)
 dsimp only at hg0
 have h1':Z_ w1 lo (some ⟨g0,0,none⟩) n n vs:=h1.keep (KF.ex hb (KF.refl _ _))
 refine⟨_,Ow.put h1' (fun _=>rfl) ⟨y.head,some ⟨g1,0,none⟩,m,m⟩ rfl hk,?_,?_⟩
 ·unfold glue;rw[if_pos hg0.2];exact h2
 ·intro j v g hj hv hg
  rw[List.getElem?_set] at hv
  by_cases hjk:k=j
  ·subst hjk
   rw[if_pos rfl,if_pos (by rw[← h1.1];exact hk)] at hv
   cases hv
   rw[hy] at hg
   cases hg
   refine⟨rfl,⟨?_,?_⟩⟩
   ·refine (ho.less hlo).Hw fun a ha=>?_
    cases ha
    have:=(ho.blk rfl).1
    exact EG (show g1≠g0 by dsimp only at this;omega) _ _ _
   ·intro a ha
    cases ha
    have:=(ho.blk rfl).1
    unfold glue;dsimp only at this ⊢;rw[if_neg (by omega)]
  ·rw[if_neg hjk] at hv
   obtain⟨e,hr⟩:=h3 j v g (by omega) hv hg
   refine⟨e,⟨hr.ow.Hw fun a ha=>?_,fun a ha=>?_⟩⟩
   ·have hlt:=(hr.ow.blk ha).2
    rw[EG,hb.block _ hlt (fun h=>h)]
    intro e
    have:=hr.tag a ha
    rw[e,h2] at this
    unfold Jk at this;omega
   ·unfold glue;rw[if_pos (hr.ow.blk ha).2];exact hr.tag a ha
theorem OT.step {τ:Nat→Nat} {w w1:World} {lo g0 k n g1 m:Nat} {gs:List Sw.IX} {y:Sw.IX} (h:OT τ w lo g0 k n gs) (hk:k<n) (hy:gs[k]?=some y) (hb:Ex w w1)
  (ho:Ga w1 w.heap.size (some ⟨g1,0,none⟩) m m y.proof) (hlo:lo≤w.heap.size) :
  OT (glue τ w.heap.size (fun _=>I4 k)) (setCells w1 g0 (k*5) (XV.enc ⟨y.gate,y.head,some ⟨g1,0,none⟩,m,m⟩)) lo g0 (k+1) n gs:=by
 obtain⟨vs,h1,h2,h3⟩:=h
 have hg0:=(h1.blk rfl)
 dsimp only at hg0
 have h1':MZ w1 lo (some ⟨g0,0,none⟩) n n vs:=h1.keep (KF.ex hb (KF.refl _ _))
 refine⟨_,Ow.put h1' (fun _=>rfl) ⟨y.gate,y.head,some ⟨g1,0,none⟩,m,m⟩ rfl hk,?_,?_⟩
 ·unfold glue;rw[if_pos hg0.2];exact h2
 ·intro j v g hj hv hg
  rw[List.getElem?_set] at hv
  by_cases hjk:k=j
  ·subst hjk
   rw[if_pos rfl,if_pos (by rw[← h1.1];exact hk)] at hv
   cases hv
   rw[hy] at hg
   cases hg
   refine⟨rfl,rfl,⟨?_,?_⟩⟩
   ·refine (ho.less hlo).Hw fun a ha=>?_
    cases ha
    have:=(ho.blk rfl).1
    exact EG (show g1≠g0 by dsimp only at this;omega) _ _ _
   ·intro a ha
    cases ha
    have:=(ho.blk rfl).1
    unfold glue;dsimp only at this ⊢;rw[if_neg (by omega)]
  ·rw[if_neg hjk] at hv
   obtain⟨e1,e,hr⟩:=h3 j v g (by omega) hv hg
   refine⟨e1,e,⟨hr.ow.Hw fun a ha=>?_,fun a ha=>?_⟩⟩
   ·have hlt:=(hr.ow.blk ha).2
    rw[EG,hb.block _ hlt (fun h=>h)]
    intro e
    have:=hr.tag a ha
    rw[e,h2] at this
    unfold I4 at this;omega
   ·unfold glue;rw[if_pos (hr.ow.blk ha).2];exact hr.tag a ha
theorem Lf.all {τ:Nat→Nat} {w:World} {lo g0 n:Nat} {gs:List Sw.Gate} (h:Lf τ w lo g0 n n gs) (hn:n=gs.length):Kj Jk τ w lo (some ⟨g0,0,none⟩) n n gs:=by
 obtain⟨vs,h1,h2,h3⟩:=h
 exact⟨vs,⟨h1,fun a ha=>by cases ha;exact h2⟩,hn,fun k v g hv hg=>h3 k v g (by have:=(List.getElem?_eq_some_iff.1 hg).1;omega) hv hg⟩
theorem OT.all {τ:Nat→Nat} {w:World} {lo g0 n:Nat} {gs:List Sw.IX} (h:OT τ w lo g0 n n gs) (hn:n=gs.length):KH I4 τ w lo (some ⟨g0,0,none⟩) n n gs:=by
 obtain⟨vs,h1,h2,h3⟩:=h
 exact⟨vs,⟨h1,fun a ha=>by cases ha;exact h2⟩,hn,fun k v g hv hg=>h3 k v g (by have:=(List.getElem?_eq_some_iff.1 hg).1;omega) hv hg⟩
set_option maxHeartbeats 8000000
theorem JJ (r:Sw.Ee) (w:World):Calls Tryz.prog 26 #[.agg #[.int .i64 r.user,.int .i64 r.n,.int .i64 r.kind,.int .i64 r.ticket,.int .i64 r.who,.int .i64 r.Al]] w fun E w'=>E=.returned (.bool (Sw.CR r))∧Ex w w':=by
 cases g1:Sw.Br r.user 1 5
 case false=>go_enter Tryz.func26,Tryz.ntmps26;go_wp2_with (go_at_call 48;refine (Aw _ _ _ _).mono ?_;rintro E w' ⟨rfl,rfl⟩);go_ret;exact⟨Ar (by simp[Sw.CR,g1]),AA⟩
 cases g2:Sw.Br r.n 1 99999
 case false=>go_enter Tryz.func26,Tryz.ntmps26;go_wp2_with (go_at_call 48;refine (Aw _ _ _ _).mono ?_;rintro E w' ⟨rfl,rfl⟩);go_ret;exact⟨Ar (by simp[Sw.CR,g2]),AA⟩
 cases g3:Sw.Br r.kind 1 6
 case false=>go_enter Tryz.func26,Tryz.ntmps26;go_wp2_with (go_at_call 48;refine (Aw _ _ _ _).mono ?_;rintro E w' ⟨rfl,rfl⟩);go_ret;exact⟨Ar (by simp[Sw.CR,g3]),AA⟩
 cases g4:Sw.Br r.ticket 0 7
 case false=>go_enter Tryz.func26,Tryz.ntmps26;go_wp2_with (go_at_call 48;refine (Aw _ _ _ _).mono ?_;rintro E w' ⟨rfl,rfl⟩);go_ret;exact⟨Ar (by simp[Sw.CR,g4]),AA⟩
 have e:Sw.CR r=(if r.kind=1 then Sw.Br r.who 1 5&&Sw.Br r.Al 1 50 else decide (r.who=0)&&(if r.kind=2 then Sw.Br r.Al 1 999 else decide (r.Al=0))):=by simp[Sw.CR,g1,g2,g3,g4]
 have He:=Lib.hid e;clear e
 by_cases k1:r.kind=1
 ·have k1':(r.kind==1)=true:=by simp[k1]
  have K1:=Lib.hid k1;clear k1
  cases g5:Sw.Br r.who 1 5
  all_goals
   go_enter Tryz.func26,Tryz.ntmps26
   go_wp2_with (go_at_call 48;refine (Aw _ _ _ _).mono ?_;rintro E w' ⟨rfl,rfl⟩)
   go_ret
   exact⟨Ar (by rw[He.out,if_pos K1.out];simp[g5]),AA⟩
 have k1':(r.kind==1)=false:=by simp[k1]
 cases g5:(r.who==0)
 case false=>
  go_enter Tryz.func26,Tryz.ntmps26
  go_wp2_with (go_at_call 48;refine (Aw _ _ _ _).mono ?_;rintro E w' ⟨rfl,rfl⟩)
  go_ret
  exact⟨Ar (by rw[He.out,if_neg k1];rw[← Em,g5];rfl),AA⟩
 by_cases k2:r.kind=2
 ·have k2':(r.kind==2)=true:=by simp[k2]
  have tX:(r.kind != 2)=false:=by simp[k2]
  have K2:=Lib.hid k2;clear k2
  cases g6:Sw.Br r.Al 1 999
  all_goals
   go_enter Tryz.func26,Tryz.ntmps26
   go_wp2_with (go_at_call 48;refine (Aw _ _ _ _).mono ?_;rintro E w' ⟨rfl,rfl⟩)
   go_ret
   exact⟨Ar (by rw[He.out,if_neg k1,if_pos K2.out];rw[← Em,g5,g6];rfl),AA⟩
 have k2':(r.kind==2)=false:=by simp[k2]
 have tX:(r.kind != 2)=true:=by simp[k2]
 cases g6:(r.Al==0)
 all_goals
  go_enter Tryz.func26,Tryz.ntmps26
  go_wp2_with (go_at_call 48;refine (Aw _ _ _ _).mono ?_;rintro E w' ⟨rfl,rfl⟩)
  go_ret
  exact⟨Ar (by rw[He.out,if_neg k1,if_neg k2];rw[← Em,← Em,g5,g6];rfl),AA⟩
def GZ (clock:Int) (d:Sw.BC):Bool:=if d.BN=0 then decide (d.due=0) else Sw.Br d.BN 1 5&&decide (d.BN≠d.BP)&&Sw.Br d.due clock (clock+5)
theorem VB {clock:Int} {rows:List Sw.Row} {d:Sw.BC} {r:Sw.Row} (ho:Sw.EH rows=true) (hr:Sw.rowAt rows d.ticket=r) :
  Sw.Ew clock rows d=(Sw.Br d.ticket 0 7&&decide (r.who=d.BP)&&decide (d.BP≠0) && !r.used&&Sw.Br d.Al 1 (Sw.C9 r.EY)&&GZ clock d):=by
 have h1:=Sw.J4 ho d.ticket
 rw[hr,Sw.IQ] at h1
 unfold Sw.Ew
 rw[hr]
 unfold GZ
 by_cases hs:r.who=d.BP
 ·by_cases h0:d.BP=0
  ·have:Sw.Br d.BP 1 5=false:=by rw[h0];rfl
   have nE:Sw.Br 0 1 5=false:=rfl
   simp[nE,h0]
  ·have:Sw.Br d.BP 1 5=true:=Sw.BB.2 (by omega)
   simp[this,h0]
 ·simp[hs]
theorem O9 {clock:Int} {rows:List Sw.Row} {p:Int} {d:Sw.BC} {ds:List Sw.BC}:Sw.FP clock rows p (d::ds)=(Sw.Ew clock rows d&&decide (p<d.ticket)&&Sw.FP clock rows d.ticket ds):=rfl
def Rn (xs:List Sw.BC) (k:Nat) (p:Int):Prop:=k=0∧p = -1∨∃ j y,k=j+1∧xs[j]?=some y∧y.ticket=p∧0≤p
def Ez (m:Sw.CV):Bool:=(Sw.Bq m.log).isSome&&Sw.DR m.Ai&&decide (m.AJ.length≤8)&&Sw.Br m.clock 0 99999&&decide (m.nums.length=5)&&decide (m.said.length=5)
theorem P6 (m:Sw.CV):Sw.GX m=(Ez m&&Sw.FP m.clock (Sw.CS m) (-1) m.AJ&&Sw.GR m.nums m.said&&decide (Sw.DV m.Ai+Sw.Ef m≤100000)):=by
 simp[Sw.GX,Ez]
theorem SC {ns ss:List Int} {k:Nat} {a b:Int} (ha:ns.drop k=a::ns.drop (k+1)) (hb:ss.drop k=b::ss.drop (k+1)):Sw.GR (ns.drop k) (ss.drop k)=(Sw.J6 a b&&Sw.GR (ns.drop (k+1)) (ss.drop (k+1))):=by rw[ha,hb];rfl
theorem IC {P:Program} (w:World) (dT sT ty elem:TypeId) (sz b o dLen dCap:Nat) (a:Addr) (sLen sCap:Nat) (cs:List Value)
  (hu:P.underlying dT=some (.slice elem)) (hs:(P.info? elem).map (·.size)=some sz) (hn:cs.length=Nat.min sLen dLen*sz)
  (hsrc:∀ j v,cs[j]?=some v→w.cell? (a.add j)=some v) (hc:∀ j,j<cs.length→(w.cell? ⟨b,o+j,none⟩).isSome=true) (hf:∀ j,j<cs.length→w.frozen? ⟨b,o+j,none⟩=false) (h1:∀ v∈cs,v.oneCell'=true) :
  (Builtin.copy_ #[dT,sT] ty #[.slice (some ⟨b,o,none⟩) dLen dCap,.slice (some a) sLen sCap]).run P w=.ok (goInt (Nat.min sLen dLen)) (w.setCells b o cs):=by
 have hl:=run_loadCells_list (P:=P) w a cs hsrc
 have hst:=run_storeCells_cells (P:=P) b o cs 0 w (by simpa using hc) (by simpa using hf) h1
 cases hq:P.info? elem with
 | none=>simp[hq] at hs
 | some i=>
  have hi:i.size=sz:=by simpa [hq] using hs
  simp[Builtin.copy_,run_underlying hu,Builtin.lenOf,Builtin.firstCells,sizeOf,typeInfo,hq,hi,← hn,hl,hst]
theorem Ko {P:Program} (w:World) (t e ty:TypeId) (z:Value) (zs:List Value) (ht:P.underlying t=some (.slice e)) (hv:∀ w,(zeroValue e).run P w=.ok z w) (b o n c:Nat) (hn:0<n) (hzc:(Builtin.zeroCells z.cells n).toList=zs) (h1:∀ v∈zs,v.oneCell'=true)
  (hc:∀ j,j<zs.length→(w.cell? ⟨b,o+j,none⟩).isSome=true) (hf:∀ j,j<zs.length→w.frozen? ⟨b,o+j,none⟩=false) :
  (Builtin.clear_ #[t] ty #[.slice (some ⟨b,o,none⟩) n c]).run P w=.ok (.tuple #[]) (w.setCells b o zs):=by
 have hst:=run_storeCells_cells (P:=P) b o zs 0 w (by simpa using hc) (by simpa using hf) h1
 simp only[Nat.add_zero] at hst
 obtain⟨m,rfl⟩:∃ m,n=m+1:=⟨n-1,by omega⟩
 simp[Builtin.clear_,run_underlying ht,hv,hzc,hst]
theorem IK {e:TypeId} {fz:Nat × Nat} {g:Nat}:∀ (vs:List Value) (o:Nat) (w:World) (cur:Array Value),w.heap[g]?=some (.cells cur e fz)→o+vs.length≤cur.size →
  ∃ cur',(w.setCells g o vs).heap[g]?=some (.cells cur' e fz)∧cur'.size=cur.size∧cur'.toList=cur.toList.take o ++ vs ++ cur.toList.drop (o+vs.length)
 | [],o,w,cur,h,hl=>⟨cur,h,rfl,by simp⟩
 | v::r,o,w,cur,h,hl=>by
  simp only[List.length_cons] at hl
  have h1:(w.setCell ⟨g,o,none⟩ v).heap[g]?=some (.cells (cur.setIfInBounds o v) e fz):=by simp[World.setCell,Array.getElem?_modify,h]
  obtain⟨c2,h2,h3,h4⟩:=IK r (o+1) _ _ h1 (by simp;omega)
  refine⟨c2,h2,by simpa using h3,?_⟩
  rw[h4,Array.toList_setIfInBounds]
  have ho:o<cur.toList.length:=by simp;omega
  rw[List.drop_set_of_lt (by omega),List.take_set,List.take_add_one,List.getElem?_eq_getElem ho,List.set_append_right _ _ (by simp;omega)]
  simp[Nat.min_eq_left (Nat.le_of_lt (by simpa using ho)),Nat.add_assoc,Nat.add_comm 1]
theorem JC {g i:Nat} (h:i≠g):∀ (vs:List Value) (o:Nat) (w:World),(w.setCells g o vs).heap[i]?=w.heap[i]?
 | [],_,_=>rfl
 | v::r,o,w=>by rw[World.setCells,JC h r];exact Below.heap_setCell _ _ _ _ h
theorem Ch.setCells {S:Nat→Prop} {a:World} {g:Nat} (hg:S g∨a.heap.size≤g):∀ (vs:List Value) (o:Nat) (w:World),Ch S a w→Ch S a (w.setCells g o vs)
 | [],_,_,h=>h
 | v::r,o,w,h=>by rw[World.setCells];exact Ch.setCells hg r (o+1) _ (cS h hg v)
theorem Ow.over {α:Type} {enc:α→List Value} {sz:Nat} {e:TypeId} {w:World} {lo c n m o g:Nat} {xs ys:List α} {vs:List Value} (h:Ow enc sz e w lo (some ⟨g,0,none⟩) c n xs) (hm:m≤c) (hl:o+vs.length≤c*sz) (hy:m=ys.length)
  (he:∀ cur:List Value,cur.length=c*sz→cur.take (n*sz)=xs.flatMap enc→(cur.take o ++ vs ++ cur.drop (o+vs.length)).take (m*sz)=ys.flatMap enc) (hyl:(ys.flatMap enc).length=m*sz) :
  Ow enc sz e (w.setCells g o vs) lo (some ⟨g,0,none⟩) c m ys:=by
 rcases h.form with⟨hA,_⟩ | ⟨g',cur,hA,hlo,hlt,hh,hn,hc,hs,ht⟩
 ·cases hA
 ·cases hA
  obtain⟨cur',h1,h2,h3⟩:=IK vs o w cur hh (by omega)
  exact⟨hy,hyl,.inr ⟨g,c,cur',rfl,hlo,h1,hm,hc,by omega,by rw[h3];exact he cur.toList (by simpa using hs) ht⟩⟩
theorem Ow.there {α:Type} {enc:α→List Value} {sz:Nat} {e:TypeId} {w:World} {lo c n g:Nat} {xs:List α} (h:Ow enc sz e w lo (some ⟨g,0,none⟩) c n xs):(∀ j,j<c*sz→(w.cell? ⟨g,j,none⟩).isSome=true)∧(∀ j,w.frozen? ⟨g,j,none⟩=false):=by
 rcases h.form with⟨hA,_⟩ | ⟨g',cur,hA,hlo,hlt,hh,hn,hc,hs,ht⟩
 ·cases hA
 ·cases hA
  exact⟨fun j hj=>by simp[World.cell?,hh,show j<cur.size by omega],fun j=>by simp[World.frozen?,hh]⟩
theorem Ow.front {α:Type} {enc:α→List Value} {sz:Nat} {e:TypeId} {w:World} {lo c n k:Nat} {A:Option Addr} {xs:List α} (h:Ow enc sz e w lo A c n xs) (hsz:∀ x,(enc x).length=sz) (hk:k≤n):Ow enc sz e w lo A c k (xs.take k):=by
 have hlen:∀ l:List α,(l.flatMap enc).length=l.length*sz:=by
  intro l
  induction l with
  | nil=>simp
  | cons x l ih=>simp only[List.flatMap_cons,List.length_append,hsz,ih,List.length_cons,Nat.succ_mul];omega
 have hkl:(xs.take k).length=k:=by rw[List.length_take,← h.1];omega
 have hcut:∀ (l:List α) (k:Nat),(l.flatMap enc).take (k*sz)=(l.take k).flatMap enc:=by
  intro l
  induction l with
  | nil=>intro k;simp
  | cons x l ih=>
   intro k
   cases k with
   | zero=>simp
   | succ k=>
    rw[List.take_succ_cons,List.flatMap_cons,List.flatMap_cons,List.take_append,hsz,Nat.succ_mul,List.take_of_length_le (by rw[hsz];omega),Nat.add_sub_cancel,ih]
 refine⟨hkl.symm,by rw[hlen,hkl],?_⟩
 rcases h.2.2 with⟨hv,h0⟩ | ⟨g,cap,cur,hv,hb,hh,hn,hm,hs,ht⟩
 ·injection hv with h1 h2 h3
  subst h1 h3
  obtain rfl:k=0:=by omega
  exact .inl ⟨rfl,rfl⟩
 ·injection hv with h1 h2 h3
  subst h1 h3
  refine .inr ⟨g,c,cur,rfl,hb,hh,by omega,hm,hs,?_⟩
  rw[← hcut,← ht,List.take_take,Nat.min_eq_left (Nat.mul_le_mul_right _ hk)]
theorem Sa {α:Type} {enc:α→List Value} {sz:Nat} (hsz:∀ x,(enc x).length=sz):∀ (l:List α) (k:Nat),(l.flatMap enc).take (k*sz)=(l.take k).flatMap enc
 | [],k=>by simp
 | x::l,0=>by simp
 | x::l,k+1=>by
  rw[List.take_succ_cons,List.flatMap_cons,List.flatMap_cons,List.take_append,hsz,Nat.succ_mul,List.take_of_length_le (by rw[hsz];omega),Nat.add_sub_cancel,Sa hsz l k]
theorem Sb {α:Type} {enc:α→List Value} {sz:Nat} (hsz:∀ x,(enc x).length=sz):∀ (l:List α) (k:Nat),(l.flatMap enc).drop (k*sz)=(l.drop k).flatMap enc
 | [],k=>by simp
 | x::l,0=>by simp
 | x::l,k+1=>by
  rw[List.drop_succ_cons,List.flatMap_cons,List.drop_append,hsz,Nat.succ_mul,List.drop_of_length_le (by rw[hsz];omega),Nat.add_sub_cancel,Sb hsz l k,List.nil_append]
theorem ax {P:Program} {w:World} {o:Oper} {a:Act} {Kx:Act→World→Prop} {Q:Exit→Act→World→Prop} {α:Type} {enc:α→List Value} {sz bytes:Nat} {t e:TypeId} {s x:Operand}
  {lo lo2 c n m d g:Nat} {ad:Addr} {xs ys:List α}
  (hel:G9 P t e sz bytes) (h1:∀ x,∀ u∈enc x,u.oneCell'=true) (hsz:∀ x,(enc x).length=sz)
  (ho:o.op=.call { callee:=.builtin .append,args:=#[s,x],argTypes:=#[t,t] }) (hs:a.eval s=.slice (some ⟨g,0,none⟩) n c) (hx:a.eval x=.slice (some ad) m d)
  (hown:Ow enc sz e w lo (some ⟨g,0,none⟩) c n xs) (hnew:Rs enc sz w lo2 (some ad) d m ys) (hroom:n+m≤c)
  (K:∀ w',Ow enc sz e w' lo (some ⟨g,0,none⟩) c (n+m) (xs ++ ys)→Ch (· = g) w w'→Kx (a.put o.dst (.slice (some ⟨g,0,none⟩) (n+m) c)) w') :
  o.wp P a w Kx Q:=by
 obtain⟨i,z,hi,hz,hsz',hby,hzs⟩:=hel.info
 have hmem:∀ u∈ys.flatMap enc,u.oneCell'=true:=by
  intro u hu
  obtain⟨y,_,hy⟩:=List.mem_flatMap.1 hu
  exact h1 y u hy
 have hlen:(ys.flatMap enc).length=m*sz:=hnew.2.len
 have e1:(n+m)*sz=n*sz+m*sz:=Nat.add_mul ..
 have e2:(n+m)*sz≤c*sz:=Nat.mul_le_mul_right _ hroom
 have hth:=hown.there
 have hrun:=run_append_room_cells (P:=P) (w:=w) t o.type e i hel.sl hi g 0 n c ad m d (ys.flatMap enc) (by rw[hsz',hlen])
  (fun j u hu=>by
   have hm:0<m:=by
    have h1:=(List.getElem?_eq_some_iff.1 hu).1
    rw[hlen] at h1
    rcases Nat.eq_zero_or_pos m with h0|h0
    ·subst h0;simp at h1
    ·exact h0
   obtain⟨h1',_,_,h4⟩:=hnew.2.cells _ rfl hm
   obtain⟨g,off,spot⟩:=ad
   dsimp only at h1' h4
   subst h1'
   rw[Addr.add_lit];exact h4 j u hu) hmem hroom (fun j hj=>by rw[hsz',Nat.zero_add];exact hth.1 _ (by omega)) (fun j hj=>hth.2 _)
 rw[hsz',Nat.zero_add] at hrun
 have hyl:((xs ++ ys).flatMap enc).length=(n+m)*sz:=by rw[List.flatMap_append,List.length_append,hown.2.1,hlen,e1]
 have hov:=hown.over (m:=n+m) (ys:=xs ++ ys) (vs:=ys.flatMap enc) (o:=n*sz) hroom (by omega) (by rw[List.length_append,hown.1,hnew.1]) (fun cur hc ht=>by
  have hl:(cur.take (n*sz)).length=n*sz:=by rw[List.length_take,hc];omega
  rw[ht,List.flatMap_append,List.take_append_of_le_length (by rw[List.length_append,hown.2.1,hlen];omega),List.take_of_length_le (by rw[List.length_append,hown.2.1,hlen];omega)]) hyl
 unfold Oper.wp execOp
 simp only[ho,resolve,invoke,builtin,Sem.run_bind,Sem.run_pure,Result.andThen_ok,List.map_toArray,List.map_cons,List.map_nil,hs,hx,hrun]
 exact K _ hov (Ch.setCells (S:=(· = g)) (.inl rfl) _ _ _ (Ch.refl _ _))
theorem Me {P:Program} {w:World} {ops:Array Oper} {o:Oper} {a:Act} {Kx:Act→World→Prop} {Q:Exit→Act→World→Prop} {E:Prop} {α:Type} {enc:α→List Value} {sz bytes:Nat} {t e:TypeId} {s x:Operand}
  {lo lo2 c n m d g:Nat} {ad:Addr} {xs ys:List α}
  (hel:G9 P t e sz bytes) (h1:∀ x,∀ u∈enc x,u.oneCell'=true) (hsz:∀ x,(enc x).length=sz) (hgd:o.guard=none)
  (ho:o.op=.call { callee:=.builtin .append,args:=#[s,x],argTypes:=#[t,t] }) (hs:a.eval s=.slice (some ⟨g,0,none⟩) n c) (hx:a.eval x=.slice (some ad) m d)
  (hown:Ow enc sz e w lo (some ⟨g,0,none⟩) c n xs) (hnew:Rs enc sz w lo2 (some ad) d m ys) (hroom:n+m≤c)
  (K:∀ w',Ow enc sz e w' lo (some ⟨g,0,none⟩) c (n+m) (xs ++ ys)→Ch (· = g) w w'→Kx (a.put o.dst (.slice (some ⟨g,0,none⟩) (n+m) c)) w') :
  if Region.wanted o (yielded ops a.tmps)=true then o.wp P a w Kx Q else E:=by
 rw[if_pos (by simp[Region.wanted,hgd])]
 exact ax hel h1 hsz ho hs hx hown hnew hroom K
theorem Ye {P:Program} {w:World} {o:Oper} {a:Act} {Kx:Act→World→Prop} {Q:Exit→Act→World→Prop} {d s:Operand} {t t':TypeId} {v u v':Value} {w':World}
  (ho:o.op=.call { callee:=.builtin .copy,args:=#[d,s],argTypes:=#[t,t'] }) (hd:a.eval d=v) (hs:a.eval s=u) (hr:(Builtin.copy_ #[t,t'] o.type #[v,u]).run P w=.ok v' w') (K:Kx (a.put o.dst v') w'):o.wp P a w Kx Q:=by
 unfold Oper.wp execOp
 simp only[ho,resolve,invoke,builtin,Sem.run_bind,Sem.run_pure,Result.andThen_ok,List.map_toArray,List.map_cons,List.map_nil,hd,hs,hr]
 exact K
theorem Qj {P:Program} {w:World} {ops:Array Oper} {o:Oper} {a:Act} {Kx:Act→World→Prop} {Q:Exit→Act→World→Prop} {E:Prop} {d s:Operand} {t t':TypeId} {v u v':Value} {w':World} (hgd:o.guard=none)
  (ho:o.op=.call { callee:=.builtin .copy,args:=#[d,s],argTypes:=#[t,t'] }) (hd:a.eval d=v) (hs:a.eval s=u) (hr:(Builtin.copy_ #[t,t'] o.type #[v,u]).run P w=.ok v' w') (K:Kx (a.put o.dst v') w') :
  if Region.wanted o (yielded ops a.tmps)=true then o.wp P a w Kx Q else E:=by
 rw[if_pos (by simp[Region.wanted,hgd])]
 exact Ye ho hd hs hr K
set_option maxHeartbeats 2000000
theorem Vp (rb P:Nat) (n:Int) (w:World) (hr:Be w rb P) (hP:P≤999000) (h1:1≤n) (h2:n≤1000000):Calls Tryz.prog 133 #[.pointer (some ⟨rb,0,none⟩),.int .i64 n] w fun E w'=>∃ a b c d,E=.returned (.agg #[.int .i64 a,.int .i64 b,.int .i64 c,.int .i64 d])∧Be w' rb (P+10)∧Ch (· = rb) w w':=by
 have hlt:=hr.lt
 go_enter Tryz.func133,Tryz.ntmps133
 go_upto_if 17 with (first|(go_at_call 37;apply Calls.mono;apply (JG (fun _=>True));(apply Be.keep;assumption;(exact Cj));omega;(first|rfl|(simp;done));(repeat (first|exact IM.nil|(refine IM.cons ⟨_,rfl,(by first|exact trivial|omega)⟩ ?_)));omega;(first|omega|(simp only[BO];omega));rintro E w1 ⟨v,x,rfl,hv,hq,hcx,hrd,hb⟩;(try simp only[BO] at hcx);obtain⟨hc,hf,hz⟩:=xd hb)|(go_at_call 37;apply Calls.mono;apply DU;(apply Be.keep;assumption;(exact Cj));(exact Bu);(exact Bu);rintro E w1 ⟨v,rfl,⟨hv0,hv1⟩,hrd,hb⟩;obtain⟨hc,hf,hz⟩:=xd hb))
 obtain⟨g,hgg⟩:∃ g,g=w1.heap.size:=⟨_,rfl⟩
 have hg0:w.heap.size+1≤g:=by omega
 have zZ:=Lib.hid hgg
 clear hgg
 go_cut [] (fun wx=>TY w wx rb w.heap.size g 4 (P+4))
 case first=>
  go_wp2_with (go_at_call 37;apply Calls.mono;apply (JG (fun _=>True));(apply Be.keep;assumption;(exact Cj));omega;(first|rfl|(simp;done));(repeat (first|exact IM.nil|(refine IM.cons ⟨_,rfl,(by first|exact trivial|omega)⟩ ?_)));omega;(first|omega|(simp only[BO];omega));rintro E w1 ⟨v,x,rfl,hv,hq,hcx,hrd,hb⟩;(try simp only[BO] at hcx);obtain⟨hc,hf,hz⟩:=xd hb)
  all_goals go_meet
  all_goals (refine⟨?_,?_,Be.more (Be.keep (by assumption) (by (exact Cj))) (by omega),AA⟩)
  all_goals (try rw[zZ.out])
  all_goals (exact gy)
 case rest=>
  ((repeat (rename Ch _ _ _=>zz;clear zz));(repeat (rename Be _ _ _=>zz;clear zz));(repeat (rename (∀ (b o:Nat),¬((⟨b,0,none⟩:Addr)=⟨b-_+_,0,none⟩)→_)=>zz;clear zz)))
  rw[← zZ.out]
  obtain⟨own,res,rd,hbx⟩:=hcut
  have hzx:=hbx.size
  have hgl:=own.lt
  have hgr:g≠rb:=by omega
  obtain⟨o0,ho0⟩:=own.at_ (i:=0) (by omega);obtain⟨o1,ho1⟩:=own.at_ (i:=1) (by omega);obtain⟨o2,ho2⟩:=own.at_ (i:=2) (by omega);obtain⟨o3,ho3⟩:=own.at_ (i:=3) (by omega);have hof:=own.free
  go_upto_if 26 with (go_at_call 38;apply Calls.mono;apply MH;(apply Be.keep;assumption;(exact Cj));(exact Bu);(exact Bu);(exact Bu);rintro E w1 ⟨b,rfl,hrd,hb⟩;obtain⟨hc,hf,hz⟩:=xd hb)
  go_cut [] (fun wx=>TY w wx rb w.heap.size g 4 (P+7))
  case first=>
   go_wp2_with (first|(go_at_call 37;apply Calls.mono;apply (JG (fun _=>True));(apply Be.keep;assumption;(exact Cj));omega;(first|rfl|(simp;done));(repeat (first|exact IM.nil|(refine IM.cons ⟨_,rfl,(by first|exact trivial|omega)⟩ ?_)));omega;(first|omega|(simp only[BO];omega));rintro E w1 ⟨v,x,rfl,hv,hq,hcx,hrd,hb⟩;(try simp only[BO] at hcx);obtain⟨hc,hf,hz⟩:=xd hb)|(go_at_call 37;apply Calls.mono;apply DU;(apply Be.keep;assumption;(exact Cj));(exact Bu);(exact Bu);rintro E w1 ⟨v,rfl,⟨hv0,hv1⟩,hrd,hb⟩;obtain⟨hc,hf,hz⟩:=xd hb)|(go_at_call 106;refine (Bw _ _).mono ?_;rintro E w' ⟨rfl,rfl⟩))
   all_goals go_meet
   all_goals (refine⟨?_,?_,Be.more (Be.keep (by assumption) (by (exact Cj))) (by omega),AA⟩)
   all_goals (exact gy)
  case rest=>
   ((repeat (rename Ch _ _ _=>zz;clear zz));(repeat (rename Be _ _ _=>zz;clear zz));(repeat (rename (∀ (b o:Nat),¬((⟨b,0,none⟩:Addr)=⟨b-_+_,0,none⟩)→_)=>zz;clear zz)))
   clear own res hzx hgl
   obtain⟨own,res,rd,hbx⟩:=hcut
   have hzx:=hbx.size
   have hgl:=own.lt
   obtain⟨o0,ho0⟩:=own.at_ (i:=0) (by omega);obtain⟨o1,ho1⟩:=own.at_ (i:=1) (by omega);obtain⟨o2,ho2⟩:=own.at_ (i:=2) (by omega);obtain⟨o3,ho3⟩:=own.at_ (i:=3) (by omega);have hof:=own.free
   obtain⟨r0,hr0⟩:=res.at_ (i:=0) (by omega);obtain⟨r1,hr1⟩:=res.at_ (i:=1) (by omega);obtain⟨r2,hr2⟩:=res.at_ (i:=2) (by omega);obtain⟨r3,hr3⟩:=res.at_ (i:=3) (by omega);have hrf:=res.free
   go_wp2_with fail
   refine bodyPost_ret (v:=.agg #[.int .i64 o0,.int .i64 o1,.int .i64 o2,.int .i64 o3]) (by simp[results,Tryz.results133,go_sem, *]) rfl ?_
   exact⟨o0,o1,o2,o3,rfl,rd.keep (by (exact Cj)) |>.more (by omega),AA⟩
set_option maxHeartbeats 2000000
def Sep (A B:Option Addr):Prop:=∀ a b,A=some a→B=some b→a.block≠b.block
theorem YL (f:Int):0≤Sw.C9 f∧Sw.C9 f≤60:=by
 unfold Sw.C9
 split
 ·rename_i h
  simp only[Sw.Br,Bool.and_eq_true,decide_eq_true_eq] at h
  omega
 ·omega
structure VI (w0 w:World) (rb P:Nat):Prop where
 rd:Be w rb P
 ch:Ch (· = rb) w0 w
theorem aC {w:World} {lo c n g k:Nat} {A:Option Addr} {xs:List Int} (h:Ga w lo A c n xs) (hA:A=some ⟨g,0,none⟩) (hk:k<xs.length) (u:Int):Ga (w.setCell ⟨g,k,none⟩ (.int .i64 u)) lo A c n (xs.set k u):=by
 have:=Ow.set h (fun _=>rfl) (j:=0) (u:=.int .i64 u) (y:=u) hA (List.getElem?_eq_getElem hk) (by omega) rfl
 rwa [Nat.mul_one] at this
theorem Gy (rb P N:Nat) (n:Int) (w:World) (hr:Be w rb P) (hP:P≤1000000) (hn:n=(N:Int)) (h1:1≤N):Calls Tryz.prog 37 #[.pointer (some ⟨rb,0,none⟩),.int .i64 n] w fun E w'=>∃ v:Nat,E=.returned (.int .i64 (v:Int))∧v<N∧Be w' rb (P+1)∧Ch (· = rb) w w':=by
 subst hn
 refine (DU rb P N w hr hP (by omega)).mono ?_
 rintro E w' ⟨v,rfl,⟨h0,h2⟩,h3,h4⟩
 exact⟨v.toNat,by rw[show ((v.toNat:Nat):Int)=v by omega],by omega,h3,h4⟩
theorem P9 (rb P:Nat) (n:Int) (w:World) (hr:Be w rb P) (hP:P≤900000) (h1:1≤n) (h2:n≤1000000):Calls Tryz.prog 82 #[.pointer (some ⟨rb,0,none⟩),.int .i64 n] w fun E w'=>∃ A c m xs,E=.returned (.slice A m c)∧RI w' w.heap.size A c m xs∧m≤6∧Be w' rb (P+20)∧Ch (· = rb) w w':=by
 have hlt:=hr.lt
 go_enter Tryz.func82,Tryz.ntmps82
 go_wp2_with fail
 go_loopw [5,6] (fun o i wr=>∃ (k:Nat) (B:Option Addr) (d:Nat) (ys:List Int),k≤5∧i=.int .i64 k∧o=.slice B k d∧Ch (· = rb) w wr∧Ga wr w.heap.size B d k ys∧Be wr rb (P+k)) (fun _ i _=>5-(intOf i).toNat)
 case atStart=>exact⟨0,_,0,[],Nat.zero_le _,rfl,rfl,AA,Ow.new [] rfl rfl rfl (fun _=>rfl) (Nat.le_refl _) (by omega),hr.keep (by (exact Cj))⟩
 case round=>
  obtain⟨k,B,d,ys,hk,rfl,rfl,hb,ho,hrd⟩:=hrel
  have hst:=xc hb
  obtain⟨hc,hf,hz⟩:=hst
  by_cases AA7:k<5
  ·go_wp2_with (first|(go_at_call 37;apply Calls.mono;apply (JG (fun _=>True));(apply Be.keep;assumption;(exact Cj));omega;(first|rfl|(simp;done));(repeat (first|exact IM.nil|(refine IM.cons ⟨_,rfl,(by first|exact trivial|omega)⟩ ?_)));omega;(first|omega|(simp only[BO];omega));rintro E w1 ⟨v,x,rfl,hv,hq,hcx,hrd,hb⟩;(try simp only[BO] at hcx);obtain⟨hc,hf,hz⟩:=xd hb)|(at_builtin;apply BL (lo:=w.heap.size) FO Dz rfl rfl rfl rfl;(exact Iy);(first|(refine Rs.new [_] (by (first|rfl|(simp only[BO];done)|omega)) rfl rfl (fun _=>rfl) (by omega)));omega;exact Aq;intro A1 c1 w2 ho1 Ap Bo Ay Ah;have hb:=Ay (· = rb) w (by exact AA) (by omega);have hrd:=Be.low (Be.keep (by assumption) (by exact Cj)) Ap.size Ah (by omega);have hz:=Ap.size;(try simp only[BO] at hz);obtain⟨hc,hf⟩:=BJ Ah;clear Ay))
   go_roundw
   case rel=>exact⟨k+1,A1,c1,_,by omega,by go_num,rfl,hb,ho1,hrd⟩
   case measure=>simp[intOf];omega
  ·obtain rfl:k=5:=by omega
   have hd5:5≤d:=ho.rs.2.le
   rcases ho.form with⟨_,h0,_⟩ | ⟨g,cur,rfl,hlo,ny,-⟩
   ·omega
   have uh:g≠rb:=by omega
   obtain⟨hcg,hfg⟩:=Lb.rules (ho.lb rfl)
   have hl5:ys.length=5:=ho.1.symm
   go_wp2_with (first|(go_at_call 38;apply Calls.mono;apply MH;(apply Be.keep;assumption;(exact Cj));(exact Bu);(exact Bu);(exact Bu);rintro E w1 ⟨b,rfl,hrd,hb⟩;obtain⟨hc,hf,hz⟩:=xd hb)|(go_at_call 37;apply Calls.mono;apply (JG (fun _=>True));(apply Be.keep;assumption;(exact Cj));omega;(first|rfl|(simp;done));(repeat (first|exact IM.nil|(refine IM.cons ⟨_,rfl,(by first|exact trivial|omega)⟩ ?_)));omega;(first|omega|(simp only[BO];omega));rintro E w1 ⟨v,x,rfl,hv,hq,hcx,hrd,hb⟩;(try simp only[BO] at hcx);obtain⟨hc,hf,hz⟩:=xd hb)|(go_at_call 37;apply Calls.mono;apply (Gy (N:=5));(apply Be.keep;assumption;(exact Cj));omega;rfl;decide;rintro E w1 ⟨v5,rfl,hv5,hrd,hb⟩;(obtain⟨hc,hf,hz⟩:=xd hb))|(go_at_call 37;apply Calls.mono;apply DU;(apply Be.keep;assumption;(exact Cj));(exact Bu);(exact Bu);rintro E w1 ⟨v,rfl,⟨hv0,hv1⟩,hrd,hb⟩;obtain⟨hc,hf,hz⟩:=xd hb)|(at_builtin;apply BL (lo:=w.heap.size) FO Dz rfl rfl rfl rfl;(exact Iy);(first|(refine Rs.new [_] (by (first|rfl|(simp only[BO];done)|omega)) rfl rfl (fun _=>rfl) (by omega)));omega;exact Aq;intro A1 c1 w2 ho1 Ap Bo Ay Ah;have hb:=Ay (· = rb) w (by exact AA) (by omega);have hrd:=Be.low (Be.keep (by assumption) (by exact Cj)) Ap.size Ah (by omega);have hz:=Ap.size;(try simp only[BO] at hz);obtain⟨hc,hf⟩:=BJ Ah;clear Ay))
   all_goals go_ret
   ·have hb5:v5<ys.length:=by omega
    have Oe:=aC (show Ga w1 w.heap.size (some ⟨g,0,none⟩) d 5 ys from ho.keep AO) rfl (k:=v5) hb5 x
    exact⟨_,_,_,_,rfl,Oe.rs,by decide,Be.more (hrd.keep Cj) (by omega),AA⟩
   ·have hrs:RI w1 w.heap.size (some ⟨g,1,none⟩) (d-1) 4 (ys.drop 1):=by
     have:=Iw (k:=1) (show Ga w1 w.heap.size (some ⟨g,0,none⟩) d 5 ys from ho.keep AO).rs (by omega)
     simpa [Addr.add_lit] using this
    exact⟨_,_,_,_,rfl,hrs,by decide,Be.more (hrd.keep Cj) (by omega),AA⟩
   ·have Oe:=aC (show Ga w1 w.heap.size (some ⟨g,0,none⟩) d 5 ys from ho.keep AO) rfl (k:=0) (by omega) (100000:Int)
    exact⟨_,_,_,_,rfl,Oe.rs,by decide,Be.more (hrd.keep Cj) (by omega),AA⟩
   ·exact⟨_,_,_,_,rfl,ho1.rs,by decide,Be.more (hrd.keep Cj) (by omega),hb⟩
   ·exact⟨_,_,_,_,rfl,(show Ga w1 w.heap.size (some ⟨g,0,none⟩) d 5 ys from ho.keep AO).rs,by decide,Be.more (hrd.keep Cj) (by omega),AA⟩
def F5 (r:Sw.Ee):Bool:=!Sw.D_ r
def KV (g:Sw.Gate):Bool:=!Sw.DF g
def Kb (x:Sw.IX):Bool:=!Sw.Fs x
theorem T9 {r:Sw.Ee}:decide (r=Sw.Eu)=(decide (r.user=0)&&(decide (r.n=0)&&(decide (r.kind=0)&&(decide (r.ticket=0)&&(decide (r.who=0)&&decide (r.Al=0)))))):=by
 rw[Bool.eq_iff_iff];cases r;simp[Sw.Eu]
def Fa (x:Sw.World):Bool:=Sw.GX x.AB&&Sw.DR x.first&&decide (x.lines.length≤300)&&decide (x.AV.length=2)&&decide (x.BS.length≤6)
theorem Px (x:Sw.World):Sw.Cc x=(Fa x&&(x.lines.all Sw.D_&&(x.AV.all Sw.DF&&x.BS.all Sw.Fs))):=by
 simp[Sw.Cc,Fa,Bool.and_assoc]
end Go.Proofs.YtgaflnpmilikcaaGreat
