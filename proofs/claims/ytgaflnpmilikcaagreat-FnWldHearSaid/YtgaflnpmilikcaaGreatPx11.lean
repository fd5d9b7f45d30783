/- Texts joined: Mon1, Draw1, SwM. -/
import Derived.Test.YtgaflnpmilikcaaGreatPx9
import Derived.Test.YtgaflnpmilikcaaGreatPx8
import Derived.Test.YtgaflnpmilikcaaGreatPx5
import Derived.Laws.BitsAllLaws
import Derived.Deep.DeepCutAuto
import Derived.Test.YtgaflnpmilikcaaGreatPx7
set_option maxRecDepth 100000
set_option linter.unusedSimpArgs false
set_option linter.unusedVariables false
namespace Go.Proofs.YtgaflnpmilikcaaGreat
open Go.RowKit Go
set_option maxHeartbeats 400000
theorem OV (s x:Int) (xs:List Int):Sw.KJ s (x::xs)=Sw.KJ (wrap64 (s+x)) xs:=rfl
theorem M7 (s:Int) (d:Sw.BC) (ds:List Sw.BC):Sw.JP s (d::ds)=Sw.JP (Sw.IA s d) ds:=rfl
theorem WJ {s:Int} {d:Sw.BC} (h:0<d.BN):Sw.IA s d=wrap64 (s+d.Al):=by simp[Sw.IA,Sw.held,h]
theorem WK {s:Int} {d:Sw.BC} (h:¬ 0<d.BN):Sw.IA s d=s:=by simp[Sw.IA,Sw.held,h]
theorem PT (A:Option Addr) (c n:Nat) (xs:List Int) (w:World) (hxs:RI w 0 A c n xs):Calls Tryz.prog 107 #[.slice A n c] w fun E w'=>E=.returned (.int .i64 (Sw.DV xs))∧w=w':=by
 have hl:=Lib.hid hxs.1
 have hbig:=Rs.big hxs
 go_enter Tryz.func107,Tryz.ntmps107
 go_wp2
 go_loop [3,4] (fun v i=>∃ (k:Nat) (s:Int),k≤n∧i=.int .i64 k∧v=.int .i64 s∧Sw.DV xs=Sw.KJ s (xs.drop k)) (fun _ i=>n-(intOf i).toNat)
 case atStart=>exact⟨0,0,Nat.zero_le _,rfl,rfl,rfl⟩
 case round=>
  obtain⟨k,s,hk,rfl,rfl,hrel⟩:=hrel
  by_cases hlt:k<n
  ·obtain⟨g,off,y,rfl,hg0,hg,hd,hy,hc⟩:=G8 hxs hlt
   rw[hd,OV] at hrel
   have BI:=Lib.hid hrel;clear hrel hd hy
   go_wp2
   go_round
   case rel=>exact⟨k+1,_,by omega,by go_num,rfl,BI.out⟩
   case measure=>simp[intOf];omega
  ·have BI:=Lib.hid hrel;clear hrel
   go_wp2
   go_ret
   refine⟨Cv ?_,rfl⟩
   rw[BI.out,List.drop_of_length_le (by have:=hl.out;omega)]
   rfl
theorem PZ (A:Option Addr) (c n:Nat) (xs:List Int) (w:World) (hxs:RI w 0 A c n xs):Calls Tryz.prog 66 #[.slice A n c] w fun E w'=>E=.returned (.int .i64 (Sw.DV xs))∧w=w':=by
 have hl:=Lib.hid hxs.1
 have hbig:=Rs.big hxs
 go_enter Tryz.func66,Tryz.ntmps66
 go_wp2
 go_loop [3,8] (fun v i=>∃ (k:Nat) (s:Int),k≤n∧i=.int .i64 k∧v=.int .i64 s∧Sw.DV xs=Sw.KJ s (xs.drop k)) (fun _ i=>n-(intOf i).toNat)
 case atStart=>exact⟨0,0,Nat.zero_le _,rfl,rfl,rfl⟩
 case round=>
  obtain⟨k,s,hk,rfl,rfl,hrel⟩:=hrel
  by_cases hlt:k<n
  ·obtain⟨g,off,y,rfl,hg0,hg,hd,hy,hc⟩:=G8 hxs hlt
   rw[hd,OV] at hrel
   have BI:=Lib.hid hrel;clear hrel hd hy
   go_wp2
   go_round
   case rel=>exact⟨k+1,_,by omega,by go_num,rfl,BI.out⟩
   case measure=>simp[intOf];omega
  ·have BI:=Lib.hid hrel;clear hrel
   go_wp2
   go_ret
   refine⟨Cv ?_,rfl⟩
   rw[BI.out,List.drop_of_length_le (by have:=hl.out;omega)]
   rfl
theorem F7 (d:Sw.BC) (w:World):Calls Tryz.prog 120 #[.agg #[.int .i64 d.ticket,.int .i64 d.BP,.int .i64 d.Al,.int .i64 d.BN,.int .i64 d.due]] w fun E w'=>E=.returned (.bool (Sw.held d))∧Ex w w':=by
 go_enter Tryz.func120,Tryz.ntmps120
 go_wp2_with fail
 go_ret
 exact⟨rfl,AA⟩
theorem VX (aL:Option Addr) (Ae AU:Nat) (aP:Option Addr) (Ag AY:Nat) (aD:Option Addr) (Ac AQ:Nat) (aN:Option Addr) (Ad Aa:Nat) (aS:Option Addr) (Af Ab:Nat) (m:Sw.CV) (w:World) (hm:RM w 0 aL Ae AU aP Ag AY aD Ac AQ aN Ad Aa aS Af Ab m):Calls Tryz.prog 108 #[.agg #[.slice aL AU Ae,.slice aP AY Ag,.slice aD AQ Ac,.int .i64 m.clock,.slice aN Aa Ad,.slice aS Ab Af]] w fun E w'=>E=.returned (.int .i64 (Sw.Ef m))∧Ex w w':=by
 have hxs:=hm.AJ
 clear hm
 have hl:=Lib.hid hxs.1
 have hbig:=Rs.big hxs
 go_enter Tryz.func108,Tryz.ntmps108
 go_wp2_with fail
 go_loop [3,4] (fun v i=>∃ (k:Nat) (s:Int),k≤AQ∧i=.int .i64 k∧v=.int .i64 s∧Sw.Ef m=Sw.JP s (m.AJ.drop k)) (fun _ i=>AQ-(intOf i).toNat)
 case atStart=>exact⟨0,0,Nat.zero_le _,rfl,rfl,rfl⟩
 case round=>
  obtain⟨k,s,hk,rfl,rfl,hrel⟩:=hrel
  by_cases hlt:k<AQ
  ·obtain⟨g,off,y,rfl,hg0,hg,hd,hy,q0,q1,q2,q3,q4⟩:=OQ hxs hlt
   rw[hd,M7] at hrel
   have BI:=Lib.hid hrel;clear hrel hd hy
   by_cases hb:0<y.BN
   ·go_wp2
    go_round
    case rel=>exact⟨k+1,_,by omega,by go_num,rfl,by rw[BI.out,WJ hb]⟩
    case measure=>simp[intOf];omega
   ·go_wp2
    go_round
    case rel=>exact⟨k+1,_,by omega,by go_num,rfl,by rw[BI.out,WK hb]⟩
    case measure=>simp[intOf];omega
  ·have BI:=Lib.hid hrel;clear hrel
   go_wp2
   go_ret
   refine⟨Cv ?_,AA⟩
   rw[BI.out,List.drop_of_length_le (by have:=hl.out;omega)]
   rfl
theorem Vz (aL:Option Addr) (Ae AU:Nat) (aP:Option Addr) (Ag AY:Nat) (aD:Option Addr) (Ac AQ:Nat) (aN:Option Addr) (Ad Aa:Nat) (aS:Option Addr) (Af Ab:Nat) (m:Sw.CV) (w:World) (hm:RM w 0 aL Ae AU aP Ag AY aD Ac AQ aN Ad Aa aS Af Ab m):Calls Tryz.prog 67 #[.agg #[.slice aL AU Ae,.slice aP AY Ag,.slice aD AQ Ac,.int .i64 m.clock,.slice aN Aa Ad,.slice aS Ab Af]] w fun E w'=>E=.returned (.int .i64 (Sw.Ef m))∧Ex w w':=by
 have hxs:=hm.AJ
 clear hm
 have hl:=Lib.hid hxs.1
 have hbig:=Rs.big hxs
 go_enter Tryz.func67,Tryz.ntmps67
 go_wp2_with fail
 go_loopw [3,9] (fun v i wr=>∃ (k:Nat) (s:Int),k≤AQ∧i=.int .i64 k∧v=.int .i64 s∧Ex w wr∧Sw.Ef m=Sw.JP s (m.AJ.drop k)) (fun _ i _=>AQ-(intOf i).toNat)
 case atStart=>exact⟨0,0,Nat.zero_le _,rfl,rfl,AA,rfl⟩
 case round=>
  obtain⟨k,s,hk,rfl,rfl,hb2,hrel⟩:=hrel
  have hst:=Ex.rules hb2 rfl
  obtain⟨hc2,hf2,hz2⟩:=hst
  by_cases hlt:k<AQ
  ·obtain⟨g,off,y,rfl,hg0,hg,hd,hy,q0,q1,q2,q3,q4⟩:=OQ hxs hlt
   rw[hd,M7] at hrel
   have BI:=Lib.hid hrel;clear hrel hd hy
   cases hb:Sw.held y with
   | true=>
    go_wp2_with (go_at_call 120;apply Calls.mono;apply (F7 y);rintro E w1 ⟨rfl,hb⟩;obtain⟨hc,hf,hz⟩:=xy hb)
    go_roundw
    case rel=>exact⟨k+1,_,by omega,by go_num,rfl,AA,by rw[BI.out,Sw.IA,if_pos (by assumption)]⟩
    case measure=>simp[intOf];omega
   | false=>
    go_wp2_with (go_at_call 120;apply Calls.mono;apply (F7 y);rintro E w1 ⟨rfl,hb⟩;obtain⟨hc,hf,hz⟩:=xy hb)
    go_roundw
    case rel=>exact⟨k+1,_,by omega,by go_num,rfl,AA,by rw[BI.out,Sw.IA,if_neg (by simp[*])]⟩
    case measure=>simp[intOf];omega
  ·have BI:=Lib.hid hrel;clear hrel
   go_wp2_with fail
   go_ret
   refine⟨Cv ?_,AA⟩
   rw[BI.out,List.drop_of_length_le (by have:=hl.out;omega)]
   rfl
end Go.Proofs.YtgaflnpmilikcaaGreat
namespace Go.Proofs.YtgaflnpmilikcaaGreat
open Go.RowKit Go
set_option maxHeartbeats 1000000
structure Z9 (w:World) (rb p:Nat):Prop where
 ex:∃ A c n bs,w.cell? ⟨rb,0,none⟩=some (.slice A n c)∧RB w 0 A c n bs∧n≤2000∧(∀ x∈bs,0≤x∧x≤255)∧∀ a,A=some a→0<n→a.block<rb
 pos:w.cell? ⟨rb,1,none⟩=some (.int .i64 p)
 free:∀ i,w.frozen? ⟨rb,i,none⟩=false
 lt:rb<w.heap.size
 lb:Lb w rb 2
structure KB (rb:Nat) (w w':World):Prop where
 size:w.heap.size≤w'.heap.size
 block:∀ b,b≤rb→b<w.heap.size→w'.heap[b]?=w.heap[b]?
theorem bR (rb:Nat) (w:World):KB rb w w:=⟨Nat.le_refl _,fun _ _ _=>rfl⟩
theorem bA {rb:Nat} {a w:World} {o:Obj} (h:KB rb a w):KB rb a (w.alloc o):=
 ⟨by simp;have:=h.size;omega,fun i hl hi=>(Below.heap_alloc _ _ _ (Nat.lt_of_lt_of_le hi h.size)).trans (h.block i hl hi)⟩
theorem bD {rb:Nat} {a w:World} (h:KB rb a w):KB rb a w.drew:=⟨h.size,h.block⟩
theorem bN {rb:Nat} {a w:World} {n:Nat} (h:KB rb a w):KB rb a (w.drewN n):=⟨h.size,h.block⟩
theorem bS {rb:Nat} {a w:World} {p:Addr} {u:Value} (h:KB rb a w) (hp:rb<p.block):KB rb a (w.setCell p u):=
 ⟨by simpa [World.setCell] using h.size,fun i hl hi=>(Below.heap_setCell _ _ _ _ (by rintro rfl;omega)).trans (h.block i hl hi)⟩
theorem bE {rb:Nat} {a w w':World} (hb:Ex w w') (h:KB rb a w):KB rb a w':=
 ⟨Nat.le_trans h.size hb.size,fun i hl hi=>(hb.block i (Nat.lt_of_lt_of_le hi h.size) (fun h=>h)).trans (h.block i hl hi)⟩
theorem bC {g rb:Nat} {a w w':World} (hb:Ch (· = g) w w') (h:KB rb a w) (hg:rb<g):KB rb a w':=
 ⟨Nat.le_trans h.size hb.size,fun i hl hi=>(hb.block i (Nat.lt_of_lt_of_le hi h.size) (by omega)).trans (h.block i hl hi)⟩
theorem Cj {p:Prop} (h:p:=by with_reducible repeat (first|exact bR _ _|apply bA|apply bD|apply bN|(refine bS ?_ (by first|omega|(simp only[BO];omega)))|(apply bE;assumption)|(refine bC (by assumption) ?_ (by first|omega|(simp only[BO];omega))))):p:=h
theorem Z9.keep {w w':World} {rb p:Nat} (h:Z9 w rb p) (k:KB rb w w'):Z9 w' rb p:=by
 obtain⟨A,c,n,bs,h1,h2,h3,h4,h5⟩:=h.ex
 have hb:=k.block rb (Nat.le_refl _) h.lt
 refine⟨⟨A,c,n,bs,(World.cell?_of_block (w:=w) (a:=⟨rb,0,none⟩) hb).trans h1,⟨h2.1,?_⟩,h3,h4,h5⟩,(World.cell?_of_block (w:=w) (a:=⟨rb,1,none⟩) hb).trans h.pos,fun i=>(World.frozen?_of_block (w:=w) (a:=⟨rb,i,none⟩) hb).trans (h.free i),Nat.lt_of_lt_of_le h.lt k.size,?_⟩
 case refine_2=>obtain⟨cs,T,h6,h7⟩:=h.lb;exact⟨cs,T,hb.trans h6,h7⟩
 refine⟨h2.2.len,h2.2.le,h2.2.cap,h2.2.nil,fun a ha hn=>?_⟩
 obtain⟨q1,q2,q3,q4⟩:=h2.2.cells a ha hn
 exact⟨q1,q2,Nat.lt_of_lt_of_le q3 k.size,fun j u hu=>(World.cell?_of_block (w:=w) (a:=⟨a.block,a.off+j,none⟩) (k.block a.block (Nat.le_of_lt (h5 a ha hn)) q3)).trans (q4 j u hu)⟩
theorem Z9.step {w:World} {rb p:Nat} (h:Z9 w rb p):Z9 (w.setCell ⟨rb,1,none⟩ (.int .i64 ((p:Int)+1))) rb (p+1):=by
 obtain⟨A,c,n,bs,h1,h2,h3,h4,h5⟩:=h.ex
 have hne:∀ b,b≠rb→(w.setCell ⟨rb,1,none⟩ (.int .i64 ((p:Int)+1))).heap[b]?=w.heap[b]?:=fun b hb=>Below.heap_setCell _ _ _ _ hb
 obtain⟨o,ho⟩:∃ o,w.heap[rb]?=some o:=⟨_,Array.getElem?_eq_getElem h.lt⟩
 have hpos:=h.pos
 cases o with
 | cells cs T fz=>
  have hs:∀ i,i≠1→(w.setCell ⟨rb,1,none⟩ (.int .i64 ((p:Int)+1))).cell? ⟨rb,i,none⟩=w.cell? ⟨rb,i,none⟩:=by
   intro i hi
   simp[World.cell?,World.setCell,Array.getElem?_modify,ho,Array.getElem?_setIfInBounds,Ne.symm hi]
  refine⟨⟨A,c,n,bs,(hs 0 (by omega)).trans h1,⟨h2.1,?_⟩,h3,h4,h5⟩,?_,fun i=>?_,by simpa [World.setCell] using h.lt,h.lb.set⟩
  ·refine⟨h2.2.len,h2.2.le,h2.2.cap,h2.2.nil,fun a ha hn=>?_⟩
   obtain⟨q1,q2,q3,q4⟩:=h2.2.cells a ha hn
   exact⟨q1,q2,by simpa [World.setCell] using q3,fun j u hu=>(World.cell?_of_block (w:=w) (a:=⟨a.block,a.off+j,none⟩) (hne _ (show a.block≠rb by have:=h5 a ha hn;omega))).trans (q4 j u hu)⟩
  ·have hlt:1<cs.size:=by
    simp only[World.cell?,ho] at hpos
    by_cases h:1<cs.size
    ·exact h
    ·simp[Array.getElem?_eq_none (by omega:cs.size≤1)] at hpos
   simp[World.cell?,World.setCell,Array.getElem?_modify,ho,Array.getElem?_setIfInBounds,hlt]
  ·have:=h.free i
   simp[World.frozen?,World.setCell,Array.getElem?_modify,ho] at this ⊢
   exact this
 | _=>simp[World.cell?,ho] at hpos
theorem au (a b:Nat) (ha:a<4611686018427387904) (hb:b<4611686018427387904):bits .xor .i64 (a:Int) (b:Int)=((a ^^^ b:Nat):Int):=by
 show IntKind.i64.wrap ((BitVec.ofInt 64 (a:Int) ^^^ BitVec.ofInt 64 (b:Int)).toNat:Int)=_
 have hx:a ^^^ b<2 ^ 62:=Nat.xor_lt_two_pow (by omega) (by omega)
 rw[BitVec.toNat_xor,BitVec.ofInt_natCast,BitVec.ofInt_natCast,BitVec.toNat_ofNat,BitVec.toNat_ofNat,Nat.mod_eq_of_lt (by omega),Nat.mod_eq_of_lt (by omega),IntWalk.i64_in _ (by omega)]
def Be (w:World) (rb P:Nat):Prop:=∃ p,p≤P∧Z9 w rb p
theorem Be.keep {w w':World} {rb P:Nat} (h:Be w rb P) (k:KB rb w w'):Be w' rb P:=by
 obtain⟨p,hp,h⟩:=h
 exact⟨p,hp,h.keep k⟩
theorem Be.more {w:World} {rb P Q:Nat} (h:Be w rb P) (k:P≤Q):Be w rb Q:=by
 obtain⟨p,hp,h⟩:=h
 exact⟨p,by omega,h⟩
theorem Be.lt {w:World} {rb P:Nat} (h:Be w rb P):rb<w.heap.size:=by
 obtain⟨p,hp,h⟩:=h
 exact h.lt
theorem Be.lb {w:World} {rb P:Nat} (h:Be w rb P):Lb w rb 2:=by
 obtain⟨p,hp,h⟩:=h
 exact h.lb
theorem Z9.new {w:World} {A:Option Addr} {c n:Nat} {bs:List Int} {T:TypeId} (h:RB w 0 A c n bs) (hn:n≤2000) (hq:∀ x∈bs,0≤x∧x≤255) :
  Z9 (w.alloc (.cells #[.slice A n c,.int .i64 0] T)) w.heap.size 0:=by
 refine⟨⟨A,c,n,bs,by simp[go_sem],h.keep (KF.refl _ _).alloc,hn,hq,fun a ha hn0=>?_⟩,by simp[go_sem],fun i=>by simp[go_sem],by simp,Lb.new rfl rfl⟩
 exact (h.2.cells a ha hn0).2.2.1
theorem bL {rb lo:Nat} {a w w':World} (hz:w.heap.size≤w'.heap.size) (hl:∀ b,b<lo→w'.heap[b]?=w.heap[b]?) (h:KB rb a w) (hr:rb<lo):KB rb a w':=
 ⟨Nat.le_trans h.size hz,fun i hi hs=>(hl i (by omega)).trans (h.block i hi hs)⟩
theorem gK {w:World} {lo c n k:Nat} {A:Option Addr} {xs:List Int} (h:RB w lo A c n xs) (hk:k≤n):RB w lo A c k (xs.take k):=Rs.take h (fun _=>rfl) hk
theorem PY (A:Option Addr) (c n:Nat) (bs:List Int) (w:World) (hxs:RB w 0 A c n bs) (hq:∀ x∈bs,0≤x∧x≤255):Calls Tryz.prog 34 #[.slice A n c] w fun E w'=>∃ rb,E=.returned (.pointer (some ⟨rb,0,none⟩))∧Be w' rb 0∧w.heap.size≤rb∧Ex w w':=by
 have hl:=Lib.hid hxs.1
 have hcap:=hxs.2.le
 have hbig:=Rs.big hxs
 by_cases hn:n≤2000
 ·have hb:decide (2000<n)=false:=by simp;omega
  have H0:=Lib.hid (And.intro hxs hq)
  clear hxs hq
  go_enter Tryz.func34,Tryz.ntmps34
  go_wp2_with fail
  go_ret
  refine⟨_,rfl,⟨0,Nat.le_refl _,Z9.new H0.out.1 hn H0.out.2⟩,Nat.le_refl _,AA⟩
 ·have H0:=Lib.hid (And.intro hxs hq)
  clear hxs hq
  go_enter Tryz.func34,Tryz.ntmps34
  go_wp2_with fail
  go_ret
  refine⟨_,rfl,⟨0,Nat.le_refl _,Z9.new (gK H0.out.1 (show 2000≤n by omega)) (Nat.le_refl _) (fun x hx=>H0.out.2 x (List.mem_of_mem_take hx))⟩,Nat.le_refl _,AA⟩
theorem fO (a:Nat) {m:Nat} (hm:0<m):(0:Int)≤(a:Int)%(m:Int)∧(a:Int)%(m:Int)<m:=⟨Int.emod_nonneg _ (by omega),Int.emod_lt_of_pos _ (by omega)⟩
theorem Ib {x n:Int} (hx:0≤x) (hn:1≤n):0≤x.tmod n∧x.tmod n<n:=by
 rw[Int.tmod_eq_emod_of_nonneg hx]
 exact⟨Int.emod_nonneg _ (by omega),Int.emod_lt_of_pos _ (by omega)⟩
theorem DU (rb P:Nat) (n:Int) (w:World) (hr:Be w rb P) (hP:P≤1000000) (h1:1≤n):Calls Tryz.prog 37 #[.pointer (some ⟨rb,0,none⟩),.int .i64 n] w fun E w'=>∃ v,E=.returned (.int .i64 v)∧(0≤v∧v<n)∧Be w' rb (P+1)∧Ch (· = rb) w w':=by
 obtain⟨p,hp,hr⟩:=hr
 have Hs:=Lib.hid (show Be (w.setCell ⟨rb,1,none⟩ (.int .i64 ((p:Int)+1))) rb (P+1) from⟨p+1,by omega,hr.step⟩)
 obtain⟨⟨A,c,m,bs,hc0,hbs,hm,hq,hab⟩,hc1,hfr,hlt⟩:=hr
 have hbig:=Rs.big hbs
 have Hq:=Lib.hid hq
 clear hq
 by_cases h0:m=0
 ·subst h0
  go_enter Tryz.func37,Tryz.ntmps37
  go_wp2_with fail
  go_ret
  exact⟨0,rfl,⟨by omega,by omega⟩,Hs.out,Ch.setCell (S:=(· = rb)) (Ch.refl _ _) (.inl rfl) _⟩
 have hm0:0<m:=by omega
 have hb0:((m:Int)==0)=false:=by simp;omega
 by_cases hlt:p<m
 ·obtain⟨g,off,y,rfl,hg0,hg,hd,hy,hc⟩:=kZ hbs hlt
  have hgr:=hab _ rfl hm0
  dsimp only at hgr
  have hyb:=Hq.out y (List.mem_of_getElem? hy)
  obtain⟨hy0,hy1⟩:=hyb
  clear hd hy hab
  go_enter Tryz.func37,Tryz.ntmps37
  go_wp2_with fail
  go_ret
  exact⟨_,rfl,⟨Int.emod_nonneg _ (by omega),Int.emod_lt_of_pos _ (by omega)⟩,Hs.out,Ch.setCell (S:=(· = rb)) (Ch.refl _ _) (.inl rfl) _⟩
 ·have t1:=fO p hm0
  obtain⟨t10,t11⟩:=t1
  have t2:(0:Int)≤((p:Int)*7+3)%(m:Int)∧((p:Int)*7+3)%(m:Int)<m:=⟨Int.emod_nonneg _ (by omega),Int.emod_lt_of_pos _ (by omega)⟩
  obtain⟨t20,t21⟩:=t2
  obtain⟨g,off,y,rfl,hg0,hg,hd,hy,hcy⟩:=kZ hbs (Nat.mod_lt p hm0)
  obtain⟨g',off',z,hA',_,_,hd',hz,hcz⟩:=kZ hbs (Nat.mod_lt (p*7+3) hm0)
  cases hA'
  have hgr:=hab _ rfl hm0
  dsimp only at hgr
  have hyb:=Hq.out y (List.mem_of_getElem? hy)
  obtain⟨hy0,hy1⟩:=hyb
  have hzb:=Hq.out z (List.mem_of_getElem? hz)
  obtain⟨hz0,hz1⟩:=hzb
  rw[show p%m=((p:Int)%(m:Int)).toNat from by rw[← Int.natCast_emod];exact (Int.toNat_natCast _).symm] at hcy
  rw[show (p*7+3)%m=(((p:Int)*7+3)%(m:Int)).toNat from by
   rw[show (p:Int)*7+3=((p*7+3:Nat):Int) from by omega,← Int.natCast_emod];exact (Int.toNat_natCast _).symm] at hcz
  clear hd hy hd' hz hab
  have w1:IntKind.i64.wrap ((p:Int)*7)=(p:Int)*7:=IntWalk.i64_in _ (by omega)
  have w2:IntKind.i64.wrap ((p:Int)*7+3)=(p:Int)*7+3:=IntWalk.i64_in _ (by omega)
  have w3:IntKind.i64.wrap (y*131)=y*131:=IntWalk.i64_in _ (by omega)
  have w4:IntKind.i64.wrap (z*1117)=z*1117:=IntWalk.i64_in _ (by omega)
  have w5:IntKind.i64.wrap (y*131+z*1117)=y*131+z*1117:=IntWalk.i64_in _ (by omega)
  have w6:IntKind.i64.wrap ((p:Int)*29)=(p:Int)*29:=IntWalk.i64_in _ (by omega)
  have w7:IntKind.i64.wrap (y*131+z*1117+(p:Int)*29)=y*131+z*1117+(p:Int)*29:=IntWalk.i64_in _ (by omega)
  have e1:(p:Int).tmod (m:Int)=(p:Int)%(m:Int):=Int.tmod_eq_emod_of_nonneg (by omega)
  have e2:((p:Int)*7+3).tmod (m:Int)=((p:Int)*7+3)%(m:Int):=Int.tmod_eq_emod_of_nonneg (by omega)
  have e3:(p:Int).tdiv (m:Int)=(p:Int) / (m:Int):=Int.tdiv_eq_ediv_of_nonneg (by omega)
  have t30:(0:Int)≤(p:Int) / (m:Int):=Int.ediv_nonneg (by omega) (by omega)
  have t31:(p:Int) / (m:Int)≤p:=Int.ediv_le_self _ (by omega)
  have w8:IntKind.i64.wrap ((p:Int) / (m:Int)*53)=(p:Int) / (m:Int)*53:=IntWalk.i64_in _ (by omega)
  have w9:IntKind.i64.wrap (y*131+z*1117+(p:Int)*29+(p:Int) / (m:Int)*53)=y*131+z*1117+(p:Int)*29+(p:Int) / (m:Int)*53:=IntWalk.i64_in _ (by omega)
  go_enter Tryz.func37,Tryz.ntmps37
  go_wp2_with fail
  go_quiet ((first|fail))
  go_wp2
  go_ret
  obtain⟨X,hX⟩:∃ X:Nat,y*131+z*1117+(p:Int)*29+(p:Int) / (m:Int)*53=X:=⟨_,(Int.toNat_of_nonneg (by omega)).symm⟩
  have hXb:X<4611686018427387904:=by omega
  have hx:=au X (X / 64) hXb (by omega)
  rw[show ((X / 64:Nat):Int)=(X:Int) / 64 from by omega] at hx
  refine⟨_,rfl,?_,Hs.out.keep (bN (bR _ _)),(Ch.setCell (S:=(· = rb)) (Ch.refl _ _) (.inl rfl) _).drewN _⟩
  rw[hX,hx]
  exact Ib (Int.natCast_nonneg _) h1
def IM (Q:Int→Prop):List Value→Prop
 | []=>True
 | u::us=>(∃ x,u=.int .i64 x∧Q x)∧IM Q us
theorem IM.nil {Q:Int→Prop}:IM Q []:=trivial
theorem IM.cons {Q:Int→Prop} {u:Value} {us:List Value} (h:∃ x,u=.int .i64 x∧Q x) (k:IM Q us):IM Q (u::us):=⟨h,k⟩
theorem IM.at_ {Q:Int→Prop}:∀ {us:List Value} {i:Nat},IM Q us→i<us.length→∃ x,us[i]?=some (.int .i64 x)∧Q x
 | [],i,_,h=>absurd h (by simp)
 | u::us,0,h,_=>by obtain⟨⟨x,rfl,hx⟩,_⟩:=h;exact⟨x,rfl,hx⟩
 | u::us,i+1,h,hi=>IM.at_ (us:=us) h.2 (by simpa using hi)
theorem Be.low {w w':World} {rb P lo:Nat} (h:Be w rb P) (hz:w.heap.size≤w'.heap.size) (hl:∀ b,b<lo→w'.heap[b]?=w.heap[b]?) (hr:rb<lo):Be w' rb P:=h.keep (bL hz hl (bR _ _) hr)
theorem JG (Q:Int→Prop) {rb P:Nat} {n:Int} {w:World} {cs:Array Value} {T:TypeId} (hr:Be (w.alloc (.cells cs T)) rb P) (hP:P≤1000000) (hn:n=cs.toList.length) (hQ:IM Q cs.toList) (h1:1≤n) (hlt:rb<w.heap.size) :
  Calls Tryz.prog 37 #[.pointer (some ⟨rb,0,none⟩),.int .i64 n] (w.alloc (.cells cs T)) fun E w'=>∃ (v:Nat) (x:Int),E=.returned (.int .i64 v)∧(v:Int)<n∧Q x∧w'.cell? ⟨w.heap.size,v,none⟩=some (.int .i64 x)∧Be w' rb (P+1)∧Ch (· = rb) (w.alloc (.cells cs T)) w':=by
 refine (DU rb P n _ hr hP h1).mono ?_
 rintro E w' ⟨v,rfl,⟨h2,h3⟩,h4,h5⟩
 obtain⟨v,rfl⟩:=Int.eq_ofNat_of_zero_le h2
 obtain⟨x,hx,hq⟩:=IM.at_ (i:=v) hQ (by omega)
 refine⟨v,x,rfl,h3,hq,?_,h4,h5⟩
 have:=h5.cell (p:=⟨w.heap.size,v,none⟩) (by simp) (by show ¬w.heap.size=rb;omega)
 rw[this]
 simp only[World.cell?,heap_alloc_new]
 simpa using hx
theorem MH (rb P:Nat) (n:Int) (w:World) (hr:Be w rb P) (hP:P≤1000000) (h1:1≤n) (h2:n≤1000000):Calls Tryz.prog 38 #[.pointer (some ⟨rb,0,none⟩),.int .i64 n] w fun E w'=>∃ b,E=.returned (.bool b)∧Be w' rb (P+1)∧Ch (· = rb) w w':=by
 go_enter Tryz.func38,Tryz.ntmps38
 go_wp2_with (go_at_call 37;apply Calls.mono;apply DU;(apply Be.keep;assumption;(exact Cj));(exact Bu);(exact Bu);rintro E w1 ⟨v,rfl,⟨hv0,hv1⟩,hrd,hb⟩;obtain⟨hc,hf,hz⟩:=xd hb)
 go_ret
 exact⟨_,rfl,hrd,AA⟩
theorem ZF (rb P:Nat) (n:Int) (w:World) (hr:Be w rb P) (hP:P≤999000) (h1:1≤n) (h2:n≤1000000):Calls Tryz.prog 136 #[.pointer (some ⟨rb,0,none⟩),.int .i64 n] w fun E w'=>∃ m,E=.returned (.int .i64 m)∧Be w' rb (P+4)∧Ch (· = rb) w w':=by
 have hlt:=hr.lt
 go_enter Tryz.func136,Tryz.ntmps136
 go_wp2_with (first|(go_at_call 38;apply Calls.mono;apply MH;(apply Be.keep;assumption;(exact Cj));(exact Bu);(exact Bu);(exact Bu);rintro E w1 ⟨b,rfl,hrd,hb⟩;obtain⟨hc,hf,hz⟩:=xd hb)|(go_at_call 37;apply Calls.mono;apply (JG (fun _=>True));(apply Be.keep;assumption;(exact Cj));omega;(first|rfl|(simp;done));(repeat (first|exact IM.nil|(refine IM.cons ⟨_,rfl,(by first|exact trivial|omega)⟩ ?_)));omega;(first|omega|(simp only[BO];omega));rintro E w1 ⟨v,x,rfl,hv,hq,hcx,hrd,hb⟩;(try simp only[BO] at hcx);obtain⟨hc,hf,hz⟩:=xd hb)|(go_at_call 37;apply Calls.mono;apply DU;(apply Be.keep;assumption;(exact Cj));(exact Bu);(exact Bu);rintro E w1 ⟨v,rfl,⟨hv0,hv1⟩,hrd,hb⟩;obtain⟨hc,hf,hz⟩:=xd hb))
 all_goals (go_ret;exact⟨_,rfl,hrd.more (by omega),AA⟩)
def Ints (w:World) (g n:Nat):Prop:=∃ (zs:List Int) (T:TypeId),zs.length=n∧w.heap[g]?=some (.cells (zs.map (Value.int .i64)).toArray T (0,0))
section
variable {w w':World} {g n:Nat}
theorem Ints.lt (h:Ints w g n):g<w.heap.size:=by
 obtain⟨zs,T,h1,h2⟩:=h
 exact (Array.getElem?_eq_some_iff.1 h2).1
theorem Ints.new {cs:Array Value} {T:TypeId} {zs:List Int} (hg:g=w.heap.size) (hcs:cs=(zs.map (Value.int .i64)).toArray) (hn:zs.length=n):Ints (w.alloc (.cells cs T)) g n:=by
 subst hg hcs
 exact⟨zs,T,hn,heap_alloc_new w _⟩
theorem Ints.alloc {o:Obj} (h:Ints w g n):Ints (w.alloc o) g n:=by
 have:=h.lt
 obtain⟨zs,T,h1,h2⟩:=h
 exact⟨zs,T,h1,(Below.heap_alloc w o g this).trans h2⟩
theorem Ints.drew (h:Ints w g n):Ints w.drew g n:=h
theorem Ints.ch {S:Nat→Prop} (hb:Ch S w w') (hS:¬S g) (h:Ints w g n):Ints w' g n:=by
 have:=h.lt
 obtain⟨zs,T,h1,h2⟩:=h
 exact⟨zs,T,h1,(hb.block g this hS).trans h2⟩
theorem Ints.set {p:Addr} {v:Int} (h:Ints w g n) (hp:p.spot=none):Ints (w.setCell p (.int .i64 v)) g n:=by
 obtain⟨zs,T,h1,h2⟩:=h
 by_cases he:p.block=g
 ·subst he
  refine⟨zs.set p.off v,T,by rw[List.length_set];exact h1,?_⟩
  simp only[World.setCell,Array.getElem?_modify,if_true,h2,Option.map_some,hp]
  congr 2
  apply Array.ext'
  simp[List.map_set]
 ·exact⟨zs,T,h1,(Below.heap_setCell w p _ g (fun e=>he e.symm)).trans h2⟩
theorem Ints.lb (h:Ints w g n):Lb w g n:=by
 obtain⟨zs,T,h1,h2⟩:=h
 exact⟨_,T,h2,by simp[h1]⟩
theorem Ints.free (h:Ints w g n):∀ i,w.frozen? ⟨g,i,none⟩=false:=h.lb.rules.2
theorem Ints.at_ (h:Ints w g n) {i:Nat} (hi:i<n):∃ a:Int,w.cell? ⟨g,i,none⟩=some (.int .i64 a):=by
 obtain⟨zs,T,h1,h2⟩:=h
 refine⟨zs[i],?_⟩
 simp[World.cell?,h2,h1,hi]
end
structure TY (w0 w:World) (rb r g n P:Nat):Prop where
 own:Ints w g n
 res:Ints w r n
 rd:Be w rb P
 ch:Ch (· = rb) w0 w
end Go.Proofs.YtgaflnpmilikcaaGreat
namespace Go.Proofs.YtgaflnpmilikcaaGreat
open Go.RowKit Go
set_option maxHeartbeats 1000000
theorem Ti (A:Option Addr) (c n:Nat) (xs:List Sw.FC) (B:Option Addr) (d m:Nat) (ys:List Sw.FC) (w:World) (hxs:RE w 0 A c n xs) (hys:RE w 0 B d m ys):Calls Tryz.prog 71 #[.slice A n c,.slice B m d] w fun E w'=>E=.returned (.bool (decide (xs=ys)))∧Ex w w':=by
 have hl:=Lib.hid hxs.1
 have hl':=Lib.hid hys.1
 have hbig:=Rs.big hxs
 by_cases hnm:n=m
 case neg=>
  have hb:((n:Int)==m)=false:=by simp;omega
  have e:decide (xs=ys)=false:=by
   rw[decide_eq_false_iff_not];rintro rfl
   have:=hl.out;have:=hl'.out;omega
  rw[e];clear e
  go_enter Tryz.func71,Tryz.ntmps71
  go_wp2_with fail
  go_ret
  exact⟨rfl,(by exact AA)⟩
 subst hnm
 go_enter Tryz.func71,Tryz.ntmps71
 go_wp2_with fail
 go_loopw [5] (fun i wr=>∃ k:Nat,k≤n∧i=.int .i64 k∧Ex w wr∧decide (xs=ys)=decide (xs.drop k=ys.drop k)) (fun i _=>n-(intOf i).toNat)
 case atStart=>exact⟨0,Nat.zero_le _,rfl,Ch.refl _ _,rfl⟩
 case round=>
  obtain⟨k,hk,rfl,hb2,hrel⟩:=hrel
  have hst:=Ex.rules hb2 rfl
  obtain⟨hc2,hf2,hz2⟩:=hst
  by_cases hlt:k<n
  ·obtain⟨g,off,y,rfl,hg0,hg,hd,hy,YA,Zj,Zi,Zh⟩:=YQ hxs hlt
   obtain⟨g',off',z,rfl,hg0',hg',hd',hz',hcb0,wC,wB,v_⟩:=YQ hys hlt
   have t1:(0:Int)≤(k:Int):=by omega
   have t2:(k:Int)<(n:Int):=by omega
   rw[hd,hd'] at hrel
   have BI:=Lib.hid hrel
   clear hrel hd hd' hy hz'
   cases hyz:decide (y=z) with
   | true=>
    go_wp2_with fail
    (first|(obtain rfl:=of_decide_eq_true hyz;go_quiet ((first|fail)))|(have hn:=of_decide_eq_false hyz;by_cases a1:y.kind=z.kind;all_goals (by_cases a2:y.ticket=z.ticket);all_goals (by_cases a3:y.who=z.who);all_goals (by_cases a4:y.Al=z.Al);all_goals (try (exfalso;apply hn;cases y;cases z;simp_all;done));all_goals go_quiet ((first|fail))))
    all_goals go_wp2
    all_goals go_roundw
    case rel=>exact⟨k+1,by omega,by go_num,(by exact AA),by rw[BI.out];simp[of_decide_eq_true hyz]⟩
    case measure=>simp[intOf];omega
   | false=>
    go_wp2_with fail
    (first|(obtain rfl:=of_decide_eq_true hyz;go_quiet ((first|fail)))|(have hn:=of_decide_eq_false hyz;by_cases a1:y.kind=z.kind;all_goals (by_cases a2:y.ticket=z.ticket);all_goals (by_cases a3:y.who=z.who);all_goals (by_cases a4:y.Al=z.Al);all_goals (try (exfalso;apply hn;cases y;cases z;simp_all;done));all_goals go_quiet ((first|fail))))
    all_goals go_wp2
    all_goals go_ret
    all_goals exact⟨Ar (by rw[BI.out];simp[of_decide_eq_false hyz]),(by exact AA)⟩
  ·have BI:=Lib.hid hrel;clear hrel
   go_wp2_with fail
   go_ret
   refine⟨Ar ?_,(by exact AA)⟩
   rw[BI.out,List.drop_of_length_le (by have:=hl.out;omega),List.drop_of_length_le (by have:=hl'.out;omega)]
   simp
theorem Xk (A:Option Addr) (c n:Nat) (xs:List Sw.BC) (B:Option Addr) (d m:Nat) (ys:List Sw.BC) (w:World) (hxs:VJ w 0 A c n xs) (hys:VJ w 0 B d m ys):Calls Tryz.prog 72 #[.slice A n c,.slice B m d] w fun E w'=>E=.returned (.bool (decide (xs=ys)))∧Ex w w':=by
 have hl:=Lib.hid hxs.1
 have hl':=Lib.hid hys.1
 have hbig:=Rs.big hxs
 by_cases hnm:n=m
 case neg=>
  have hb:((n:Int)==m)=false:=by simp;omega
  have e:decide (xs=ys)=false:=by
   rw[decide_eq_false_iff_not];rintro rfl
   have:=hl.out;have:=hl'.out;omega
  rw[e];clear e
  go_enter Tryz.func72,Tryz.ntmps72
  go_wp2_with fail
  go_ret
  exact⟨rfl,(by exact AA)⟩
 subst hnm
 go_enter Tryz.func72,Tryz.ntmps72
 go_wp2_with fail
 go_loopw [5] (fun i wr=>∃ k:Nat,k≤n∧i=.int .i64 k∧Ex w wr∧decide (xs=ys)=decide (xs.drop k=ys.drop k)) (fun i _=>n-(intOf i).toNat)
 case atStart=>exact⟨0,Nat.zero_le _,rfl,Ch.refl _ _,rfl⟩
 case round=>
  obtain⟨k,hk,rfl,hb2,hrel⟩:=hrel
  have hst:=Ex.rules hb2 rfl
  obtain⟨hc2,hf2,hz2⟩:=hst
  by_cases hlt:k<n
  ·obtain⟨g,off,y,rfl,hg0,hg,hd,hy,YA,Zj,Zi,Zh,jc⟩:=OQ hxs hlt
   obtain⟨g',off',z,rfl,hg0',hg',hd',hz',hcb0,wC,wB,v_,ABX⟩:=OQ hys hlt
   have t1:(0:Int)≤(k:Int):=by omega
   have t2:(k:Int)<(n:Int):=by omega
   rw[hd,hd'] at hrel
   have BI:=Lib.hid hrel
   clear hrel hd hd' hy hz'
   cases hyz:decide (y=z) with
   | true=>
    go_wp2_with fail
    (first|(obtain rfl:=of_decide_eq_true hyz;go_quiet ((first|fail)))|(have hn:=of_decide_eq_false hyz;by_cases a1:y.ticket=z.ticket;all_goals (by_cases a2:y.BP=z.BP);all_goals (by_cases a3:y.Al=z.Al);all_goals (by_cases a4:y.BN=z.BN);all_goals (by_cases a5:y.due=z.due);all_goals (try (exfalso;apply hn;cases y;cases z;simp_all;done));all_goals go_quiet ((first|fail))))
    all_goals go_wp2
    all_goals go_roundw
    case rel=>exact⟨k+1,by omega,by go_num,(by exact AA),by rw[BI.out];simp[of_decide_eq_true hyz]⟩
    case measure=>simp[intOf];omega
   | false=>
    go_wp2_with fail
    (first|(obtain rfl:=of_decide_eq_true hyz;go_quiet ((first|fail)))|(have hn:=of_decide_eq_false hyz;by_cases a1:y.ticket=z.ticket;all_goals (by_cases a2:y.BP=z.BP);all_goals (by_cases a3:y.Al=z.Al);all_goals (by_cases a4:y.BN=z.BN);all_goals (by_cases a5:y.due=z.due);all_goals (try (exfalso;apply hn;cases y;cases z;simp_all;done));all_goals go_quiet ((first|fail))))
    all_goals go_wp2
    all_goals go_ret
    all_goals exact⟨Ar (by rw[BI.out];simp[of_decide_eq_false hyz]),(by exact AA)⟩
  ·have BI:=Lib.hid hrel;clear hrel
   go_wp2_with fail
   go_ret
   refine⟨Ar ?_,(by exact AA)⟩
   rw[BI.out,List.drop_of_length_le (by have:=hl.out;omega),List.drop_of_length_le (by have:=hl'.out;omega)]
   simp
theorem EN (aL:Option Addr) (Ae AU:Nat) (aP:Option Addr) (Ag AY:Nat) (aD:Option Addr) (Ac AQ:Nat) (aN:Option Addr) (Ad Aa:Nat) (aS:Option Addr) (Af Ab:Nat) (x:Sw.CV) (bL:Option Addr) (Bg BR:Nat) (bP:Option Addr) (Bf BV:Nat) (bD:Option Addr) (Bh Ba:Nat) (bN:Option Addr) (Bd Bb:Nat) (bS:Option Addr) (Bc BZ:Nat) (y:Sw.CV) (w:World) (hx:RM w 0 aL Ae AU aP Ag AY aD Ac AQ aN Ad Aa aS Af Ab x) (hy:RM w 0 bL Bg BR bP Bf BV bD Bh Ba bN Bd Bb bS Bc BZ y):Calls Tryz.prog 29 #[.agg #[.slice aL AU Ae,.slice aP AY Ag,.slice aD AQ Ac,.int .i64 x.clock,.slice aN Aa Ad,.slice aS Ab Af],.agg #[.slice bL BR Bg,.slice bP BV Bf,.slice bD Ba Bh,.int .i64 y.clock,.slice bN Bb Bd,.slice bS BZ Bc]] w fun E w'=>E=.returned (.bool (decide (x=y)))∧Ex w w':=by
 obtain⟨x1,x2,x3,x4,x5⟩:=hx
 obtain⟨y1,y2,y3,y4,y5⟩:=hy
 go_enter Tryz.func29,Tryz.ntmps29
 go_wp2_with (first|(go_at_call 71;apply Calls.mono;apply Ti;(exact Co);(exact Co);rintro E w1 ⟨rfl,hb⟩;obtain⟨hc,hf,hz⟩:=xy hb)|(go_at_call 42;apply Calls.mono;apply Hl;(exact Co);(exact Co);rintro E w1 ⟨rfl,hb⟩;obtain⟨hc,hf,hz⟩:=xy hb)|(go_at_call 72;apply Calls.mono;apply Xk;(exact Co);(exact Co);rintro E w1 ⟨rfl,hb⟩;obtain⟨hc,hf,hz⟩:=xy hb))
 all_goals (go_ret;refine⟨Ar ?_,AA⟩;go_tidy;simp only[dM])
 all_goals (first|(simp[*];done)|(simp_all;done))
end Go.Proofs.YtgaflnpmilikcaaGreat
