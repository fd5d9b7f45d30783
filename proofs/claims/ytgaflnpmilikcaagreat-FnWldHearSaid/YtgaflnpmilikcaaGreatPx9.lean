/- Texts joined: Rows2, LawEq, LawEq2, LawEq3, Mon2, Open, OpenB. -/
import Derived.Test.YtgaflnpmilikcaaGreatPx8
import Derived.Test.YtgaflnpmilikcaaGreatPx7
import Derived.Test.YtgaflnpmilikcaaGreatPx5
set_option maxRecDepth 100000
set_option linter.unusedSimpArgs false
set_option linter.unusedVariables false
namespace Go.Proofs.YtgaflnpmilikcaaGreat
open Go.RowKit Go
set_option maxHeartbeats 400000
theorem ND {w:World} {lo c n k:Nat} {A:Option Addr} {xs:List Sw.Row} (h:PQ w lo A c n xs) (hk:k<n) :
  ∃ g x,A=some ⟨g,0,none⟩∧lo≤g∧g<w.heap.size∧xs[k]?=some x∧w.cell? ⟨g,k*3,none⟩=some (.int .i64 x.who)∧w.cell? ⟨g,k*3+1,none⟩=some (.int .i64 x.EY) ∧
   w.cell? ⟨g,k*3+2,none⟩=some (.bool x.used)∧(∀ i,w.frozen? ⟨g,i,none⟩=false):=by
 obtain⟨g,x,h1,h2,h3,h4,h5,h6⟩:=Ow.at_ h (fun _=>rfl) hk
 exact⟨g,x,h1,h2,h3,h4,by simpa using h5 0 _ (by omega) rfl,h5 1 _ (by omega) rfl,h5 2 _ (by omega) rfl,h6⟩
theorem Yp (w:World):Calls Tryz.prog 149 #[] w fun E w'=>∃ A,E=.returned (.slice A 8 8)∧PQ w' w.heap.size A 8 8 Sw.Qs∧Ex w w':=by
 have hmk:∀ w,(Instr.makeSlice 68 (.int .i64 8) (.int .i64 8)).run Tryz.prog w=.ok (.slice (some ⟨w.heap.size,0,none⟩) 8 8) (w.alloc (.cells (Sw.Qs.flatMap Sw.Row.enc).toArray 75)):=fun _=>by kernel_rfl
 go_enter Tryz.func149,Tryz.ntmps149
 go_wp2
 go_ret
 exact⟨_,rfl,Ow.new _ rfl rfl rfl (fun _=>rfl) (Nat.le_refl _) (by omega),AA⟩
theorem Qc {w:World} {lo c n k g:Nat} {A:Option Addr} {xs:List Sw.Row} (h:PQ w lo A c n xs) (hA:A=some ⟨g,0,none⟩) {a b:Int} {u:Bool} (hx:xs[k]?=some ⟨a,b,u⟩) (v:Int) :
  PQ (w.setCell ⟨g,k*3,none⟩ (.int .i64 v)) lo A c n (xs.set k ⟨v,b,u⟩):=by
 have:=Ow.set h (fun _=>rfl) (j:=0) (u:=.int .i64 v) hA hx (by omega) (y:=⟨v,b,u⟩) rfl
 simpa using this
theorem Xa {w:World} {lo c n k g:Nat} {A:Option Addr} {xs:List Sw.Row} (h:PQ w lo A c n xs) (hA:A=some ⟨g,0,none⟩) {a b:Int} {u:Bool} (hx:xs[k]?=some ⟨a,b,u⟩) (v:Int) :
  PQ (w.setCell ⟨g,k*3+1,none⟩ (.int .i64 v)) lo A c n (xs.set k ⟨a,v,u⟩):=
 Ow.set h (fun _=>rfl) (j:=1) (u:=.int .i64 v) hA hx (by omega) (y:=⟨a,v,u⟩) rfl
theorem TU {w:World} {lo c n k g:Nat} {A:Option Addr} {xs:List Sw.Row} (h:PQ w lo A c n xs) (hA:A=some ⟨g,0,none⟩) {a b:Int} {u:Bool} (hx:xs[k]?=some ⟨a,b,u⟩) (v:Bool) :
  PQ (w.setCell ⟨g,k*3+2,none⟩ (.bool v)) lo A c n (xs.set k ⟨a,b,v⟩):=
 Ow.set h (fun _=>rfl) (j:=2) (u:=.bool v) hA hx (by omega) (y:=⟨a,b,v⟩) rfl
theorem Sm {α:Type} {xs:List α} {k:Nat} {x y:α} (h:xs[k]?=some x):(xs.set k y)[k]?=some y:=by
 have hk:=(List.getElem?_eq_some_iff.1 h).1
 simp[hk]
theorem Rh {xs:List Sw.Row} {e:Sw.FC} (h:Sw.Bn xs e=true):xs.length=8∧0≤e.ticket∧e.ticket<8∧(e.kind=1∨e.kind=2∨e.kind=3):=by
 simp only[Sw.Bn,Bool.and_eq_true,Sw.EH,Sw.GI,Sw.Br,decide_eq_true_eq] at h
 obtain⟨⟨⟨_,h1⟩,⟨⟨h2,h3⟩,h4,h5⟩,h6⟩,h7⟩:=h
 refine⟨h1,h2,by omega,?_⟩
 split at h6
 ·exact .inl ‹_›
 ·split at h6
  ·exact .inr (.inl ‹_›)
  ·simp at h6;exact .inr (.inr h6.1)
theorem Rf {xs:List Sw.Row} {e:Sw.FC} {t:Nat} {a b:Int} {u:Bool} (h:Sw.Bn xs e=true) (hk:e.kind=1) (ht:e.ticket=t) (hx:xs[t]?=some ⟨a,b,u⟩):u=false:=by
 simp only[Sw.Bn,Bool.and_eq_true,Sw.EH,Sw.DI,hk,Sw.rowAt,ht,Int.toNat_natCast,List.getD_eq_getElem?_getD,hx,Option.getD_some,if_true,decide_eq_true_eq] at h
 obtain⟨⟨⟨h1,_⟩,_⟩,h2⟩:=h
 have:=List.all_eq_true.1 h1 _ (List.mem_of_getElem? hx)
 simp[Sw.rowOk,Sw.Br] at this
 rcases this with h|h
 ·exact h.2
 ·omega
theorem put_eq {xs:List Sw.Row} {e:Sw.FC} {t:Nat} {x:Sw.Row} (h:Sw.Bn xs e=true) (ht:e.ticket=t) (hx:xs[t]?=some x):Sw.JV xs e=xs.set t (Sw.putRow x e):=by
 simp[Sw.JV,h,Sw.JE,Sw.rowAt,ht,hx]
theorem Xr (A:Option Addr) (c n:Nat) (xs:List Sw.Row) (e:Sw.FC) (w:World) (hxs:RR w 0 A c n xs) (hn:n≤4194304):Calls Tryz.prog 150 #[.slice A n c,.agg #[.int .i64 e.kind,.int .i64 e.ticket,.int .i64 e.who,.int .i64 e.Al]] w fun E w'=>∃ A' c',E=.returned (.tuple #[.slice A' n c',.bool (Sw.Bn xs e)])∧PQ w' w.heap.size A' c' n (Sw.JV xs e)∧Ex w w':=by
 by_cases hfit:Sw.Bn xs e=true
 ·have hl:=Lib.hid hxs.1
  obtain⟨h8,t0,t1,hk⟩:=Rh hfit
  obtain⟨t,ht⟩:=Int.eq_ofNat_of_zero_le t0
  have e0:e.ticket.toNat=t:=by omega
  have Ht:=Lib.hid ht
  have htn:t<n:=by have:=hl.out;omega
  have XO:n=8:=by have:=hl.out;omega
  subst XO
  have Hk:=Lib.hid hk
  have H8:=Lib.hid h8
  clear ht hk h8
  have key:∀ (b1 b2:Bool),(e.kind==1)=b1→(e.kind==2)=b2→Calls Tryz.prog 150 #[.slice A 8 c,.agg #[.int .i64 e.kind,.int .i64 e.ticket,.int .i64 e.who,.int .i64 e.Al]] w fun E w'=>∃ A' c',E=.returned (.tuple #[.slice A' 8 c',.bool (Sw.Bn xs e)])∧PQ w' w.heap.size A' c' 8 (Sw.JV xs e)∧Ex w w':=by
   intro b1 b2 hb1 hb2
   go_enter Tryz.func150,Tryz.ntmps150
   go_wp2_with (first|(at_builtin;apply BL (lo:=w.heap.size+1) kW Y5 rfl rfl rfl rfl;(exact Iy);(exact Co);omega;exact Aq;intro A1 c1 w2 ho1 Ap Bo Ay Ah;have hb:=Ay (fun _=>False) w (by exact AA) (by exact Aq);have hz:=Ap.size;(try simp only[BO] at hz);obtain⟨hc,hf⟩:=BJ Ah;clear Ah Ay))
   simp only[Nat.zero_add,List.nil_append] at ho1
   apply Calls.mono;apply DJ;(first|assumption|(exact Co)|omega);rintro E w3 ⟨rfl,hb3⟩;have hst:=Ex.rules hb3 rfl;obtain⟨hc3,hf3,hz3⟩:=hst
   have ho3:=Ow.keep ho1 (KF.ex hb3 (KF.refl _ _))
   obtain⟨g,x,hA,hlo,hlt,hx,c0,c1,c2,hfz⟩:=ND ho3 htn
   obtain⟨ya,yb,yu⟩:=x
   have Hx:=Lib.hid hx
   have oH:w.heap.size≤g:=by omega
   clear hx
   subst hA
   dsimp only at c0 c1 c2
   cases b1 with
   | true=>
    go_wp2_with fail
    go_ret2
    refine⟨_,_,by rw[hfit];rfl,?_,AA⟩
    have k1:e.kind=1:=by simpa using hb1
    rw[put_eq hfit Ht.out Hx.out]
    have hu:=Rf hfit k1 Ht.out Hx.out
    subst hu
    have r:=TU (Xa (Qc ho3 rfl Hx.out e.who) rfl (Sm Hx.out) e.Al) rfl (Sm (Sm Hx.out)) false
    simp only[List.set_set] at r
    simp only[Sw.putRow,k1,if_true]
    exact r.less (by omega)
   | false=>
    have k1:¬e.kind=1:=by simpa using hb1
    cases b2 with
    | true=>
     go_wp2_with fail
     go_ret2
     refine⟨_,_,by rw[hfit];rfl,?_,AA⟩
     have k2:e.kind=2:=by simpa using hb2
     rw[put_eq hfit Ht.out Hx.out]
     have r:=Qc ho3 rfl Hx.out e.who
     simp only[Sw.putRow,if_neg k1,k2,if_true]
     exact r.less (by omega)
    | false=>
     go_wp2_with fail
     go_ret2
     refine⟨_,_,by rw[hfit];rfl,?_,AA⟩
     have k2:¬e.kind=2:=by simpa using hb2
     rw[put_eq hfit Ht.out Hx.out]
     have r:=TU ho3 rfl Hx.out true
     simp only[Sw.putRow,if_neg k1,if_neg k2]
     exact r.less (by omega)
  exact key _ _ rfl rfl
 ·have hf0:Sw.Bn xs e=false:=by simpa using hfit
  go_enter Tryz.func150,Tryz.ntmps150
  go_wp2_with (first|(at_builtin;apply BL (lo:=w.heap.size+1) kW Y5 rfl rfl rfl rfl;(exact Iy);(exact Co);omega;exact Aq;intro A1 c1 w2 ho1 Ap Bo Ay Ah;have hb:=Ay (fun _=>False) w (by exact AA) (by exact Aq);have hz:=Ap.size;(try simp only[BO] at hz);obtain⟨hc,hf⟩:=BJ Ah;clear Ah Ay)|(go_at_call 184;apply Calls.mono;apply DJ;(exact Co);rintro E w1 ⟨rfl,hb⟩;obtain⟨hc,hf,hz⟩:=xy hb))
  go_ret2
  refine⟨_,_,by rw[hf0];rfl,?_,AA⟩
  rw[show Sw.JV xs e=xs from by simp[Sw.JV,hf0]]
  simp only[Nat.zero_add,List.nil_append] at ho1
  refine Ow.less ?_ (show w.heap.size≤w.heap.size+1 by omega)
  apply Ow.keep ho1;(exact AO)
set_option maxHeartbeats 400000
def AAJ (l n:Int):Int:=if l-n<0 then -1 else l-n
set_option maxHeartbeats 400000
def QJ (gs:List Sw.Gate):Nat:=(gs.map (·.done.length)).sum
def Rw (xs:List Sw.IX):Nat:=(xs.map (·.proof.length)).sum
theorem U_ (g:Sw.Gate) (gs:List Sw.Gate):QJ (g::gs)=g.done.length+QJ gs:=by simp[QJ]
theorem UA (g:Sw.IX) (gs:List Sw.IX):Rw (g::gs)=g.proof.length+Rw gs:=by simp[Rw]
set_option maxHeartbeats 400000
theorem dM {a b:Sw.CV}:a=b↔a.log=b.log∧a.Ai=b.Ai∧a.AJ=b.AJ∧a.clock=b.clock∧a.nums=b.nums∧a.said=b.said:=by cases a;cases b;simp
theorem Zq {a b:Sw.Gate}:a=b↔a.head=b.head∧a.done=b.done:=by cases a;cases b;simp
theorem Xe {a b:Sw.World}:a=b↔a.first=b.first∧a.AB=b.AB∧a.lines=b.lines∧a.AV=b.AV∧a.BS=b.BS:=by cases a;cases b;simp
theorem Uz (y z:Sw.Gate):decide (y=z)=(decide (y.head=z.head)&&decide (y.done=z.done)):=by rw[Bool.eq_iff_iff];simp[Zq]
set_option maxHeartbeats 400000
theorem D5 (A:Option Addr) (c n:Nat) (xs:List Int) (w:World) (hxs:RI w 0 A c n xs):Calls Tryz.prog 46 #[.slice A n c] w fun E w'=>E=.returned (.bool (Sw.DR xs))∧w=w':=by
 have hl:=Lib.hid hxs.1
 have hbig:=Rs.big hxs
 by_cases hn:n=5
 ·subst hn
  go_enter Tryz.func46,Tryz.ntmps46
  go_wp2
  go_loop [3] (fun i=>∃ k:Nat,k≤5∧i=.int .i64 k∧xs.all (fun n=>Sw.Br n 0 100000)=(xs.drop k).all (fun n=>Sw.Br n 0 100000)) (fun i=>5-(intOf i).toNat)
  case atStart=>exact⟨0,Nat.zero_le _,rfl,rfl⟩
  case round=>
   obtain⟨k,hk,rfl,hrel⟩:=hrel
   by_cases hlt:k<5
   ·obtain⟨g,off,y,rfl,hg0,hg,hd,hy,hc⟩:=G8 hxs hlt
    rw[hd] at hrel
    clear hd hy
    have BI:=Lib.hid hrel;clear hrel
    cases hp:Sw.Br y 0 100000 with
    | true=>
     go_wp2_with (go_at_call 48;refine (Aw _ _ _ _).mono ?_;rintro E w' ⟨rfl,rfl⟩)
     go_round
     case rel=>exact⟨k+1,by omega,by go_num,by rw[BI.out,List.all_cons,hp,Bool.true_and]⟩
     case measure=>simp[intOf];omega
    | false=>
     go_wp2_with (go_at_call 48;refine (Aw _ _ _ _).mono ?_;rintro E w' ⟨rfl,rfl⟩)
     go_ret
     exact⟨Ar (by rw[Sw.DR,BI.out,List.all_cons,hp];simp),rfl⟩
   ·have BI:=Lib.hid hrel;clear hrel
    go_wp2
    go_ret
    refine⟨Ar ?_,rfl⟩
    rw[Sw.DR,BI.out,List.drop_of_length_le (by have:=hl.out;omega),← hl.out]
    rfl
 ·have hb:decide (n=5)=false:=by simp[hn]
  go_enter Tryz.func46,Tryz.ntmps46
  go_wp2
  go_ret
  refine⟨Ar ?_,rfl⟩
  rw[Sw.DR,← hl.out,hb]
  rfl
theorem Jt {xs:List Int} {who v:Int} (h:Sw.Bz xs who v=true):Sw.Dy xs who v=Sw.turned xs who v:=by simp[Sw.Dy,h]
theorem IU {xs:List Int} {who v:Int} (h:Sw.Bz xs who v=false):Sw.Dy xs who v=xs:=by simp[Sw.Dy,h]
theorem I9 {xs:List Int} (h:Sw.DR xs=true):xs.length=5:=(Sw.Ci.1 h).1
theorem T_ {xs:List Int} {k:Nat} {y:Int} (h:xs[k]?=some y):Sw.purse xs (k+1)=y:=by
 unfold Sw.purse
 rw[show ((k:Int)+1-1).toNat=k from by omega,List.getD_eq_getElem?_getD,h]
 rfl
theorem F3 (A:Option Addr) (c n:Nat) (xs:List Int) (who v:Int) (w:World) (hxs:RI w 0 A c n xs) (hn:n≤4194304):Calls Tryz.prog 175 #[.slice A n c,.int .i64 who,.int .i64 v] w fun E w'=>∃ A' c',E=.returned (.tuple #[.slice A' n c',.bool (Sw.Bz xs who v)])∧Ga w' w.heap.size A' c' n (Sw.Dy xs who v)∧Ex w w':=by
 cases g1:Sw.DR xs
 case false=>
  have e:Sw.Bz xs who v=false:=by simp[Sw.Bz,g1]
  rw[e,IU e];clear e
  go_enter Tryz.func175,Tryz.ntmps175
  go_wp2_with (first|(at_builtin;apply BL (lo:=w.heap.size) FO Dz rfl rfl rfl rfl;(exact Iy);(exact Co);omega;exact Aq;intro A1 c1 w2 ho1 Ap Bo Ay Ah;have hb:=Ay (fun _=>False) w (by exact AA) (by exact Aq);have hz:=Ap.size;(try simp only[BO] at hz);obtain⟨hc,hf⟩:=BJ Ah;clear Ah Ay)|(go_at_call 46;apply Calls.mono;apply D5;(exact Co);rintro E w' ⟨rfl,rfl⟩))
  go_ret2
  exact⟨A1,c1,by simp,by simpa using ho1,AA⟩
 have h5:=I9 g1
 have dw:n=5:=by rw[hxs.1,h5]
 subst dw
 clear h5
 cases g2:Sw.Br who 1 5
 case false=>
  have e:Sw.Bz xs who v=false:=by simp[Sw.Bz,g2]
  rw[e,IU e];clear e
  go_enter Tryz.func175,Tryz.ntmps175
  go_wp2_with (first|(at_builtin;apply BL (lo:=w.heap.size) FO Dz rfl rfl rfl rfl;(exact Iy);(exact Co);omega;exact Aq;intro A1 c1 w2 ho1 Ap Bo Ay Ah;have hb:=Ay (fun _=>False) w (by exact AA) (by exact Aq);have hz:=Ap.size;(try simp only[BO] at hz);obtain⟨hc,hf⟩:=BJ Ah;clear Ah Ay)|(go_at_call 46;apply Calls.mono;apply D5;(exact Co);rintro E w' ⟨rfl,rfl⟩)|(go_at_call 48;refine (Aw _ _ _ _).mono ?_;rintro E w' ⟨rfl,rfl⟩))
  go_ret2
  exact⟨A1,c1,by simp,by simpa using ho1,AA⟩
 cases g3:Sw.Br v (-100000) 100000
 case false=>
  have e:Sw.Bz xs who v=false:=by simp[Sw.Bz,g3]
  rw[e,IU e];clear e
  go_enter Tryz.func175,Tryz.ntmps175
  go_wp2_with (first|(at_builtin;apply BL (lo:=w.heap.size) FO Dz rfl rfl rfl rfl;(exact Iy);(exact Co);omega;exact Aq;intro A1 c1 w2 ho1 Ap Bo Ay Ah;have hb:=Ay (fun _=>False) w (by exact AA) (by exact Aq);have hz:=Ap.size;(try simp only[BO] at hz);obtain⟨hc,hf⟩:=BJ Ah;clear Ah Ay)|(go_at_call 46;apply Calls.mono;apply D5;(exact Co);rintro E w' ⟨rfl,rfl⟩)|(go_at_call 48;refine (Aw _ _ _ _).mono ?_;rintro E w' ⟨rfl,rfl⟩))
  go_ret2
  exact⟨A1,c1,by simp,by simpa using ho1,AA⟩
 have hw:=Sw.BB.1 g2
 have hv:=Sw.BB.1 g3
 obtain⟨k,rfl⟩:∃ k:Nat,who=k+1:=⟨(who-1).toNat,by omega⟩
 have hk:k<5:=by omega
 obtain⟨g,off,y,rfl,hg0,hg,hd,hy,hc0⟩:=G8 hxs hk
 have hyb:0≤y∧y≤100000:=(Sw.Ci.1 g1).2 y (List.mem_of_getElem? hy)
 have nZ:=T_ hy
 have lD:=Lib.hid nZ
 have Hy:=Lib.hid hy
 clear hd hy nZ
 obtain⟨y0,y1⟩:=hyb
 obtain⟨v0,v1⟩:=hv
 clear hw
 have t2:IntKind.i64.wrap ((k:Int)+1-1)=k:=by rw[IntWalk.i64_in _ (by omega)];omega
 cases g4:Sw.Br (y+v) 0 100000
 case false=>
  have e:Sw.Bz xs (k+1) v=false:=by simp[Sw.Bz,lD.out,g4]
  rw[e,IU e];clear e
  go_enter Tryz.func175,Tryz.ntmps175
  go_wp2_with (first|(at_builtin;apply BL (lo:=w.heap.size) FO Dz rfl rfl rfl rfl;(exact Iy);(exact Co);omega;exact Aq;intro A1 c1 w2 ho1 Ap Bo Ay Ah;have hb:=Ay (fun _=>False) w (by exact AA) (by exact Aq);have hz:=Ap.size;(try simp only[BO] at hz);obtain⟨hc,hf⟩:=BJ Ah;clear Ah Ay)|(go_at_call 46;apply Calls.mono;apply D5;(exact Co);rintro E w' ⟨rfl,rfl⟩)|(go_at_call 48;refine (Aw _ _ _ _).mono ?_;rintro E w' ⟨rfl,rfl⟩))
  go_ret2
  exact⟨A1,c1,by simp,by simpa using ho1,AA⟩
 have e:Sw.Bz xs (k+1) v=true:=by simp[Sw.Bz,g1,g2,g3,lD.out,g4]
 rw[e,Jt e];clear e
 go_enter Tryz.func175,Tryz.ntmps175
 go_wp2_with (first|(at_builtin;apply BL (lo:=w.heap.size) FO Dz rfl rfl rfl rfl;(exact Iy);(exact Co);omega;exact Aq;intro A1 c1 w2 ho1 Ap Bo Ay Ah;have hb:=Ay (fun _=>False) w (by exact AA) (by exact Aq);have hz:=Ap.size;(try simp only[BO] at hz);obtain⟨hc,hf⟩:=BJ Ah;clear Ah Ay))
 simp only[Nat.zero_add,List.nil_append] at ho1
 apply Calls.mono;apply D5;(first|assumption|(exact Co)|omega);rintro E w3 ⟨rfl,rfl⟩
 obtain⟨g',x',hA,hlo,hlt,hx,hcx,hfz⟩:=KC ho1 hk
 obtain rfl:x'=y:=by have:=Hy.out;rw[hx] at this;exact Option.some.inj this
 subst hA
 clear hx
 go_wp2_with (go_at_call 48;refine (Aw _ _ _ _).mono ?_;rintro E w' ⟨rfl,rfl⟩)
 go_ret2
 refine⟨_,_,rfl,?_,AA⟩
 have r:=aA ho1 rfl Hy.out (x'+v)
 rw[Sw.turned,lD.out,show ((k:Int)+1-1).toNat=k from by omega]
 exact r
theorem Qo (A:Option Addr) (c n:Nat) (xs:List Int) (a b v:Int) (w:World) (hxs:RI w 0 A c n xs) (hn:n≤4194304):Calls Tryz.prog 225 #[.slice A n c,.int .i64 a,.int .i64 b,.int .i64 v] w fun E w'=>∃ A' c',E=.returned (.tuple #[.slice A' n c',.bool (Sw.C8 xs a b v)])∧Ga w' w.heap.size A' c' n (Sw.Db xs a b v)∧Ex w w':=by
 cases g1:Sw.Br v 0 100000
 case false=>
  have e:Sw.C8 xs a b v=false:=by simp[Sw.C8,g1]
  have e2:Sw.Db xs a b v=xs:=by simp[Sw.Db,e]
  rw[e,e2];clear e e2
  go_enter Tryz.func225,Tryz.ntmps225
  go_wp2_with (first|(at_builtin;apply BL (lo:=w.heap.size) FO Dz rfl rfl rfl rfl;(exact Iy);(exact Co);omega;exact Aq;intro A1 c1 w2 ho1 Ap Bo Ay Ah;have hb:=Ay (fun _=>False) w (by exact AA) (by exact Aq);have hz:=Ap.size;(try simp only[BO] at hz);obtain⟨hc,hf⟩:=BJ Ah;clear Ah Ay)|(go_at_call 48;refine (Aw _ _ _ _).mono ?_;rintro E w' ⟨rfl,rfl⟩))
  go_ret2
  exact⟨A1,c1,by simp,by simpa using ho1,AA⟩
 have hv:=Sw.BB.1 g1
 obtain⟨v0,v1⟩:=hv
 by_cases g2:a=b
 case pos=>
  have hab:(a==b)=true:=by simp[g2]
  have e:Sw.C8 xs a b v=false:=by simp[Sw.C8,g2]
  have e2:Sw.Db xs a b v=xs:=by simp[Sw.Db,e]
  rw[e,e2];clear e e2 g2
  go_enter Tryz.func225,Tryz.ntmps225
  go_wp2_with (first|(at_builtin;apply BL (lo:=w.heap.size) FO Dz rfl rfl rfl rfl;(exact Iy);(exact Co);omega;exact Aq;intro A1 c1 w2 ho1 Ap Bo Ay Ah;have hb:=Ay (fun _=>False) w (by exact AA) (by exact Aq);have hz:=Ap.size;(try simp only[BO] at hz);obtain⟨hc,hf⟩:=BJ Ah;clear Ah Ay)|(go_at_call 48;refine (Aw _ _ _ _).mono ?_;rintro E w' ⟨rfl,rfl⟩))
  go_ret2
  exact⟨A1,c1,by simp,by simpa using ho1,AA⟩
 have hab:(a==b)=false:=by simp[g2]
 cases g3:Sw.Bz xs a (-v)
 case false=>
  have e:Sw.C8 xs a b v=false:=by simp[Sw.C8,g3]
  have e2:Sw.Db xs a b v=xs:=by simp[Sw.Db,e]
  rw[e,e2];clear e e2 g2
  go_enter Tryz.func225,Tryz.ntmps225
  go_wp2_with (first|(at_builtin;apply BL (lo:=w.heap.size) FO Dz rfl rfl rfl rfl;(exact Iy);(exact Co);omega;exact Aq;intro A1 c1 w2 ho1 Ap Bo Ay Ah;have hb:=Ay (fun _=>False) w (by exact AA) (by exact Aq);have hz:=Ap.size;(try simp only[BO] at hz);obtain⟨hc,hf⟩:=BJ Ah;clear Ah Ay)|(go_at_call 48;refine (Aw _ _ _ _).mono ?_;rintro E w' ⟨rfl,rfl⟩)|(go_at_call 175;apply Calls.mono;apply F3;(first|assumption|(exact Co)|omega);omega;rintro E w3 ⟨A3,c3,rfl,ho3,hb3⟩;have hst:=Ex.rules hb3 rfl;obtain⟨hc3,hf3,hz3⟩:=hst))
  go_ret2
  exact⟨A1,c1,by simp,(by simpa using ho1.less (by omega)),AA⟩
 have e3:=Jt g3
 have E3:=Lib.hid e3;clear e3
 cases g4:Sw.Bz (Sw.turned xs a (-v)) b v
 case false=>
  have e:Sw.C8 xs a b v=false:=by simp[Sw.C8,g4]
  have e2:Sw.Db xs a b v=xs:=by simp[Sw.Db,e]
  rw[e,e2];clear e e2 g2
  go_enter Tryz.func225,Tryz.ntmps225
  go_wp2_with (first|(at_builtin;apply BL (lo:=w.heap.size) FO Dz rfl rfl rfl rfl;(exact Iy);(exact Co);omega;exact Aq;intro A1 c1 w2 ho1 Ap Bo Ay Ah;have hb:=Ay (fun _=>False) w (by exact AA) (by exact Aq);have hz:=Ap.size;(try simp only[BO] at hz);obtain⟨hc,hf⟩:=BJ Ah;clear Ah Ay)|(go_at_call 48;refine (Aw _ _ _ _).mono ?_;rintro E w' ⟨rfl,rfl⟩)|(go_at_call 175;apply Calls.mono;apply (F3 (xs:=Sw.turned xs a (-v)));(first|assumption|(exact Co)|omega);omega;rintro E w4 ⟨A4,c4,rfl,Uo,hb4⟩;have hst:=Ex.rules hb4 rfl;obtain⟨hc4,rY,g_⟩:=hst)|(go_at_call 175;apply Calls.mono;apply (F3 (xs:=xs));(first|assumption|(exact Co)|omega);omega;rintro E w3 ⟨A3,c3,rfl,ho3,hb3⟩;rw[E3.out] at ho3;have hst:=Ex.rules hb3 rfl;obtain⟨hc3,hf3,hz3⟩:=hst))
  go_ret2
  exact⟨A1,c1,by simp,(by simpa using ho1.less (by omega)),AA⟩
 have e:Sw.C8 xs a b v=true:=by simp[Sw.C8,g1,g2,g3,g4]
 have e2:Sw.Db xs a b v=Sw.turned (Sw.turned xs a (-v)) b v:=by simp[Sw.Db,e]
 have e4:=Jt g4
 have E4:=Lib.hid e4;clear e4
 rw[e,e2];clear e e2 g2
 go_enter Tryz.func225,Tryz.ntmps225
 go_wp2_with (first|(go_at_call 48;refine (Aw _ _ _ _).mono ?_;rintro E w' ⟨rfl,rfl⟩)|(go_at_call 175;apply Calls.mono;apply (F3 (xs:=Sw.turned xs a (-v)));(first|assumption|(exact Co)|omega);omega;rintro E w4 ⟨A4,c4,rfl,Uo,hb4⟩;rw[E4.out] at Uo;have hst:=Ex.rules hb4 rfl;obtain⟨hc4,rY,g_⟩:=hst)|(go_at_call 175;apply Calls.mono;apply (F3 (xs:=xs));(first|assumption|(exact Co)|omega);omega;rintro E w3 ⟨A3,c3,rfl,ho3,hb3⟩;rw[E3.out] at ho3;have hst:=Ex.rules hb3 rfl;obtain⟨hc3,hf3,hz3⟩:=hst))
 go_ret2
 exact⟨A4,c4,rfl,Uo.less (by omega),AA⟩
end Go.Proofs.YtgaflnpmilikcaaGreat
namespace Go.Proofs.YtgaflnpmilikcaaGreat
open Go.ChangeShapes Go.WideShapes Go.ChangeAt Go.RowKit Go
section
variable {H:Type} {enc:TypeId × Value→H} {P:Program} {W:World}
theorem VH {a:Addr} (h:a.spot=none) (i:Nat):a.add i=⟨a.block,a.off+i,none⟩:=by
 obtain⟨b,o,s⟩:=a
 dsimp only at h
 subst h
 exact Addr.add_lit _ _ _
theorem Vf {α:Type} {ec:α→List Value} {sz:Nat} {t e:TypeId} {fuel:Nat} {cs:List Value} {x:DataW H × List MemPlace} (ht:P.underlying t=some (.slice e)) (hc:P.cellsOf e=sz) (hp:0<sz) (hsz:∀ y,(ec y).length=sz)
  {Q:α→Prop} (he:∀ n cs y,DataW.trod enc P W 0 (fun _=>true) true n e cs=some y→∃ z:α,cs=ec z∧Q z) (h:DataW.trod enc P W 0 (fun _=>true) true fuel t cs=some x) :
  ∃ A c n xs,cs=[.slice A n c]∧Rs ec sz W 0 A c n xs∧∀ y∈xs,Q y:=by
 rcases Go.Deep.open_slice ht h with⟨rfl,_⟩ | ⟨a,len,cap,m,n,D,Pl,rfl,_,hl,hm,hmm,jE,hi⟩
 ·exact⟨none,0,0,[],rfl,⟨rfl,Rd.none_ _ _ _⟩,by simp⟩
 ·rw[if_pos rfl] at hmm
  subst hmm
  rw[hc] at hi
  have hi2:∀ i,i<len→∃ z:α,Q z∧∀ j,j<sz→W.cell? ((a.add (i*sz)).add j)=(ec z)[j]?:=by
   intro i hil
   obtain⟨cs',h1,h2⟩:=hi i (by omega)
   obtain⟨z,rfl,hq⟩:=he _ _ _ h2
   exact⟨z,hq,(World.cells?_some h1).2.2⟩
  have spot:0<len→a.spot=none∧a.block<W.heap.size:=by
   intro h0
   obtain⟨z,_,hz⟩:=hi2 0 h0
   have h1:=hz 0 hp
   rw[List.getElem?_eq_getElem (by rw[hsz];exact hp)] at h1
   have h2:=Sl h1
   rw[Nat.zero_mul] at h2
   have e0:∀ b:Addr,(b.add 0).spot=none→b.spot=none:=by
    intro b hb
    simp only[Addr.add] at hb
    split at hb <;> first|exact hb|contradiction|omega
   have e1:∀ b:Addr,(b.add 0).block=b.block:=by
    intro b
    simp only[Addr.add]
    split <;> rfl
   exact⟨e0 _ (e0 _ h2.1),by rw[e1,e1] at h2;exact h2.2⟩
  obtain⟨xs,hlen,hxs⟩:∃ xs:List α,xs.length=len∧∀ i z,xs[i]?=some z→Q z∧∀ j,j<sz→W.cell? ((a.add (i*sz)).add j)=(ec z)[j]?:=by
   clear hi spot h hl jE
   induction len with
   | zero=>exact⟨[],rfl,by simp⟩
   | succ k ih=>
    obtain⟨xs,h1,h2⟩:=ih (fun i hi=>hi2 i (by omega))
    obtain⟨z,hz⟩:=hi2 k (by omega)
    refine⟨xs ++ [z],by simp[h1],fun i y hy=>?_⟩
    rw[List.getElem?_append] at hy
    split at hy
    ·exact h2 i y hy
    ·have:i=k:=by
      have:=(List.getElem?_eq_some_iff.1 hy).1
      simp at this
      omega
     subst this
     rw[h1,Nat.sub_self] at hy
     simp at hy
     subst hy
     exact hz
  refine⟨some a,m,len,xs,rfl,⟨hlen.symm,⟨?_,hl,hm,(fun h=>by cases h),fun b hb hn=>?_⟩⟩,fun y hy=>?_⟩
  ·have key:∀ xs:List α,(xs.flatMap ec).length=xs.length*sz:=by
    intro xs
    induction xs with
    | nil=>simp
    | cons x xs ih=>simp only[List.flatMap_cons,List.length_append,hsz,ih,List.length_cons,Nat.succ_mul];omega
   rw[key,hlen]
  ·obtain rfl:=Option.some.inj hb
   obtain⟨s1,s2⟩:=spot hn
   refine⟨s1,Nat.zero_le _,s2,fun j u hu=>?_⟩
   have key:∀ xs:List α,(xs.flatMap ec).length=xs.length*sz:=by
    intro xs
    induction xs with
    | nil=>simp
    | cons x xs ih=>simp only[List.flatMap_cons,List.length_append,hsz,ih,List.length_cons,Nat.succ_mul];omega
   have hj:=(List.getElem?_eq_some_iff.1 hu).1
   rw[key] at hj
   have hk:j / sz<xs.length:=Nat.div_lt_of_lt_mul (by rw[Nat.mul_comm];exact hj)
   have hr:j%sz<sz:=Nat.mod_lt _ hp
   have hd:j / sz*sz+j%sz=j:=by rw[Nat.mul_comm];exact Nat.div_add_mod _ _
   have h1:=flat_get hsz xs (j / sz) (j%sz) hk hr
   rw[hd,hu] at h1
   have h2:=(hxs (j / sz) _ (List.getElem?_eq_getElem hk)).2 (j%sz) hr
   rw[← h1,VH s1,VH rfl] at h2
   dsimp only at h2
   rw[Nat.add_assoc,hd] at h2
   exact h2
  ·obtain⟨i,hi⟩:=List.getElem?_of_mem hy
   exact (hxs i y hi).1
def mP (fs:Array Field) (ti:TypeId):Bool:=(List.range fs.size).all fun i=>match fs[i]? with
 | some f=>decide (f.type=ti)&&decide (f.offset=i)
 | none=>false
def sU:Value→Int
 | .int _ n=>n
 | _=>0
end
end Go.Proofs.YtgaflnpmilikcaaGreat
namespace Go.Proofs.YtgaflnpmilikcaaGreat
open Go.ChangeShapes Go.WideShapes Go.ChangeAt Go.RowKit Go
section
variable {H:Type} {enc:TypeId × Value→H} {W:World}
theorem fZ:Tryz.prog.cellsOf 5=1:=by kernel_rfl
theorem KM {n:Nat} {cs:List Value} {y:DataW H × List MemPlace} (h:DataW.trod enc Tryz.prog W 0 (fun _=>true) true n 22 cs=some y):∃ A c n xs,cs=[.slice A n c]∧RB W 0 A c n xs∧∀ x∈xs,0≤x∧x≤255:=
 Vf (ec:=qd) (sz:=1) (Q:=fun x=>0≤x∧x≤255) Tryz.underlying22 fZ (by omega) (fun _=>rfl) (fun n cs y h=>by
  obtain⟨a,rfl,_,hw⟩:=DataW.trod_int Tryz.underlying5 h
  refine⟨a,rfl,?_⟩
  simp only[Lit.wf,Bool.and_eq_true,decide_eq_true_eq] at hw
  exact hw) h
end
end Go.Proofs.YtgaflnpmilikcaaGreat
