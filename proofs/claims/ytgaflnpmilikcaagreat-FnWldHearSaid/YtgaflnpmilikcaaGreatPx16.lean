/- Texts joined: ImpB, ImpC, UpI, Show. -/
import Derived.Test.YtgaflnpmilikcaaGreatPx14
import Derived.Test.YtgaflnpmilikcaaGreatPx4
import Derived.Test.YtgaflnpmilikcaaGreatPx10
import Derived.Test.YtgaflnpmilikcaaGreatPx9
import Derived.Test.YtgaflnpmilikcaaGreatPx13
import Derived.Test.YtgaflnpmilikcaaGreatPx15
import Derived.Test.YtgaflnpmilikcaaGreatPx7
set_option maxRecDepth 100000
set_option linter.unusedSimpArgs false
set_option linter.unusedVariables false
namespace Go.Proofs.YtgaflnpmilikcaaGreat
open Go.RowKit Go
set_option maxHeartbeats 1000000
theorem SL (A:Option Addr) (c n:Nat) (xs:List Sw.Row) (e:Sw.FC) (w:World) (hxs:RR w 0 A c n xs) (hn:n≤4194304):Calls Tryz.prog 118 #[.slice A n c,.agg #[.int .i64 e.kind,.int .i64 e.ticket,.int .i64 e.who,.int .i64 e.Al]] w fun E w'=>∃ A' c',E=.returned (.tuple #[.slice A' n c',.bool (Sw.Bn xs e)])∧PQ w' w.heap.size A' c' n (Sw.JV xs e)∧Ex w w':=by
 by_cases hfit:Sw.Bn xs e=true
 ·have hl:=Lib.hid hxs.1
  obtain⟨h8,t0,t1,hk⟩:=Rh hfit
  obtain⟨t,ht⟩:=Int.eq_ofNat_of_zero_le t0
  have e0:e.ticket.toNat=t:=by omega
  have Ht:=Lib.hid ht
  have htn:t<n:=by have:=hl.out;omega
  have XO:n=8:=by have:=hl.out;omega
  subst XO
  have Hk:=Lib.hid hk
  have H8:=Lib.hid h8
  clear ht hk h8
  have key:∀ (b1 b2:Bool),(e.kind==1)=b1→(e.kind==2)=b2→Calls Tryz.prog 118 #[.slice A 8 c,.agg #[.int .i64 e.kind,.int .i64 e.ticket,.int .i64 e.who,.int .i64 e.Al]] w fun E w'=>∃ A' c',E=.returned (.tuple #[.slice A' 8 c',.bool (Sw.Bn xs e)])∧PQ w' w.heap.size A' c' 8 (Sw.JV xs e)∧Ex w w':=by
   intro b1 b2 hb1 hb2
   go_enter Tryz.func118,Tryz.ntmps118
   go_wp2_with (go_at_call 152;apply Calls.mono;apply Od;(exact Co);(exact Bu);rintro E w1 ⟨A1,sO,rfl,ho1,hb⟩;obtain⟨hc,hf,hz⟩:=xy hb)
   apply Calls.mono;apply Q9;(first|assumption|(exact Co)|omega);rintro E w3 ⟨rfl,hb3⟩;have hst:=xr hb3;(try simp only[zA,zC,zD] at hst);obtain⟨hc3,hf3,hz3⟩:=hst
   have ho3:=Ow.keep ho1 (KF.ex hb3 (KF.refl _ _))
   obtain⟨g,x,hA,hlo,hlt,hx,c0,c1,c2,hfz⟩:=ND ho3 htn
   obtain⟨ya,yb,yu⟩:=x
   have Hx:=Lib.hid hx
   have oH:w.heap.size+1≤g:=by exact Aq
   clear hx
   subst hA
   dsimp only at c0 c1 c2
   cases b1 with
   | true=>
    have zM:Lb w3 g (sO*3):=ho3.lb rfl
    go_wp2_with fail
    (refine CF fun W0 hb0 hc0 hf0 hz0=>?_;have JR:Lb W0 (g) (sO*3):=Lb.ex (by exact Dw) hb0;go_region_held3 (fun w'=>Au (g) (sO*3) W0 w') ((exact EX)) (fail);all_goals (rename Au (g) (sO*3) W0 _=>FZ;have hb:=Au.ch FZ;obtain⟨hc,hf,hz⟩:=xd hb;have CJ:=Au.lb FZ;(repeat (first|with_reducible replace CJ:=Lb.G_ CJ|with_reducible replace CJ:=Lb.Fy CJ));obtain⟨hcb,M6⟩:=Lb.rules CJ;clear FZ))
    go_wp2
    go_ret2
    refine⟨_,_,by rw[hfit];rfl,?_,AA⟩
    have k1:e.kind=1:=by simpa using hb1
    rw[put_eq hfit Ht.out Hx.out]
    have hu:=Rf hfit k1 Ht.out Hx.out
    subst hu
    have hoW:=Ow.keep ho3 (KF.ex hb0 (KF.refl _ _))
    have r:=Xa (Qc hoW rfl Hx.out e.who) rfl (Sm Hx.out) e.Al
    simp only[List.set_set] at r
    simp only[Sw.putRow,k1,if_true]
    exact (r.keep (kD (kR _ _))).less (by exact Aq)
   | false=>
    have k1:¬e.kind=1:=by simpa using hb1
    cases b2 with
    | true=>
     go_wp2_with fail
     go_ret2
     refine⟨_,_,by rw[hfit];rfl,?_,AA⟩
     have k2:e.kind=2:=by simpa using hb2
     rw[put_eq hfit Ht.out Hx.out]
     have r:=Qc ho3 rfl Hx.out e.who
     simp only[Sw.putRow,if_neg k1,k2,if_true]
     exact r.less (by exact Aq)
    | false=>
     go_wp2_with fail
     go_ret2
     refine⟨_,_,by rw[hfit];rfl,?_,AA⟩
     have k2:¬e.kind=2:=by simpa using hb2
     rw[put_eq hfit Ht.out Hx.out]
     have r:=TU ho3 rfl Hx.out true
     simp only[Sw.putRow,if_neg k1,if_neg k2]
     exact r.less (by exact Aq)
  exact key _ _ rfl rfl
 ·have hf0:Sw.Bn xs e=false:=by simpa using hfit
  go_enter Tryz.func118,Tryz.ntmps118
  go_wp2_with (first|(go_at_call 152;apply Calls.mono;apply Od;(exact Co);(exact Bu);rintro E w1 ⟨A',c',rfl,hr,hb⟩;obtain⟨hc,hf,hz⟩:=xy hb)|(go_at_call 153;apply Calls.mono;apply Q9;(exact Co);rintro E w1 ⟨rfl,hb⟩;obtain⟨hc,hf,hz⟩:=xy hb))
  go_ret2
  refine⟨_,_,by rw[hf0];rfl,?_,AA⟩
  rw[show Sw.JV xs e=xs from by simp[Sw.JV,hf0]]
  exact (hr.keep (by (exact AO))).less (by exact Aq)
theorem ES (A:Option Addr) (c n:Nat) (xs:List Sw.FC) (w:World) (hxs:RE w 0 A c n xs):Calls Tryz.prog 64 #[.slice A n c] w fun E w'=>∃ A' c' n',E=.returned (.tuple #[.slice A' n' c',.bool (Sw.Bq xs).isSome])∧PQ w' w.heap.size A' c' n' ((Sw.Bq xs).getD [])∧Ex w w':=by
 have hl:=Lib.hid hxs.1
 have hbig:=Rs.big hxs
 by_cases hn:n≤40
 ·have hn':decide (40<n)=false:=by simp;omega
  have hmk:∀ w,(Instr.makeSlice 68 (.int .i64 8) (.int .i64 8)).run Tryz.prog w=.ok (.slice (some ⟨w.heap.size,0,none⟩) 8 8) (w.alloc (.cells (Sw.Qs.flatMap Sw.Row.enc).toArray 75)):=fun _=>by kernel_rfl
  go_enter Tryz.func64,Tryz.ntmps64
  go_wp2_with fail
  go_loopw [4,15] (fun r i wr=>∃ (k:Nat) (B:Option Addr) (d:Nat) (rows:List Sw.Row),k≤n∧i=.int .i64 k∧r=.slice B 8 d∧Ex w wr∧PQ wr w.heap.size B d 8 rows∧Sw.Bq xs=Sw.DY rows (xs.drop k)) (fun _ i _=>n-(intOf i).toNat)
  case atStart=>exact⟨0,_,_,_,Nat.zero_le _,rfl,rfl,AA,Ow.new _ rfl rfl rfl (fun _=>rfl) (Nat.le_refl _) (by omega),by rw[Sw.Bq,if_pos (by have:=hl.out;omega)];rfl⟩
  case round=>
   clear hmk
   obtain⟨k,B,d,rows,hk,rfl,rfl,hb,ho,hrel⟩:=hrel
   have hst:=Ex.rules hb rfl
   obtain⟨hc,hf,hz⟩:=hst
   by_cases hlt:k<n
   ·obtain⟨g,off,y,rfl,hg0,hg,hd,hy,hc0,hc1,hc2,hc3⟩:=YQ hxs hlt
    rw[hd,Sw.DY] at hrel
    have BI:=Lib.hid hrel
    clear hd hy hrel
    cases hfit:Sw.Bn rows y
    case false=>
     go_wp2_with (first|(go_at_call 118;apply Calls.mono;apply SL;(apply Ow.Es ho;(exact AO));omega;rintro E w1 ⟨A1,c1,rfl,ho1,hb1⟩;have hst:=Ex.rules hb1 rfl;obtain⟨hc1',oU,hz1'⟩:=hst))
     go_ret2
     have hh:=BI.out
     rw[if_neg (by simp[hfit])] at hh
     refine⟨_,_,_,by rw[hh];rfl,?_,AA⟩
     rw[hh]
     exact Ow.nil _ _
    case true=>
     go_wp2_with (first|(go_at_call 118;apply Calls.mono;apply SL;(apply Ow.Es ho;(exact AO));omega;rintro E w1 ⟨A1,c1,rfl,ho1,hb1⟩;have hst:=Ex.rules hb1 rfl;obtain⟨hc1',oU,hz1'⟩:=hst))
     have hh:=BI.out
     rw[if_pos hfit] at hh
     refine⟨⟨k+1,_,_,_,by omega,by go_num,rfl,AA,ho1.less (by exact Aq),?_⟩,by simp[intOf];omega⟩
     rw[hh,Sw.JV,if_pos hfit]
   ·have BI:=Lib.hid hrel;clear hrel
    go_wp2_with fail
    go_ret2
    obtain rfl:k=n:=by omega
    have hh:=BI.out
    rw[List.drop_of_length_le (by have:=hl.out;omega)] at hh
    refine⟨_,_,_,by rw[hh];rfl,?_,AA⟩
    rw[hh]
    exact ho
 ·have hn':decide (40<n)=true:=by simp;omega
  go_enter Tryz.func64,Tryz.ntmps64
  go_wp2_with fail
  go_ret2
  have hh:Sw.Bq xs=none:=by rw[Sw.Bq,if_neg (by have:=hl.out;omega)]
  refine⟨_,_,_,by rw[hh];rfl,?_,AA⟩
  rw[hh]
  exact Ow.nil _ _
theorem Ml (N:Nat) (A:Option Addr) (c n:Nat) (xs:List Int) (w:World) (hN:n≤N) (hxs:RI w 0 A c n xs) (QF:n≤40) (hok:xs.all Sw.BK=true):Calls Tryz.prog 125 #[.slice A n c] w fun E w'=>E=.returned (.int .i64 (Sw.root xs))∧Ex w w':=by
 induction N generalizing A c n xs w with
 | zero=>
  have hl:=hxs.1
  obtain rfl:n=0:=by omega
  have hx:xs=[]:=List.eq_nil_of_length_eq_zero (by omega)
  subst hx
  clear hl
  go_enter Tryz.func125,Tryz.ntmps125
  go_wp2_with fail
  go_ret
  exact⟨Cv (by simp[Sw.root]),AA⟩
 | succ N ih=>
  have hl:=Lib.hid hxs.1
  have hcap:=hxs.2.le
  by_cases h0:n=0
  ·subst h0
   have hx:xs=[]:=List.eq_nil_of_length_eq_zero (by have:=hl.out;omega)
   subst hx
   go_enter Tryz.func125,Tryz.ntmps125
   go_wp2_with fail
   go_ret
   exact⟨Cv (by simp[Sw.root]),AA⟩
  by_cases h1:n=1
  ·subst h1
   obtain⟨g,off,y,rfl,hg0,hg,hd,hy,hc⟩:=G8 hxs (show 0<1 by omega)
   have hx:xs=[y]:=by
    have:=hl.out
    match xs,this,hy with
    | [z],_,hy=>simpa using hy
   subst hx
   clear hd hy
   simp only[Nat.add_zero] at hc
   go_enter Tryz.func125,Tryz.ntmps125
   go_wp2_with fail
   go_ret
   exact⟨Cv (by simp[Sw.root]),AA⟩
  have h2:2≤n:=by omega
  have hb0:((n:Int)==0)=false:=by simp;omega
  have hb1:((n:Int)==1)=false:=by simp;omega
  have hs1:=Sw.FJ h2
  have hs0:=Sw.EL n
  have z3:¬(c=Sw.split n):=by omega
  have z0:(0:Int)≤↑(Sw.split n):=by omega
  have z1:(↑(Sw.split n):Int)≤↑n:=by omega
  have z2:(↑(Sw.split n):Int)≤↑c:=by omega
  have m1:=QW _ (List.Dr (k:=Sw.split n) hok)
  have m2:=QW _ (List.Ey (k:=Sw.split n) hok)
  go_enter Tryz.func125,Tryz.ntmps125
  go_wp2_with (go_at_call 161;apply Calls.mono;apply Io;(exact Bu);(exact Bu);rintro E w' ⟨rfl,rfl⟩)
  (refine CF fun W0 hb0 hc0 hf0 hz0=>?_;go_region_held3 (fun w'=>Held W0 w') ((exact FU)) ((first|(go_at_call 125;apply Calls.mono;apply ih;omega;(first|(apply Rs.A8;apply E8 hxs;omega;(exact AO))|(apply Rs.A8;apply Iw hxs;omega;(exact AO)));omega;(first|exact List.Dr hok|exact List.Ey hok);rintro E w1 ⟨rfl,hb⟩)|(go_at_call 162;apply Calls.mono;apply NK;(exact Bu);(exact Bu);rintro E w' ⟨rfl,rfl⟩)));all_goals (obtain⟨hb,hc,hf,hz⟩:=xh (by assumption:Held W0 _)))
  go_wp2
  go_ret
  refine⟨Cv ?_,AA⟩
  have e:=Tz (xs:=xs) (by have:=hl.out;omega)
  rw[← hl.out] at e
  rw[e]
theorem NQ (A:Option Addr) (c n:Nat) (xs:List Int) (w:World) (hxs:RI w 0 A c n xs):Calls Tryz.prog 73 #[.slice A n c] w fun E w'=>E=.returned (.int .i64 (Sw.KI xs))∧Ex w w':=by
 have hl:=Lib.hid hxs.1
 cases h1:Sw.DW xs
 case false=>
  go_enter Tryz.func73,Tryz.ntmps73;go_wp2_with (go_at_call 62;apply Calls.mono;apply Ff;(exact Co);rintro E w' ⟨rfl,rfl⟩);go_ret;exact⟨Cv (by simp[Sw.KI,h1]),AA⟩
 obtain⟨QF,hall⟩:=Sw.Gu.1 h1
 have Uq:n≤40:=by have:=hl.out;omega
 go_enter Tryz.func73,Tryz.ntmps73
 go_wp2_with (first|(go_at_call 62;apply Calls.mono;apply Ff;(exact Co);rintro E w' ⟨rfl,rfl⟩)|(go_at_call 125;apply Calls.mono;apply (Ml 40);omega;(exact Co);omega;exact hall;rintro E w1 ⟨rfl,hb⟩;obtain⟨hc,hf,hz⟩:=xy hb))
 go_ret
 exact⟨Cv (by simp[Sw.KI,h1]),AA⟩
theorem LJ (A:Option Addr) (c n:Nat) (xs:List Sw.FC) (w:World) (hxs:RE w 0 A c n xs) (hn:n≤4194304):Calls Tryz.prog 74 #[.slice A n c] w fun E w'=>∃ A' c',E=.returned (.slice A' n c')∧Ga w' w.heap.size A' c' n (xs.map Sw.EF)∧Ex w w':=by
 have hl:=Lib.hid hxs.1
 go_enter Tryz.func74,Tryz.ntmps74
 go_wp2_with fail
 go_loopw [3,8] (fun o i wr=>∃ (k:Nat) (B:Option Addr) (d:Nat),k≤n∧i=.int .i64 k∧o=.slice B k d∧Ex w wr∧Ga wr w.heap.size B d k ((xs.take k).map Sw.EF)) (fun _ i _=>n-(intOf i).toNat)
 case atStart=>exact⟨0,_,0,Nat.zero_le _,rfl,rfl,AA,Ow.nil _ _⟩
 case round=>
  obtain⟨k,B,d,hk,rfl,rfl,hb,ho⟩:=hrel
  have hst:=Ex.rules hb rfl
  obtain⟨hc,hf,hz⟩:=hst
  by_cases hlt:k<n
  ·obtain⟨g,off,y,rfl,hg0,hg,hd,hy,hc0,hc1,hc2,hc3⟩:=YQ hxs hlt
   have Hd:=Lib.hid hd;have Hy:=Lib.hid hy;clear hd hy
   go_wp2_with (first|(go_at_call 126;refine (V4 _ _).mono ?_;rintro E w1 ⟨rfl,hb⟩;obtain⟨hc,hf,hz⟩:=xy hb)|(at_builtin;apply BL (lo:=w.heap.size) FO Dz rfl rfl rfl rfl;(exact Iy);(first|(refine Rs.new [Sw.EF y] (by (first|rfl|(simp only[BO];done)|omega)) rfl rfl (fun _=>rfl) (by omega)));omega;exact Aq;intro A1 c1 w2 ho1 Ap Bo Ay Ah;have hb:=Ay (fun _=>False) w (by exact AA) (by exact Aq);have hz:=Ap.size;(try simp only[BO] at hz);obtain⟨hc,hf⟩:=BJ Ah;clear Ah Ay))
   go_roundw
   case rel=>exact⟨k+1,A1,c1,by omega,by go_num,rfl,hb,by rw[Kl Hy.out,List.map_append];exact ho1⟩
   case measure=>simp[intOf];omega
  ·go_wp2_with fail
   go_ret
   obtain rfl:k=n:=by omega
   refine⟨_,_,rfl,?_,AA⟩
   rw[List.take_of_length_le (by have:=hl.out;omega)] at ho
   exact ho
theorem SS (A:Option Addr) (c n:Nat) (xs:List Sw.Row) (w:World) (hxs:RR w 0 A c n xs) (hn:n≤4194304):Calls Tryz.prog 128 #[.slice A n c] w fun E w'=>∃ A' c',E=.returned (.slice A' n c')∧Ga w' w.heap.size A' c' n (Sw.C_ xs)∧Ex w w':=by
 have hl:=Lib.hid hxs.1
 go_enter Tryz.func128,Tryz.ntmps128
 go_wp2_with fail
 go_loopw [3,8] (fun o i wr=>∃ (k:Nat) (B:Option Addr) (d:Nat),k≤n∧i=.int .i64 k∧o=.slice B k d∧Ex w wr∧Ga wr w.heap.size B d k (Sw.C_ (xs.take k))) (fun _ i _=>n-(intOf i).toNat)
 case atStart=>exact⟨0,_,0,Nat.zero_le _,rfl,rfl,AA,Ow.nil _ _⟩
 case round=>
  obtain⟨k,B,d,hk,rfl,rfl,hb,ho⟩:=hrel
  have hst:=Ex.rules hb rfl
  obtain⟨hc,hf,hz⟩:=hst
  by_cases hlt:k<n
  ·obtain⟨g,off,y,rfl,hg0,hg,hd,hy,hc0,hc1,hc2⟩:=VF hxs hlt
   have Hy:=Lib.hid hy;clear hd hy
   go_wp2_with (first|(go_at_call 164;refine (Q8 _ _ _).mono ?_;rintro E w1 ⟨rfl,hb⟩;obtain⟨hc,hf,hz⟩:=xy hb)|(at_builtin;apply BL (lo:=w.heap.size) FO Dz rfl rfl rfl rfl;(exact Iy);(first|(refine Rs.new [Sw.FM k y] (by (first|rfl|(simp only[BO];done)|omega)) rfl rfl (fun _=>rfl) (by omega)));omega;exact Aq;intro A1 c1 w2 ho1 Ap Bo Ay Ah;have hb:=Ay (fun _=>False) w (by exact AA) (by exact Aq);have hz:=Ap.size;(try simp only[BO] at hz);obtain⟨hc,hf⟩:=BJ Ah;clear Ah Ay))
   go_roundw
   case rel=>
    refine⟨k+1,A1,c1,by omega,by go_num,rfl,hb,?_⟩
    rw[Kl Hy.out]
    unfold Sw.C_ at ho1 ⊢
    rw[JW,List.length_take,Nat.min_eq_left (by have:=hl.out;omega),Int.zero_add]
    exact ho1
   case measure=>simp[intOf];omega
  ·go_wp2_with fail
   go_ret
   obtain rfl:k=n:=by omega
   refine⟨_,_,rfl,?_,AA⟩
   rw[List.take_of_length_le (by have:=hl.out;omega)] at ho
   exact ho
theorem Te {rows:List Sw.Row} (h:Sw.EH rows=true):Sw.KI (Sw.C_ rows)=Sw.root (Sw.C_ rows):=by
 rw[Sw.KI,if_pos]
 exact Sw.Gu.2 ⟨by rw[Sw.C_,KO,Sw.Ct h];omega,OZ _⟩
theorem Tf {es:List Sw.FC} (h:es.length≤40):Sw.KI (es.map Sw.EF)=Sw.root (es.map Sw.EF):=by
 rw[Sw.KI,if_pos]
 exact Sw.Gu.2 ⟨by rw[List.length_map];omega,O3 _⟩
theorem Q7 (A:Option Addr) (c n:Nat) (xs:List Sw.Row) (w:World) (hxs:RR w 0 A c n xs):Calls Tryz.prog 75 #[.slice A n c] w fun E w'=>E=.returned (.int .i64 (Sw.ownRoot xs))∧Ex w w':=by
 have hl:=Lib.hid hxs.1
 cases hok:Sw.EH xs
 case false=>
  go_enter Tryz.func75,Tryz.ntmps75;go_wp2_with (go_at_call 127;apply Calls.mono;apply JO;(exact Co);rintro E w1 ⟨rfl,hb⟩;obtain⟨hc,hf,hz⟩:=xy hb);go_ret;exact⟨Cv (by simp[Sw.ownRoot,hok]),AA⟩
 have hn:n=8:=by have:=hl.out;have:=Sw.Ct hok;omega
 subst hn
 have e:=Lib.hid (Te hok)
 go_enter Tryz.func75,Tryz.ntmps75
 go_wp2_with (first|(go_at_call 127;apply Calls.mono;apply JO;(exact Co);rintro E w1 ⟨rfl,hb⟩;obtain⟨hc,hf,hz⟩:=xy hb)|(go_at_call 128;apply Calls.mono;apply SS;(exact Co);(exact Bu);rintro E w1 ⟨A',c',rfl,hr,hb⟩;obtain⟨hc,hf,hz⟩:=xy hb)|(go_at_call 73;apply Calls.mono;apply NQ;(exact Co);rintro E w1 ⟨rfl,hb⟩;obtain⟨hc,hf,hz⟩:=xy hb))
 go_ret
 exact⟨Cv (by rw[e.out];simp[Sw.ownRoot,hok]),AA⟩
set_option maxHeartbeats 1000000
theorem eU {xs:List Sw.FC} (h:Sw.Bq xs=none):Sw.Cw xs=none:=by simp[Sw.Cw,h]
theorem eT {xs:List Sw.FC} {rows:List Sw.Row} (h:Sw.Bq xs=some rows):Sw.Cw xs=some ⟨xs.length,Sw.root (xs.map Sw.EF),Sw.ownRoot rows⟩:=by simp[Sw.Cw,h]
theorem Ui (A:Option Addr) (c n:Nat) (xs:List Sw.FC) (w:World) (hxs:RE w 0 A c n xs):Calls Tryz.prog 30 #[.slice A n c] w fun E w'=>E=.returned (.tuple #[.agg #[.int .i64 ((Sw.Cw xs).getD Sw.DX).size,.int .i64 ((Sw.Cw xs).getD Sw.DX).log,.int .i64 ((Sw.Cw xs).getD Sw.DX).own],.bool (Sw.Cw xs).isSome])∧Ex w w':=by
 have hl:=Lib.hid hxs.1
 cases hf:Sw.Bq xs with
 | none=>
  have hs:(Sw.Bq xs).isSome=false:=by simp[hf]
  have HH:=Lib.hid (eU hf);clear hf
  go_enter Tryz.func30,Tryz.ntmps30
  go_wp2_with (go_at_call 64;apply Calls.mono;apply ES;(exact Co);rintro E w1 ⟨A',c',n',rfl,hr,hb⟩;obtain⟨hc,hf,hz⟩:=xy hb)
  refine bodyPost_ret (v:=.tuple #[.agg #[.int .i64 0,.int .i64 0,.int .i64 0],.bool false]) (by simp[results,Tryz.results30,go_sem, *]) rfl ?_
  exact⟨by rw[HH.out];rfl,AA⟩
 | some rows=>
  have hn:n≤40:=by have:=hl.out;have:=(Sw.B_.1 hf).1;omega
  have hs:(Sw.Bq xs).isSome=true:=by simp[hf]
  have hg:(Sw.Bq xs).getD []=rows:=by simp[hf]
  have HT:=Lib.hid (Tf (Sw.B_.1 hf).1)
  have HH:=Lib.hid (eT hf);have HG:=Lib.hid hg;clear hf hg
  go_enter Tryz.func30,Tryz.ntmps30
  go_wp2_with (first|(go_at_call 64;apply Calls.mono;apply ES;(first|assumption|(exact Co)|omega);rintro E w1 ⟨A1,c1,n1,rfl,ho1,hb⟩;rw[HG.out] at ho1;obtain⟨hc,hf,hz⟩:=xy hb)|(go_at_call 74;apply Calls.mono;apply LJ;(exact Co);(exact Bu);rintro E w1 ⟨A',c',rfl,ho2,hb⟩;obtain⟨hc,hf,hz⟩:=xy hb)|(go_at_call 73;apply Calls.mono;apply NQ;(exact Co);rintro E w1 ⟨rfl,hb⟩;obtain⟨hc,hf,hz⟩:=xy hb)|(go_at_call 75;apply Calls.mono;apply Q7;(exact Co);rintro E w1 ⟨rfl,hb⟩;obtain⟨hc,hf,hz⟩:=xy hb))
  all_goals (try (refine CF fun W0 hb0 hc0 hf0 hz0=>?_;have JR:Lb W0 (w.heap.size) 3:=Lb.ex (by exact Dw) hb0;go_region_held3 (fun w'=>Au (w.heap.size) 3 W0 w') ((exact EX)) ((first|(go_at_call 74;apply Calls.mono;apply LJ;(exact Co);(exact Bu);rintro E w1 ⟨A',c',rfl,ho2,hb⟩;obtain⟨hc,hf,hz⟩:=xy hb)|(go_at_call 73;apply Calls.mono;apply NQ;(exact Co);rintro E w1 ⟨rfl,hb⟩;obtain⟨hc,hf,hz⟩:=xy hb)|(go_at_call 75;apply Calls.mono;apply Q7;(exact Co);rintro E w1 ⟨rfl,hb⟩;obtain⟨hc,hf,hz⟩:=xy hb)));all_goals (rename Au (w.heap.size) 3 W0 _=>FZ;have hb:=Au.ch FZ;obtain⟨hc,hf,hz⟩:=xd hb;have CJ:=Au.lb FZ;(repeat (first|with_reducible replace CJ:=Lb.G_ CJ|with_reducible replace CJ:=Lb.Fy CJ));obtain⟨hcb,M6⟩:=Lb.rules CJ;clear FZ)))
  all_goals (try go_wp2)
  refine bodyPost_ret (v:=.tuple #[.agg #[.int .i64 n,.int .i64 (Sw.KI (xs.map Sw.EF)),.int .i64 (Sw.ownRoot rows)],.bool true]) (by simp[results,Tryz.results30,go_sem, *]) rfl ?_
  exact⟨by rw[HH.out,← hl.out,HT.out];rfl,AA⟩
def KU {α:Type} (p:α→Bool) (xs:List α):Int:=match xs.findIdx? p with
 | some i=>i
 | none=>-1
theorem K3 {α:Type} (p:α→Bool) (xs:List α):decide (0≤KU p xs)=xs.any p:=by
 unfold KU
 cases h:xs.findIdx? p with
 | none=>
  rw[List.findIdx?_eq_none_iff] at h
  rw[show xs.any p=false from List.any_eq_false.2 fun x hx=>by simp[h x hx]];rfl
 | some i=>
  rw[List.findIdx?_eq_some_iff_getElem] at h
  obtain⟨h1,h2,_⟩:=h
  rw[show xs.any p=true from List.any_eq_true.2 ⟨xs[i],List.getElem_mem h1,h2⟩]
  simp
theorem IJ {α:Type} {p:α→Bool} {xs:List α} {k:Nat} {y:α} (hy:xs[k]?=some y) (h:∀ j,j<k→∀ z,xs[j]?=some z→p z=false) (hm:p y=true):KU p xs=k:=by
 unfold KU
 obtain⟨hk,rfl⟩:=List.getElem?_eq_some_iff.1 hy
 have:xs.findIdx? p=some k:=by
  rw[List.findIdx?_eq_some_iff_getElem]
  exact⟨hk,hm,fun j hj=>by simp[h j hj xs[j] (by simp)]⟩
 rw[this]
theorem II {α:Type} {p:α→Bool} {xs:List α} {k:Nat} (hk:xs.length≤k) (h:∀ j,j<k→∀ z,xs[j]?=some z→p z=false):KU p xs = -1:=by
 unfold KU
 have:xs.findIdx? p=none:=by
  rw[List.findIdx?_eq_none_iff]
  intro x hx
  obtain⟨i,hi,rfl⟩:=List.getElem_of_mem hx
  exact h i (by omega) xs[i] (by simp)
 rw[this]
theorem Gi {α:Type} {p:α→Bool} {xs:List α} {k:Nat} {y:α} (hy:xs[k]?=some y) (h:∀ j,j<k→∀ z,xs[j]?=some z→p z=false) (hm:p y=false):∀ j,j<k+1→∀ z,xs[j]?=some z→p z=false:=by
 intro j hj z hz
 rcases Nat.lt_succ_iff_lt_or_eq.1 hj with hj'|rfl
 ·exact h j hj' z hz
 ·rw[hy] at hz;cases hz;exact hm
def NM (n:Int):Bool:=!Sw.Br n 0 100000
theorem SQ (x:Int) (w:World):Calls Tryz.prog 111 #[.int .i64 x] w fun E w'=>E=.returned (.bool (NM x))∧w=w':=by
 go_enter Tryz.func111,Tryz.ntmps111
 go_wp2_with (go_at_call 61;refine (Cm _ _ _ _).mono ?_;rintro E w' ⟨rfl,rfl⟩)
 go_ret
 exact⟨Ar rfl,rfl⟩
theorem Ug (A:Option Addr) (c n:Nat) (xs:List Int) (w:World) (hxs:RI w 0 A c n xs):Calls Tryz.prog 151 #[.slice A n c,.func (.func 111) #[] #[]] w fun E w'=>E=.returned (.int .i64 (KU NM xs))∧Ex w w':=by
 have hl:=Lib.hid hxs.1
 have hbig:=Rs.big hxs
 go_enter Tryz.func151,Tryz.ntmps151
 go_wp2_with fail
 go_loopw [8] (fun i wr=>∃ k:Nat,k≤n∧i=.int .i64 k∧Ex w wr∧∀ j,j<k→∀ z,xs[j]?=some z→NM z=false) (fun i _=>n-(intOf i).toNat)
 case atStart=>exact⟨0,Nat.zero_le _,rfl,(by exact AA),by omega⟩
 case round=>
  obtain⟨k,hk,rfl,hb2,hrel⟩:=hrel
  have BI:=Lib.hid hrel;clear hrel
  have hst:=xr hb2
  (try simp only[BO] at hst)
  obtain⟨hc2,hf2,hz2⟩:=hst
  by_cases hlt:k<n
  ·obtain⟨g,off,y,rfl,hg0,hg,hd,hy,YA⟩:=G8 hxs hlt
   have Hy:=Lib.hid hy;clear hd hy
   cases hmx:NM y
   case true=>
    go_wp2_with (go_at_call 111;refine (SQ _ _).mono ?_;rintro E w' ⟨rfl,rfl⟩)
    go_ret
    exact⟨Cv (IJ Hy.out BI.out hmx).symm,(by exact AA)⟩
   case false=>
    go_wp2_with (go_at_call 111;refine (SQ _ _).mono ?_;rintro E w' ⟨rfl,rfl⟩)
    go_roundw
    case rel=>exact⟨k+1,by omega,by go_num,(by exact AA),Gi Hy.out BI.out hmx⟩
    case measure=>simp[intOf];omega
  ·go_wp2_with fail
   go_ret
   exact⟨Cv (II (by have:=hl.out;omega) BI.out).symm,(by exact AA)⟩
theorem Oc (A:Option Addr) (c n:Nat) (xs:List Int) (w:World) (hxs:RI w 0 A c n xs):Calls Tryz.prog 110 #[.slice A n c,.func (.func 111) #[] #[]] w fun E w'=>E=.returned (.bool (xs.any NM))∧Ex w w':=by
 have Hb:=Lib.hid (K3 NM xs)
 go_enter Tryz.func110,Tryz.ntmps110
 go_wp2_with (go_at_call 151;apply Calls.mono;apply Ug;(exact Co);rintro E w1 ⟨rfl,hb⟩;obtain⟨hc,hf,hz⟩:=xy hb)
 go_ret
 exact⟨Ar Hb.out,AA⟩
theorem Qb {α:Type} (p:α→Bool) (xs:List α):(!xs.any (fun x=>!p x))=xs.all p:=by
 rw[List.all_eq_not_any_not]
theorem Dm (A:Option Addr) (c n:Nat) (xs:List Int) (w:World) (hxs:RI w 0 A c n xs):Calls Tryz.prog 53 #[.slice A n c] w fun E w'=>E=.returned (.bool (Sw.DR xs))∧Ex w w':=by
 have hl:=Lib.hid hxs.1
 have hbig:=Rs.big hxs
 have e:Sw.DR xs=(decide (n=5) && !xs.any NM):=by
  rw[Sw.DR,← hl.out,← Qb];rfl
 have He:=Lib.hid e;clear e
 by_cases hn:n=5
 ·subst hn
  go_enter Tryz.func53,Tryz.ntmps53
  go_wp2_with (go_at_call 110;apply Calls.mono;apply Oc;(exact Co);rintro E w1 ⟨rfl,hb⟩;obtain⟨hc,hf,hz⟩:=xy hb)
  go_ret
  exact⟨Ar (by rw[He.out];simp),AA⟩
 ·have hb:((n:Int)==5)=false:=by simp;omega
  go_enter Tryz.func53,Tryz.ntmps53
  go_wp2_with (go_at_call 110;apply Calls.mono;apply Oc;(exact Co);rintro E w1 ⟨rfl,hb⟩;obtain⟨hc,hf,hz⟩:=xy hb)
  go_ret
  exact⟨Ar (by rw[He.out];simp[hn]),AA⟩
set_option maxHeartbeats 1000000
theorem nP (N:Nat) (A:Option Addr) (c n m k:Nat) (leaf:Int) (xs:List Int) (w:World) (hN:n≤N) (hxs:RI w 0 A c n xs) (QF:n≤40) (hall:xs.all Sw.BK=true) (Us:Sw.BK leaf=true) (hm:1≤m) (hk:k<m) (ZZ:m≤40):Calls Tryz.prog 231 #[.int .i64 m,.int .i64 k,.int .i64 leaf,.slice A n c] w fun E w'=>E=.returned (.tuple #[.int .i64 (Sw.LA m k leaf xs.reverse).1,.bool (Sw.LA m k leaf xs.reverse).2])∧Ex w w':=by
 induction N generalizing A c n m k xs w with
 | zero=>
  have hl:=hxs.1
  obtain rfl:n=0:=by omega
  have hx:xs=[]:=List.eq_nil_of_length_eq_zero (by omega)
  subst hx
  clear hl
  by_cases h1:m=1
  ·subst h1
   go_enter Tryz.func231,Tryz.ntmps231
   go_wp2_with fail
   go_ret2
   exact⟨by simp[Sw.LA],AA⟩
  ·have hb:((m:Int)==1)=false:=by simp;omega
   have hb2:decide ((m:Int)<2)=false:=by simp;omega
   go_enter Tryz.func231,Tryz.ntmps231
   go_wp2_with fail
   go_ret2
   exact⟨by simp[Sw.LA,show ¬m≤1 by omega],AA⟩
 | succ N ih=>
  have hl:=Lib.hid hxs.1
  have hcap:=hxs.2.le
  by_cases h0:n=0
  ·subst h0
   have hx:xs=[]:=List.eq_nil_of_length_eq_zero (by have:=hl.out;omega)
   subst hx
   exact ih _ c 0 m k [] w (by omega) hxs (by omega) hall hm hk ZZ
  ·obtain⟨p,rfl⟩:∃ p,n=p+1:=⟨n-1,by omega⟩
   obtain⟨g,off,y,rfl,hg0,hg,hd,hy,hc⟩:=G8 hxs (show p<p+1 by omega)
   have hrev:=OY (by have:=hl.out;omega) hy
   have Ji:Sw.BK y=true:=List.all_eq_true.1 hall y (List.mem_of_getElem? hy)
   rw[hrev]
   have Hy:=Lib.hid hy
   clear hd hy hrev
   have w1:IntKind.i64.wrap ((p:Int)+1-1)=p:=by rw[IntWalk.i64_in _ (by omega)];omega
   have tp:(p:Int)<(p:Int)+1:=by omega
   have hb0:((p:Int)+1==0)=false:=by simp;omega
   have hb1:decide ((p:Int)<0)=false:=by simp
   by_cases h1:m=1
   ·subst h1
    go_enter Tryz.func231,Tryz.ntmps231
    go_wp2_with fail
    go_ret2
    exact⟨by simp[Sw.LA],AA⟩
   ·have h2:2≤m:=by omega
    have hs1:=Sw.FJ h2
    have hs0:=Sw.EL m
    have hb:((m:Int)==1)=false:=by simp;omega
    have hb2:decide ((m:Int)<2)=false:=by simp;omega
    have hal:=List.Dr (k:=p) hall
    have Zk:(xs.take p).reverse.all Sw.BK=true:=by rw[List.all_reverse];exact hal
    by_cases hms:k<Sw.split m
    ·have jK:(k:Int)<(Sw.split m:Int):=by omega
     have e:Sw.LA m k leaf (y::(xs.take p).reverse)=(Sw.pair (Sw.LA (Sw.split m) k leaf (xs.take p).reverse).1 y,(Sw.LA (Sw.split m) k leaf (xs.take p).reverse).2):=by
      rw[Sw.LA,if_neg (by omega),if_pos hms]
     have m_:=Si (xs.take p).reverse (Sw.split m) k leaf Us Zk
     rw[e];clear e
     go_enter Tryz.func231,Tryz.ntmps231
     go_wp2_with (first|(go_at_call 161;apply Calls.mono;apply Io;(exact Bu);(exact Bu);rintro E w' ⟨rfl,rfl⟩)|(go_at_call 231;apply Calls.mono;apply ih;omega;(apply Rs.A8;apply E8 hxs;omega;(exact AO));omega;exact hal;omega;omega;omega;rintro E w1 ⟨rfl,hb⟩;obtain⟨hc,hf,hz⟩:=xy hb)|(go_at_call 162;apply Calls.mono;apply NK;(exact Bu);(exact Bu);rintro E w' ⟨rfl,rfl⟩))
     all_goals (try (refine CF fun W0 hb0 hc0 hf0 hz0=>?_;go_region_held3 (fun w'=>Held W0 w') ((exact FU)) ((go_at_call 162;apply Calls.mono;apply NK;(exact Bu);(exact Bu);rintro E w' ⟨rfl,rfl⟩));all_goals (obtain⟨hb,hc,hf,hz⟩:=xh (by assumption:Held W0 _))))
     all_goals (try go_wp2)
     go_ret2
     exact⟨by rfl,AA⟩
    ·have jK:¬(k:Int)<(Sw.split m:Int):=by omega
     have y0:IntKind.i64.wrap ((k:Int)-↑(Sw.split m))=((k-Sw.split m:Nat):Int):=by rw[IntWalk.i64_in _ (by omega)];omega
     have y1:IntKind.i64.wrap ((m:Int)-↑(Sw.split m))=((m-Sw.split m:Nat):Int):=by rw[IntWalk.i64_in _ (by omega)];omega
     have e:Sw.LA m k leaf (y::(xs.take p).reverse)=(Sw.pair y (Sw.LA (m-Sw.split m) (k-Sw.split m) leaf (xs.take p).reverse).1,(Sw.LA (m-Sw.split m) (k-Sw.split m) leaf (xs.take p).reverse).2):=by
      rw[Sw.LA,if_neg (by omega),if_neg hms]
     have m_:=Si (xs.take p).reverse (m-Sw.split m) (k-Sw.split m) leaf Us Zk
     rw[e];clear e
     go_enter Tryz.func231,Tryz.ntmps231
     go_wp2_with (first|(go_at_call 161;apply Calls.mono;apply Io;(exact Bu);(exact Bu);rintro E w' ⟨rfl,rfl⟩)|(go_at_call 231;apply Calls.mono;apply ih;omega;(apply Rs.A8;apply E8 hxs;omega;(exact AO));omega;exact hal;omega;omega;omega;rintro E w1 ⟨rfl,hb⟩;obtain⟨hc,hf,hz⟩:=xy hb)|(go_at_call 162;apply Calls.mono;apply NK;(exact Bu);(exact Bu);rintro E w' ⟨rfl,rfl⟩))
     all_goals (try (refine CF fun W0 hb0 hc0 hf0 hz0=>?_;go_region_held3 (fun w'=>Held W0 w') ((exact FU)) ((go_at_call 162;apply Calls.mono;apply NK;(exact Bu);(exact Bu);rintro E w' ⟨rfl,rfl⟩));all_goals (obtain⟨hb,hc,hf,hz⟩:=xh (by assumption:Held W0 _))))
     all_goals (try go_wp2)
     go_ret2
     exact⟨by rfl,AA⟩
theorem ZJ (nn i leaf:Int) (A:Option Addr) (c n:Nat) (xs:List Int) (w:World) (hxs:RI w 0 A c n xs):Calls Tryz.prog 213 #[.int .i64 nn,.int .i64 i,.int .i64 leaf,.slice A n c] w fun E w'=>E=.returned (.tuple #[.int .i64 ((Sw.EW nn i leaf xs).getD 0),.bool (Sw.EW nn i leaf xs).isSome])∧Ex w w':=by
 have hl:=Lib.hid hxs.1
 cases g1:Sw.Br nn 1 40
 case false=>
        have e:Sw.EW nn i leaf xs=none:=by (simp[Sw.EW,g1])
        rw[e];go_enter Tryz.func213,Tryz.ntmps213;go_wp2_with (go_at_call 61;refine (Cm _ _ _ _).mono ?_;rintro E w' ⟨rfl,rfl⟩);go_ret2;exact⟨rfl,AA⟩
 obtain⟨n0,n1⟩:=Sw.BB.1 g1
 cases g2:Sw.Br i 0 (nn-1)
 case false=>
        have e:Sw.EW nn i leaf xs=none:=by (simp[Sw.EW,g2])
        rw[e];go_enter Tryz.func213,Tryz.ntmps213;go_wp2_with (go_at_call 61;refine (Cm _ _ _ _).mono ?_;rintro E w' ⟨rfl,rfl⟩);go_ret2;exact⟨rfl,AA⟩
 obtain⟨i0,i1⟩:=Sw.BB.1 g2
 cases g3:Sw.BK leaf
 case false=>
        have e:Sw.EW nn i leaf xs=none:=by (simp[Sw.EW,g3])
        rw[e];go_enter Tryz.func213,Tryz.ntmps213;go_wp2_with (first|(go_at_call 61;refine (Cm _ _ _ _).mono ?_;rintro E w' ⟨rfl,rfl⟩)|(go_at_call 51;refine (H7 _ _).mono ?_;rintro E w' ⟨rfl,rfl⟩));go_ret2;exact⟨rfl,AA⟩
 cases g4:Sw.DW xs
 case false=>
        have e:Sw.EW nn i leaf xs=none:=by (simp[Sw.EW,g4])
        rw[e];go_enter Tryz.func213,Tryz.ntmps213;go_wp2_with (first|(go_at_call 61;refine (Cm _ _ _ _).mono ?_;rintro E w' ⟨rfl,rfl⟩)|(go_at_call 51;refine (H7 _ _).mono ?_;rintro E w' ⟨rfl,rfl⟩)|(go_at_call 62;apply Calls.mono;apply Ff;(exact Co);rintro E w' ⟨rfl,rfl⟩));go_ret2;exact⟨rfl,AA⟩
 obtain⟨QF,hall⟩:=Sw.Gu.1 g4
 have Uq:n≤40:=by have:=hl.out;omega
 obtain⟨m,rfl⟩:=Int.eq_ofNat_of_zero_le (show 0≤nn by omega)
 obtain⟨k,rfl⟩:=Int.eq_ofNat_of_zero_le i0
 have e:Sw.EW m k leaf xs=if (Sw.LA m k leaf xs.reverse).2 then some (Sw.LA m k leaf xs.reverse).1 else none:=by
  simp only[Sw.EW,g1,g2,g3,g4,Bool.true_and,Sw.up,Int.toNat_natCast]
 rw[e];clear e
 cases hu:(Sw.LA m k leaf xs.reverse).2
 all_goals
  go_enter Tryz.func213,Tryz.ntmps213
  go_wp2_with (first|(go_at_call 61;refine (Cm _ _ _ _).mono ?_;rintro E w' ⟨rfl,rfl⟩)|(go_at_call 51;refine (H7 _ _).mono ?_;rintro E w' ⟨rfl,rfl⟩)|(go_at_call 62;apply Calls.mono;apply Ff;(exact Co);rintro E w' ⟨rfl,rfl⟩)|(go_at_call 231;apply Calls.mono;apply (nP 40);omega;(exact Co);omega;exact hall;exact g3;omega;omega;omega;rintro E w1 ⟨rfl,hb⟩;obtain⟨hc,hf,hz⟩:=xy hb))
  go_ret2
  exact⟨rfl,AA⟩
theorem UR (r nn i leaf:Int) (A:Option Addr) (c n:Nat) (xs:List Int) (w:World) (hxs:RI w 0 A c n xs):Calls Tryz.prog 196 #[.int .i64 r,.int .i64 nn,.int .i64 i,.int .i64 leaf,.slice A n c] w fun E w'=>E=.returned (.bool (Sw.Jw r nn i leaf xs))∧Ex w w':=by
 have e:Sw.Jw r nn i leaf xs=((Sw.EW nn i leaf xs).isSome&&((Sw.EW nn i leaf xs).getD 0==r)):=by
  unfold Sw.Jw
  cases Sw.EW nn i leaf xs with
  | none=>rfl
  | some v=>rfl
 rw[e];clear e
 cases hu:(Sw.EW nn i leaf xs).isSome
 all_goals
  go_enter Tryz.func196,Tryz.ntmps196
  go_wp2_with (go_at_call 213;apply Calls.mono;apply ZJ;(exact Co);rintro E w1 ⟨rfl,hb⟩;obtain⟨hc,hf,hz⟩:=xy hb)
  all_goals (go_ret;exact⟨Ar (by simp[*]),AA⟩)
theorem Ue (root t:Int) (r:Sw.Row) (A:Option Addr) (c n:Nat) (xs:List Int) (w:World) (hxs:RI w 0 A c n xs):Calls Tryz.prog 171 #[.int .i64 root,.int .i64 t,.agg #[.int .i64 r.who,.int .i64 r.EY,.bool r.used],.slice A n c] w fun E w'=>E=.returned (.bool (Sw.Hu root t r xs))∧Ex w w':=by
 cases g1:Sw.Br t 0 7
 all_goals
  go_enter Tryz.func171,Tryz.ntmps171
  go_wp2_with (first|(go_at_call 63;refine (BQ _ _).mono ?_;rintro E w' ⟨rfl,rfl⟩)|(go_at_call 164;refine (Q8 _ _ _).mono ?_;rintro E w1 ⟨rfl,hb⟩;obtain⟨hc,hf,hz⟩:=xy hb)|(go_at_call 196;apply Calls.mono;apply UR;(exact Co);rintro E w1 ⟨rfl,hb⟩;obtain⟨hc,hf,hz⟩:=xy hb))
  all_goals (go_ret;exact⟨Ar (by simp[Sw.Hu,g1]),AA⟩)
set_option maxHeartbeats 1000000
def Ph (xs:List Int) (t:Int):Bool:=xs.contains t
theorem PU (A:Option Addr) (c n:Nat) (xs:List Int) (t:Int) (w:World) (hxs:RI w 0 A c n xs):Calls Tryz.prog 178 #[.slice A n c,.int .i64 t] w fun E w'=>E=.returned (.bool (Ph xs t))∧w=w':=by
 have hl:=Lib.hid hxs.1
 have hbig:=Rs.big hxs
 go_enter Tryz.func178,Tryz.ntmps178
 go_wp2_with fail
 go_loop [5] (fun i=>∃ k:Nat,k≤n∧i=.int .i64 k∧Ph xs t=Ph (xs.drop k) t) (fun i=>n-(intOf i).toNat)
 case atStart=>exact⟨0,Nat.zero_le _,rfl,rfl⟩
 case round=>
  obtain⟨k,hk,rfl,hrel⟩:=hrel
  by_cases hlt:k<n
  ·obtain⟨g,off,y,rfl,hg0,hg,hd,hy,hcy⟩:=G8 hxs hlt
   rw[hd,show Ph (y::xs.drop (k+1)) t=(t==y||Ph (xs.drop (k+1)) t) from List.contains_cons ..] at hrel
   have BI:=Lib.hid hrel
   clear hrel hd hy
   cases hmx:(y==t)
   case true=>
    go_wp2_with fail
    go_ret
    exact⟨Ar (by rw[BI.out];simp at hmx;simp[hmx]),rfl⟩
   case false=>
    go_wp2_with fail
    go_round
    case rel=>exact⟨k+1,by omega,by go_num,by rw[BI.out];simp at hmx;simp;intro h;exact absurd h.symm hmx⟩
    case measure=>simp[intOf];omega
  ·have BI:=Lib.hid hrel;clear hrel
   go_wp2_with fail
   go_ret
   exact⟨Ar (by rw[BI.out,List.drop_of_length_le (by have:=hl.out;omega)];rfl),rfl⟩
theorem ZN (A:Option Addr) (c n:Nat) (xs:List Int) (t:Int) (w:World) (hxs:RI w 0 A c n xs):Calls Tryz.prog 195 #[.slice A n c,.int .i64 t] w fun E w'=>E=.returned (.int .i64 (KU (fun y=>decide (t=y)) xs))∧w=w':=by
 have hl:=Lib.hid hxs.1
 have hbig:=Rs.big hxs
 go_enter Tryz.func195,Tryz.ntmps195
 go_wp2_with fail
 go_loop [8] (fun i=>∃ k:Nat,k≤n∧i=.int .i64 k∧∀ j,j<k→∀ z,xs[j]?=some z→decide (t=z)=false) (fun i=>n-(intOf i).toNat)
 case atStart=>exact⟨0,Nat.zero_le _,rfl,by omega⟩
 case round=>
  obtain⟨k,hk,rfl,hrel⟩:=hrel
  have BI:=Lib.hid hrel;clear hrel
  by_cases hlt:k<n
  ·obtain⟨g,off,y,rfl,hg0,hg,hd,hy,hcy⟩:=G8 hxs hlt
   have Hy:=Lib.hid hy;clear hd hy
   cases hmx:(t==y)
   case true=>
    go_wp2_with fail
    go_ret
    exact⟨Cv (IJ Hy.out BI.out (by simpa using hmx)).symm,rfl⟩
   case false=>
    go_wp2_with fail
    go_round
    case rel=>exact⟨k+1,by omega,by go_num,Gi Hy.out BI.out (by simpa using hmx)⟩
    case measure=>simp[intOf];omega
  ·go_wp2_with fail
   go_ret
   exact⟨Cv (II (by have:=hl.out;omega) BI.out).symm,rfl⟩
theorem Gw (root t a b:Int) (u:Bool) (A:Option Addr) (c n:Nat) (xs:List Int) (w:World) (hxs:RI w 0 A c n xs):Calls Tryz.prog 179 #[.int .i64 root,.int .i64 t,.agg #[.int .i64 a,.int .i64 b,.bool u],.slice A n c] w fun E w'=>E=.returned (.bool (Sw.Hu root t ⟨a,b,u⟩ xs))∧Ex w w':=Tt root t ⟨a,b,u⟩ A c n xs w hxs
theorem G5 (root t a b:Int) (u:Bool) (A:Option Addr) (c n:Nat) (xs:List Int) (w:World) (hxs:RI w 0 A c n xs):Calls Tryz.prog 171 #[.int .i64 root,.int .i64 t,.agg #[.int .i64 a,.int .i64 b,.bool u],.slice A n c] w fun E w'=>E=.returned (.bool (Sw.Hu root t ⟨a,b,u⟩ xs))∧Ex w w':=Ue root t ⟨a,b,u⟩ A c n xs w hxs
theorem IW (A:Option Addr) (c n:Nat) (xs:List Int) (t:Int) (w:World) (hxs:RI w 0 A c n xs):Calls Tryz.prog 170 #[.slice A n c,.int .i64 t] w fun E w'=>E=.returned (.bool (Ph xs t))∧w=w':=by
 have hi:=Lib.hid (K3 (fun y=>decide (t=y)) xs)
 go_enter Tryz.func170,Tryz.ntmps170
 go_wp2_with (go_at_call 195;apply Calls.mono;apply ZN;(exact Bt);rintro E w' ⟨rfl,rfl⟩)
 go_ret
 refine⟨Ar ?_,rfl⟩
 rw[hi.out,Ph]
 rw[Bool.eq_iff_iff]
 simp
theorem P_ (d y:Int) (r:List Int):Sw.insert d (y::r)=if d<y then d::y::r else y::Sw.insert d r:=by rw[Sw.insert]
theorem insert_perm (d:Int):∀ xs:List Int,(xs ++ [d]).Perm (Sw.insert d xs)
 | []=>List.Perm.refl _
 | y::r=>by
  rw[P_]
  split
  ·exact List.perm_append_comm
  ·exact (insert_perm d r).cons y
theorem Tk {xs:List Int} {d:Int} (h:xs.Pairwise (· < ·)) (hd:d ∉ xs):((xs ++ [d]).mergeSort fun x y=>decide (x≤y))=Sw.insert d xs:=by
 refine List.Perm.eq_of_pairwise (le:=fun x y=>(decide (x≤y))=true) ?_ ?_ ?_ ((List.mergeSort_perm _ _).trans (insert_perm d xs))
 ·intro a b _ _ h1 h2
  simp at h1 h2
  omega
 ·exact List.pairwise_mergeSort (by intro a b c h1 h2;simp at *;omega) (by intro a b;simp;omega) _
 ·exact (Sw.LH h hd).imp (by intro a b h;simp;omega)
theorem bX (A:Option Addr) (c n:Nat) (xs:List Int) (d:Int) (w:World) (hxs:RI w 0 A c n xs) (hn:n≤4194304):Calls Tryz.prog 180 #[.slice A n c,.int .i64 d] w fun E w'=>∃ A' c',E=.returned (.slice A' (n+1) c')∧Ga w' w.heap.size A' c' (n+1) (Sw.insert d xs)∧Ex w w':=by
 have hl:=Lib.hid hxs.1
 go_enter Tryz.func180,Tryz.ntmps180
 go_wp2_with fail
 go_loopw [5,6,7] (fun o f i wr=>∃ (k:Nat) (dn:Bool) (B:Option Addr) (e:Nat) (m:Nat) (es:List Int),k≤n∧i=.int .i64 k∧f=.bool dn∧o=.slice B m e∧(m=k+if dn then 1 else 0)∧Ex w wr∧Ga wr w.heap.size B e m es ∧
  Sw.insert d xs=(if dn then es ++ xs.drop k else es ++ Sw.insert d (xs.drop k))) (fun _ _ i _=>n-(intOf i).toNat)
 case atStart=>
  exact⟨0,false,_,_,0,[],Nat.zero_le _,rfl,rfl,rfl,rfl,AA,Ow.new [] rfl rfl rfl (fun _=>rfl) (Nat.le_refl _) (by omega),by simp⟩
 case round=>
  obtain⟨k,dn,B,e,m,es,hk,rfl,rfl,rfl,hm,hb,ho,heq⟩:=hrel
  have hst:=Ex.rules hb rfl
  obtain⟨hc,hf,hz⟩:=hst
  have HE:=Lib.hid heq;clear heq
  have HM:=Lib.hid hm
  have hmn:m≤n+1:=by rw[hm];split <;> omega
  clear hm
  by_cases hlt:k<n
  ·obtain⟨g,off,y,rfl,hg0,hg,hd,hy,hcy⟩:=G8 hxs hlt
   have HD:=Lib.hid hd;clear hd hy
   cases dn
   case true=>
    go_wp2_with (at_builtin;apply BL (lo:=w.heap.size) FO Dz rfl rfl rfl rfl;(exact Iy);(first|(refine Rs.new [y] (by (first|rfl|(simp only[BO];done)|omega)) rfl rfl (fun _=>rfl) (by omega)));omega;exact Aq;intro A1 c1 w2 ho1 Ap Bo Ay Ah;have hb:=Ay (fun _=>False) w (by exact AA) (by exact Aq);have hz:=Ap.size;(try simp only[BO] at hz);obtain⟨hc,hf⟩:=BJ Ah;clear Ah Ay)
    go_roundw
    case rel=>exact⟨k+1,true,A1,c1,m+1,es ++ [y],by omega,by go_num,rfl,rfl,by have:=HM.out;simp at this ⊢;omega,hb,ho1,by rw[HE.out,HD.out];simp⟩
    case measure=>simp[intOf];omega
   case false=>
    have HI:=Lib.hid (P_ d y (xs.drop (k+1)))
    by_cases hcmp:d<y
    ·go_wp2_with (first|(at_builtin;apply BL (lo:=w.heap.size) FO Dz rfl rfl rfl rfl;(exact Iy);(first|(refine Rs.new [d] (by (first|rfl|(simp only[BO];done)|omega)) rfl rfl (fun _=>rfl) (by omega)));omega;exact Aq;intro A1 c1 w2 ho1 Ap Bo Ay Ah;have hb:=Ay (fun _=>False) w (by exact AA) (by exact Aq);have hz:=Ap.size;(try simp only[BO] at hz);obtain⟨hc,hf⟩:=BJ Ah;clear Ah Ay)|(at_builtin;apply BL (lo:=w.heap.size) FO Dz rfl rfl rfl rfl;(exact Iy);(first|(refine Rs.new [y] (by (first|rfl|(simp only[BO];done)|omega)) rfl rfl (fun _=>rfl) (by omega)));omega;exact Aq;intro A1 c1 w2 ho1 Ap Bo Ay Ah;have hb:=Ay (fun _=>False) w (by exact AA) (by exact Aq);have hz:=Ap.size;(try simp only[BO] at hz);obtain⟨hc,hf⟩:=BJ Ah;clear Ah Ay))
     go_roundw
     case rel=>exact⟨k+1,true,A1,c1,m+1+1,es ++ [d] ++ [y],by omega,by go_num,rfl,rfl,by have:=HM.out;simp at this ⊢;omega,hb,ho1,by rw[HE.out,HD.out,HI.out];simp[hcmp]⟩
     case measure=>simp[intOf];omega
    ·have HC:=Lib.hid hcmp
     go_wp2_with (at_builtin;apply BL (lo:=w.heap.size) FO Dz rfl rfl rfl rfl;(exact Iy);(first|(refine Rs.new [y] (by (first|rfl|(simp only[BO];done)|omega)) rfl rfl (fun _=>rfl) (by omega)));omega;exact Aq;intro A1 c1 w2 ho1 Ap Bo Ay Ah;have hb:=Ay (fun _=>False) w (by exact AA) (by exact Aq);have hz:=Ap.size;(try simp only[BO] at hz);obtain⟨hc,hf⟩:=BJ Ah;clear Ah Ay)
     go_roundw
     case rel=>exact⟨k+1,false,A1,c1,m+1,es ++ [y],by omega,by go_num,rfl,rfl,by have:=HM.out;simp at this ⊢;omega,hb,ho1,by rw[HE.out,HD.out,HI.out];have:=HC.out;simp[show ¬d<y from by omega]⟩
     case measure=>simp[intOf];omega
  ·obtain rfl:k=n:=by omega
   cases dn
   all_goals go_wp2_with (at_builtin;apply BL (lo:=w.heap.size) FO Dz rfl rfl rfl rfl;(exact Iy);(first|(refine Rs.new [d] (by (first|rfl|(simp only[BO];done)|omega)) rfl rfl (fun _=>rfl) (by omega)));omega;exact Aq;intro A1 c1 w2 ho1 Ap Bo Ay Ah;have hb:=Ay (fun _=>False) w (by exact AA) (by exact Aq);have hz:=Ap.size;(try simp only[BO] at hz);obtain⟨hc,hf⟩:=BJ Ah;clear Ah Ay)
   all_goals go_ret
   ·have hmk:m+1=k+1:=by have:=HM.out;simp at this;omega
    rw[hmk] at ho1 ⊢
    refine⟨A1,c1,rfl,?_,AA⟩
    rw[HE.out,List.drop_of_length_le (by have:=hl.out;omega)]
    exact ho1
   ·have hmk:m=k+1:=by have:=HM.out;simp at this;omega
    rw[hmk] at ho ⊢
    refine⟨B,e,rfl,?_,AA⟩
    rw[HE.out,List.drop_of_length_le (by have:=hl.out;omega)]
    simp
    exact ho
end Go.Proofs.YtgaflnpmilikcaaGreat
