/- Texts joined: Impl5, Draw3, Gate4. -/
import Derived.Test.YtgaflnpmilikcaaGreatPx14
import Derived.Test.YtgaflnpmilikcaaGreatPx13
import Derived.Test.YtgaflnpmilikcaaGreatPx5
import Derived.Test.YtgaflnpmilikcaaGreatPx10
set_option maxRecDepth 100000
set_option linter.unusedSimpArgs false
set_option linter.unusedVariables false
namespace Go.Proofs.YtgaflnpmilikcaaGreat
open Go.RowKit Go
set_option maxHeartbeats 400000
theorem GG (t:Sw.Head) (A:Option Addr) (c n:Nat) (xs:List Int) (w:World) (hxs:RI w 0 A c n xs):Calls Tryz.prog 21 #[.agg #[.int .i64 t.size,.int .i64 t.log,.int .i64 t.own,.slice A n c]] w fun E w'=>E=.returned (.bool (Sw.DF ⟨t,xs⟩))∧Ex w w':=by
 have hl:=Lib.hid hxs.1
 have hcap:=hxs.2.le
 have hbig:n≤9223372036854775807:=by have:=hxs.2.cap;unfold maxLen at this;omega
 have e:Sw.DF ⟨t,xs⟩=(Sw.E9 t&&Sw.DT (-1) xs):=rfl
 rw[e];clear e
 go_enter Tryz.func21,Tryz.ntmps21
 go_wp2_with fail
 go_loopw [8] (fun i wr=>∃ (k:Nat) (p:Int),k≤n∧i=.int .i64 k∧Ex (w.alloc (.cells #[.int .i64 t.size,.int .i64 t.log,.int .i64 t.own,.slice A n c] 52)) wr∧(k=0∧p = -1∨∃ j,k=j+1∧xs[j]?=some p∧0≤p)∧Sw.DT (-1) xs=Sw.DT p (xs.drop k)) (fun i _=>n-(intOf i).toNat)
 case atStart=>exact⟨0,-1,Nat.zero_le _,rfl,Ch.refl _ _,.inl ⟨rfl,rfl⟩,rfl⟩
 case round=>
  obtain⟨k,p,hk,rfl,hb2,hp,hrel⟩:=hrel
  have hst:=Ex.rules hb2 rfl
  simp only[World.size_alloc] at hst
  obtain⟨hc2,hf2,hz2⟩:=hst
  by_cases hlt:k<n
  ·obtain⟨g,off,y,rfl,hg0,hg,hd,hy,hcy⟩:=G8 hxs hlt
   rw[hd,Sw.DT] at hrel
   have BI:=Lib.hid hrel
   have Hy:=Lib.hid hy
   clear hd hy hrel
   cases hin:Sw.Br y 0 7
   case false=>
    go_wp2_with (go_at_call 63;refine (BQ _ _).mono ?_;rintro E w' ⟨rfl,rfl⟩)
    go_ret
    exact⟨Ar (by rw[BI.out,hin];simp),AA⟩
   have tu:0≤y∧y≤7:=by simpa [Sw.Br] using hin
   obtain⟨y0,y7⟩:=tu
   rcases hp with⟨rfl,rfl⟩ | ⟨j,rfl,hj,hj0⟩
   ·simp only[Nat.add_zero] at hcy
    go_wp2_with (go_at_call 63;refine (BQ _ _).mono ?_;rintro E w' ⟨rfl,rfl⟩)
    go_roundw
    case rel=>exact⟨0+1,y,by omega,by go_num,AA,.inr ⟨0,rfl,Hy.out,y0⟩,by rw[BI.out,hin];simp;omega⟩
    case measure=>simp[intOf];omega
   ·obtain⟨g',off',p',hA',_,_,_,hp',hcp⟩:=G8 hxs (show j<n by omega)
    cases hA'
    obtain rfl:p'=p:=by rw[hj] at hp';exact (Option.some.inj hp').symm
    clear hj hp'
    have t1:((j:Int)+1).toNat=j+1:=by omega
    have t2:IntKind.i64.wrap ((j:Int)+1-1)=j:=by rw[IntWalk.i64_in _ (by omega)];omega
    have t3:(0:Int)≤(j:Int)+1:=by omega
    have t4:(j:Int)+1<(n:Int):=by omega
    have t5:(j:Int)<(n:Int):=by omega
    have t6:(0:Int)<(j:Int)+1:=by omega
    by_cases hpy:p'<y
    ·have nY:decide (y≤p')=false:=by simp;omega
     go_wp2_with (go_at_call 63;refine (BQ _ _).mono ?_;rintro E w' ⟨rfl,rfl⟩)
     go_roundw
     case rel=>exact⟨j+1+1,y,by omega,by go_num,AA,.inr ⟨j+1,rfl,Hy.out,y0⟩,by rw[BI.out,hin];simp[hpy]⟩
     case measure=>simp[intOf];omega
    ·have nY:y≤p':=by omega
     go_wp2_with (go_at_call 63;refine (BQ _ _).mono ?_;rintro E w' ⟨rfl,rfl⟩)
     go_ret
     have hlt':decide (p'<y)=false:=by rw[decide_eq_false_iff_not];omega
     exact⟨Ar (by rw[BI.out,hin,hlt'];simp),AA⟩
  ·have BI:=Lib.hid hrel;clear hrel hp
   go_wp2_with (go_at_call 22;refine (Ip _ _).mono ?_;rintro E w1 ⟨rfl,hb⟩;obtain⟨hc,hf,hz⟩:=xy hb)
   go_ret
   refine⟨Ar ?_,AA⟩
   have hh:=BI.out
   rw[List.drop_of_length_le (by have:=hl.out;omega)] at hh
   rw[hh];simp[Sw.DT]
theorem H9 (t:Sw.Head) (A:Option Addr) (c n:Nat) (xs:List Int) (w:World) (hxs:RI w 0 A c n xs) (hn:n≤4194304):Calls Tryz.prog 76 #[.agg #[.int .i64 t.size,.int .i64 t.log,.int .i64 t.own,.slice A n c]] w fun E w'=>∃ A' c',E=.returned (.agg #[.int .i64 t.size,.int .i64 t.log,.int .i64 t.own,.slice A' n c'])∧Ga w' w.heap.size A' c' n xs∧Ex w w':=by
 go_enter Tryz.func76,Tryz.ntmps76
 go_wp2_with fail
 (refine CF fun W0 hb0 hc0 hf0 hz0=>?_;have JR:Lb W0 (w.heap.size+1) 4:=Lb.ex (by exact Dw) hb0;go_region_held3 (fun w'=>Au (w.heap.size+1) 4 W0 w') ((exact EX)) ((go_at_call 86;apply Calls.mono;apply Bj;(exact Co);(exact Bu);rintro E w1 ⟨A',c',rfl,ho1,hb⟩;obtain⟨hc,hf,hz⟩:=xy hb));all_goals (rename Au (w.heap.size+1) 4 W0 _=>FZ;have hb:=Au.ch FZ;obtain⟨hc,hf,hz⟩:=xd hb;have CJ:=Au.lb FZ;(repeat (first|with_reducible replace CJ:=Lb.G_ CJ|with_reducible replace CJ:=Lb.Fy CJ));obtain⟨hcb,M6⟩:=Lb.rules CJ;clear FZ))
 go_wp2
 refine bodyPost_ret (v:=.agg #[.int .i64 t.size,.int .i64 t.log,.int .i64 t.own,.slice A' n c']) (by simp[results,Tryz.results76,go_sem, *]) rfl ?_
 exact⟨A',c',rfl,(ho1.keep (by (exact AO))).less (by exact Aq),AA⟩
theorem RJ (t u:Sw.Head) (A:Option Addr) (c n:Nat) (xs:List Int) (B:Option Addr) (d m:Nat) (ps:List Int) (w:World) (hxs:RI w 0 A c n xs) (hps:RI w 0 B d m ps):Calls Tryz.prog 31 #[.agg #[.int .i64 t.size,.int .i64 t.log,.int .i64 t.own,.slice A n c],.agg #[.int .i64 u.size,.int .i64 u.log,.int .i64 u.own],.slice B m d] w fun E w'=>∃ A' c' n',E=.returned (.tuple #[.agg #[.int .i64 (Sw.Ck ⟨t,xs⟩ u ps).1.head.size,.int .i64 (Sw.Ck ⟨t,xs⟩ u ps).1.head.log,.int .i64 (Sw.Ck ⟨t,xs⟩ u ps).1.head.own,.slice A' n' c'],.bool (Sw.Ck ⟨t,xs⟩ u ps).2])∧Ga w' w.heap.size A' c' n' (Sw.Ck ⟨t,xs⟩ u ps).1.done∧Ex w w':=by
 have hl:=Lib.hid hxs.1
 cases g1:Sw.DF ⟨t,xs⟩
 case false=>
  have e:Sw.Ck ⟨t,xs⟩ u ps=(Sw.Ra,false):=by simp[Sw.Ck,g1]
  have He:=Lib.hid e;clear e
  go_enter Tryz.func31,Tryz.ntmps31
  go_wp2_with (go_at_call 21;apply Calls.mono;apply GG;(exact Co);rintro E w1 ⟨rfl,hb⟩;obtain⟨hc,hf,hz⟩:=xy hb)
  refine bodyPost_ret (v:=.tuple #[.agg #[.int .i64 0,.int .i64 0,.int .i64 0,.slice none 0 0],.bool false]) (by simp[results,Tryz.results31,go_sem, *]) rfl ?_
  exact⟨none,0,0,by rw[He.out];rfl,by rw[He.out];exact Ow.nil _ _,AA⟩
 have h8:n≤8:=by have:=K7 g1;have:=hl.out;simp at *;omega
 cases g2:Sw.CU t u ps
 case false=>
  have e:Sw.Ck ⟨t,xs⟩ u ps=(⟨t,xs⟩,false):=by simp[Sw.Ck,g1,g2]
  have He:=Lib.hid e;clear e
  go_enter Tryz.func31,Tryz.ntmps31
  go_wp2_with (first|(go_at_call 21;apply Calls.mono;apply GG;(exact Co);rintro E w1 ⟨rfl,hb⟩;obtain⟨hc,hf,hz⟩:=xy hb)|(go_at_call 76;apply Calls.mono;apply H9;(exact Co);(exact Bu);rintro E w1 ⟨A',c',rfl,hr,hb⟩;obtain⟨hc,hf,hz⟩:=xy hb)|(go_at_call 77;apply Calls.mono;apply M5;(exact Co);rintro E w1 ⟨rfl,hb⟩;obtain⟨hc,hf,hz⟩:=xy hb))
  refine bodyPost_ret (v:=.tuple #[.agg #[.int .i64 t.size,.int .i64 t.log,.int .i64 t.own,.slice A' n c'],.bool false]) (by simp[results,Tryz.results31,go_sem, *]) rfl ?_
  exact⟨A',c',n,by rw[He.out],by rw[He.out];exact (hr.keep (by (exact AO))).less (by exact Aq),AA⟩
 have e:Sw.Ck ⟨t,xs⟩ u ps=(⟨u,xs⟩,true):=by simp[Sw.Ck,g1,g2]
 have He:=Lib.hid e;clear e
 go_enter Tryz.func31,Tryz.ntmps31
 go_wp2_with (first|(go_at_call 21;apply Calls.mono;apply GG;(exact Co);rintro E w1 ⟨rfl,hb⟩;obtain⟨hc,hf,hz⟩:=xy hb)|(go_at_call 76;apply Calls.mono;apply H9;(exact Co);(exact Bu);rintro E w1 ⟨A',c',rfl,hr,hb⟩;obtain⟨hc,hf,hz⟩:=xy hb)|(go_at_call 77;apply Calls.mono;apply M5;(exact Co);rintro E w1 ⟨rfl,hb⟩;obtain⟨hc,hf,hz⟩:=xy hb))
 refine bodyPost_ret (v:=.tuple #[.agg #[.int .i64 u.size,.int .i64 u.log,.int .i64 u.own,.slice A' n c'],.bool true]) (by simp[results,Tryz.results31,go_sem, *]) rfl ?_
 exact⟨A',c',n,by rw[He.out],by rw[He.out];exact (hr.keep (by (exact AO))).less (by exact Aq),AA⟩
set_option maxHeartbeats 4000000
theorem R9 (A:Option Addr) (c n:Nat) (s:Int) (xs:List Sw.FC) (w:World) (hxs:RE w 0 A c n xs):Calls Tryz.prog 135 #[.slice A n c,.int .i64 s] w fun E w'=>∃ p q r b,E=.returned (.tuple #[.agg #[.int .i64 p,.int .i64 q,.int .i64 r],.bool b])∧True∧Ex w w':=by
 refine (Yu A c n s xs w hxs).mono ?_
 rintro E w' ⟨rfl,hb⟩
 exact⟨_,_,_,_,rfl,trivial,hb⟩
def bO (v:Nat) (a b c:Int):Int:=if v=0 then a else if v=1 then b else c
theorem Mf {v:Nat} (h:v<3) (W:World) (a b c:Int) (T:TypeId):(W.alloc (.cells #[.int .i64 a,.int .i64 b,.int .i64 c] T)).cell? ⟨W.heap.size,v,none⟩=some (.int .i64 (bO v a b c)):=by
 rcases (show v=0∨v=1∨v=2 by omega) with rfl|rfl|rfl <;> simp[go_sem,bO]
theorem SK (rb P:Nat) (A:Option Addr) (c m:Nat) (es:List Sw.FC) (n:Int) (w:World) (hr:Be w rb P) (hes:RE w (rb+1) A c m es) (hP:P≤900000) (hm:m≤900000) (h1:1≤n) (h2:n≤1000000):Calls Tryz.prog 85 #[.pointer (some ⟨rb,0,none⟩),.slice A m c,.int .i64 n] w fun E w'=>∃ a b d,E=.returned (.agg #[.int .i64 a,.int .i64 b,.int .i64 d])∧Be w' rb (P+10)∧Ch (· = rb) w w':=by
 have hlt:=hr.lt
 go_enter Tryz.func85,Tryz.ntmps85
 go_upto_region 2 with (first|(go_at_call 37;apply Calls.mono;apply DU;(apply Be.keep;assumption;(exact Cj));(exact Bu);(exact Bu);rintro E w1 ⟨v,rfl,⟨hv0,hv1⟩,hrd,hb⟩;obtain⟨hc,hf,hz⟩:=xd hb)|(go_at_call 135;apply Calls.mono;apply R9;(exact Bt);rintro E w1 ⟨p,q,r,b,rfl,-,hb⟩;obtain⟨hc,hf,hz⟩:=xy hb))
 (refine CF fun W0 hb0 hc0 hf0 hz0=>?_)
 obtain⟨g,hgg⟩:∃ g,g=w1.heap.size:=⟨_,rfl⟩
 have hI:Ints W0 g 3:=Ints.ch hb0 (fun h=>h) (by rw[hgg];exact Ints.new (zs:=[_,_,_]) rfl rfl rfl)
 have hR:Ints W0 w.heap.size 3:=(by (exact Im))
 have HK:VI w W0 rb (P+1):=⟨Be.keep hrd (by (exact Cj)),AA⟩
 have hg0:w.heap.size+1≤g:=by rw[hgg];exact Aq
 rw[← hgg]
 clear hgg hrd hb hc hf hz hb0 hc0 hf0 hz0 hes
 ((repeat (rename Ch _ _ _=>zz;clear zz));(repeat (rename Be _ _ _=>zz;clear zz));(repeat (rename (∀ (b o:Nat),¬((⟨b,0,none⟩:Addr)=⟨b-_+_,0,none⟩)→_)=>zz;clear zz)))
 have hrd:=HK.rd
 have hb:=HK.ch
 have Ya:=hI.lt
 have hgr:g≠rb:=by omega
 have zM:=hI.lb
 have Fu:=hrd.lb
 obtain⟨xI,ou⟩:=hI.at_ (i:=0) (by omega);obtain⟨xH,oq⟩:=hI.at_ (i:=1) (by omega);obtain⟨xG,oo⟩:=hI.at_ (i:=2) (by omega);have om:=hI.free
 go_upto_if 21 with (go_at_call 38;apply Calls.mono;apply MH;(apply Be.keep;assumption;(exact Cj));(exact Bu);(exact Bu);(exact Bu);rintro E w1 ⟨b,rfl,hrd,hb⟩;obtain⟨hc,hf,hz⟩:=xd hb)
 go_cut [] (fun wx=>TY w wx rb w.heap.size g 3 (P+9))
 case first=>
  go_wp2_with (first|(go_at_call 37;apply Calls.mono;apply DU;(apply Be.keep;assumption;(exact Cj));(exact Bu);(exact Bu);rintro E w1 ⟨v,rfl,⟨hv0,hv1⟩,hrd,hb⟩;obtain⟨hc,hf,hz⟩:=xd hb)|(go_at_call 136;apply Calls.mono;apply ZF;(apply Be.keep;assumption;(exact Cj));(exact Bu);(exact Bu);(exact Bu);rintro E w1 ⟨m,rfl,hrd,hb⟩;obtain⟨hc,hf,hz⟩:=xd hb))
  ·(focus (refine CF fun W0 hb0 hc0 hf0 hz0=>?_;refine Aj [9] (S:=fun w'=>Ce rb W0 w') MQ (fun hHeld=>?_);(repeat' (first|refine Mc [7] [] (h:=?_)|refine FQ [7] [] hHeld (h:=?_)|refine Mo (fun K hK=>?_) ?_|refine FW (fun K hK=>?_) ?_|refine FV ?_|exact Cf|refine Mh (fun K hK=>?_) ?_|refine FT (fun K hK=>?_) ?_|(revert hK;intro hK;go_simp;(try ((go_at_call 37;apply Calls.mono;apply (Gy (N:=3));(apply Be.keep;assumption;(exact Cj));omega;rfl;decide;rintro E w5 ⟨v5,rfl,hv5,hrd,hb⟩;have hsel:=Mf hv5;have Um:(v5:Int)<3:=(by omega);(obtain⟨hc,hf,hz⟩:=xd hb));(try go_wp2_with fail)));(first|(refine CQ hK MQ (h:=?_);clear hK K hHeld;intro hHeld)|(refine ER hK (h:=?_);clear hK K)))));all_goals (refine FR ?_)))
   all_goals go_wp2_with fail
   all_goals go_meet
   all_goals exact⟨by (exact Im),by (exact Im),Be.more (Be.keep (by assumption) (by (exact Cj))) (by omega),AA⟩
  all_goals go_meet
  all_goals exact⟨by (exact Im),by (exact Im),Be.more (Be.keep (by assumption) (by (exact Cj))) (by omega),AA⟩
 case rest=>
  ((repeat (rename Ch _ _ _=>zz;clear zz));(repeat (rename Be _ _ _=>zz;clear zz));(repeat (rename (∀ (b o:Nat),¬((⟨b,0,none⟩:Addr)=⟨b-_+_,0,none⟩)→_)=>zz;clear zz)))
  obtain⟨own,res,rd,hbx⟩:=hcut
  obtain⟨o0,ho0⟩:=own.at_ (i:=0) (by omega);obtain⟨o1,ho1⟩:=own.at_ (i:=1) (by omega);obtain⟨o2,ho2⟩:=own.at_ (i:=2) (by omega);have hof:=own.free
  obtain⟨r0,hr0⟩:=res.at_ (i:=0) (by omega);obtain⟨r1,hr1⟩:=res.at_ (i:=1) (by omega);obtain⟨r2,hr2⟩:=res.at_ (i:=2) (by omega);have hrf:=res.free
  go_wp2_with fail
  refine bodyPost_ret (v:=.agg #[.int .i64 o0,.int .i64 o1,.int .i64 o2]) (by simp[results,Tryz.results85,go_sem, *]) rfl ?_
  exact⟨o0,o1,o2,rfl,rd.keep (by (exact Cj)) |>.more (by omega),AA⟩
theorem Lb.at_ {w:World} {g n:Nat} (h:Lb w g n) {i:Nat} (hi:i<n):∃ v,w.cell? ⟨g,i,none⟩=some v:=by
 obtain⟨cs,T,h1,h2⟩:=h
 exact⟨cs[i],by simp[World.cell?,h1,h2,hi]⟩
structure yB (w:World) (g:Nat) (a b d:Int) (B:Option Addr) (k e:Nat):Prop where
 lt:g<w.heap.size
 c0:w.cell? ⟨g,0,none⟩=some (.int .i64 a)
 c1:w.cell? ⟨g,1,none⟩=some (.int .i64 b)
 c2:w.cell? ⟨g,2,none⟩=some (.int .i64 d)
 c3:w.cell? ⟨g,3,none⟩=some (.slice B k e)
 free:∀ i,w.frozen? ⟨g,i,none⟩=false
theorem Xv (rb P:Nat) (A:Option Addr) (c m:Nat) (es:List Sw.FC) (n:Int) (w:World) (hr:Be w rb P) (hes:RE w (rb+1) A c m es) (hP:P≤800000) (hm:m≤900000) (h1:1≤n) (h2:n≤1000000):Calls Tryz.prog 84 #[.pointer (some ⟨rb,0,none⟩),.slice A m c,.int .i64 n] w fun E w'=>∃ a b d B e k ys,E=.returned (.agg #[.int .i64 a,.int .i64 b,.int .i64 d,.slice B k e])∧RI w' w.heap.size B e k ys∧k≤9∧Be w' rb (P+40)∧Ch (· = rb) w w':=by
 have hlt:=hr.lt
 go_enter Tryz.func84,Tryz.ntmps84
 go_upto_region 2 with (go_at_call 83;refine (Mg _).mono ?_;rintro E w1 ⟨rfl,hb⟩;obtain⟨hc,hf,hz⟩:=xy hb)
 (refine CF fun W0 hb0 hc0 hf0 hz0=>?_)
 obtain⟨g,hgg⟩:∃ g,g=w1.heap.size:=⟨_,rfl⟩
 have hG:∃ a b d,yB W0 g a b d none 0 0:=⟨((Sw.Cw []).getD Sw.DX).size,((Sw.Cw []).getD Sw.DX).log,((Sw.Cw []).getD Sw.DX).own,by rw[hgg];exact⟨Aq,Ak,Ak,Ak,Ak,fun i=>Ak⟩⟩
 have hR:Lb W0 w.heap.size 4:=(by exact Dw)
 have HK:VI w W0 rb P:=⟨Be.keep hr (by (exact Cj)),AA⟩
 have hg0:w.heap.size+1≤g:=by rw[hgg];exact Aq
 rw[← hgg]
 clear hgg hb hc hf hz hb0 hc0 hf0 hz0 hr
 obtain⟨a0,b0,d0,hG⟩:=hG
 obtain⟨hr,hb⟩:=HK
 have Ya:=hG.lt
 obtain⟨-,k0,k1,k2,k3,kf⟩:=hG
 go_upto_if 22 with (first|(go_at_call 37;apply Calls.mono;apply DU;(apply Be.keep;assumption;(exact Cj));(exact Bu);(exact Bu);rintro E w1 ⟨v,rfl,⟨hv0,hv1⟩,hrd,hb⟩;obtain⟨hc,hf,hz⟩:=xd hb)|(go_at_call 135;apply Calls.mono;apply R9;(exact Bt);rintro E w1 ⟨p,q,r,b,rfl,-,hb⟩;obtain⟨hc,hf,hz⟩:=xy hb))
 go_cut [] (fun wx=>∃ a b d,yB wx g a b d none 0 0∧Lb wx w.heap.size 4∧Be wx rb (P+1)∧Ch (· = rb) w wx)
 case first=>
  go_wp2_with fail
  all_goals go_meet
  all_goals refine⟨(if b then p else a0),(if b then q else b0),(if b then r else d0),⟨Aq,Ak,Ak,Ak,Ak,fun i=>Ak⟩,(by (exact Gd)),Be.keep (by assumption) (by (exact Cj)),AA⟩
 case rest=>
  ((repeat (rename Ch _ _ _=>zz;clear zz));(repeat (rename Be _ _ _=>zz;clear zz));(repeat (rename (∀ (b o:Nat),¬((⟨b,0,none⟩:Addr)=⟨b-_+_,0,none⟩)→_)=>zz;clear zz)))
  clear k0 k1 k2 k3 kf hR a0 b0 d0
  obtain⟨a0,b0,d0,hG,hR,hr,hb⟩:=hcut
  have hzc:=hb.size
  go_wp2_with fail
  go_loopw [10] (fun t wr=>∃ (t0 k e:Nat) (a b d:Int) (B:Option Addr) (ys:List Int),t=.int .i64 t0∧t0≤8∧k≤t0∧yB wr g a b d B k e∧Ga wr (g+1) B e k ys∧Lb wr w.heap.size 4∧Be wr rb (P+1+t0)∧Ch (· = rb) w wr) (fun t _=>8-(intOf t).toNat)
  case atStart=>exact⟨0,0,0,a0,b0,d0,none,[],rfl,by omega,by omega,hG,Ow.nil _ _,hR,hr,hb⟩
  case round=>
   obtain⟨t0,k,e,a0,b0,d0,B,ys,rfl,ht0,hk,hG,ho,hR,hr,hb⟩:=hrel
   have hst:=xc hb
   obtain⟨hc,hf,hz⟩:=hst
   obtain⟨Ya,k0,k1,k2,k3,kf⟩:=hG
   have hgr:¬g=rb:=by omega
   by_cases AA6:t0<8
   ·go_wp2_with (first|(go_at_call 37;apply Calls.mono;apply DU;(apply Be.keep;assumption;(exact Cj));(exact Bu);(exact Bu);rintro E w1 ⟨v,rfl,⟨hv0,hv1⟩,hrd,hb⟩;obtain⟨hc,hf,hz⟩:=xd hb)|(at_builtin;apply BL (lo:=g+1) FO Dz rfl rfl rfl rfl;(exact Iy);(first|(refine Rs.new [_] (by (first|rfl|(simp only[BO];done)|omega)) rfl rfl (fun _=>rfl) (by omega)));omega;exact Aq;intro A1 c1 w2 ho1 Ap Bo Ay Ah;have hb:=Ay (· = rb) w (by exact AA) (by omega);have hrd:=Be.low (Be.keep (by assumption) (by exact Cj)) Ap.size Ah (by omega);have hz:=Ap.size;(try simp only[BO] at hz);obtain⟨hc,hf⟩:=BJ Ah;clear Ay))
    ·go_roundw
     case rel=>exact⟨t0+1,k+1,c1,a0,b0,d0,A1,_,by go_num,by omega,by omega,⟨Aq,Ak,Ak,Ak,Ak,fun i=>Ak⟩,ho1.keep AO,Lb.set (Lb.low Ah (show w.heap.size<g+1 by omega) (by (exact Gd))),(Be.keep hrd (by (exact Cj))).more (by omega),AA⟩
     case measure=>simp[intOf];omega
    ·go_roundw
     case rel=>exact⟨t0+1,k,e,a0,b0,d0,B,ys,by go_num,by omega,by omega,⟨Aq,Ak,Ak,Ak,Ak,fun i=>Ak⟩,ho.keep AO,by (exact Gd),(Be.keep hrd (by (exact Cj))).more (by omega),AA⟩
     case measure=>simp[intOf];omega
   ·obtain⟨r0,hr0⟩:=hR.at_ (i:=0) (by omega)
    obtain⟨r1,hr1⟩:=hR.at_ (i:=1) (by omega)
    obtain⟨r2,hr2⟩:=hR.at_ (i:=2) (by omega)
    obtain⟨r3,hr3⟩:=hR.at_ (i:=3) (by omega)
    have hrf:=hR.rules.2
    go_upto_if 40 with (go_at_call 38;apply Calls.mono;apply MH;(apply Be.keep;assumption;(exact Cj));(exact Bu);(exact Bu);(exact Bu);rintro E w1 ⟨b,rfl,hrd,hb⟩;obtain⟨hc,hf,hz⟩:=xd hb)
    cases b
    case false=>
     go_wp2_with fail
     refine bodyPost_ret (v:=.agg #[.int .i64 a0,.int .i64 b0,.int .i64 d0,.slice B k e]) (by simp[results,Tryz.results84,go_sem, *]) rfl ?_
     exact⟨_,_,_,_,_,_,ys,rfl,((ho.keep AO).less (by omega)).rs,by omega,(Be.keep hrd (by (exact Cj))).more (by omega),AA⟩
    case true=>
     go_wp2_with (first|(go_at_call 37;apply Calls.mono;apply DU;(apply Be.keep;assumption;(exact Cj));(exact Bu);(exact Bu);rintro E w1 ⟨v,rfl,⟨hv0,hv1⟩,hrd,hb⟩;obtain⟨hc,hf,hz⟩:=xd hb)|(go_at_call 85;apply Calls.mono;apply SK;(apply Be.keep;assumption;(exact Cj));(apply Rs.less;(first|(apply Rs.keep;assumption;(exact AO))|(apply Rs.keep;apply Ow.rs;assumption;(exact AO)));(first|omega|(simp only[BO];omega)));(exact Bu);(exact Bu);(exact Bu);(exact Bu);rintro E w1 ⟨a,b,d,rfl,hrd,hb⟩;obtain⟨hc,hf,hz⟩:=xd hb))
     ·refine bodyPost_ret (v:=.agg #[.int .i64 a,.int .i64 b,.int .i64 d,.slice B k e]) (by simp[results,Tryz.results84,go_sem, *]) rfl ?_
      exact⟨_,_,_,_,_,_,ys,rfl,((ho.keep AO).less (by omega)).rs,by omega,(Be.keep hrd (by (exact Cj))).more (by omega),AA⟩
     ·(focus (refine CF fun W0 hb0 hc0 hf0 hz0=>?_;refine Aj [8,9,10] (S:=fun w'=>Ce rb W0 w') MQ (fun hHeld=>?_);(repeat' (first|refine Mc [6] [] (h:=?_)|refine FQ [6] [] hHeld (h:=?_)|refine Mo (fun K hK=>?_) ?_|refine FW (fun K hK=>?_) ?_|refine FV ?_|exact Cf|refine Mh (fun K hK=>?_) ?_|refine FT (fun K hK=>?_) ?_|((apply BM (lo:=g+1) FO Dz rfl rfl rfl rfl;(exact Iy);(first|(refine Rs.new [_] (by (first|rfl|(simp only[BO];done)|omega)) rfl rfl (fun _=>rfl) (by omega)));omega;exact Aq;intro A1 c1 w2 ho1 Ap Bo Ay Ah;have hb:=Ay (· = rb) w (by exact AA) (by omega);have hrd:=Be.low (Be.keep (by assumption) (by exact Cj)) Ap.size Ah (by omega);have hz:=Ap.size;(try simp only[BO] at hz);obtain⟨hc,hf⟩:=BJ Ah;clear Ay);(first|(refine CQ hK MQ (h:=?_);clear hK K hHeld;intro hHeld)|(refine ER hK (h:=?_);clear hK K)))|(revert hK;intro hK;go_simp;(try ((go_at_call 37;apply Calls.mono;apply (Gy (N:=3));(apply Be.keep;assumption;(exact Cj));omega;rfl;decide;rintro E w5 ⟨v5,rfl,hv5,hrd,hb⟩;have hsel:=Mf hv5;have Um:(v5:Int)<3:=(by omega);(obtain⟨hc,hf,hz⟩:=xd hb));(try go_wp2_with fail)));(first|(refine CQ hK MQ (h:=?_);clear hK K hHeld;intro hHeld)|(refine ER hK (h:=?_);clear hK K)))));all_goals (refine FR ?_)))
      all_goals go_wp2_with fail
      all_goals refine bodyPost_ret (v:=.agg #[.int .i64 a0,.int .i64 b0,.int .i64 d0,.slice A1 (k+1) c1]) (by simp[results,Tryz.results84,go_sem, *]) rfl ?_
      all_goals exact⟨_,_,_,_,_,_,_,rfl,((ho1.keep AO).less (by omega)).rs,by omega,(Be.keep hrd (by (exact Cj))).more (by omega),AA⟩
set_option maxHeartbeats 400000
theorem Qr (t u:Sw.Head) (A:Option Addr) (c n:Nat) (xs:List Int) (B:Option Addr) (d m:Nat) (ps:List Int) (w:World) (hxs:RI w 0 A c n xs) (hps:RI w 0 B d m ps):Calls Tryz.prog 146 #[.agg #[.int .i64 t.size,.int .i64 t.log,.int .i64 t.own,.slice A n c],.agg #[.int .i64 u.size,.int .i64 u.log,.int .i64 u.own],.slice B m d] w fun E w'=>∃ A' c' n',E=.returned (.tuple #[.agg #[.int .i64 (Sw.Ck ⟨t,xs⟩ u ps).1.head.size,.int .i64 (Sw.Ck ⟨t,xs⟩ u ps).1.head.log,.int .i64 (Sw.Ck ⟨t,xs⟩ u ps).1.head.own,.slice A' n' c'],.bool (Sw.Ck ⟨t,xs⟩ u ps).2])∧Ga w' w.heap.size A' c' n' (Sw.Ck ⟨t,xs⟩ u ps).1.done∧Ex w w':=by
 have hl:=Lib.hid hxs.1
 cases g1:Sw.DF ⟨t,xs⟩
 case false=>
  have e:Sw.Ck ⟨t,xs⟩ u ps=(Sw.Ra,false):=by simp[Sw.Ck,g1]
  have He:=Lib.hid e;clear e
  go_enter Tryz.func146,Tryz.ntmps146
  go_wp2_with (go_at_call 47;apply Calls.mono;apply F_;(exact Co);rintro E w1 ⟨rfl,hb⟩;obtain⟨hc,hf,hz⟩:=xy hb)
  refine bodyPost_ret (v:=.tuple #[.agg #[.int .i64 0,.int .i64 0,.int .i64 0,.slice none 0 0],.bool false]) (by simp[results,Tryz.results146,go_sem, *]) rfl ?_
  exact⟨none,0,0,by rw[He.out];rfl,by rw[He.out];exact Ow.nil _ _,AA⟩
 have h8:n≤8:=by have:=K7 g1;have:=hl.out;simp at *;omega
 cases g2:Sw.CU t u ps
 case false=>
  have e:Sw.Ck ⟨t,xs⟩ u ps=(⟨t,xs⟩,false):=by simp[Sw.Ck,g1,g2]
  have He:=Lib.hid e;clear e
  go_enter Tryz.func146,Tryz.ntmps146
  go_wp2_with (first|(go_at_call 47;apply Calls.mono;apply F_;(exact Co);rintro E w1 ⟨rfl,hb⟩;obtain⟨hc,hf,hz⟩:=xy hb)|(go_at_call 96;apply Calls.mono;apply Jf;(exact Co);(exact Bu);rintro E w1 ⟨A',c',rfl,hr,hb⟩;obtain⟨hc,hf,hz⟩:=xy hb)|(go_at_call 177;apply Calls.mono;apply Mx;(exact Co);rintro E w1 ⟨rfl,hb⟩;obtain⟨hc,hf,hz⟩:=xy hb))
  refine bodyPost_ret (v:=.tuple #[.agg #[.int .i64 t.size,.int .i64 t.log,.int .i64 t.own,.slice A' n c'],.bool false]) (by simp[results,Tryz.results146,go_sem, *]) rfl ?_
  exact⟨A',c',n,by rw[He.out],by rw[He.out];exact (hr.keep (by (exact AO))).less (by exact Aq),AA⟩
 have e:Sw.Ck ⟨t,xs⟩ u ps=(⟨u,xs⟩,true):=by simp[Sw.Ck,g1,g2]
 have He:=Lib.hid e;clear e
 go_enter Tryz.func146,Tryz.ntmps146
 go_wp2_with (first|(go_at_call 47;apply Calls.mono;apply F_;(exact Co);rintro E w1 ⟨rfl,hb⟩;obtain⟨hc,hf,hz⟩:=xy hb)|(go_at_call 96;apply Calls.mono;apply Jf;(exact Co);(exact Bu);rintro E w1 ⟨A',c',rfl,hr,hb⟩;obtain⟨hc,hf,hz⟩:=xy hb)|(go_at_call 177;apply Calls.mono;apply Mx;(exact Co);rintro E w1 ⟨rfl,hb⟩;obtain⟨hc,hf,hz⟩:=xy hb))
 refine bodyPost_ret (v:=.tuple #[.agg #[.int .i64 u.size,.int .i64 u.log,.int .i64 u.own,.slice A' n c'],.bool true]) (by simp[results,Tryz.results146,go_sem, *]) rfl ?_
 exact⟨A',c',n,by rw[He.out],by rw[He.out];exact (hr.keep (by (exact AO))).less (by exact Aq),AA⟩
end Go.Proofs.YtgaflnpmilikcaaGreat
