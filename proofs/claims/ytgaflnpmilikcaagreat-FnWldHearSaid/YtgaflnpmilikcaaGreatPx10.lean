/- Texts joined: Heads, Grow, Own2. -/
import Derived.Test.YtgaflnpmilikcaaGreatPx9
import Derived.Test.YtgaflnpmilikcaaGreatPx7
import Derived.Test.YtgaflnpmilikcaaGreatPx8
set_option maxRecDepth 100000
set_option linter.unusedSimpArgs false
set_option linter.unusedVariables false
namespace Go.Proofs.YtgaflnpmilikcaaGreat
open Go.RowKit Go
set_option maxHeartbeats 400000
theorem XQ:∀ (es:List Sw.FC) (rows r:List Sw.Row),Sw.DY rows es=some r→rows.length=8→r.length=8
 | [],rows,r,h,h8=>by simp[Sw.DY] at h;rw[← h];exact h8
 | e::es,rows,r,h,h8=>by
  rw[Sw.DY] at h
  split at h
  ·exact XQ es _ r h (by simp[Sw.JE,h8])
  ·cases h
theorem UE {es:List Sw.FC} {r:List Sw.Row} (h:Sw.Bq es=some r):r.length=8:=by
 unfold Sw.Bq at h
 split at h
 ·exact XQ es _ r h rfl
 ·cases h
theorem EO (A:Option Addr) (c n:Nat) (xs:List Sw.FC) (w:World) (hxs:RE w 0 A c n xs):Calls Tryz.prog 105 #[.slice A n c] w fun E w'=>∃ A' c' n',E=.returned (.tuple #[.slice A' n' c',.bool (Sw.Bq xs).isSome])∧PQ w' w.heap.size A' c' n' ((Sw.Bq xs).getD [])∧Ex w w':=by
 have hl:=Lib.hid hxs.1
 by_cases hn:n≤40
 ·have hn':decide (40<n)=false:=by simp;omega
  go_enter Tryz.func105,Tryz.ntmps105
  go_wp2_with (go_at_call 149;refine (Yp _).mono ?_;rintro E w1 ⟨A,rfl,hr,hb⟩;obtain⟨hc,hf,hz⟩:=xy hb)
  go_loopw [4,5] (fun r i wr=>∃ (k:Nat) (B:Option Addr) (d:Nat) (rows:List Sw.Row),k≤n∧i=.int .i64 k∧r=.slice B 8 d∧Ex w wr∧PQ wr w.heap.size B d 8 rows∧Sw.Bq xs=Sw.DY rows (xs.drop k)) (fun _ i _=>n-(intOf i).toNat)
  case atStart=>exact⟨0,_,_,_,Nat.zero_le _,rfl,rfl,AA,hr,by rw[Sw.Bq,if_pos (by have:=hl.out;omega)];rfl⟩
  case round=>
   clear hb hc hf hz hr
   obtain⟨k,B,d,rows,hk,rfl,rfl,hb,ho,hrel⟩:=hrel
   have hst:=Ex.rules hb rfl
   obtain⟨hc,hf,hz⟩:=hst
   by_cases hlt:k<n
   ·obtain⟨g,off,y,rfl,hg0,hg,hd,hy,hc0,hc1,hc2,hc3⟩:=YQ hxs hlt
    rw[hd,Sw.DY] at hrel
    have BI:=Lib.hid hrel
    clear hd hy hrel
    go_wp2_with (go_at_call 150;apply Calls.mono;apply Xr;(apply Ow.Es ho;exact KF.refl _ _);omega;rintro E w1 ⟨A1,c1,rfl,ho1,hb1⟩;have hst:=Ex.rules hb1 rfl;obtain⟨hc1',oU,hz1'⟩:=hst)
    ·go_ret2
     have hfit:Sw.Bn rows y=false:=by rename_i h;simpa using h
     have hh:=BI.out
     rw[if_neg (by simp[hfit])] at hh
     refine⟨_,_,_,by rw[hh];rfl,?_,AA⟩
     rw[hh]
     (refine PX)
    ·have hfit:Sw.Bn rows y=true:=by rename_i h;simpa using h
     have hh:=BI.out
     rw[if_pos hfit] at hh
     refine⟨⟨k+1,_,_,_,by omega,by go_num,rfl,AA,ho1.less (by omega),?_⟩,by simp[intOf];omega⟩
     rw[hh,Sw.JV,if_pos hfit]
   ·have BI:=Lib.hid hrel;clear hrel
    go_wp2_with fail
    go_ret2
    obtain rfl:k=n:=by omega
    have hh:=BI.out
    rw[List.drop_of_length_le (by have:=hl.out;omega)] at hh
    refine⟨_,_,_,by rw[hh];rfl,?_,AA⟩
    rw[hh]
    exact ho
 ·have hn':decide (40<n)=true:=by simp;omega
  go_enter Tryz.func105,Tryz.ntmps105
  go_wp2_with (go_at_call 149;refine (Yp _).mono ?_;rintro E w1 ⟨A,rfl,hr,hb⟩;obtain⟨hc,hf,hz⟩:=xy hb)
  go_ret2
  have hh:Sw.Bq xs=none:=by rw[Sw.Bq,if_neg (by have:=hl.out;omega)]
  refine⟨_,_,_,by rw[hh];rfl,?_,AA⟩
  rw[hh]
  (refine PX)
theorem Qy (l:List Int):Sw.BK (Sw.JH l)=true:=by
 rw[MI];unfold Sw.JH
 exact⟨Int.emod_nonneg _ (by omega),by have:=Int.emod_lt_of_pos (Sw.Gl 7 l*31+l.length) (show (0:Int)<65521 by omega);omega⟩
theorem Vi (t:Int) (r:Sw.Row):Sw.BK (Sw.FM t r)=true:=by
 unfold Sw.FM
 split
 ·exact Qy _
 ·rfl
theorem M0:∀ (rows:List Sw.Row) (t:Int),(Sw.D6 t rows).all Sw.BK=true
 | [],_=>rfl
 | r::rs,t=>by simp only[Sw.D6,List.all_cons,Vi,M0 rs,Bool.and_self]
theorem OZ (rows:List Sw.Row):(Sw.C_ rows).all Sw.BK=true:=M0 rows 0
theorem O3 (es:List Sw.FC):(es.map Sw.EF).all Sw.BK=true:=by
 rw[List.all_map,List.all_eq_true];exact fun e _=>Qy _
theorem VW (A:Option Addr) (c n:Nat) (xs:List Sw.Row) (w:World) (hxs:RR w 0 A c n xs):Calls Tryz.prog 168 #[.slice A n c] w fun E w'=>E=.returned (.int .i64 (Sw.ownRoot xs))∧Ex w w':=by
 have hl:=Lib.hid hxs.1
 by_cases hok:Sw.EH xs=true
 ·have hn:n=8:=by have:=hl.out;simp[Sw.EH] at hok;omega
  subst hn
  go_enter Tryz.func168,Tryz.ntmps168
  go_wp2_with (first|(go_at_call 181;apply Calls.mono;apply FL;(exact Co);rintro E w1 ⟨rfl,hb⟩;obtain⟨hc,hf,hz⟩:=xy hb)|(go_at_call 183;apply Calls.mono;apply R8;(first|assumption|(exact Co)|omega);omega;rintro E w1 ⟨A1,c1,rfl,ho1,hb1⟩)|(go_at_call 166;apply Calls.mono;apply (LF 8);omega;(apply Ow.Es ho1;exact KF.refl _ _);omega;exact OZ _;rintro E w2 ⟨rfl,hb2⟩))
  go_ret
  exact⟨Cv (by simp[Sw.ownRoot,hok]),AA⟩
 ·have hok':Sw.EH xs=false:=by simpa using hok
  go_enter Tryz.func168,Tryz.ntmps168
  go_wp2_with (go_at_call 181;apply Calls.mono;apply FL;(exact Co);rintro E w1 ⟨rfl,hb⟩;obtain⟨hc,hf,hz⟩:=xy hb)
  go_ret
  exact⟨Cv (by simp[Sw.ownRoot,hok']),AA⟩
theorem Qq (A:Option Addr) (c n:Nat) (xs:List Sw.FC) (w:World) (hxs:RE w 0 A c n xs):Calls Tryz.prog 134 #[.slice A n c] w fun E w'=>E=.returned (.tuple #[.agg #[.int .i64 ((Sw.Cw xs).getD Sw.DX).size,.int .i64 ((Sw.Cw xs).getD Sw.DX).log,.int .i64 ((Sw.Cw xs).getD Sw.DX).own],.bool (Sw.Cw xs).isSome])∧Ex w w':=by
 have hl:=Lib.hid hxs.1
 cases hf:Sw.Bq xs with
 | none=>
  have hh:Sw.Cw xs=none:=by simp[Sw.Cw,hf]
  have hs:(Sw.Bq xs).isSome=false:=by simp[hf]
  have Hf:=Lib.hid hf;have HH:=Lib.hid hh;clear hf hh
  go_enter Tryz.func134,Tryz.ntmps134
  go_wp2_with (go_at_call 105;apply Calls.mono;apply EO;(exact Co);rintro E w1 ⟨A',c',n',rfl,hr,hb⟩;obtain⟨hc,hf,hz⟩:=xy hb)
  refine bodyPost_ret (v:=.tuple #[.agg #[.int .i64 0,.int .i64 0,.int .i64 0],.bool false]) (by simp[results,Tryz.results134,go_sem, *]) rfl ?_
  exact⟨by rw[HH.out];rfl,AA⟩
 | some rows=>
  have h8:=UE hf
  have hn:n≤40:=by
   have:=hl.out
   unfold Sw.Bq at hf
   split at hf
   ·omega
   ·cases hf
  have hh:Sw.Cw xs=some ⟨xs.length,Sw.root (xs.map Sw.EF),Sw.ownRoot rows⟩:=by simp[Sw.Cw,hf]
  have hs:(Sw.Bq xs).isSome=true:=by simp[hf]
  have hg:(Sw.Bq xs).getD []=rows:=by simp[hf]
  have Hf:=Lib.hid hf;have HH:=Lib.hid hh;have H8:=Lib.hid h8;have HG:=Lib.hid hg;clear hf hh h8 hg
  go_enter Tryz.func134,Tryz.ntmps134
  go_wp2_with (first|(go_at_call 105;apply Calls.mono;apply EO;(first|assumption|(exact Co)|omega);rintro E w1 ⟨A1,c1,n1,rfl,ho1,hb⟩;rw[HG.out] at ho1;have hst:=Ex.rules hb rfl;(try simp only[World.size_alloc,World.size_setCell,World.size_drew] at hst);obtain⟨hc,hf,hz⟩:=hst)|(go_at_call 167;apply Calls.mono;apply OW;(first|assumption|(exact Co)|omega);omega;rintro E w2 ⟨A2,c2,rfl,ho2,hb2⟩;have hst:=Ex.rules hb2 rfl;obtain⟨hc2,hf2,hz2⟩:=hst)|(go_at_call 166;apply Calls.mono;apply (LF 40);omega;(apply Ow.Es ho2;exact KF.refl _ _);omega;exact O3 _;rintro E w3 ⟨rfl,hb3⟩;have hst:=Ex.rules hb3 rfl;obtain⟨hc3,hf3,hz3⟩:=hst)|(go_at_call 168;apply Calls.mono;apply VW;(apply Ow.Es ho1;(exact AO));rintro E w4 ⟨rfl,hb4⟩;have hst:=Ex.rules hb4 rfl;obtain⟨hc4,rY,g_⟩:=hst))
  refine bodyPost_ret (v:=.tuple #[.agg #[.int .i64 n,.int .i64 (Sw.root (xs.map Sw.EF)),.int .i64 (Sw.ownRoot rows)],.bool true]) (by simp[results,Tryz.results134,go_sem, *]) rfl ?_
  exact⟨by rw[HH.out,← hl.out];rfl,AA⟩
set_option maxHeartbeats 400000
theorem Uw {N:Nat} {l:List Int} {m:Nat} {k:Bool} (h:m≠l.length) (hN:l.length≤N+1):Sw.grow (N+1) l m k =
  if m≤Sw.split l.length then Sw.grow N (l.take (Sw.split l.length)) m k ++ [Sw.root (l.drop (Sw.split l.length))]
  else Sw.grow N (l.drop (Sw.split l.length)) (m-Sw.split l.length) false ++ [Sw.root (l.take (Sw.split l.length))]:=by
 rw[Sw.grow,if_neg h]
theorem bf (N:Nat) (A:Option Addr) (c n m:Nat) (kn:Bool) (xs:List Int) (w:World) (hN:n≤N) (wV:N≤40) (hxs:RI w 0 A c n xs) (QF:n≤40) (hok:xs.all Sw.BK=true) (hm:1≤m) (hmn:m≤n):Calls Tryz.prog 205 #[.slice A n c,.int .i64 m,.bool kn] w fun E w'=>∃ A' c' n',E=.returned (.slice A' n' c')∧Ga w' w.heap.size A' c' n' (Sw.grow N xs m kn)∧n'≤N∧Ex w w':=by
 induction N generalizing A c n m kn xs w with
 | zero=>omega
 | succ N ih=>
  have hl:=Lib.hid hxs.1
  have hcap:=hxs.2.le
  by_cases jM:m=n
  ·subst jM
   have hg:Sw.grow (N+1) xs m kn=if kn=true then [] else [Sw.root xs]:=by rw[Sw.grow,if_pos hl.out]
   have Hg:=Lib.hid hg;clear hg
   cases kn with
   | true=>
    go_enter Tryz.func205,Tryz.ntmps205
    go_wp2_with fail
    go_ret
    refine⟨_,_,_,rfl,?_,Nat.zero_le _,AA⟩
    rw[Hg.out]
    (refine PX)
   | false=>
    go_enter Tryz.func205,Tryz.ntmps205
    go_wp2_with (go_at_call 166;apply Calls.mono;apply (LF 40);omega;(exact Co);omega;exact hok;rintro E w1 ⟨rfl,hb⟩)
    go_ret
    refine⟨_,_,_,rfl,?_,by omega,AA⟩
    rw[Hg.out]
    have hz:=hb.size
    simp only[Bool.false_eq_true,if_false]
    (refine Ow.new [Sw.root xs] (by (first|rfl|(simp only[BO];done)|omega)) rfl rfl (fun _=>rfl) (by exact Aq) (by omega))
  ·have h2:2≤n:=by omega
   have hs1:=Sw.FJ h2
   have hs0:=Sw.EL n
   have hg:=Uw (N:=N) (l:=xs) (m:=m) (k:=kn) (by have:=hl.out;omega) (by have:=hl.out;omega)
   rw[← hl.out] at hg
   have Hg:=Lib.hid hg
   clear hg
   have hmb:((m:Int)==n)=false:=by simp;omega
   have z3:¬(c=Sw.split n):=by omega
   have z0:(0:Int)≤↑(Sw.split n):=by omega
   have z1:(↑(Sw.split n):Int)≤↑n:=by omega
   have z2:(↑(Sw.split n):Int)≤↑c:=by omega
   by_cases hms:m≤Sw.split n
   ·go_enter Tryz.func205,Tryz.ntmps205
    go_wp2_with (go_at_call 192;apply Calls.mono;apply FK;(exact Bu);(exact Bu);rintro E w' ⟨rfl,rfl⟩)
    (refine CF fun W0 hb0 hc0 hf0 hz0=>?_;go_region_held3 (fun w'=>Held W0 w') ((exact FU)) ((first|(go_at_call 205;apply Calls.mono;apply ih;omega;omega;(apply Rs.A8;apply E8 hxs;omega;(exact AO));omega;exact List.Dr hok;omega;omega;rintro E w1 ⟨A3,c3,n3,rfl,ho3,jJ,hb⟩;obtain⟨hc,hf,hz⟩:=xy hb)|(go_at_call 166;apply Calls.mono;apply (LF 40);omega;(apply Rs.A8;apply Iw hxs;omega;(exact AO));omega;exact List.Ey hok;rintro E w1 ⟨rfl,hb⟩;obtain⟨hc,hf,hz⟩:=xy hb)|(apply BM FO Dz rfl rfl rfl rfl;(exact Iy);(first|(refine Rs.new [Sw.root (xs.drop (Sw.split n))] (by (first|rfl|(simp only[BO];done)|omega)) rfl rfl (fun _=>rfl) (by omega)));omega;exact Aq;intro A1 c1 w2 ho1 Ap Bo Ay Ah;have hbx:=Ay (fun _=>False) W0 (And.right (by assumption:Held W0 _)) (by exact Aq);clear Ay Ah)));all_goals (obtain⟨hb,hc,hf,hz⟩:=xh (by assumption:Held W0 _)))
    go_wp2
    go_ret
    refine⟨_,_,_,rfl,?_,by omega,AA⟩
    rw[Hg.out,if_pos hms]
    exact ho1.less (by exact Aq)
   ·have y0:IntKind.i64.wrap ((m:Int)-↑(Sw.split n))=((m-Sw.split n:Nat):Int):=by rw[IntWalk.i64_in _ (by omega)];omega
    go_enter Tryz.func205,Tryz.ntmps205
    go_wp2_with (go_at_call 192;apply Calls.mono;apply FK;(exact Bu);(exact Bu);rintro E w' ⟨rfl,rfl⟩)
    (refine CF fun W0 hb0 hc0 hf0 hz0=>?_;go_region_held3 (fun w'=>Held W0 w') ((exact FU)) ((first|(go_at_call 205;apply Calls.mono;apply ih;omega;omega;(apply Rs.A8;apply Iw hxs;omega;(exact AO));omega;exact List.Ey hok;omega;omega;rintro E w1 ⟨A3,c3,n3,rfl,ho3,jJ,hb⟩;obtain⟨hc,hf,hz⟩:=xy hb)|(go_at_call 166;apply Calls.mono;apply (LF 40);omega;(apply Rs.A8;apply E8 hxs;omega;(exact AO));omega;exact List.Dr hok;rintro E w1 ⟨rfl,hb⟩;obtain⟨hc,hf,hz⟩:=xy hb)|(apply BM FO Dz rfl rfl rfl rfl;(exact Iy);(first|(refine Rs.new [Sw.root (xs.take (Sw.split n))] (by (first|rfl|(simp only[BO];done)|omega)) rfl rfl (fun _=>rfl) (by omega)));omega;exact Aq;intro A1 c1 w2 ho1 Ap Bo Ay Ah;have hbx:=Ay (fun _=>False) W0 (And.right (by assumption:Held W0 _)) (by exact Aq);clear Ay Ah)));all_goals (obtain⟨hb,hc,hf,hz⟩:=xh (by assumption:Held W0 _)))
    go_wp2
    go_ret
    refine⟨_,_,_,rfl,?_,by omega,AA⟩
    rw[Hg.out,if_neg hms]
    exact ho1.less (by exact Aq)
theorem TN:∀ (N M:Nat) (xs:List Int) (m:Nat) (kn:Bool),xs.length≤N→xs.length≤M→1≤m→m≤xs.length→Sw.grow N xs m kn=Sw.grow M xs m kn
 | 0,_,xs,m,kn,h1,h2,h3,h4=>by omega
 | _+1,0,xs,m,kn,h1,h2,h3,h4=>by omega
 | N+1,M+1,xs,m,kn,h1,h2,h3,h4=>by
  rw[Sw.grow,Sw.grow]
  by_cases e:m=xs.length
  ·rw[if_pos e,if_pos e]
  ·have l2:2≤xs.length:=by omega
   have s1:=Sw.FJ l2
   have s0:=Sw.EL xs.length
   rw[if_neg e,if_neg e]
   by_cases g:m≤Sw.split xs.length
   ·rw[if_pos g,if_pos g,TN N M _ m kn (by rw[List.length_take];omega) (by rw[List.length_take];omega) h3 (by rw[List.length_take];omega)]
   ·rw[if_neg g,if_neg g,TN N M _ (m-Sw.split xs.length) false (by rw[List.length_drop];omega) (by rw[List.length_drop];omega) (by omega) (by rw[List.length_drop];omega)]
theorem Tv (A:Option Addr) (c n:Nat) (m:Int) (xs:List Int) (w:World) (hxs:RI w 0 A c n xs):Calls Tryz.prog 176 #[.slice A n c,.int .i64 m] w fun E w'=>∃ A' c' n',E=.returned (.slice A' n' c')∧Ga w' w.heap.size A' c' n' (Sw.Dx xs m)∧Ex w w':=by
 have hl:=Lib.hid hxs.1
 have hcap:=hxs.2.le
 have hbig:n≤9223372036854775807:=by have:=hxs.2.cap;unfold maxLen at this;omega
 by_cases h1:Sw.DW xs=true
 ·have QF:n≤40:=by have:=hl.out;simp[Sw.DW] at h1;omega
  have hall:xs.all Sw.BK=true:=by simp only[Sw.DW,Bool.and_eq_true] at h1;exact h1.2
  by_cases h2:Sw.Br m 1 n=true
  ·have hm:1≤m∧m≤n:=by simpa [Sw.Br] using h2
   obtain⟨k,rfl⟩:=Int.eq_ofNat_of_zero_le (show 0≤m by omega)
   have e:Sw.Dx xs k=Sw.grow 40 xs k true:=by
    rw[Sw.Dx,if_pos (by rw[h1,← hl.out,h2];rfl)]
    exact TN _ _ _ _ _ (Nat.le_refl _) (by have:=hl.out;omega) (by omega) (by have:=hl.out;omega)
   rw[e]
   clear e
   go_enter Tryz.func176,Tryz.ntmps176
   go_wp2_with (first|(go_at_call 50;apply Calls.mono;apply Ig;(exact Co);rintro E w' ⟨rfl,rfl⟩)|(go_at_call 48;refine (Aw _ _ _ _).mono ?_;rintro E w' ⟨rfl,rfl⟩)|(go_at_call 205;apply Calls.mono;apply (bf 40);omega;omega;(exact Co);omega;exact hall;omega;omega;rintro E w1 ⟨A1,c1,n1,rfl,ho1,hn1,hb⟩))
   go_ret
   exact⟨_,_,_,rfl,ho1,AA⟩
  ·have h2':Sw.Br m 1 n=false:=by simpa using h2
   have e:Sw.Dx xs m=[]:=by rw[Sw.Dx,if_neg (by rw[← hl.out,h2'];simp)]
   rw[e]
   go_enter Tryz.func176,Tryz.ntmps176
   go_wp2_with (first|(go_at_call 50;apply Calls.mono;apply Ig;(exact Co);rintro E w' ⟨rfl,rfl⟩)|(go_at_call 48;refine (Aw _ _ _ _).mono ?_;rintro E w' ⟨rfl,rfl⟩))
   go_ret
   refine⟨_,_,_,rfl,?_,AA⟩
   (refine PX)
 ·have h1':Sw.DW xs=false:=by simpa using h1
  have e:Sw.Dx xs m=[]:=by rw[Sw.Dx,if_neg (by rw[h1'];simp)]
  rw[e]
  go_enter Tryz.func176,Tryz.ntmps176
  go_wp2_with (first|(go_at_call 50;apply Calls.mono;apply Ig;(exact Co);rintro E w' ⟨rfl,rfl⟩)|(go_at_call 48;refine (Aw _ _ _ _).mono ?_;rintro E w' ⟨rfl,rfl⟩))
  go_ret
  refine⟨_,_,_,rfl,?_,AA⟩
  (refine PX)
theorem Tu (A:Option Addr) (c n:Nat) (m:Int) (xs:List Sw.FC) (w:World) (hxs:RE w 0 A c n xs):Calls Tryz.prog 145 #[.slice A n c,.int .i64 m] w fun E w'=>∃ A' c' n',E=.returned (.slice A' n' c')∧Ga w' w.heap.size A' c' n' (Sw.Dn xs m)∧Ex w w':=by
 have hl:=Lib.hid hxs.1
 have hcap:=hxs.2.le
 have hbig:n≤9223372036854775807:=by have:=hxs.2.cap;unfold maxLen at this;omega
 by_cases h2:Sw.Br m 1 n=true
 ·by_cases QF:n≤40
  ·have je:decide (40<n)=false:=by simp;omega
   have e:Sw.Dn xs m=Sw.Dx (xs.map Sw.EF) m:=by rw[Sw.Dn,if_pos (by simp;have:=hl.out;omega)]
   rw[e];clear e
   go_enter Tryz.func145,Tryz.ntmps145
   go_wp2_with (first|(go_at_call 48;refine (Aw _ _ _ _).mono ?_;rintro E w' ⟨rfl,rfl⟩)|(go_at_call 167;apply Calls.mono;apply OW;(first|assumption|(exact Co)|omega);omega;rintro E w1 ⟨A1,c1,rfl,ho1,hb⟩;obtain⟨hc,hf,hz⟩:=xy hb)|(go_at_call 176;apply Calls.mono;apply Tv;(exact Co);rintro E w2 ⟨A2,c2,n2,rfl,ho2,hb⟩;obtain⟨hc,hf,hz⟩:=xy hb))
   go_ret
   exact⟨_,_,_,rfl,ho2.less (by omega),AA⟩
  ·have je:decide (40<n)=true:=by simp;omega
   have e:Sw.Dn xs m=[]:=by rw[Sw.Dn,if_neg (by simp;have:=hl.out;omega)]
   rw[e]
   go_enter Tryz.func145,Tryz.ntmps145
   go_wp2_with (go_at_call 48;refine (Aw _ _ _ _).mono ?_;rintro E w' ⟨rfl,rfl⟩)
   go_ret
   refine⟨_,_,_,rfl,?_,AA⟩
   (refine PX)
 ·have h2':Sw.Br m 1 n=false:=by simpa using h2
  have e:Sw.Dn xs m=[]:=by
   rw[Sw.Dn]
   split
   ·rw[Sw.Dx,if_neg (by rw[List.length_map,← hl.out,h2'];simp)]
   ·rfl
  rw[e]
  go_enter Tryz.func145,Tryz.ntmps145
  go_wp2_with (go_at_call 48;refine (Aw _ _ _ _).mono ?_;rintro E w' ⟨rfl,rfl⟩)
  go_ret
  refine⟨_,_,_,rfl,?_,AA⟩
  (refine PX)
end Go.Proofs.YtgaflnpmilikcaaGreat
namespace Go.Proofs.YtgaflnpmilikcaaGreat
open Go.RowKit Go
theorem IZ:G9 Tryz.prog 25 71 5 40:=.mk' (z:=.agg #[.int .i64 0,.int .i64 0,.int .i64 0,.int .i64 0,.int .i64 0]) Tryz.underlying25 (by kernel_rfl) rfl (by omega)
theorem Wj:G9 Tryz.prog 28 88 6 48:=.mk' (z:=.agg #[.int .i64 0,.int .i64 0,.int .i64 0,.int .i64 0,.int .i64 0,.int .i64 0]) Tryz.underlying28 (by kernel_rfl) rfl (by omega)
theorem YM:G9 Tryz.prog 29 52 4 48:=.mk' (z:=.agg #[.int .i64 0,.int .i64 0,.int .i64 0,.slice none 0 0]) Tryz.underlying29 (by kernel_rfl) rfl (by omega)
theorem Pv:G9 Tryz.prog 30 54 5 56:=.mk' (z:=.agg #[.int .i64 0,.int .i64 0,.int .i64 0,.int .i64 0,.slice none 0 0]) Tryz.underlying30 (by kernel_rfl) rfl (by omega)
theorem FX (x:Sw.BC):∀ u∈x.enc,u.oneCell'=true:=by simp[Sw.BC.enc,Value.oneCell']
theorem Qv (x:Sw.Ee):∀ u∈x.enc,u.oneCell'=true:=by simp[Sw.Ee.enc,Value.oneCell']
theorem SB (x:GV):∀ u∈x.enc,u.oneCell'=true:=by simp[GV.enc,Value.oneCell']
theorem Kq (x:XV):∀ u∈x.enc,u.oneCell'=true:=by simp[XV.enc,Value.oneCell']
abbrev Pw:=Ow Sw.BC.enc 5 71
abbrev xP:=Ow Sw.Ee.enc 6 88
abbrev Z_:=Ow GV.enc 4 52
abbrev MZ:=Ow XV.enc 5 54
def Sw.ABr:Sw.FC:=⟨0,0,0,0⟩
def GV.zero:GV:=⟨Sw.DX,none,0,0⟩
def XV.zero:XV:=⟨0,Sw.DX,none,0,0⟩
def setMany:List Value→Nat→List Value→List Value
 | cs,_,[]=>cs
 | cs,i,v::vs=>setMany (cs.set i v) (i+1) vs
def setCells:World→Nat→Nat→List Value→World
 | w,_,_,[]=>w
 | w,g,i,v::vs=>setCells (w.setCell ⟨g,i,none⟩ v) g (i+1) vs
theorem NG:∀ (vs cs:List Value) (i:Nat),i+vs.length≤cs.length→setMany cs i vs=cs.take i ++ vs ++ cs.drop (i+vs.length)
 | [],cs,i,h=>by simp[setMany]
 | v::vs,cs,i,h=>by
  rw[List.length_cons] at h
  rw[setMany,NG vs (cs.set i v) (i+1) (by rw[List.length_set];omega),List.take_add_one,List.getElem?_set]
  rw[if_pos rfl,if_pos (by omega),List.take_set_of_le (Nat.le_refl _),List.drop_set_of_lt (by omega),List.length_cons]
  simp only[Option.toList_some,List.append_assoc,List.singleton_append]
  rw[show i+1+vs.length=i+(vs.length+1) from by omega]
section
variable {α:Type} {enc:α→List Value} {sz:Nat} {e:TypeId} {w w':World} {lo lo' c n:Nat} {A:Option Addr} {xs:List α}
theorem Rc (hsz:∀ x,(enc x).length=sz):∀ xs:List α,(xs.flatMap enc).length=xs.length*sz:=by
 intro xs
 induction xs with
 | nil=>simp
 | cons x xs ih=>simp only[List.flatMap_cons,List.length_append,hsz,ih,List.length_cons,Nat.succ_mul];omega
theorem U7 (hsz:∀ x,(enc x).length=sz) (P:List α) (x y:α) (Q:List α) :
  ((P ++ x::Q).set P.length y).flatMap enc=((P ++ x::Q).flatMap enc).take (P.length*sz) ++ enc y ++ ((P ++ x::Q).flatMap enc).drop (P.length*sz+sz):=by
 have hf:(P.flatMap enc).length=P.length*sz:=Rc hsz P
 rw[List.set_append_right _ _ (Nat.le_refl _),Nat.sub_self,List.set_cons_zero]
 simp only[List.flatMap_append,List.flatMap_cons]
 rw[List.take_append_of_le_length (by omega),List.take_of_length_le (by omega),List.drop_append,List.drop_of_length_le (by omega),hf,List.nil_append]
 rw[show P.length*sz+sz-P.length*sz=sz from by omega,List.drop_append,hsz,Nat.sub_self,List.drop_zero,List.drop_of_length_le (by rw[hsz];omega),List.nil_append,List.append_assoc]
theorem Wh (hsz:∀ x,(enc x).length=sz) (xs:List α) {k:Nat} (hk:k<xs.length) (y:α):(xs.set k y).flatMap enc=(xs.flatMap enc).take (k*sz) ++ enc y ++ (xs.flatMap enc).drop (k*sz+sz):=by
 have e:xs.take k ++ xs[k]::xs.drop (k+1)=xs:=by rw[← List.drop_eq_getElem_cons hk,List.take_append_drop]
 have hl:(xs.take k).length=k:=by rw[List.length_take];omega
 have:=U7 hsz (xs.take k) xs[k] y (xs.drop (k+1))
 rw[e,hl] at this
 exact this
theorem UB {cs:List Value} {g i m:Nat} {u:Value} (h:w.ownsRow lo e sz (.slice (some ⟨g,0,none⟩) n c) m cs) (hi:i<cs.length) :
  (w.setCell ⟨g,i,none⟩ u).ownsRow lo e sz (.slice (some ⟨g,0,none⟩) n c) m (cs.set i u):=by
 refine⟨by rw[List.length_set];exact h.1,?_⟩
 rcases h.2 with⟨hv,h0⟩ | ⟨g',cap,cur,hv,hb,hh,hn,hm,hs,ht⟩
 ·injection hv with h1;cases h1
 ·injection hv with h1 h2 h3
  injection h1 with h1;injection h1 with h1
  subst h1 h2 h3
  refine .inr ⟨g,c,cur.setIfInBounds i u,rfl,hb,?_,hn,hm,by simpa using hs,?_⟩
  ·simp[World.setCell,Array.getElem?_modify,hh]
  ·rw[Array.toList_setIfInBounds,List.take_set,ht]
theorem LG:∀ (vs cs:List Value) (w:World) {g i m:Nat},w.ownsRow lo e sz (.slice (some ⟨g,0,none⟩) n c) m cs→i+vs.length≤cs.length →
  (setCells w g i vs).ownsRow lo e sz (.slice (some ⟨g,0,none⟩) n c) m (setMany cs i vs)
 | [],cs,w,g,i,m,h,_=>h
 | v::vs,cs,w,g,i,m,h,hi=>by
  rw[List.length_cons] at hi
  exact LG vs (cs.set i v) _ (UB h (by omega)) (by rw[List.length_set];omega)
theorem Ow.put (h:Ow enc sz e w lo A c n xs) (hsz:∀ x,(enc x).length=sz) {g k:Nat} (y:α) (hA:A=some ⟨g,0,none⟩) (hk:k<n):Ow enc sz e (setCells w g (k*sz) (enc y)) lo A c n (xs.set k y):=by
 subst hA
 have hk':k<xs.length:=by rw[← h.1];exact hk
 have hle:k*sz+(enc y).length≤(xs.flatMap enc).length:=by
  rw[hsz,Rc hsz]
  calc k*sz+sz=(k+1)*sz:=(Nat.succ_mul k sz).symm
   _≤xs.length*sz:=Nat.mul_le_mul_right _ hk'
 have:=LG (enc y) (xs.flatMap enc) w h.2 hle
 rw[NG _ _ _ hle,hsz,← Wh hsz xs hk' y] at this
 exact⟨by rw[List.length_set];exact h.1,this⟩
end
theorem Ow.lb {α:Type} {enc:α→List Value} {sz:Nat} {e:TypeId} {w:World} {lo c n g:Nat} {A:Option Addr} {xs:List α} (h:Ow enc sz e w lo A c n xs) (hA:A=some ⟨g,0,none⟩):Lb w g (c*sz):=by
 rcases h.form with⟨h1,_⟩ | ⟨g',cur,h1,h2,h3,h4,h5,h6,h7,h8⟩
 ·rw[h1] at hA;cases hA
 ·rw[h1] at hA;cases hA;exact⟨cur,e,h4,h7⟩
structure CK {α:Type} (enc:α→List Value) (sz:Nat) (e:TypeId) (τ:Nat→Nat) (t:Nat) (w:World) (lo:Nat) (A:Option Addr) (c n:Nat) (xs:List α):Prop where
 ow:Ow enc sz e w lo A c n xs
 tag:∀ a,A=some a→τ a.block=t
structure KT (τ:Nat→Nat) (t lo:Nat) (w w':World):Prop where
 size:w.heap.size≤w'.heap.size
 block:∀ b,lo≤b→b<w.heap.size→τ b=t→w'.heap[b]?=w.heap[b]?
theorem KT.refl (τ:Nat→Nat) (t lo:Nat) (w:World):KT τ t lo w w:=⟨Nat.le_refl _,fun _ _ _ _=>rfl⟩
theorem KT.of {τ:Nat→Nat} {t lo:Nat} {w w':World} (h:KF lo w w'):KT τ t lo w w':=⟨h.size,fun b h1 h2 _=>h.block b h1 h2⟩
section
variable {τ:Nat→Nat} {t lo:Nat} {a w w':World}
theorem KT.alloc {o:Obj} (h:KT τ t lo a w):KT τ t lo a (w.alloc o):=
 ⟨by simp;have:=h.size;omega,fun i hl hi ht=>(Below.heap_alloc _ _ _ (Nat.lt_of_lt_of_le hi h.size)).trans (h.block i hl hi ht)⟩
theorem KT.drew (h:KT τ t lo a w):KT τ t lo a w.drew:=⟨h.size,h.block⟩
theorem KT.drewN {n:Nat} (h:KT τ t lo a w):KT τ t lo a (w.drewN n):=⟨h.size,h.block⟩
theorem KT.setCell {p:Addr} {u:Value} (h:KT τ t lo a w) (hp:a.heap.size≤p.block∨τ p.block≠t):KT τ t lo a (w.setCell p u):=
 ⟨by simpa [World.setCell] using h.size,fun i hl hi ht=>(Below.heap_setCell _ _ _ _ (by rintro rfl;rcases hp with hp|hp <;> first|omega|exact hp ht)).trans (h.block i hl hi ht)⟩
theorem KT.ch {S:Nat→Prop} (hb:Ch S w w') (h:KT τ t lo a w) (hS:∀ i,S i→a.heap.size≤i∨τ i≠t):KT τ t lo a w':=
 ⟨Nat.le_trans h.size hb.size,fun i hl hi ht=>(hb.block i (Nat.lt_of_lt_of_le hi h.size) (fun hs=>by rcases hS i hs with h1|h1 <;> first|omega|exact h1 ht)).trans (h.block i hl hi ht)⟩
theorem KT.ex (hb:Ex w w') (h:KT τ t lo a w):KT τ t lo a w':=h.ch hb (fun _ h=>h.elim)
end
def glue (τ:Nat→Nat) (n:Nat) (τ':Nat→Nat):Nat→Nat:=fun b=>if b<n then τ b else τ' b
section
variable {α:Type} {enc:α→List Value} {sz:Nat} {e:TypeId} {τ τ':Nat→Nat} {t:Nat} {w w':World} {lo lo' c n:Nat} {A:Option Addr} {xs:List α}
theorem CK.keep (h:CK enc sz e τ t w lo A c n xs) (hk:KT τ t lo w w'):CK enc sz e τ t w' lo A c n xs:=
 ⟨h.ow.Hw fun a ha=>hk.block _ (h.ow.blk ha).1 (h.ow.blk ha).2 (h.tag a ha),h.tag⟩
theorem CK.less (h:CK enc sz e τ t w lo A c n xs) (hl:lo'≤lo):CK enc sz e τ t w lo' A c n xs:=⟨h.ow.less hl,h.tag⟩
theorem CK.retag (h:CK enc sz e τ t w lo A c n xs) (ht:∀ b,b<w.heap.size→τ' b=τ b):CK enc sz e τ' t w lo A c n xs:=
 ⟨h.ow,fun a ha=>(ht _ (h.ow.blk ha).2).trans (h.tag a ha)⟩
theorem CK.fresh (h:Ow enc sz e w lo A c n xs) (ht:∀ b,lo≤b→b<w.heap.size→τ b=t):CK enc sz e τ t w lo A c n xs:=
 ⟨h,fun a ha=>ht _ (h.blk ha).1 (h.blk ha).2⟩
theorem CK.nil (τ:Nat→Nat) (t:Nat) (w:World) (lo:Nat):CK enc sz e τ t w lo none 0 0 []:=⟨Ow.nil w lo,fun _ h=>by cases h⟩
theorem CK.CX {k:Nat} (h:CK enc sz e τ t w lo A c n xs) (hk:w.heap.size≤k):CK enc sz e (glue τ k τ') t w lo A c n xs:=h.retag fun b hb=>if_pos (by omega)
theorem CK.EM {k:Nat} (h:CK enc sz e τ t w lo A c n xs) (hk:k≤lo):CK enc sz e (glue τ' k τ) t w lo A c n xs:=
 ⟨h.ow,fun a ha=>by have:=(h.ow.blk ha).1;unfold glue;rw[if_neg (by omega)];exact h.tag a ha⟩
theorem CK.rs (h:CK enc sz e τ t w lo A c n xs):Rs enc sz w lo A c n xs:=h.ow.rs
end
abbrev qj:=CK Sw.FC.enc 4 140
abbrev JY:=CK encI 1 3
abbrev ql:=CK Sw.BC.enc 5 71
abbrev TT:=CK Sw.Ee.enc 6 88
abbrev ku:=CK GV.enc 4 52
abbrev TS:=CK XV.enc 5 54
structure Cn (τ:Nat→Nat) (w:World) (lo:Nat) (aL:Option Addr) (Ae AU:Nat) (aP:Option Addr) (Ag AY:Nat) (aD:Option Addr) (Ac AQ:Nat) (aN:Option Addr) (Ad Aa:Nat) (aS:Option Addr) (Af Ab:Nat) (m:Sw.CV):Prop where
 log:qj τ 1 w lo aL Ae AU m.log
 Ai:JY τ 2 w lo aP Ag AY m.Ai
 AJ:ql τ 3 w lo aD Ac AQ m.AJ
 nums:JY τ 4 w lo aN Ad Aa m.nums
 said:JY τ 5 w lo aS Af Ab m.said
structure Kj (fd:Nat→Nat) (τ:Nat→Nat) (w:World) (lo:Nat) (A:Option Addr) (c n:Nat) (gs:List Sw.Gate):Prop where
 ex:∃ vs:List GV,ku τ 8 w lo A c n vs∧n=gs.length∧∀ (k:Nat) (v:GV) (g:Sw.Gate),vs[k]?=some v→gs[k]?=some g→v.h=g.head∧JY τ (fd k) w lo v.A v.c v.n g.done
structure KH (fp:Nat→Nat) (τ:Nat→Nat) (w:World) (lo:Nat) (A:Option Addr) (c n:Nat) (xs:List Sw.IX):Prop where
 ex:∃ vs:List XV,TS τ 9 w lo A c n vs∧n=xs.length∧∀ (k:Nat) (v:XV) (x:Sw.IX),vs[k]?=some v→xs[k]?=some x→v.g=x.gate∧v.h=x.head∧JY τ (fp k) w lo v.A v.c v.n x.proof
structure Eh (fd fp:Nat→Nat) (τ:Nat→Nat) (w:World) (lo:Nat) (aF:Option Addr) (BD A_:Nat) (aL:Option Addr) (Ae AU:Nat) (aP:Option Addr) (Ag AY:Nat) (aD:Option Addr) (Ac AQ:Nat) (aN:Option Addr) (Ad Aa:Nat) (aS:Option Addr) (Af Ab:Nat) (aI:Option Addr) (BF A7:Nat) (aG:Option Addr) (BA Az:Nat) (aB:Option Addr) (aBc Ao:Nat) (x:Sw.World):Prop where
 first:JY τ 6 w lo aF BD A_ x.first
 Dt:Cn τ w lo aL Ae AU aP Ag AY aD Ac AQ aN Ad Aa aS Af Ab x.AB
 lines:TT τ 7 w lo aI BF A7 x.lines
 AV:Kj fd τ w lo aG BA Az x.AV
 BS:KH fp τ w lo aB aBc Ao x.BS
def Jk (k:Nat):Nat:=20+2*k
def I4 (k:Nat):Nat:=21+2*k
def OM (_:Nat):Nat:=10
def Oi (_:Nat):Nat:=11
section
variable {fd fp τ τ':Nat→Nat} {w w':World} {lo lo' c n k:Nat} {A:Option Addr}
theorem Cn.rm {aL aP aD aN aS:Option Addr} {Ae AU Ag AY Ac AQ Ad Aa Af Ab:Nat} {m:Sw.CV} (h:Cn τ w lo aL Ae AU aP Ag AY aD Ac AQ aN Ad Aa aS Af Ab m):RM w lo aL Ae AU aP Ag AY aD Ac AQ aN Ad Aa aS Af Ab m:=⟨h.1.rs,h.2.rs,h.3.rs,h.4.rs,h.5.rs⟩
theorem Kj.rg {gs:List Sw.Gate} (h:Kj fd τ w lo A c n gs):RG w lo A c n gs:=by
 obtain⟨vs,h1,h2,h3⟩:=h.ex
 exact⟨vs,h1.rs,h2,fun k v g hv hg=>⟨(h3 k v g hv hg).1,(h3 k v g hv hg).2.rs⟩⟩
theorem KH.rx {xs:List Sw.IX} (h:KH fp τ w lo A c n xs):RX w lo A c n xs:=by
 obtain⟨vs,h1,h2,h3⟩:=h.ex
 exact⟨vs,h1.rs,h2,fun k v g hv hg=>⟨(h3 k v g hv hg).1,(h3 k v g hv hg).2.1,(h3 k v g hv hg).2.2.rs⟩⟩
theorem Eh.JU {aF aL aP aD aN aS aI aG aB:Option Addr} {BD A_ Ae AU Ag AY Ac AQ Ad Aa Af Ab BF A7 BA Az aBc Ao:Nat} {x:Sw.World} (h:Eh fd fp τ w lo aF BD A_ aL Ae AU aP Ag AY aD Ac AQ aN Ad Aa aS Af Ab aI BF A7 aG BA Az aB aBc Ao x):RW w lo aF BD A_ aL Ae AU aP Ag AY aD Ac AQ aN Ad Aa aS Af Ab aI BF A7 aG BA Az aB aBc Ao x:=⟨h.1.rs,h.2.rm,h.3.rs,h.4.rg,h.5.rx⟩
theorem Cn.keep {aL aP aD aN aS:Option Addr} {Ae AU Ag AY Ac AQ Ad Aa Af Ab:Nat} {m:Sw.CV} (h:Cn τ w lo aL Ae AU aP Ag AY aD Ac AQ aN Ad Aa aS Af Ab m) (hk:∀ t,1≤t→t≤5→KT τ t lo w w'):Cn τ w' lo aL Ae AU aP Ag AY aD Ac AQ aN Ad Aa aS Af Ab m:=
 ⟨h.1.keep (hk _ (by omega) (by omega)),h.2.keep (hk _ (by omega) (by omega)),h.3.keep (hk _ (by omega) (by omega)),h.4.keep (hk _ (by omega) (by omega)),h.5.keep (hk _ (by omega) (by omega))⟩
theorem Cn.less {aL aP aD aN aS:Option Addr} {Ae AU Ag AY Ac AQ Ad Aa Af Ab:Nat} {m:Sw.CV} (h:Cn τ w lo aL Ae AU aP Ag AY aD Ac AQ aN Ad Aa aS Af Ab m) (hl:lo'≤lo):Cn τ w lo' aL Ae AU aP Ag AY aD Ac AQ aN Ad Aa aS Af Ab m:=⟨h.1.less hl,h.2.less hl,h.3.less hl,h.4.less hl,h.5.less hl⟩
theorem Cn.retag {aL aP aD aN aS:Option Addr} {Ae AU Ag AY Ac AQ Ad Aa Af Ab:Nat} {m:Sw.CV} (h:Cn τ w lo aL Ae AU aP Ag AY aD Ac AQ aN Ad Aa aS Af Ab m) (ht:∀ b,b<w.heap.size→τ' b=τ b):Cn τ' w lo aL Ae AU aP Ag AY aD Ac AQ aN Ad Aa aS Af Ab m:=⟨h.1.retag ht,h.2.retag ht,h.3.retag ht,h.4.retag ht,h.5.retag ht⟩
theorem Cn.EM {aL aP aD aN aS:Option Addr} {Ae AU Ag AY Ac AQ Ad Aa Af Ab:Nat} {m:Sw.CV} (h:Cn τ w lo aL Ae AU aP Ag AY aD Ac AQ aN Ad Aa aS Af Ab m) (hk:k≤lo):Cn (glue τ' k τ) w lo aL Ae AU aP Ag AY aD Ac AQ aN Ad Aa aS Af Ab m:=⟨h.1.EM hk,h.2.EM hk,h.3.EM hk,h.4.EM hk,h.5.EM hk⟩
theorem Kj.keep {gs:List Sw.Gate} (h:Kj fd τ w lo A c n gs) (h8:KT τ 8 lo w w') (hk:∀ k,KT τ (fd k) lo w w'):Kj fd τ w' lo A c n gs:=by
 obtain⟨vs,h1,h2,h3⟩:=h.ex
 exact⟨vs,h1.keep h8,h2,fun k v g hv hg=>⟨(h3 k v g hv hg).1,(h3 k v g hv hg).2.keep (hk k)⟩⟩
theorem Kj.less {gs:List Sw.Gate} (h:Kj fd τ w lo A c n gs) (hl:lo'≤lo):Kj fd τ w lo' A c n gs:=by
 obtain⟨vs,h1,h2,h3⟩:=h.ex
 exact⟨vs,h1.less hl,h2,fun k v g hv hg=>⟨(h3 k v g hv hg).1,(h3 k v g hv hg).2.less hl⟩⟩
theorem Kj.retag {gs:List Sw.Gate} (h:Kj fd τ w lo A c n gs) (ht:∀ b,b<w.heap.size→τ' b=τ b):Kj fd τ' w lo A c n gs:=by
 obtain⟨vs,h1,h2,h3⟩:=h.ex
 exact⟨vs,h1.retag ht,h2,fun k v g hv hg=>⟨(h3 k v g hv hg).1,(h3 k v g hv hg).2.retag ht⟩⟩
theorem Kj.EM {gs:List Sw.Gate} (h:Kj fd τ w lo A c n gs) (hk:k≤lo):Kj fd (glue τ' k τ) w lo A c n gs:=by
 obtain⟨vs,h1,h2,h3⟩:=h.ex
 exact⟨vs,h1.EM hk,h2,fun k v g hv hg=>⟨(h3 k v g hv hg).1,(h3 k v g hv hg).2.EM hk⟩⟩
theorem KH.keep {xs:List Sw.IX} (h:KH fp τ w lo A c n xs) (h9:KT τ 9 lo w w') (hk:∀ k,KT τ (fp k) lo w w'):KH fp τ w' lo A c n xs:=by
 obtain⟨vs,h1,h2,h3⟩:=h.ex
 exact⟨vs,h1.keep h9,h2,fun k v g hv hg=>⟨(h3 k v g hv hg).1,(h3 k v g hv hg).2.1,(h3 k v g hv hg).2.2.keep (hk k)⟩⟩
theorem KH.less {xs:List Sw.IX} (h:KH fp τ w lo A c n xs) (hl:lo'≤lo):KH fp τ w lo' A c n xs:=by
 obtain⟨vs,h1,h2,h3⟩:=h.ex
 exact⟨vs,h1.less hl,h2,fun k v g hv hg=>⟨(h3 k v g hv hg).1,(h3 k v g hv hg).2.1,(h3 k v g hv hg).2.2.less hl⟩⟩
theorem KH.retag {xs:List Sw.IX} (h:KH fp τ w lo A c n xs) (ht:∀ b,b<w.heap.size→τ' b=τ b):KH fp τ' w lo A c n xs:=by
 obtain⟨vs,h1,h2,h3⟩:=h.ex
 exact⟨vs,h1.retag ht,h2,fun k v g hv hg=>⟨(h3 k v g hv hg).1,(h3 k v g hv hg).2.1,(h3 k v g hv hg).2.2.retag ht⟩⟩
theorem KH.EM {xs:List Sw.IX} (h:KH fp τ w lo A c n xs) (hk:k≤lo):KH fp (glue τ' k τ) w lo A c n xs:=by
 obtain⟨vs,h1,h2,h3⟩:=h.ex
 exact⟨vs,h1.EM hk,h2,fun k v g hv hg=>⟨(h3 k v g hv hg).1,(h3 k v g hv hg).2.1,(h3 k v g hv hg).2.2.EM hk⟩⟩
theorem Eh.less {aF aL aP aD aN aS aI aG aB:Option Addr} {BD A_ Ae AU Ag AY Ac AQ Ad Aa Af Ab BF A7 BA Az aBc Ao:Nat} {x:Sw.World} (h:Eh fd fp τ w lo aF BD A_ aL Ae AU aP Ag AY aD Ac AQ aN Ad Aa aS Af Ab aI BF A7 aG BA Az aB aBc Ao x) (hl:lo'≤lo):Eh fd fp τ w lo' aF BD A_ aL Ae AU aP Ag AY aD Ac AQ aN Ad Aa aS Af Ab aI BF A7 aG BA Az aB aBc Ao x:=⟨h.1.less hl,h.2.less hl,h.3.less hl,h.4.less hl,h.5.less hl⟩
theorem Eh.retag {aF aL aP aD aN aS aI aG aB:Option Addr} {BD A_ Ae AU Ag AY Ac AQ Ad Aa Af Ab BF A7 BA Az aBc Ao:Nat} {x:Sw.World} (h:Eh fd fp τ w lo aF BD A_ aL Ae AU aP Ag AY aD Ac AQ aN Ad Aa aS Af Ab aI BF A7 aG BA Az aB aBc Ao x) (ht:∀ b,b<w.heap.size→τ' b=τ b):Eh fd fp τ' w lo aF BD A_ aL Ae AU aP Ag AY aD Ac AQ aN Ad Aa aS Af Ab aI BF A7 aG BA Az aB aBc Ao x:=⟨h.1.retag ht,h.2.retag ht,h.3.retag ht,h.4.retag ht,h.5.retag ht⟩
theorem Eh.loose {aF aL aP aD aN aS aI aG aB:Option Addr} {BD A_ Ae AU Ag AY Ac AQ Ad Aa Af Ab BF A7 BA Az aBc Ao:Nat} {x:Sw.World} (h:Eh Jk I4 τ w lo aF BD A_ aL Ae AU aP Ag AY aD Ac AQ aN Ad Aa aS Af Ab aI BF A7 aG BA Az aB aBc Ao x):Eh OM Oi (fun b=>if 20≤τ b then 10+τ b%2 else τ b) w lo aF BD A_ aL Ae AU aP Ag AY aD Ac AQ aN Ad Aa aS Af Ab aI BF A7 aG BA Az aB aBc Ao x:=by
 have key:∀ {α:Type} {enc:α→List Value} {sz:Nat} {e:TypeId} {t:Nat} {A:Option Addr} {c n:Nat} {xs:List α},CK enc sz e τ t w lo A c n xs→CK enc sz e (fun b=>if 20≤τ b then 10+τ b%2 else τ b) (if 20≤t then 10+t%2 else t) w lo A c n xs:=
  fun h=>⟨h.ow,fun a ha=>by simp only[h.tag a ha]⟩
 refine⟨key h.1,⟨key h.2.1,key h.2.2,key h.2.3,key h.2.4,key h.2.5⟩,key h.3,?_,?_⟩
 ·obtain⟨vs,h1,h2,h3⟩:=h.AV.ex
  refine⟨vs,key h1,h2,fun k v g hv hg=>⟨(h3 k v g hv hg).1,?_⟩⟩
  have:=key (h3 k v g hv hg).2
  rw[if_pos (by unfold Jk;omega),show 10+Jk k%2=OM k from by unfold Jk OM;omega] at this
  exact this
 ·obtain⟨vs,h1,h2,h3⟩:=h.BS.ex
  refine⟨vs,key h1,h2,fun k v g hv hg=>⟨(h3 k v g hv hg).1,(h3 k v g hv hg).2.1,?_⟩⟩
  have:=key (h3 k v g hv hg).2.2
  rw[if_pos (by unfold I4;omega),show 10+I4 k%2=Oi k from by unfold I4 Oi;omega] at this
  exact this
end
end Go.Proofs.YtgaflnpmilikcaaGreat
