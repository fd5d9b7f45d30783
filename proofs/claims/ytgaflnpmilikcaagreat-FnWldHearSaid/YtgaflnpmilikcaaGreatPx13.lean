/- Texts joined: Both, LawTo3, Impl2, Gate, LawMk, DrawL, UpS. -/
import Derived.Test.YtgaflnpmilikcaaGreatPx10
import Derived.Test.YtgaflnpmilikcaaGreatPx12
import Derived.Test.YtgaflnpmilikcaaGreatPx7
import Derived.Test.YtgaflnpmilikcaaGreatPx2
import Derived.Deep.DeepMust
import Derived.Test.YtgaflnpmilikcaaGreatPx5
import Derived.Test.YtgaflnpmilikcaaGreatPx4
set_option maxRecDepth 100000
set_option linter.unusedSimpArgs false
set_option linter.unusedVariables false
namespace Go.Proofs.YtgaflnpmilikcaaGreat
open Go.RowKit Go
set_option maxHeartbeats 400000
theorem bH {α:Type} {xs:List α} {n:Nat} {y:α} (hn:n+1=xs.length) (h:xs[n]?=some y):xs=xs.take n ++ [y]:=by
 rw[← Kl h,List.take_of_length_le (by omega)]
theorem OY {α:Type} {xs:List α} {n:Nat} {y:α} (hn:n+1=xs.length) (h:xs[n]?=some y):xs.reverse=y::(xs.take n).reverse:=by
 conv=>lhs;rw[bH hn h]
 simp
theorem cB (N:Nat) (A:Option Addr) (c n m k:Nat) (old:Int) (kn:Bool) (xs:List Int) (w:World) (hN:n≤N) (hxs:RI w 0 A c n xs) (QF:n≤40) (hall:xs.all Sw.BK=true) (hold:Sw.BK old=true) (hm:1≤m) (hmk:m≤k) (jR:k≤40):Calls Tryz.prog 228 #[.int .i64 m,.int .i64 k,.int .i64 old,.slice A n c,.bool kn] w fun E w'=>∃ a b,E=.returned (.tuple #[.int .i64 a,.int .i64 b,.bool (Sw.Ke m k old xs.reverse kn).isSome])∧(∀ r,Sw.Ke m k old xs.reverse kn=some r→r=(a,b))∧Sw.BK a=true∧Sw.BK b=true∧Ex w w':=by
 induction N generalizing A c n m k kn xs w with
 | zero=>
  have hl:=hxs.1
  obtain rfl:n=0:=by omega
  have hx:xs=[]:=List.eq_nil_of_length_eq_zero (by omega)
  subst hx
  clear hl
  by_cases hmk':m=k
  ·subst hmk'
   cases kn with
   | true=>
    go_enter Tryz.func228,Tryz.ntmps228
    go_wp2_with fail
    go_ret3
    exact⟨old,old,by simp[Sw.Ke],by simp[Sw.Ke],hold,hold,AA⟩
   | false=>
    go_enter Tryz.func228,Tryz.ntmps228
    go_wp2_with fail
    go_ret3
    exact⟨0,0,by simp[Sw.Ke],by simp[Sw.Ke],rfl,rfl,AA⟩
  ·have hb:((m:Int)==k)=false:=by simp;omega
   go_enter Tryz.func228,Tryz.ntmps228
   go_wp2_with fail
   go_ret3
   exact⟨0,0,by simp[Sw.Ke,hmk'],by simp[Sw.Ke,hmk'],rfl,rfl,AA⟩
 | succ N ih=>
  have hl:=Lib.hid hxs.1
  have hcap:=hxs.2.le
  by_cases h0:n=0
  ·subst h0
   have hx:xs=[]:=List.eq_nil_of_length_eq_zero (by have:=hl.out;omega)
   subst hx
   exact ih _ c 0 m k kn [] w (by omega) hxs (by omega) hall hm hmk jR
  ·obtain⟨p,rfl⟩:∃ p,n=p+1:=⟨n-1,by omega⟩
   obtain⟨g,off,y,rfl,hg0,hg,hd,hy,hc⟩:=G8 hxs (show p<p+1 by omega)
   have hrev:=OY (by have:=hl.out;omega) hy
   have Ji:Sw.BK y=true:=List.all_eq_true.1 hall y (List.mem_of_getElem? hy)
   rw[hrev]
   have Hy:=Lib.hid hy
   clear hd hy hrev
   by_cases hmk':m=k
   ·subst hmk'
    cases kn with
    | true=>
     have hb1:((p:Int)+1==0)=false:=by simp;omega
     go_enter Tryz.func228,Tryz.ntmps228
     go_wp2_with fail
     go_ret3
     exact⟨old,old,by simp[Sw.Ke],by simp[Sw.Ke],hold,hold,AA⟩
    | false=>
     by_cases hp:p=0
     ·subst hp
      simp only[Nat.add_zero] at hc
      go_enter Tryz.func228,Tryz.ntmps228
      go_wp2_with fail
      go_quiet ((first|fail))
      go_wp2
      go_ret3
      exact⟨y,y,by simp[Sw.Ke],by simp[Sw.Ke],Ji,Ji,AA⟩
     ·have hb1:((p:Int)+1 != 1)=true:=by simp;omega
      have hne:¬(xs.take p=[]):=by
       intro e
       have e1:=congrArg List.length e
       rw[List.length_take,List.length_nil] at e1
       have:=hl.out
       omega
      go_enter Tryz.func228,Tryz.ntmps228
      go_wp2_with fail
      go_ret3
      exact⟨0,0,by simp[Sw.Ke,hne],by simp[Sw.Ke,hne],rfl,rfl,AA⟩
   ·have h2:2≤k:=by omega
    have hs1:=Sw.FJ h2
    have hs0:=Sw.EL k
    have hb:((m:Int)==k)=false:=by simp;omega
    have hb1:((p:Int)+1==0)=false:=by simp;omega
    by_cases hms:m≤Sw.split k
    ·go_enter Tryz.func228,Tryz.ntmps228
     go_wp2_with (first|(go_at_call 192;apply Calls.mono;apply FK;(exact Bu);(exact Bu);rintro E w' ⟨rfl,rfl⟩)|(go_at_call 228;apply Calls.mono;apply ih;omega;(apply Rs.A8;apply E8 hxs;omega;(exact AO));omega;exact List.Dr hall;omega;omega;omega;rintro E w1 ⟨a,b,rfl,hr,ha,hb',hb⟩;obtain⟨hc,hf,hz⟩:=xy hb)|(go_at_call 193;refine (IG _ _ _).mono ?_;rintro E w' ⟨rfl,rfl⟩))
     go_ret3
     refine⟨a,Sw.pair b y,?_,?_,ha,KL _ _,AA⟩
     ·rw[I_ hb' Ji,Sw.Ke,if_neg hmk',if_pos hms,Option.isSome_map];rfl
     ·intro r hr'
      rw[Sw.Ke,if_neg hmk',if_pos hms,Option.map_eq_some_iff] at hr'
      obtain⟨q,hq,rfl⟩:=hr'
      rw[hr q hq]
    ·have y0:IntKind.i64.wrap ((m:Int)-↑(Sw.split k))=((m-Sw.split k:Nat):Int):=by rw[IntWalk.i64_in _ (by omega)];omega
     have y1:IntKind.i64.wrap ((k:Int)-↑(Sw.split k))=((k-Sw.split k:Nat):Int):=by rw[IntWalk.i64_in _ (by omega)];omega
     go_enter Tryz.func228,Tryz.ntmps228
     go_wp2_with (first|(go_at_call 192;apply Calls.mono;apply FK;(exact Bu);(exact Bu);rintro E w' ⟨rfl,rfl⟩)|(go_at_call 228;apply Calls.mono;apply ih;omega;(apply Rs.A8;apply E8 hxs;omega;(exact AO));omega;exact List.Dr hall;omega;omega;omega;rintro E w1 ⟨a,b,rfl,hr,ha,hb',hb⟩;obtain⟨hc,hf,hz⟩:=xy hb)|(go_at_call 193;refine (IG _ _ _).mono ?_;rintro E w' ⟨rfl,rfl⟩))
     go_ret3
     refine⟨Sw.pair y a,Sw.pair y b,?_,?_,KL _ _,KL _ _,AA⟩
     ·rw[I_ Ji ha,I_ Ji hb',Sw.Ke,if_neg hmk',if_neg hms,Option.isSome_map];rfl
     ·intro r hr'
      rw[Sw.Ke,if_neg hmk',if_neg hms,Option.map_eq_some_iff] at hr'
      obtain⟨q,hq,rfl⟩:=hr'
      rw[hr q hq]
end Go.Proofs.YtgaflnpmilikcaaGreat
namespace Go.Proofs.YtgaflnpmilikcaaGreat
open Go.RowKit Go
set_option maxHeartbeats 400000
def AAI (a b c d:Nat):Nat→Nat:=fun x=>if x=a then 1 else if x=b then 2 else if x=c then 3 else if x=d then 4 else 5
section
variable {a b c d e:Nat}
end
section
variable {α:Type} {enc:α→List Value} {sz:Nat} {e:TypeId} {fd fp τ τ':Nat→Nat} {t:Nat} {w w':World} {lo lo' c n k:Nat} {A:Option Addr} {xs:List α}
theorem CK.Av (h:CK enc sz e τ t w lo A c n xs) (hk:KF lo w w'):CK enc sz e τ t w' lo A c n xs:=h.keep (.of hk)
theorem Cn.Av {aL aP aD aN aS:Option Addr} {Ae AU Ag AY Ac AQ Ad Aa Af Ab:Nat} {m:Sw.CV} (h:Cn τ w lo aL Ae AU aP Ag AY aD Ac AQ aN Ad Aa aS Af Ab m) (hk:KF lo w w'):Cn τ w' lo aL Ae AU aP Ag AY aD Ac AQ aN Ad Aa aS Af Ab m:=h.keep fun _ _ _=>.of hk
theorem Kj.Av {gs:List Sw.Gate} (h:Kj fd τ w lo A c n gs) (hk:KF lo w w'):Kj fd τ w' lo A c n gs:=h.keep (.of hk) fun _=>.of hk
theorem KH.Av {gs:List Sw.IX} (h:KH fp τ w lo A c n gs) (hk:KF lo w w'):KH fp τ w' lo A c n gs:=h.keep (.of hk) fun _=>.of hk
theorem Eh.Av {aF aL aP aD aN aS aI aG aB:Option Addr} {BD A_ Ae AU Ag AY Ac AQ Ad Aa Af Ab BF A7 BA Az aBc Ao:Nat} {x:Sw.World} (h:Eh fd fp τ w lo aF BD A_ aL Ae AU aP Ag AY aD Ac AQ aN Ad Aa aS Af Ab aI BF A7 aG BA Az aB aBc Ao x) (hk:KF lo w w'):Eh fd fp τ w' lo aF BD A_ aL Ae AU aP Ag AY aD Ac AQ aN Ad Aa aS Af Ab aI BF A7 aG BA Az aB aBc Ao x:=⟨h.1.Av hk,h.2.Av hk,h.3.Av hk,h.4.Av hk,h.5.Av hk⟩
theorem Cn.CX {aL aP aD aN aS:Option Addr} {Ae AU Ag AY Ac AQ Ad Aa Af Ab:Nat} {m:Sw.CV} (h:Cn τ w lo aL Ae AU aP Ag AY aD Ac AQ aN Ad Aa aS Af Ab m) (hk:w.heap.size≤k):Cn (glue τ k τ') w lo aL Ae AU aP Ag AY aD Ac AQ aN Ad Aa aS Af Ab m:=h.retag fun b hb=>if_pos (by omega)
theorem Kj.CX {gs:List Sw.Gate} (h:Kj fd τ w lo A c n gs) (hk:w.heap.size≤k):Kj fd (glue τ k τ') w lo A c n gs:=h.retag fun b hb=>if_pos (by omega)
theorem KH.CX {gs:List Sw.IX} (h:KH fp τ w lo A c n gs) (hk:w.heap.size≤k):KH fp (glue τ k τ') w lo A c n gs:=h.retag fun b hb=>if_pos (by omega)
theorem CK.Es (h:CK enc sz e τ t w lo A c n xs) (hk:KF lo w w'):Rs enc sz w' 0 A c n xs:=h.rs.A8 hk
theorem Cn.rE {aL aP aD aN aS:Option Addr} {Ae AU Ag AY Ac AQ Ad Aa Af Ab:Nat} {m:Sw.CV} (h:Cn τ w lo aL Ae AU aP Ag AY aD Ac AQ aN Ad Aa aS Af Ab m) (hk:KF lo w w'):RM w' 0 aL Ae AU aP Ag AY aD Ac AQ aN Ad Aa aS Af Ab m:=h.rm.A8 hk
theorem Kj.su {gs:List Sw.Gate} (h:Kj fd τ w lo A c n gs) (hk:KF lo w w'):RG w' 0 A c n gs:=h.rg.A8 hk
theorem KH.yF {gs:List Sw.IX} (h:KH fp τ w lo A c n gs) (hk:KF lo w w'):RX w' 0 A c n gs:=h.rx.A8 hk
end
end Go.Proofs.YtgaflnpmilikcaaGreat
namespace Go.Proofs.YtgaflnpmilikcaaGreat
open Go.RowKit Go
set_option maxHeartbeats 400000
theorem ZO (N:Nat) (A:Option Addr) (c n m k:Nat) (old:Int) (kn:Bool) (xs:List Int) (w:World) (hN:n≤N) (hxs:RI w 0 A c n xs) (QF:n≤40) (hall:xs.all Sw.BK=true) (hold:Sw.BK old=true) (hm:1≤m) (hmk:m≤k) (jR:k≤40):Calls Tryz.prog 165 #[.int .i64 m,.int .i64 k,.int .i64 old,.slice A n c,.bool kn] w fun E w'=>∃ a b,E=.returned (.tuple #[.agg #[.int .i64 a,.int .i64 b],.bool (Sw.Ke m k old xs.reverse kn).isSome])∧(∀ r,Sw.Ke m k old xs.reverse kn=some r→r=(a,b))∧Sw.BK a=true∧Sw.BK b=true∧Ex w w':=by
 induction N generalizing A c n m k kn xs w with
 | zero=>
  have hl:=hxs.1
  obtain rfl:n=0:=by omega
  have hx:xs=[]:=List.eq_nil_of_length_eq_zero (by omega)
  subst hx
  clear hl
  by_cases hmk':m=k
  ·subst hmk'
   cases kn with
   | true=>
    go_enter Tryz.func165,Tryz.ntmps165
    go_wp2_with fail
    refine bodyPost_ret (v:=.tuple #[.agg #[.int .i64 old,.int .i64 old],.bool true]) (by simp[results,Tryz.results165,go_sem, *]) rfl ?_
    exact⟨old,old,by simp[Sw.Ke],by simp[Sw.Ke],hold,hold,AA⟩
   | false=>
    go_enter Tryz.func165,Tryz.ntmps165
    go_wp2_with fail
    refine bodyPost_ret (v:=.tuple #[.agg #[.int .i64 0,.int .i64 0],.bool false]) (by simp[results,Tryz.results165,go_sem, *]) rfl ?_
    exact⟨0,0,by simp[Sw.Ke],by simp[Sw.Ke],rfl,rfl,AA⟩
  ·have hb:((m:Int)==k)=false:=by simp;omega
   go_enter Tryz.func165,Tryz.ntmps165
   go_wp2_with fail
   refine bodyPost_ret (v:=.tuple #[.agg #[.int .i64 0,.int .i64 0],.bool false]) (by simp[results,Tryz.results165,go_sem, *]) rfl ?_
   exact⟨0,0,by simp[Sw.Ke,hmk'],by simp[Sw.Ke,hmk'],rfl,rfl,AA⟩
 | succ N ih=>
  have hl:=Lib.hid hxs.1
  have hcap:=hxs.2.le
  by_cases h0:n=0
  ·subst h0
   have hx:xs=[]:=List.eq_nil_of_length_eq_zero (by have:=hl.out;omega)
   subst hx
   exact ih _ c 0 m k kn [] w (by omega) hxs (by omega) hall hm hmk jR
  ·obtain⟨p,rfl⟩:∃ p,n=p+1:=⟨n-1,by omega⟩
   obtain⟨g,off,y,rfl,hg0,hg,hd,hy,hc⟩:=G8 hxs (show p<p+1 by omega)
   have hrev:=OY (by have:=hl.out;omega) hy
   have Ji:Sw.BK y=true:=List.all_eq_true.1 hall y (List.mem_of_getElem? hy)
   rw[hrev]
   have Hy:=Lib.hid hy
   clear hd hy hrev
   have w1:IntKind.i64.wrap ((p:Int)+1-1)=p:=by rw[IntWalk.i64_in _ (by omega)];omega
   have tp:(p:Int)<(p:Int)+1:=by omega
   by_cases hmk':m=k
   ·subst hmk'
    cases kn with
    | true=>
     have hb1:decide ((p:Int)<0)=false:=by simp
     go_enter Tryz.func165,Tryz.ntmps165
     go_wp2_with fail
     refine bodyPost_ret (v:=.tuple #[.agg #[.int .i64 old,.int .i64 old],.bool false]) (by simp[results,Tryz.results165,go_sem, *]) rfl ?_
     exact⟨old,old,by simp[Sw.Ke],by simp[Sw.Ke],hold,hold,AA⟩
    | false=>
     have hb1:decide ((p:Int)<0)=false:=by simp
     obtain⟨g',off',z,hA',hg0',hg',_,hz',hc'⟩:=G8 hxs (show 0<p+1 by omega)
     cases hA'
     simp only[Nat.add_zero] at hc'
     have Lm:Sw.BK z=true:=List.all_eq_true.1 hall z (List.mem_of_getElem? hz')
     have Hz:=Lib.hid hz';clear hz'
     have t0:(0:Int)<(p:Int)+1:=by omega
     go_enter Tryz.func165,Tryz.ntmps165
     go_wp2_with fail
     (refine CF fun W0 hb0 hc0 hf0 hz0=>?_;have JR:Lb W0 (w.heap.size) 2:=Lb.ex (by exact Dw) hb0;go_region_held3 (fun w'=>Au (w.heap.size) 2 W0 w') ((exact EX)) (fail);all_goals (rename Au (w.heap.size) 2 W0 _=>FZ;have hb:=Au.ch FZ;obtain⟨hc,hf,hz⟩:=xd hb;have CJ:=Au.lb FZ;(repeat (first|with_reducible replace CJ:=Lb.G_ CJ|with_reducible replace CJ:=Lb.Fy CJ));obtain⟨hcb,M6⟩:=Lb.rules CJ;clear FZ))
     go_wp2_with fail
     refine bodyPost_ret (v:=.tuple #[.agg #[.int .i64 z,.int .i64 z],.bool ((p:Int)==0)]) (by simp[results,Tryz.results165,go_sem, *]) rfl ?_
     have e:Sw.Ke m m old (y::(xs.take p).reverse) false=if p=0 then some (y,y) else none:=by
      rw[Sw.Ke,if_pos rfl]
      simp only[Bool.false_eq_true,if_false,List.reverse_eq_nil_iff,List.take_eq_nil_iff]
      by_cases hp:p=0
      ·simp[hp]
      ·have:xs≠[]:=by rintro rfl;have:=hl.out;simp at this
       simp[hp,this]
     rw[e]
     by_cases hp:p=0
     ·subst hp
      have:z=y:=by have h1:=Hy.out;have h2:=Hz.out;rw[h1] at h2;exact (Option.some.inj h2).symm
      subst this
      exact⟨z,z,by simp,by simp,Lm,Lm,AA⟩
     ·exact⟨z,z,by simp[hp],by simp[hp],Lm,Lm,AA⟩
   ·have h2:2≤k:=by omega
    have hs1:=Sw.FJ h2
    have hs0:=Sw.EL k
    have hb:((m:Int)==k)=false:=by simp;omega
    have hb1:decide ((p:Int)<0)=false:=by simp
    by_cases hms:m≤Sw.split k
    ·go_enter Tryz.func165,Tryz.ntmps165
     go_wp2_with (first|(go_at_call 161;apply Calls.mono;apply Io;(exact Bu);(exact Bu);rintro E w' ⟨rfl,rfl⟩)|(go_at_call 165;apply Calls.mono;apply ih;omega;(apply Rs.A8;apply E8 hxs;omega;(exact AO));omega;exact List.Dr hall;omega;omega;omega;rintro E w1 ⟨a,b,rfl,hr,ha,hb',hb⟩;obtain⟨hc,hf,hz⟩:=xy hb))
     (refine CF fun W0 hb0 hc0 hf0 hz0=>?_;have JR:Lb W0 (w.heap.size) 2:=Lb.ex (by exact Dw) hb0;go_region_held3 (fun w'=>Au (w.heap.size) 2 W0 w') ((exact EX)) ((go_at_call 162;apply Calls.mono;apply NK;(exact Bu);(exact Bu);rintro E w' ⟨rfl,rfl⟩));all_goals (rename Au (w.heap.size) 2 W0 _=>FZ;have hb:=Au.ch FZ;obtain⟨hc,hf,hz⟩:=xd hb;have CJ:=Au.lb FZ;(repeat (first|with_reducible replace CJ:=Lb.G_ CJ|with_reducible replace CJ:=Lb.Fy CJ));obtain⟨hcb,M6⟩:=Lb.rules CJ;clear FZ))
     go_wp2_with fail
     refine bodyPost_ret (v:=.tuple #[.agg #[.int .i64 a,.int .i64 (Sw.pair b y)],.bool (Sw.Ke m (Sw.split k) old (xs.take p).reverse kn).isSome]) (by simp[results,Tryz.results165,go_sem, *]) rfl ?_
     refine⟨a,Sw.pair b y,?_,?_,ha,KL _ _,AA⟩
     ·rw[Sw.Ke,if_neg hmk',if_pos hms,Option.isSome_map]
     ·intro r hr'
      rw[Sw.Ke,if_neg hmk',if_pos hms,Option.map_eq_some_iff] at hr'
      obtain⟨q,hq,rfl⟩:=hr'
      rw[hr q hq]
    ·have y0:IntKind.i64.wrap ((m:Int)-↑(Sw.split k))=((m-Sw.split k:Nat):Int):=by rw[IntWalk.i64_in _ (by omega)];omega
     have y1:IntKind.i64.wrap ((k:Int)-↑(Sw.split k))=((k-Sw.split k:Nat):Int):=by rw[IntWalk.i64_in _ (by omega)];omega
     go_enter Tryz.func165,Tryz.ntmps165
     go_wp2_with (first|(go_at_call 161;apply Calls.mono;apply Io;(exact Bu);(exact Bu);rintro E w' ⟨rfl,rfl⟩)|(go_at_call 165;apply Calls.mono;apply ih;omega;(apply Rs.A8;apply E8 hxs;omega;(exact AO));omega;exact List.Dr hall;omega;omega;omega;rintro E w1 ⟨a,b,rfl,hr,ha,hb',hb⟩;obtain⟨hc,hf,hz⟩:=xy hb))
     (refine CF fun W0 hb0 hc0 hf0 hz0=>?_;have JR:Lb W0 (w.heap.size) 2:=Lb.ex (by exact Dw) hb0;go_region_held3 (fun w'=>Au (w.heap.size) 2 W0 w') ((exact EX)) ((go_at_call 162;apply Calls.mono;apply NK;(exact Bu);(exact Bu);rintro E w' ⟨rfl,rfl⟩));all_goals (rename Au (w.heap.size) 2 W0 _=>FZ;have hb:=Au.ch FZ;obtain⟨hc,hf,hz⟩:=xd hb;have CJ:=Au.lb FZ;(repeat (first|with_reducible replace CJ:=Lb.G_ CJ|with_reducible replace CJ:=Lb.Fy CJ));obtain⟨hcb,M6⟩:=Lb.rules CJ;clear FZ))
     go_wp2_with fail
     refine bodyPost_ret (v:=.tuple #[.agg #[.int .i64 (Sw.pair y a),.int .i64 (Sw.pair y b)],.bool (Sw.Ke (m-Sw.split k) (k-Sw.split k) old (xs.take p).reverse false).isSome]) (by simp[results,Tryz.results165,go_sem, *]) rfl ?_
     refine⟨Sw.pair y a,Sw.pair y b,?_,?_,KL _ _,KL _ _,AA⟩
     ·rw[Sw.Ke,if_neg hmk',if_neg hms,Option.isSome_map]
     ·intro r hr'
      rw[Sw.Ke,if_neg hmk',if_neg hms,Option.map_eq_some_iff] at hr'
      obtain⟨q,hq,rfl⟩:=hr'
      rw[hr q hq]
set_option maxHeartbeats 400000
theorem Tw (m old nn r:Int) (A:Option Addr) (c n:Nat) (xs:List Int) (w:World) (hxs:RI w 0 A c n xs):Calls Tryz.prog 206 #[.int .i64 m,.int .i64 old,.int .i64 nn,.int .i64 r,.slice A n c] w fun E w'=>E=.returned (.bool (Sw.Fg m old nn r xs))∧Ex w w':=by
 have hl:=Lib.hid hxs.1
 by_cases hg:(Sw.Br nn 1 40&&Sw.Br m 1 nn&&Sw.BK old&&Sw.BK r&&Sw.DW xs)=true
 ·have hg':=hg
  simp only[Bool.and_eq_true] at hg'
  obtain⟨⟨⟨⟨g1,g2⟩,g3⟩,g4⟩,g5⟩:=hg'
  have b1:1≤nn∧nn≤40:=by simpa [Sw.Br] using g1
  have b2:1≤m∧m≤nn:=by simpa [Sw.Br] using g2
  have QF:n≤40:=by have:=hl.out;simp[Sw.DW] at g5;omega
  have hall:xs.all Sw.BK=true:=by simp only[Sw.DW,Bool.and_eq_true] at g5;exact g5.2
  obtain⟨k,rfl⟩:=Int.eq_ofNat_of_zero_le (show 0≤nn by omega)
  obtain⟨j,rfl⟩:=Int.eq_ofNat_of_zero_le (show 0≤m by omega)
  have e:Sw.Fg j old k r xs=(Sw.Ke j k old xs.reverse true==some (old,r)):=by
   rw[Sw.Fg,hg];rfl
  have He:=Lib.hid e
  clear e hg
  go_enter Tryz.func206,Tryz.ntmps206
  go_wp2_with (first|(go_at_call 48;refine (Aw _ _ _ _).mono ?_;rintro E w' ⟨rfl,rfl⟩)|(go_at_call 109;refine (Gh _ _).mono ?_;rintro E w' ⟨rfl,rfl⟩)|(go_at_call 50;apply Calls.mono;apply Ig;(exact Co);rintro E w' ⟨rfl,rfl⟩)|(go_at_call 228;apply Calls.mono;apply (cB 40);omega;(exact Co);omega;exact hall;exact g3;omega;omega;omega;rintro E w1 ⟨a,b,rfl,hr,ha,hb',hb⟩;have Hr:=Lib.hid hr;clear hr;cases hs:Sw.Ke j k old xs.reverse true))
  all_goals (go_ret;refine⟨Ar ?_,AA⟩;rw[He.out,hs])
  ·rfl
  all_goals
   obtain rfl:=Hr.out _ hs
   rw[Bool.eq_iff_iff]
   simp[*]
 ·have hg':(Sw.Br nn 1 40&&Sw.Br m 1 nn&&Sw.BK old&&Sw.BK r&&Sw.DW xs)=false:=by simpa using hg
  have e:Sw.Fg m old nn r xs=false:=by rw[Sw.Fg,hg'];rfl
  rw[e]
  have Hg:=Lib.hid hg'
  clear e hg hg'
  cases g1:Sw.Br nn 1 40
  case false=>go_enter Tryz.func206,Tryz.ntmps206;go_wp2_with (go_at_call 48;refine (Aw _ _ _ _).mono ?_;rintro E w' ⟨rfl,rfl⟩);go_ret;exact⟨rfl,AA⟩
  cases g2:Sw.Br m 1 nn
  case false=>go_enter Tryz.func206,Tryz.ntmps206;go_wp2_with (go_at_call 48;refine (Aw _ _ _ _).mono ?_;rintro E w' ⟨rfl,rfl⟩);go_ret;exact⟨rfl,AA⟩
  cases g3:Sw.BK old
  case false=>go_enter Tryz.func206,Tryz.ntmps206;go_wp2_with (first|(go_at_call 48;refine (Aw _ _ _ _).mono ?_;rintro E w' ⟨rfl,rfl⟩)|(go_at_call 109;refine (Gh _ _).mono ?_;rintro E w' ⟨rfl,rfl⟩));go_ret;exact⟨rfl,AA⟩
  cases g4:Sw.BK r
  case false=>go_enter Tryz.func206,Tryz.ntmps206;go_wp2_with (first|(go_at_call 48;refine (Aw _ _ _ _).mono ?_;rintro E w' ⟨rfl,rfl⟩)|(go_at_call 109;refine (Gh _ _).mono ?_;rintro E w' ⟨rfl,rfl⟩));go_ret;exact⟨rfl,AA⟩
  cases g5:Sw.DW xs
  case false=>go_enter Tryz.func206,Tryz.ntmps206;go_wp2_with (first|(go_at_call 48;refine (Aw _ _ _ _).mono ?_;rintro E w' ⟨rfl,rfl⟩)|(go_at_call 109;refine (Gh _ _).mono ?_;rintro E w' ⟨rfl,rfl⟩)|(go_at_call 50;apply Calls.mono;apply Ig;(exact Co);rintro E w' ⟨rfl,rfl⟩));go_ret;exact⟨rfl,AA⟩
  have:=Hg.out
  rw[g1,g2,g3,g4,g5] at this
  cases this
theorem Yu (A:Option Addr) (c n:Nat) (s:Int) (xs:List Sw.FC) (w:World) (hxs:RE w 0 A c n xs):Calls Tryz.prog 135 #[.slice A n c,.int .i64 s] w fun E w'=>E=.returned (.tuple #[.agg #[.int .i64 ((Sw.J_ xs s).getD Sw.DX).size,.int .i64 ((Sw.J_ xs s).getD Sw.DX).log,.int .i64 ((Sw.J_ xs s).getD Sw.DX).own],.bool (Sw.J_ xs s).isSome])∧Ex w w':=by
 have hl:=Lib.hid hxs.1
 have hcap:=hxs.2.le
 have hbig:n≤9223372036854775807:=by have:=hxs.2.cap;unfold maxLen at this;omega
 cases h1:Sw.Br s 0 n with
 | true=>
  have b1:0≤s∧s≤n:=by simpa [Sw.Br] using h1
  obtain⟨k,rfl⟩:=Int.eq_ofNat_of_zero_le (show 0≤s by omega)
  have z0:(0:Int)≤↑k:=by omega
  have z1:(↑k:Int)≤↑n:=by omega
  have z2:(↑k:Int)≤↑c:=by omega
  have e:Sw.J_ xs k=Sw.Cw (xs.take k):=by rw[Sw.J_,← hl.out,h1];rfl
  rw[e]
  clear e
  go_enter Tryz.func135,Tryz.ntmps135
  go_wp2_with (first|(go_at_call 48;refine (Aw _ _ _ _).mono ?_;rintro E w' ⟨rfl,rfl⟩)|(go_at_call 134;apply Calls.mono;apply Qq;(apply Rs.A8;apply Rs.take hxs (fun _=>rfl);omega;(exact AO));rintro E w1 ⟨rfl,hb⟩;obtain⟨hc,hf,hz⟩:=xy hb))
  refine bodyPost_ret (v:=.tuple #[.agg #[.int .i64 ((Sw.Cw (xs.take k)).getD Sw.DX).size,.int .i64 ((Sw.Cw (xs.take k)).getD Sw.DX).log,.int .i64 ((Sw.Cw (xs.take k)).getD Sw.DX).own],.bool (Sw.Cw (xs.take k)).isSome]) (by simp[results,Tryz.results135,go_sem, *]) rfl ?_
  exact⟨rfl,AA⟩
 | false=>
  have e:Sw.J_ xs s=none:=by rw[Sw.J_,← hl.out,h1];rfl
  rw[e]
  go_enter Tryz.func135,Tryz.ntmps135
  go_wp2_with (go_at_call 48;refine (Aw _ _ _ _).mono ?_;rintro E w' ⟨rfl,rfl⟩)
  refine bodyPost_ret (v:=.tuple #[.agg #[.int .i64 0,.int .i64 0,.int .i64 0],.bool false]) (by simp[results,Tryz.results135,go_sem, *]) rfl ?_
  exact⟨rfl,AA⟩
theorem Mx (o t:Sw.Head) (A:Option Addr) (c n:Nat) (xs:List Int) (w:World) (hxs:RI w 0 A c n xs):Calls Tryz.prog 177 #[.agg #[.int .i64 o.size,.int .i64 o.log,.int .i64 o.own],.agg #[.int .i64 t.size,.int .i64 t.log,.int .i64 t.own],.slice A n c] w fun E w'=>E=.returned (.bool (Sw.CU o t xs))∧Ex w w':=by
 have hl:=Lib.hid hxs.1
 cases g1:Sw.E9 o
 case false=>
  go_enter Tryz.func177,Tryz.ntmps177;go_wp2_with (go_at_call 49;refine (F9 _ _).mono ?_;rintro E w1 ⟨rfl,hb⟩;obtain⟨hc,hf,hz⟩:=xy hb);go_ret;exact⟨Ar (by simp[Sw.CU,g1]),AA⟩
 cases g2:Sw.E9 t
 case false=>
  go_enter Tryz.func177,Tryz.ntmps177;go_wp2_with (go_at_call 49;refine (F9 _ _).mono ?_;rintro E w1 ⟨rfl,hb⟩;obtain⟨hc,hf,hz⟩:=xy hb);go_ret;exact⟨Ar (by simp[Sw.CU,g2]),AA⟩
 by_cases g3:o.size≤t.size
 case neg=>
  have e:Sw.CU o t xs=false:=by simp[Sw.CU,g3]
  rw[e];clear e
  have g3':t.size<o.size:=by omega
  go_enter Tryz.func177,Tryz.ntmps177;go_wp2_with (go_at_call 49;refine (F9 _ _).mono ?_;rintro E w1 ⟨rfl,hb⟩;obtain⟨hc,hf,hz⟩:=xy hb);go_ret;exact⟨rfl,AA⟩
 have n1:=g1;have n2:=g2
 simp only[Sw.E9,Sw.Br,Bool.and_eq_true,decide_eq_true_eq] at n1 n2
 obtain⟨⟨⟨o0,_⟩,_⟩,_⟩:=n1
 obtain⟨⟨⟨t0,_⟩,_⟩,_⟩:=n2
 by_cases g4:o.size=0
 ·have z0:(o.size==0)=true:=by simp[g4]
  have hle:decide (o.size≤t.size)=true:=by simp[g3]
  have e:Sw.CU o t xs=((decide (o.size≠t.size)||decide (o=t))&&xs.isEmpty):=by rw[Sw.CU,g1,g2,hle,if_pos g4];simp
  have He:=Lib.hid e
  have G4:=Lib.hid g4
  clear e g4
  by_cases hn:n=0
  ·have hx:xs=[]:=List.eq_nil_of_length_eq_zero (by have:=hl.out;omega)
   subst hx
   subst hn
   clear hl
   go_enter Tryz.func177,Tryz.ntmps177
   go_wp2_with (go_at_call 49;refine (F9 _ _).mono ?_;rintro E w1 ⟨rfl,hb⟩;obtain⟨hc,hf,hz⟩:=xy hb)
   all_goals (go_ret;refine⟨Ar ?_,AA⟩;rw[He.out];have g4:=G4.out;clear He G4;go_tidy;simp only[MP])
   all_goals (first|(simp[*];done)|(simp[*];omega)|(simp_all;done)|(simp_all;omega))
  ·have hb:((n:Int)==0)=false:=by simp;omega
   have hx:xs.isEmpty=false:=by
    cases xs with
    | nil=>exact absurd hl.out hn
    | cons _ _=>rfl
   go_enter Tryz.func177,Tryz.ntmps177
   go_wp2_with (go_at_call 49;refine (F9 _ _).mono ?_;rintro E w1 ⟨rfl,hb⟩;obtain⟨hc,hf,hz⟩:=xy hb)
   go_ret
   exact⟨Ar (by rw[He.out,hx];simp),AA⟩
 ·have z0:(o.size==0)=false:=by simp[g4]
  have hle:decide (o.size≤t.size)=true:=by simp[g3]
  have e:Sw.CU o t xs=((decide (o.size≠t.size)||decide (o=t))&&Sw.Fg o.size o.log t.size t.log xs):=by rw[Sw.CU,g1,g2,hle,if_neg g4];simp
  have He:=Lib.hid e
  clear e g4
  go_enter Tryz.func177,Tryz.ntmps177
  go_wp2_with (first|(go_at_call 49;refine (F9 _ _).mono ?_;rintro E w1 ⟨rfl,hb⟩;obtain⟨hc,hf,hz⟩:=xy hb)|(go_at_call 206;apply Calls.mono;apply Tw;(exact Co);rintro E w1 ⟨rfl,hb⟩;obtain⟨hc,hf,hz⟩:=xy hb))
  all_goals (go_ret;refine⟨Ar ?_,AA⟩;rw[He.out];clear He;go_tidy;simp only[MP])
  all_goals (first|(simp[*];done)|(simp[*];omega)|(simp_all;done)|(simp_all;omega))
end Go.Proofs.YtgaflnpmilikcaaGreat
namespace Go.Proofs.YtgaflnpmilikcaaGreat
open Go.RowKit Go
set_option maxHeartbeats 1000000
def FI (zs:List Int):List Value:=zs.map (Value.int .i64)
structure Mt (sz:Nat) (e:TypeId) (w:World) (lo:Nat) (A:Option Addr) (c n:Nat) (zs:List Int):Prop where
 len:n*sz=zs.length
 owns:w.ownsRow lo e sz (.slice A n c) n (FI zs)
section
variable {sz:Nat} {e:TypeId} {w w':World} {lo lo' c n k:Nat} {A:Option Addr} {zs:List Int}
theorem Mt.of {α:Type} {enc:α→List Value} {f:α→List Int} {xs:List α} (h:Ow enc sz e w lo A c n xs) (hf:∀ x,enc x=FI (f x)) (hl:∀ x,(f x).length=sz):Mt sz e w lo A c n (xs.flatMap f):=by
 have e1:xs.flatMap enc=FI (xs.flatMap f):=by
  clear h
  induction xs with
  | nil=>rfl
  | cons x xs ih=>rw[List.flatMap_cons,List.flatMap_cons,ih,hf];simp[FI]
 have e2:(xs.flatMap f).length=xs.length*sz:=by
  clear h e1
  induction xs with
  | nil=>simp
  | cons x xs ih=>simp only[List.flatMap_cons,List.length_append,hl,ih,List.length_cons,Nat.succ_mul];omega
 exact⟨by rw[e2,h.1],by rw[← e1];exact h.2⟩
theorem Mt.form (h:Mt sz e w lo A c n zs):(A=none∧n=0∧c=0)∨∃ g cur,A=some ⟨g,0,none⟩∧lo≤g∧g<w.heap.size∧w.heap[g]?=some (.cells cur e (0,0))∧n≤c∧c≤maxLen∧cur.size=c*sz∧cur.toList.take (n*sz)=FI zs:=by
 rcases h.owns.2 with⟨hv,h0⟩ | ⟨g,cap,cur,hv,hb,hh,hn,hm,hs,ht⟩
 ·injection hv with h1 h2 h3;exact .inl ⟨h1,h2,h3⟩
 ·injection hv with h1 h2 h3
  subst h3
  exact .inr ⟨g,cur,h1,hb,(Array.getElem?_eq_some_iff.1 hh).1,hh,hn,hm,hs,ht⟩
theorem Mt.Hw (h:Mt sz e w lo A c n zs) (hk:∀ a,A=some a→w'.heap[a.block]?=w.heap[a.block]?):Mt sz e w' lo A c n zs:=by
 refine⟨h.len,h.owns.1,?_⟩
 rcases h.owns.2 with hv | ⟨g,cap,cur,hv,hb,hh,r⟩
 ·exact .inl hv
 ·have hA:A=some ⟨g,0,none⟩:=by injection hv
  exact .inr ⟨g,cap,cur,hv,hb,(hk _ hA).trans hh,r⟩
theorem Mt.blk (h:Mt sz e w lo A c n zs) {a:Addr} (ha:A=some a):lo≤a.block∧a.block<w.heap.size:=by
 rcases h.form with⟨h1,_⟩ | ⟨g,cur,h1,h2,h3,_⟩
 ·rw[h1] at ha;cases ha
 ·rw[h1] at ha;cases ha;exact⟨h2,h3⟩
theorem Mt.cell (h:Mt sz e w lo A c n zs) {i:Nat} (hi:i<n*sz):∃ g z,A=some ⟨g,0,none⟩∧lo≤g∧g<w.heap.size∧w.cell? ⟨g,i,none⟩=some (.int .i64 z)∧∀ i,w.frozen? ⟨g,i,none⟩=false:=by
 rcases h.form with⟨_,h1,_⟩ | ⟨g,cur,h1,h2,h3,h4,_,_,_,h5⟩
 ·subst h1;simp at hi
 ·have hz:i<zs.length:=by rw[← h.len];exact hi
  have h6:cur[i]?=some (.int .i64 zs[i]):=by
   have h7:=congrArg (fun l:List Value=>l[i]?) h5
   simp only[List.getElem?_take,if_pos hi,FI,List.getElem?_map,List.getElem?_eq_getElem hz,Option.map_some] at h7
   rw[← h7];simp
  refine⟨g,zs[i],h1,h2,h3,?_,fun i=>by simp[World.frozen?,h4]⟩
  simp[World.cell?,h4,h6]
theorem SH:∀ (a b:Nat) (k:Int),marks k (a+b)=marks k a ++ marks (k+a) b
 | 0,b,k=>by simp[marks]
 | a+1,b,k=>by
  rw[show a+1+b=(a+b)+1 from by omega,marks,marks,SH a b (k+1),List.cons_append]
  congr 3;omega
theorem Mt.put {z0:List Int} {k:Int} {j g:Nat} (h:Mt sz e w lo (some ⟨g,0,none⟩) c n (marks k (j*sz) ++ z0.drop (j*sz))) (hl:n*sz=z0.length) (hj:j<n) :
  Mt sz e (setCells w g (j*sz) (FI (marks (k+(j:Int)*sz) sz))) lo (some ⟨g,0,none⟩) c n (marks k ((j+1)*sz) ++ z0.drop ((j+1)*sz)):=by
 have h1:(j+1)*sz=j*sz+sz:=Nat.succ_mul j sz
 have h2:j*sz+sz≤n*sz:=by rw[← h1];exact Nat.mul_le_mul_right _ hj
 have hm:∀ (a:Int) (b:Nat),(FI (marks a b)).length=b:=fun a b=>by simp[FI,IV]
 have hle:j*sz+(FI (marks (k+(j:Int)*sz) sz)).length≤(FI (marks k (j*sz) ++ z0.drop (j*sz))).length:=by
  rw[hm]
  simp only[FI,List.length_map,List.length_append,IV,List.length_drop]
  omega
 have:=LG _ _ w h.owns hle
 rw[NG _ _ _ hle,hm] at this
 have e1:(FI (marks k (j*sz) ++ z0.drop (j*sz))).take (j*sz)=FI (marks k (j*sz)):=by
  unfold FI
  rw[List.map_append,List.take_append_of_le_length (by simp[IV]),List.take_of_length_le (by simp[IV])]
 have e2:(FI (marks k (j*sz) ++ z0.drop (j*sz))).drop (j*sz+sz)=FI (z0.drop ((j+1)*sz)):=by
  unfold FI
  rw[List.map_append,List.drop_append,List.drop_of_length_le (by simp[IV]),List.length_map,IV,List.nil_append,← List.map_drop,List.drop_drop,h1]
  congr 2;omega
 rw[e1,e2] at this
 refine⟨by simp only[List.length_append,IV,List.length_drop];omega,?_⟩
 have e3:FI (marks k ((j+1)*sz) ++ z0.drop ((j+1)*sz))=FI (marks k (j*sz)) ++ FI (marks (k+(j:Int)*sz) sz) ++ FI (z0.drop ((j+1)*sz)):=by
  rw[h1,SH]
  simp[FI]
 rw[e3]
 exact this
theorem JI {S:Nat→Prop} {w0:World} {g:Nat}:∀ {vs:List Value} {w:World} {i:Nat},Ch S w0 w→S g→Ch S w0 (setCells w g i vs)
 | [],_,_,h,_=>h
 | v::vs,w,i,h,hg=>JI (vs:=vs) (h.setCell (p:=⟨g,i,none⟩) (Or.inl hg) v) hg
theorem Mt.rd (h:Mt sz e w lo A c n zs):Rd w lo A c sz n (FI zs):=Rd.Y6 h.owns
theorem Rd.marks {k:Int} {N:Nat} (h:Rd w lo A c sz n (FI (Go.Proofs.YtgaflnpmilikcaaGreat.marks k N))) (hn:0<n):∃ g off,A=some ⟨g,off,none⟩∧∀ i,i<N→w.cell? ⟨g,off+i,none⟩=some (.int .i64 (k+(i:Nat))):=by
 cases A with
 | none=>have:=h.nil rfl;have:=h.le;omega
 | some a=>
  obtain⟨h1,h2,h3,h4⟩:=h.cells a rfl hn
  obtain⟨g,off,spot⟩:=a
  dsimp only at h1 h2 h3 h4
  subst h1
  refine⟨g,off,rfl,fun i hi=>h4 i _ ?_⟩
  simp only[FI,List.getElem?_map,UI N i k hi,Option.map_some]
end
def Sw.FC.ints (x:Sw.FC):List Int:=[x.kind,x.ticket,x.who,x.Al]
def Sw.BC.ints (x:Sw.BC):List Int:=[x.ticket,x.BP,x.Al,x.BN,x.due]
def Sw.Ee.ints (x:Sw.Ee):List Int:=[x.user,x.n,x.kind,x.ticket,x.who,x.Al]
end Go.Proofs.YtgaflnpmilikcaaGreat
namespace Go.Proofs.YtgaflnpmilikcaaGreat
open Go.RowKit Go
set_option maxHeartbeats 16000000
def sliceLen:Value→Nat
 | .slice _ n _=>n
 | _=>0
theorem Ints.ex {w w':World} {g n:Nat} (hb:Ex w w') (h:Ints w g n):Ints w' g n:=h.ch hb (fun h=>h)
set_option maxHeartbeats 1000000
theorem Si:∀ (l:List Int) (n i:Nat) (leaf:Int),Sw.BK leaf=true→l.all Sw.BK=true→Sw.BK (Sw.LA n i leaf l).1=true
 | [],n,i,leaf,h,_=>by
  unfold Sw.LA
  split
  ·exact h
  ·rfl
 | y::l,n,i,leaf,h,ha=>by
  unfold Sw.LA
  split
  ·exact h
  ·split <;> exact KL _ _
theorem nI (N:Nat) (A:Option Addr) (c n m k:Nat) (leaf:Int) (xs:List Int) (w:World) (hN:n≤N) (hxs:RI w 0 A c n xs) (QF:n≤40) (hall:xs.all Sw.BK=true) (Us:Sw.BK leaf=true) (hm:1≤m) (hk:k<m) (ZZ:m≤40):Calls Tryz.prog 238 #[.int .i64 m,.int .i64 k,.int .i64 leaf,.slice A n c] w fun E w'=>E=.returned (.tuple #[.int .i64 (Sw.LA m k leaf xs.reverse).1,.bool (Sw.LA m k leaf xs.reverse).2])∧Ex w w':=by
 induction N generalizing A c n m k xs w with
 | zero=>
  have hl:=hxs.1
  obtain rfl:n=0:=by omega
  have hx:xs=[]:=List.eq_nil_of_length_eq_zero (by omega)
  subst hx
  clear hl
  by_cases h1:m=1
  ·subst h1
   go_enter Tryz.func238,Tryz.ntmps238
   go_wp2_with fail
   go_ret2
   exact⟨by simp[Sw.LA],AA⟩
  ·have hb:((m:Int)==1)=false:=by simp;omega
   have hb2:decide ((m:Int)<2)=false:=by simp;omega
   go_enter Tryz.func238,Tryz.ntmps238
   go_wp2_with fail
   go_ret2
   exact⟨by simp[Sw.LA,show ¬m≤1 by omega],AA⟩
 | succ N ih=>
  have hl:=Lib.hid hxs.1
  have hcap:=hxs.2.le
  by_cases h0:n=0
  ·subst h0
   have hx:xs=[]:=List.eq_nil_of_length_eq_zero (by have:=hl.out;omega)
   subst hx
   exact ih _ c 0 m k [] w (by omega) hxs (by omega) hall hm hk ZZ
  ·obtain⟨p,rfl⟩:∃ p,n=p+1:=⟨n-1,by omega⟩
   obtain⟨g,off,y,rfl,hg0,hg,hd,hy,hc⟩:=G8 hxs (show p<p+1 by omega)
   have hrev:=OY (by have:=hl.out;omega) hy
   have Ji:Sw.BK y=true:=List.all_eq_true.1 hall y (List.mem_of_getElem? hy)
   rw[hrev]
   have Hy:=Lib.hid hy
   clear hd hy hrev
   have w1:IntKind.i64.wrap ((p:Int)+1-1)=p:=by rw[IntWalk.i64_in _ (by omega)];omega
   have tp:(p:Int)<(p:Int)+1:=by omega
   have hb0:((p:Int)+1==0)=false:=by simp;omega
   have hb1:decide ((p:Int)<0)=false:=by simp
   by_cases h1:m=1
   ·subst h1
    go_enter Tryz.func238,Tryz.ntmps238
    go_wp2_with fail
    go_ret2
    exact⟨by simp[Sw.LA],AA⟩
   ·have h2:2≤m:=by omega
    have hs1:=Sw.FJ h2
    have hs0:=Sw.EL m
    have hb:((m:Int)==1)=false:=by simp;omega
    have hb2:decide ((m:Int)<2)=false:=by simp;omega
    have hal:=List.Dr (k:=p) hall
    have Zk:(xs.take p).reverse.all Sw.BK=true:=by rw[List.all_reverse];exact hal
    by_cases hms:k<Sw.split m
    ·have jK:(k:Int)<(Sw.split m:Int):=by omega
     have e:Sw.LA m k leaf (y::(xs.take p).reverse)=(Sw.pair (Sw.LA (Sw.split m) k leaf (xs.take p).reverse).1 y,(Sw.LA (Sw.split m) k leaf (xs.take p).reverse).2):=by
      rw[Sw.LA,if_neg (by omega),if_pos hms]
     have m_:=Si (xs.take p).reverse (Sw.split m) k leaf Us Zk
     rw[e];clear e
     go_enter Tryz.func238,Tryz.ntmps238
     go_wp2_with (first|(go_at_call 192;apply Calls.mono;apply FK;(exact Bu);(exact Bu);rintro E w' ⟨rfl,rfl⟩)|(go_at_call 238;apply Calls.mono;apply ih;omega;(apply Rs.A8;apply E8 hxs;omega;(exact AO));omega;exact hal;omega;omega;omega;rintro E w1 ⟨rfl,hb⟩;obtain⟨hc,hf,hz⟩:=xy hb)|(go_at_call 193;refine (IG _ _ _).mono ?_;rintro E w' ⟨rfl,rfl⟩))
     all_goals (try (refine CF fun W0 hb0 hc0 hf0 hz0=>?_;go_region_held3 (fun w'=>Held W0 w') ((exact FU)) ((go_at_call 193;refine (IG _ _ _).mono ?_;rintro E w' ⟨rfl,rfl⟩));all_goals (obtain⟨hb,hc,hf,hz⟩:=xh (by assumption:Held W0 _))))
     all_goals (try go_wp2)
     go_ret2
     exact⟨by rw[I_ m_ Ji];rfl,AA⟩
    ·have jK:¬(k:Int)<(Sw.split m:Int):=by omega
     have y0:IntKind.i64.wrap ((k:Int)-↑(Sw.split m))=((k-Sw.split m:Nat):Int):=by rw[IntWalk.i64_in _ (by omega)];omega
     have y1:IntKind.i64.wrap ((m:Int)-↑(Sw.split m))=((m-Sw.split m:Nat):Int):=by rw[IntWalk.i64_in _ (by omega)];omega
     have e:Sw.LA m k leaf (y::(xs.take p).reverse)=(Sw.pair y (Sw.LA (m-Sw.split m) (k-Sw.split m) leaf (xs.take p).reverse).1,(Sw.LA (m-Sw.split m) (k-Sw.split m) leaf (xs.take p).reverse).2):=by
      rw[Sw.LA,if_neg (by omega),if_neg hms]
     have m_:=Si (xs.take p).reverse (m-Sw.split m) (k-Sw.split m) leaf Us Zk
     rw[e];clear e
     go_enter Tryz.func238,Tryz.ntmps238
     go_wp2_with (first|(go_at_call 192;apply Calls.mono;apply FK;(exact Bu);(exact Bu);rintro E w' ⟨rfl,rfl⟩)|(go_at_call 238;apply Calls.mono;apply ih;omega;(apply Rs.A8;apply E8 hxs;omega;(exact AO));omega;exact hal;omega;omega;omega;rintro E w1 ⟨rfl,hb⟩;obtain⟨hc,hf,hz⟩:=xy hb)|(go_at_call 193;refine (IG _ _ _).mono ?_;rintro E w' ⟨rfl,rfl⟩))
     all_goals (try (refine CF fun W0 hb0 hc0 hf0 hz0=>?_;go_region_held3 (fun w'=>Held W0 w') ((exact FU)) ((go_at_call 193;refine (IG _ _ _).mono ?_;rintro E w' ⟨rfl,rfl⟩));all_goals (obtain⟨hb,hc,hf,hz⟩:=xh (by assumption:Held W0 _))))
     all_goals (try go_wp2)
     go_ret2
     exact⟨by rw[I_ Ji m_];rfl,AA⟩
theorem Yl (nn i leaf:Int) (A:Option Addr) (c n:Nat) (xs:List Int) (w:World) (hxs:RI w 0 A c n xs):Calls Tryz.prog 229 #[.int .i64 nn,.int .i64 i,.int .i64 leaf,.slice A n c] w fun E w'=>E=.returned (.tuple #[.int .i64 ((Sw.EW nn i leaf xs).getD 0),.bool (Sw.EW nn i leaf xs).isSome])∧Ex w w':=by
 have hl:=Lib.hid hxs.1
 cases g1:Sw.Br nn 1 40
 case false=>
        have e:Sw.EW nn i leaf xs=none:=by (simp[Sw.EW,g1])
        rw[e];go_enter Tryz.func229,Tryz.ntmps229;go_wp2_with (go_at_call 48;refine (Aw _ _ _ _).mono ?_;rintro E w' ⟨rfl,rfl⟩);go_ret2;exact⟨rfl,AA⟩
 obtain⟨n0,n1⟩:=Sw.BB.1 g1
 cases g2:Sw.Br i 0 (nn-1)
 case false=>
        have e:Sw.EW nn i leaf xs=none:=by (simp[Sw.EW,g2])
        rw[e];go_enter Tryz.func229,Tryz.ntmps229;go_wp2_with (go_at_call 48;refine (Aw _ _ _ _).mono ?_;rintro E w' ⟨rfl,rfl⟩);go_ret2;exact⟨rfl,AA⟩
 obtain⟨i0,i1⟩:=Sw.BB.1 g2
 cases g3:Sw.BK leaf
 case false=>
        have e:Sw.EW nn i leaf xs=none:=by (simp[Sw.EW,g3])
        rw[e];go_enter Tryz.func229,Tryz.ntmps229;go_wp2_with (first|(go_at_call 48;refine (Aw _ _ _ _).mono ?_;rintro E w' ⟨rfl,rfl⟩)|(go_at_call 109;refine (Gh _ _).mono ?_;rintro E w' ⟨rfl,rfl⟩));go_ret2;exact⟨rfl,AA⟩
 cases g4:Sw.DW xs
 case false=>
        have e:Sw.EW nn i leaf xs=none:=by (simp[Sw.EW,g4])
        rw[e];go_enter Tryz.func229,Tryz.ntmps229;go_wp2_with (first|(go_at_call 48;refine (Aw _ _ _ _).mono ?_;rintro E w' ⟨rfl,rfl⟩)|(go_at_call 109;refine (Gh _ _).mono ?_;rintro E w' ⟨rfl,rfl⟩)|(go_at_call 50;apply Calls.mono;apply Ig;(exact Co);rintro E w' ⟨rfl,rfl⟩));go_ret2;exact⟨rfl,AA⟩
 obtain⟨QF,hall⟩:=Sw.Gu.1 g4
 have Uq:n≤40:=by have:=hl.out;omega
 obtain⟨m,rfl⟩:=Int.eq_ofNat_of_zero_le (show 0≤nn by omega)
 obtain⟨k,rfl⟩:=Int.eq_ofNat_of_zero_le i0
 have e:Sw.EW m k leaf xs=if (Sw.LA m k leaf xs.reverse).2 then some (Sw.LA m k leaf xs.reverse).1 else none:=by
  simp only[Sw.EW,g1,g2,g3,g4,Bool.true_and,Sw.up,Int.toNat_natCast]
 rw[e];clear e
 cases hu:(Sw.LA m k leaf xs.reverse).2
 all_goals
  go_enter Tryz.func229,Tryz.ntmps229
  go_wp2_with (first|(go_at_call 48;refine (Aw _ _ _ _).mono ?_;rintro E w' ⟨rfl,rfl⟩)|(go_at_call 109;refine (Gh _ _).mono ?_;rintro E w' ⟨rfl,rfl⟩)|(go_at_call 50;apply Calls.mono;apply Ig;(exact Co);rintro E w' ⟨rfl,rfl⟩)|(go_at_call 238;apply Calls.mono;apply (nI 40);omega;(exact Co);omega;exact hall;exact g3;omega;omega;omega;rintro E w1 ⟨rfl,hb⟩;obtain⟨hc,hf,hz⟩:=xy hb))
  go_ret2
  exact⟨rfl,AA⟩
theorem Tp (r nn i leaf:Int) (A:Option Addr) (c n:Nat) (xs:List Int) (w:World) (hxs:RI w 0 A c n xs):Calls Tryz.prog 207 #[.int .i64 r,.int .i64 nn,.int .i64 i,.int .i64 leaf,.slice A n c] w fun E w'=>E=.returned (.bool (Sw.Jw r nn i leaf xs))∧Ex w w':=by
 have e:Sw.Jw r nn i leaf xs=((Sw.EW nn i leaf xs).isSome&&((Sw.EW nn i leaf xs).getD 0==r)):=by
  unfold Sw.Jw
  cases Sw.EW nn i leaf xs with
  | none=>rfl
  | some v=>rfl
 rw[e];clear e
 cases hu:(Sw.EW nn i leaf xs).isSome
 all_goals
  go_enter Tryz.func207,Tryz.ntmps207
  go_wp2_with (go_at_call 229;apply Calls.mono;apply Yl;(exact Co);rintro E w1 ⟨rfl,hb⟩;obtain⟨hc,hf,hz⟩:=xy hb)
  all_goals (go_ret;exact⟨Ar (by simp[*]),AA⟩)
theorem Tt (root t:Int) (r:Sw.Row) (A:Option Addr) (c n:Nat) (xs:List Int) (w:World) (hxs:RI w 0 A c n xs):Calls Tryz.prog 179 #[.int .i64 root,.int .i64 t,.agg #[.int .i64 r.who,.int .i64 r.EY,.bool r.used],.slice A n c] w fun E w'=>E=.returned (.bool (Sw.Hu root t r xs))∧Ex w w':=by
 cases g1:Sw.Br t 0 7
 all_goals
  go_enter Tryz.func179,Tryz.ntmps179
  go_wp2_with (first|(go_at_call 48;refine (Aw _ _ _ _).mono ?_;rintro E w' ⟨rfl,rfl⟩)|(go_at_call 208;refine (Qn _ _ _).mono ?_;rintro E w1 ⟨rfl,hb⟩;obtain⟨hc,hf,hz⟩:=xy hb)|(go_at_call 207;apply Calls.mono;apply Tp;(exact Co);rintro E w1 ⟨rfl,hb⟩;obtain⟨hc,hf,hz⟩:=xy hb))
  all_goals (go_ret;exact⟨Ar (by simp[Sw.Hu,g1]),AA⟩)
end Go.Proofs.YtgaflnpmilikcaaGreat
