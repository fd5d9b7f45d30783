/- Texts joined: PtrF, Incl, GrowI. -/
import Derived.Test.YtgaflnpmilikcaaGreatPx26
import Derived.Test.YtgaflnpmilikcaaGreatPx10
import Derived.Test.YtgaflnpmilikcaaGreatPx16
import Derived.Test.YtgaflnpmilikcaaGreatPx5
import Derived.Test.YtgaflnpmilikcaaGreatPx7
set_option maxRecDepth 100000
set_option linter.unusedSimpArgs false
set_option linter.unusedVariables false
namespace Go.Proofs.YtgaflnpmilikcaaGreat
open Go.RowKit Go
set_option maxHeartbeats 4000000
section
variable {g o n lo:Nat} {τ0 τ:Nat→Nat} {w0 w:World} {aL aP aD aN aS:Option Addr} {Ae AU Ag AY Ac AQ Ad Aa Af Ab:Nat} {m:Sw.CV}
theorem Xy (hS:MS g o n lo τ0 w0 aL Ae AU aP Ag AY aD Ac AQ aN Ad Aa aS Af Ab m τ w) (ru rn rk:Int) (t:Nat) (rh rp:Int) {rows:List Sw.Row} (hok:Sw.IL m rows):Calls Tryz.prog 159 #[.pointer (some ⟨g,o,none⟩),.agg #[.int .i64 ru,.int .i64 rn,.int .i64 rk,.int .i64 t,.int .i64 rh,.int .i64 rp],.int .i64 (Sw.FB m.AJ t)] w fun E w'=>
  ∃ (bL:Option Addr) (Bg BR:Nat) (bP:Option Addr) (Bf BV:Nat) (bD:Option Addr) (Bh Ba:Nat) (bN:Option Addr) (Bd Bb:Nat) (bS:Option Addr) (Bc BZ:Nat) (τ':Nat→Nat),E=.returned (.int .i64 (Sw.settle m ⟨ru,rn,rk,t,rh,rp⟩ (Sw.BH m.AJ t)).2)∧MS g o n lo τ0 w0 bL Bg BR bP Bf BV bD Bh Ba bN Bd Bb bS Bc BZ (Sw.settle m ⟨ru,rn,rk,t,rh,rp⟩ (Sw.BH m.AJ t)).1 τ' w':=by
 obtain⟨k0,k1,k2,k3,k4,k5,k6,kf⟩:=hS.at_
 have HS:=Lib.hid hS
 have hpn:AY≤4194304:=by have:=hS.ow.Ai.ow.1;have:=(Sw.Ci.1 hok.Rp).1;omega
 have l1:=hS.ow.log.ow.1
 have l3:=hS.ow.AJ.ow.1
 have hll:=(Sw.B_.1 hok.fold).1
 cases h3:Sw.BH m.AJ t
 case none=>
  have e:Sw.settle m ⟨ru,rn,rk,t,rh,rp⟩ none=(m,3):=rfl
  rw[e,EJ h3]
  clear e l1 l3 h3 hok hS hll
  go_enter Tryz.func159,Tryz.ntmps159
  go_wp2_with fail
  go_ret
  exact⟨_,_,_,_,_,_,_,_,_,_,_,_,_,_,_,τ,rfl,HS.out.ex AA⟩
 rename_i kd
 obtain⟨d,hd,hdt⟩:=Sw.Dc h3
 have hk:kd<AQ:=by have:=(List.getElem?_eq_some_iff.1 hd).1;omega
 rw[EI h3]
 have hgd:=Sw.CP (z:=Sw.EE) hd
 obtain⟨gD,y,rfl,R4,Ur,hy,d0,d1,d2,d3,d4,aW⟩:=MX hS.ow.AJ.ow hk
 obtain rfl:y=d:=Option.some.inj (hy.symm.trans hd)
 have hne:=hS.ne (hS.ow.AJ.tag _ rfl) (by decide)
 clear hok hS
 have i0:(0:Int)≤(kd:Int):=by omega
 have i1:(kd:Int)<(AQ:Int):=by omega
 have i2:¬(kd:Int)<0:=by omega
 cases hh:Sw.held y
 case false=>
  have e:Sw.settle m ⟨ru,rn,rk,t,rh,rp⟩ (some kd)=(m,3):=by unfold Sw.settle;dsimp only;rw[hgd,if_pos hh]
  rw[e]
  clear e l1 l3 h3 hd hdt hy hgd hll
  go_enter Tryz.func159,Tryz.ntmps159
  go_wp2_with (go_at_call 120;apply Calls.mono;apply (F7 y);rintro E w1 ⟨rfl,hb⟩;rw[hh];obtain⟨hc,hf,hz⟩:=xy hb)
  go_ret
  exact⟨_,_,_,_,_,_,_,_,_,_,_,_,_,_,_,τ,rfl,HS.out.ex AA⟩
 by_cases h5:y.BP=ru
 case neg=>
  have g5:(ru != y.BP)=true:=by simp;exact fun h=>h5 h.symm
  have e:Sw.settle m ⟨ru,rn,rk,t,rh,rp⟩ (some kd)=(m,2):=by unfold Sw.settle;dsimp only;rw[hgd,if_neg (by simp[hh]),if_pos h5]
  rw[e]
  clear e l1 l3 h3 hd hdt hy hgd h5 hll
  go_enter Tryz.func159,Tryz.ntmps159
  go_wp2_with (go_at_call 120;apply Calls.mono;apply (F7 y);rintro E w1 ⟨rfl,hb⟩;rw[hh];obtain⟨hc,hf,hz⟩:=xy hb)
  go_ret
  exact⟨_,_,_,_,_,_,_,_,_,_,_,_,_,_,_,τ,rfl,HS.out.ex AA⟩
 have g5:(ru != y.BP)=false:=by simp[h5]
 by_cases h4:m.log.length=40
 ·have e:Sw.settle m ⟨ru,rn,rk,t,rh,rp⟩ (some kd)=(m,6):=by unfold Sw.settle;dsimp only;rw[hgd,if_neg (by simp[hh]),if_neg (by simp[h5]),if_pos h4]
  rw[e]
  have QF:AU=40:=by omega
  clear e l1 l3 h3 hd hdt hy hgd h5 h4 hll
  go_enter Tryz.func159,Tryz.ntmps159
  go_wp2_with (first|(go_at_call 120;apply Calls.mono;apply (F7 y);rintro E w1 ⟨rfl,hb⟩;rw[hh];obtain⟨hc,hf,hz⟩:=xy hb)|(go_at_call 160;apply Calls.mono;apply (RO (HS.out.ex AA) 2 t y.BN y.Al QF);rintro E w3 ⟨rfl,hb⟩;obtain⟨hc,hf,hz⟩:=xy hb))
  go_ret
  exact⟨_,_,_,_,_,_,_,_,_,_,_,_,_,_,_,τ,rfl,HS.out.ex AA⟩
 have e:Sw.settle m ⟨ru,rn,rk,t,rh,rp⟩ (some kd)=({ m with Ai:=Sw.Dy m.Ai y.BP y.Al,log:=m.log ++ [⟨2,t,y.BN,y.Al⟩],AJ:=m.AJ.eraseIdx kd },1):=by unfold Sw.settle;dsimp only;rw[hgd,if_neg (by simp[hh]),if_neg (by simp[h5]),if_neg h4]
 rw[e]
 have Uq:AU<40:=by omega
 clear e l1 l3 h3 hd hdt hy hgd h5 h4 hll
 go_enter Tryz.func159,Tryz.ntmps159
 go_wp2_with (go_at_call 120;apply Calls.mono;apply (F7 y);rintro E w1 ⟨rfl,hb⟩;rw[hh];obtain⟨hc,hf,hz⟩:=xy hb)
 have hWc:Ex w (w1.alloc (.cells #[.int .i64 y.ticket,.int .i64 y.BP,.int .i64 y.Al,.int .i64 y.BN,.int .i64 y.due] 71)):=AA
 have hA:=HS.out.zero hWc
 apply Calls.mono
 apply (Pd hA.PW 2 t y.BN y.Al Uq)
 rintro E w3 ⟨A3,c3,τ3,rfl,dz⟩
 obtain⟨hB0,Ta⟩:=dz.box (b:=w1.heap.size) (by simp only[zA];omega) (RY (by omega)) (by omega)
 obtain⟨j0,j1,j2,j3,j4,j5,j6,jf⟩:=dz.at_
 have hz3:=dz.ch.size
 simp only[zA] at hz3
 have aU:=dz.ow.Ai.ow.rs
 have zL:=dz.lb
 have H3:=Lib.hid dz
 clear dz
 go_wp2_with fail
 (refine CF fun W0 hb0 hc0 hf0 hz0=>?_;have JR:Lb W0 (g) n:=Lb.ex (by exact Dw) hb0;refine wp_region_held_drew (S:=fun w'=>Au (g) n W0 w') (by kernel_rfl) ?_ (fun hHeld=>?_);(focus ((try dsimp only);(exact EX)));refine rT 0 44 (h:=?_);refine rT 1 45 (h:=?_);refine rT 2 46 (h:=?_);refine rT 3 47 (h:=?_);refine rT 5 49 (h:=?_);refine rT 6 50 (h:=?_);refine rT 7 51 (h:=?_);refine rT 8 52 (h:=?_);refine wpAnyH_ready (rs:=[4]) (by kernel_rfl) (by simp) ?_;refine AllReadyH.cons rfl (fun K hK=>?_) ?_;rotate_left;(focus exact AllReadyH.nil);go_simp;refine hK.out _ _ ?_ (fun hHeld=>?_);(focus ((try dsimp only);(exact EX)));clear hK K;(try simp only[Act.put,DN]);refine wpAnyH_ready (rs:=[9]) (by kernel_rfl) (by simp) ?_;refine AllReadyH.cons rfl (fun K hK=>?_) ?_;rotate_left;(focus exact AllReadyH.nil);go_simp;(go_at_call 137;apply Calls.mono;apply F6;(apply Rs.A8 aU;(exact AO));omega;rintro E w5 ⟨A5,c5,rfl,LK,hb⟩;have hb5:=hb;obtain⟨hc,hf,hz⟩:=xy hb);(try go_wp2_with fail);refine hK.out _ _ ?_ (fun hHeld=>?_);(focus ((try dsimp only);(exact EX)));clear hK K;(try simp only[Act.put,DN]);refine rT 10 43 (h:=?_);refine rT 11 54 (h:=?_);refine rT 12 55 (h:=?_);refine rT 13 56 (h:=?_);refine rT 14 57 (h:=?_);refine wpAnyH_ready (rs:=[15]) (by kernel_rfl) (by simp) ?_;refine AllReadyH.cons rfl (fun K hK=>?_) ?_;rotate_left;(focus exact AllReadyH.nil);have hb:=Au.ch hHeld;obtain⟨hc,hf,hz⟩:=xd hb;have JQ:=Au.lb hHeld;obtain⟨hcx,hfx⟩:=Lb.rules JQ;go_simp;refine hK.out _ _ ?_ (fun FZ=>?_);(focus ((try dsimp only);(exact EX)));clear hK K hHeld hcx hfx JQ;have CJ:=Au.lb FZ;(repeat (first|with_reducible replace CJ:=Lb.G_ CJ|with_reducible replace CJ:=Lb.Fy CJ));obtain⟨hcb,M6⟩:=Lb.rules CJ;have hbf:=Au.ch FZ;clear FZ;(try simp only[Act.put,DN]);refine wpAnyH_done (by kernel_rfl) ?_ _)
 all_goals go_wp2_with fail
 have m2:=MS.Ai (w:=W0.drew) (H3.out.ex AA) LK hb5
 apply Calls.mono
 apply (SY m2 hk)
 rintro E w6 ⟨τ6,rfl,TE⟩
 go_wp2
 go_ret
 exact⟨_,_,_,_,_,_,_,_,_,_,_,_,_,_,_,τ6,rfl,hA.trans TE⟩
end
end Go.Proofs.YtgaflnpmilikcaaGreat
namespace Go.Proofs.YtgaflnpmilikcaaGreat
open Go.RowKit Go
set_option maxHeartbeats 1000000
theorem Gp {N:Nat} {l:List Int} {i:Nat} (h:l.length≤1):Sw.Ll N l i=[]:=by
 cases N with
 | zero=>rfl
 | succ N=>rw[Sw.Ll,if_pos h]
theorem Ob {N:Nat} {l:List Int} {i:Nat} (h:¬l.length≤1):Sw.Ll (N+1) l i =
  if i<Sw.split l.length then Sw.Ll N (l.take (Sw.split l.length)) i ++ [Sw.root (l.drop (Sw.split l.length))]
  else Sw.Ll N (l.drop (Sw.split l.length)) (i-Sw.split l.length) ++ [Sw.root (l.take (Sw.split l.length))]:=by
 rw[Sw.Ll,if_neg h]
theorem bZ (N:Nat) (A:Option Addr) (c n i:Nat) (xs:List Int) (w:World) (hN:n≤N) (wV:N≤40) (hxs:RI w 0 A c n xs) (hok:xs.all Sw.BK=true) (hi:i≤40):Calls Tryz.prog 182 #[.slice A n c,.int .i64 i] w fun E w'=>∃ A' c' n',E=.returned (.slice A' n' c')∧Ga w' w.heap.size A' c' n' (Sw.Ll N xs i)∧n'≤N∧Ex w w':=by
 induction N generalizing A c n i xs w with
 | zero=>
  obtain rfl:n=0:=by omega
  have e:Sw.Ll 0 xs i=[]:=rfl
  rw[e]
  go_enter Tryz.func182,Tryz.ntmps182
  go_wp2_with fail
  go_ret
  refine⟨_,_,_,rfl,?_,Nat.zero_le _,AA⟩
  (refine PX)
 | succ N ih=>
  have hl:=Lib.hid hxs.1
  have hcap:=hxs.2.le
  by_cases h1:n≤1
  ·have e:Sw.Ll (N+1) xs i=[]:=Gp (by have:=hl.out;omega)
   rw[e]
   have hlt:(n:Int)<2:=by omega
   go_enter Tryz.func182,Tryz.ntmps182
   go_wp2_with fail
   go_ret
   refine⟨_,_,_,rfl,?_,Nat.zero_le _,AA⟩
   (refine PX)
  ·have h2:2≤n:=by omega
   have hs1:=Sw.FJ h2
   have hs0:=Sw.EL n
   have hg:=Ob (N:=N) (l:=xs) (i:=i) (by have:=hl.out;omega)
   rw[← hl.out] at hg
   have Hg:=Lib.hid hg
   clear hg
   have hnlt:¬(n:Int)<2:=by omega
   have z3:¬(c=Sw.split n):=by omega
   have z0:(0:Int)≤↑(Sw.split n):=by omega
   have z1:(↑(Sw.split n):Int)≤↑n:=by omega
   have z2:(↑(Sw.split n):Int)≤↑c:=by omega
   by_cases hms:i<Sw.split n
   ·go_enter Tryz.func182,Tryz.ntmps182
    go_wp2_with (go_at_call 192;apply Calls.mono;apply FK;(exact Bu);(exact Bu);rintro E w' ⟨rfl,rfl⟩)
    (refine CF fun W0 hb0 hc0 hf0 hz0=>?_;go_region_held3 (fun w'=>Held W0 w') ((exact FU)) ((first|(go_at_call 182;apply Calls.mono;apply ih;omega;omega;(apply Rs.A8;apply E8 hxs;omega;(exact AO));exact List.Dr hok;omega;rintro E w1 ⟨A3,c3,n3,rfl,ho3,jJ,hb⟩;obtain⟨hc,hf,hz⟩:=xy hb)|(go_at_call 166;apply Calls.mono;apply (LF 40);omega;(apply Rs.A8;apply Iw hxs;omega;(exact AO));omega;exact List.Ey hok;rintro E w1 ⟨rfl,hb⟩;obtain⟨hc,hf,hz⟩:=xy hb)|(apply BM FO Dz rfl rfl rfl rfl;(exact Iy);(first|(refine Rs.new [Sw.root (xs.drop (Sw.split n))] (by (first|rfl|(simp only[BO];done)|omega)) rfl rfl (fun _=>rfl) (by omega)));omega;exact Aq;intro A1 c1 w2 ho1 Ap Bo Ay Ah;have hbx:=Ay (fun _=>False) W0 (And.right (by assumption:Held W0 _)) (by exact Aq);clear Ay Ah)));all_goals (obtain⟨hb,hc,hf,hz⟩:=xh (by assumption:Held W0 _)))
    go_wp2
    go_ret
    refine⟨_,_,_,rfl,?_,by omega,AA⟩
    rw[Hg.out,if_pos hms]
    exact ho1.less (by exact Aq)
   ·have y0:IntKind.i64.wrap ((i:Int)-↑(Sw.split n))=((i-Sw.split n:Nat):Int):=by rw[IntWalk.i64_in _ (by omega)];omega
    go_enter Tryz.func182,Tryz.ntmps182
    go_wp2_with (go_at_call 192;apply Calls.mono;apply FK;(exact Bu);(exact Bu);rintro E w' ⟨rfl,rfl⟩)
    (refine CF fun W0 hb0 hc0 hf0 hz0=>?_;go_region_held3 (fun w'=>Held W0 w') ((exact FU)) ((first|(go_at_call 182;apply Calls.mono;apply ih;omega;omega;(apply Rs.A8;apply Iw hxs;omega;(exact AO));exact List.Ey hok;omega;rintro E w1 ⟨A3,c3,n3,rfl,ho3,jJ,hb⟩;obtain⟨hc,hf,hz⟩:=xy hb)|(go_at_call 166;apply Calls.mono;apply (LF 40);omega;(apply Rs.A8;apply E8 hxs;omega;(exact AO));omega;exact List.Dr hok;rintro E w1 ⟨rfl,hb⟩;obtain⟨hc,hf,hz⟩:=xy hb)|(apply BM FO Dz rfl rfl rfl rfl;(exact Iy);(first|(refine Rs.new [Sw.root (xs.take (Sw.split n))] (by (first|rfl|(simp only[BO];done)|omega)) rfl rfl (fun _=>rfl) (by omega)));omega;exact Aq;intro A1 c1 w2 ho1 Ap Bo Ay Ah;have hbx:=Ay (fun _=>False) W0 (And.right (by assumption:Held W0 _)) (by exact Aq);clear Ay Ah)));all_goals (obtain⟨hb,hc,hf,hz⟩:=xh (by assumption:Held W0 _)))
    go_wp2
    go_ret
    refine⟨_,_,_,rfl,?_,by omega,AA⟩
    rw[Hg.out,if_neg hms]
    exact ho1.less (by exact Aq)
theorem dU (N:Nat) (A:Option Addr) (c n i:Nat) (xs:List Int) (w:World) (hN:n≤N) (wV:N≤40) (hxs:RI w 0 A c n xs) (hok:xs.all Sw.BK=true) (hi:i<n):Calls Tryz.prog 199 #[.slice A n c,.int .i64 i] w fun E w'=>∃ A' c' n',E=.returned (.slice A' n' c')∧Ga w' w.heap.size A' c' n' (Sw.Ll N xs i)∧n'≤N∧Ex w w':=by
 induction N generalizing A c n i xs w with
 | zero=>omega
 | succ N ih=>
  have hl:=Lib.hid hxs.1
  have hcap:=hxs.2.le
  by_cases h1:n=1
  ·have e:Sw.Ll (N+1) xs i=[]:=Gp (by have:=hl.out;omega)
   rw[e]
   subst h1
   go_enter Tryz.func199,Tryz.ntmps199
   go_wp2_with fail
   go_ret
   refine⟨_,_,_,rfl,?_,Nat.zero_le _,AA⟩
   exact Ow.nil _ _
  ·have h2:2≤n:=by omega
   have hs1:=Sw.FJ h2
   have hs0:=Sw.EL n
   have hg:=Ob (N:=N) (l:=xs) (i:=i) (by have:=hl.out;omega)
   rw[← hl.out] at hg
   have Hg:=Lib.hid hg
   clear hg
   have hnlt:((n:Int)==1)=false:=by simp;omega
   have z3:¬(c=Sw.split n):=by omega
   have z0:(0:Int)≤↑(Sw.split n):=by omega
   have z1:(↑(Sw.split n):Int)≤↑n:=by omega
   have z2:(↑(Sw.split n):Int)≤↑c:=by omega
   by_cases hms:i<Sw.split n
   ·go_enter Tryz.func199,Tryz.ntmps199
    go_wp2_with (go_at_call 161;apply Calls.mono;apply Io;(exact Bu);(exact Bu);rintro E w' ⟨rfl,rfl⟩)
    (refine CF fun W0 hb0 hc0 hf0 hz0=>?_;go_region_held3 (fun w'=>Held W0 w') ((exact FU)) ((first|(go_at_call 199;apply Calls.mono;apply ih;omega;omega;(apply Rs.A8;apply E8 hxs;omega;(exact AO));exact List.Dr hok;omega;rintro E w1 ⟨A3,c3,n3,rfl,ho3,jJ,hb⟩;obtain⟨hc,hf,hz⟩:=xy hb)|(go_at_call 125;apply Calls.mono;apply (Ml 40);omega;(apply Rs.A8;apply Iw hxs;omega;(exact AO));omega;exact List.Ey hok;rintro E w1 ⟨rfl,hb⟩;obtain⟨hc,hf,hz⟩:=xy hb)|(apply BM FO Dz rfl rfl rfl rfl;(exact Iy);(first|(refine Rs.new [Sw.root (xs.drop (Sw.split n))] (by (first|rfl|(simp only[BO];done)|omega)) rfl rfl (fun _=>rfl) (by omega)));omega;exact Aq;intro A1 c1 w2 ho1 Ap Bo Ay Ah;have hbx:=Ay (fun _=>False) W0 (And.right (by assumption:Held W0 _)) (by exact Aq);clear Ay Ah)));all_goals (obtain⟨hb,hc,hf,hz⟩:=xh (by assumption:Held W0 _)))
    go_wp2
    go_ret
    refine⟨_,_,_,rfl,?_,by omega,AA⟩
    rw[Hg.out,if_pos hms]
    exact ho1.less (by exact Aq)
   ·have y0:IntKind.i64.wrap ((i:Int)-↑(Sw.split n))=((i-Sw.split n:Nat):Int):=by rw[IntWalk.i64_in _ (by omega)];omega
    go_enter Tryz.func199,Tryz.ntmps199
    go_wp2_with (go_at_call 161;apply Calls.mono;apply Io;(exact Bu);(exact Bu);rintro E w' ⟨rfl,rfl⟩)
    (refine CF fun W0 hb0 hc0 hf0 hz0=>?_;go_region_held3 (fun w'=>Held W0 w') ((exact FU)) ((first|(go_at_call 199;apply Calls.mono;apply ih;omega;omega;(apply Rs.A8;apply Iw hxs;omega;(exact AO));exact List.Ey hok;omega;rintro E w1 ⟨A3,c3,n3,rfl,ho3,jJ,hb⟩;obtain⟨hc,hf,hz⟩:=xy hb)|(go_at_call 125;apply Calls.mono;apply (Ml 40);omega;(apply Rs.A8;apply E8 hxs;omega;(exact AO));omega;exact List.Dr hok;rintro E w1 ⟨rfl,hb⟩;obtain⟨hc,hf,hz⟩:=xy hb)|(apply BM FO Dz rfl rfl rfl rfl;(exact Iy);(first|(refine Rs.new [Sw.root (xs.take (Sw.split n))] (by (first|rfl|(simp only[BO];done)|omega)) rfl rfl (fun _=>rfl) (by omega)));omega;exact Aq;intro A1 c1 w2 ho1 Ap Bo Ay Ah;have hbx:=Ay (fun _=>False) W0 (And.right (by assumption:Held W0 _)) (by exact Aq);clear Ay Ah)));all_goals (obtain⟨hb,hc,hf,hz⟩:=xh (by assumption:Held W0 _)))
    go_wp2
    go_ret
    refine⟨_,_,_,rfl,?_,by omega,AA⟩
    rw[Hg.out,if_neg hms]
    exact ho1.less (by exact Aq)
theorem Vq:∀ (N M:Nat) (xs:List Int) (i:Nat),xs.length≤N→xs.length≤M→Sw.Ll N xs i=Sw.Ll M xs i
 | 0,M,xs,i,h1,h2=>by rw[Gp (by omega),Gp (by omega)]
 | N+1,0,xs,i,h1,h2=>by rw[Gp (by omega),Gp (by omega)]
 | N+1,M+1,xs,i,h1,h2=>by
  by_cases e:xs.length≤1
  ·rw[Gp e,Gp e]
  ·have s1:=Sw.FJ (n:=xs.length) (by omega)
   have s0:=Sw.EL xs.length
   rw[Ob e,Ob e,Vq N M _ i (by rw[List.length_take];omega) (by rw[List.length_take];omega),Vq N M _ (i-Sw.split xs.length) (by rw[List.length_drop];omega) (by rw[List.length_drop];omega)]
theorem Tq (A:Option Addr) (c n:Nat) (xs:List Sw.Row) (t:Int) (w:World) (hxs:RR w 0 A c n xs) (hn:n≤4194304):Calls Tryz.prog 148 #[.slice A n c,.int .i64 t] w fun E w'=>∃ A' c' n',E=.returned (.slice A' n' c')∧Ga w' w.heap.size A' c' n' (Sw.Dl xs t)∧Ex w w':=by
 have hl:=Lib.hid hxs.1
 cases g1:Sw.EH xs
 ·have e:Sw.Dl xs t=[]:=by simp[Sw.Dl,g1]
  rw[e];clear e
  go_enter Tryz.func148,Tryz.ntmps148
  go_wp2_with (first|(go_at_call 181;apply Calls.mono;apply FL;(exact Co);rintro E w1 ⟨rfl,hb⟩;obtain⟨hc,hf,hz⟩:=xy hb)|(go_at_call 48;refine (Aw _ _ _ _).mono ?_;rintro E w' ⟨rfl,rfl⟩))
  go_ret
  refine⟨_,_,_,rfl,?_,AA⟩
  (refine PX)
 cases g2:Sw.Br t 0 7
 ·have e:Sw.Dl xs t=[]:=by simp[Sw.Dl,g2]
  rw[e];clear e
  go_enter Tryz.func148,Tryz.ntmps148
  go_wp2_with (first|(go_at_call 181;apply Calls.mono;apply FL;(exact Co);rintro E w1 ⟨rfl,hb⟩;obtain⟨hc,hf,hz⟩:=xy hb)|(go_at_call 48;refine (Aw _ _ _ _).mono ?_;rintro E w' ⟨rfl,rfl⟩))
  go_ret
  refine⟨_,_,_,rfl,?_,AA⟩
  (refine PX)
 have h8:=Sw.Ct g1
 have XO:n=8:=by have:=hl.out;omega
 have ht:=Sw.BB.1 g2
 obtain⟨k,rfl⟩:∃ k:Nat,t=k:=⟨t.toNat,by omega⟩
 have e:Sw.Dl xs k=Sw.Ll 8 (Sw.C_ xs) k:=by
  rw[Sw.Dl,if_pos (by rw[g1,g2];rfl),Sw.Mk,Int.toNat_natCast,Sw.Ka,h8]
 rw[e]
 have hmx:=Sw.KZ xs
 subst XO
 have hk:k≤40:=by omega
 clear e h8 ht
 go_enter Tryz.func148,Tryz.ntmps148
 go_wp2_with (first|(go_at_call 181;apply Calls.mono;apply FL;(exact Co);rintro E w1 ⟨rfl,hb⟩;obtain⟨hc,hf,hz⟩:=xy hb)|(go_at_call 48;refine (Aw _ _ _ _).mono ?_;rintro E w' ⟨rfl,rfl⟩)|(go_at_call 183;apply Calls.mono;apply (R8 (xs:=xs));(apply Rs.A8 hxs;(exact AO));(try omega);rintro E w1 ⟨A1,c1,rfl,ho1,hb⟩;obtain⟨hc,hf,hz⟩:=xy hb)|(go_at_call 182;apply Calls.mono;apply (bZ 8 (xs:=Sw.C_ xs));omega;omega;(apply Ow.Es ho1;(exact AO));exact hmx;omega;rintro E w2 ⟨A2,c2,n2,rfl,ho2,hn2,hb⟩;obtain⟨hc,hf,hz⟩:=xy hb))
 go_ret
 exact⟨_,_,_,rfl,(ho2.keep AO).less Aq,AA⟩
theorem UQ (A:Option Addr) (c n:Nat) (xs:List Int) (i:Int) (w:World) (hxs:RI w 0 A c n xs):Calls Tryz.prog 173 #[.slice A n c,.int .i64 i] w fun E w'=>∃ A' c' n',E=.returned (.slice A' n' c')∧Ga w' w.heap.size A' c' n' (Sw.Ia xs i)∧Ex w w':=by
 have hl:=Lib.hid hxs.1
 have hbig:=Rs.big hxs
 have t9:IntKind.i64.wrap ((n:Int)-1)=(n:Int)-1:=IntWalk.i64_in _ (by omega)
 cases g1:Sw.DW xs
 ·have e:Sw.Ia xs i=[]:=by simp[Sw.Ia,g1]
  rw[e];clear e
  go_enter Tryz.func173,Tryz.ntmps173
  go_wp2_with (first|(go_at_call 62;apply Calls.mono;apply Ff;(exact Co);rintro E w' ⟨rfl,rfl⟩)|(go_at_call 61;refine (Cm _ _ _ _).mono ?_;rintro E w' ⟨rfl,rfl⟩))
  go_ret
  exact⟨_,_,_,rfl,Ow.nil _ _,AA⟩
 cases g2:Sw.Br i 0 ((n:Int)-1)
 ·have e:Sw.Ia xs i=[]:=by rw[Sw.Ia,if_neg (by rw[← hl.out,g2];simp)]
  rw[e];clear e
  go_enter Tryz.func173,Tryz.ntmps173
  go_wp2_with (first|(go_at_call 62;apply Calls.mono;apply Ff;(exact Co);rintro E w' ⟨rfl,rfl⟩)|(go_at_call 61;refine (Cm _ _ _ _).mono ?_;rintro E w' ⟨rfl,rfl⟩))
  go_ret
  exact⟨_,_,_,rfl,Ow.nil _ _,AA⟩
 have hi:=Sw.BB.1 g2
 have QF:n≤40:=by have:=hl.out;simp[Sw.DW] at g1;omega
 have hall:xs.all Sw.BK=true:=by simp only[Sw.DW,Bool.and_eq_true] at g1;exact g1.2
 obtain⟨k,rfl⟩:∃ k:Nat,i=k:=⟨i.toNat,by omega⟩
 have e:Sw.Ia xs k=Sw.Ll 40 xs k:=by
  rw[Sw.Ia,if_pos (by rw[g1,← hl.out,g2];rfl),Sw.Mk,Int.toNat_natCast]
  exact Vq _ _ _ _ (Nat.le_refl _) (by have:=hl.out;omega)
 rw[e];clear e
 have hk:k<n:=by omega
 clear hi
 go_enter Tryz.func173,Tryz.ntmps173
 go_wp2_with (first|(go_at_call 62;apply Calls.mono;apply Ff;(exact Co);rintro E w' ⟨rfl,rfl⟩)|(go_at_call 61;refine (Cm _ _ _ _).mono ?_;rintro E w' ⟨rfl,rfl⟩)|(go_at_call 199;apply Calls.mono;apply (dU 40 (xs:=xs));omega;omega;(apply Rs.A8 hxs;(exact AO));exact hall;omega;rintro E w2 ⟨A2,c2,n2,rfl,ho2,hn2,hb⟩;obtain⟨hc,hf,hz⟩:=xy hb))
 go_ret
 exact⟨_,_,_,rfl,(ho2.keep AO).less Aq,AA⟩
theorem Ud (A:Option Addr) (c n:Nat) (xs:List Sw.Row) (t:Int) (w:World) (hxs:RR w 0 A c n xs) (hn:n≤4194304):Calls Tryz.prog 141 #[.slice A n c,.int .i64 t] w fun E w'=>∃ A' c' n',E=.returned (.slice A' n' c')∧Ga w' w.heap.size A' c' n' (Sw.Dl xs t)∧Ex w w':=by
 cases g1:Sw.EH xs
 ·have e:Sw.Dl xs t=[]:=by simp[Sw.Dl,g1]
  rw[e];clear e
  go_enter Tryz.func141,Tryz.ntmps141
  go_wp2_with (first|(go_at_call 127;apply Calls.mono;apply JO;(exact Co);rintro E w1 ⟨rfl,hb⟩;obtain⟨hc,hf,hz⟩:=xy hb)|(go_at_call 63;refine (BQ _ _).mono ?_;rintro E w' ⟨rfl,rfl⟩))
  go_ret
  exact⟨_,_,_,rfl,Ow.nil _ _,AA⟩
 cases g2:Sw.Br t 0 7
 ·have e:Sw.Dl xs t=[]:=by simp[Sw.Dl,g2]
  rw[e];clear e
  go_enter Tryz.func141,Tryz.ntmps141
  go_wp2_with (first|(go_at_call 127;apply Calls.mono;apply JO;(exact Co);rintro E w1 ⟨rfl,hb⟩;obtain⟨hc,hf,hz⟩:=xy hb)|(go_at_call 63;refine (BQ _ _).mono ?_;rintro E w' ⟨rfl,rfl⟩))
  go_ret
  exact⟨_,_,_,rfl,Ow.nil _ _,AA⟩
 have h8:=Sw.Ct g1
 have ht:=Sw.BB.1 g2
 have e:Sw.Dl xs t=Sw.Ia (Sw.C_ xs) t:=by
  have h1:Sw.DW (Sw.C_ xs)=true:=by
   rw[Sw.DW,Sw.KZ,Sw.Ka,h8];rfl
  have h2:Sw.Br t 0 (((Sw.C_ xs).length:Int)-1)=true:=by rw[Sw.Ka,h8];exact Sw.BB.2 (by omega)
  rw[Sw.Dl,Sw.Ia,if_pos (by rw[g1,g2];rfl),if_pos (by rw[h1,h2];rfl)]
 rw[e];clear e h8 ht
 go_enter Tryz.func141,Tryz.ntmps141
 go_wp2_with (first|(go_at_call 127;apply Calls.mono;apply JO;(exact Co);rintro E w1 ⟨rfl,hb⟩;obtain⟨hc,hf,hz⟩:=xy hb)|(go_at_call 63;refine (BQ _ _).mono ?_;rintro E w' ⟨rfl,rfl⟩)|(go_at_call 128;apply Calls.mono;apply (SS (xs:=xs));(apply Rs.A8 hxs;(exact AO));(exact hn);rintro E w1 ⟨A1,c1,rfl,ho1,hb⟩;obtain⟨hc,hf,hz⟩:=xy hb)|(go_at_call 173;apply Calls.mono;apply (UQ (xs:=Sw.C_ xs));(apply Ow.Es ho1;(exact AO));rintro E w2 ⟨A2,c2,n2,rfl,ho2,hb⟩;obtain⟨hc,hf,hz⟩:=xy hb))
 go_ret
 exact⟨_,_,_,rfl,(ho2.keep AO).less Aq,AA⟩
set_option maxHeartbeats 1000000
theorem dV (N:Nat) (A:Option Addr) (c n m:Nat) (kn:Bool) (xs:List Int) (w:World) (hN:n≤N) (wV:N≤40) (hxs:RI w 0 A c n xs) (QF:n≤40) (hok:xs.all Sw.BK=true) (hm:1≤m) (hmn:m≤n):Calls Tryz.prog 169 #[.slice A n c,.int .i64 m,.bool kn] w fun E w'=>∃ A' c' n',E=.returned (.slice A' n' c')∧Ga w' w.heap.size A' c' n' (Sw.grow N xs m kn)∧n'≤N∧Ex w w':=by
 induction N generalizing A c n m kn xs w with
 | zero=>omega
 | succ N ih=>
  have hl:=Lib.hid hxs.1
  have hcap:=hxs.2.le
  by_cases jM:m=n
  ·subst jM
   have hg:Sw.grow (N+1) xs m kn=if kn=true then [] else [Sw.root xs]:=by rw[Sw.grow,if_pos hl.out]
   have Hg:=Lib.hid hg;clear hg
   cases kn with
   | true=>
    go_enter Tryz.func169,Tryz.ntmps169
    go_wp2_with fail
    go_ret
    refine⟨_,_,_,rfl,?_,Nat.zero_le _,AA⟩
    rw[Hg.out]
    exact Ow.nil _ _
   | false=>
    go_enter Tryz.func169,Tryz.ntmps169
    go_wp2_with (go_at_call 125;apply Calls.mono;apply (Ml 40);omega;(exact Co);omega;exact hok;rintro E w1 ⟨rfl,hb⟩)
    go_ret
    refine⟨_,_,_,rfl,?_,by omega,AA⟩
    rw[Hg.out]
    have hz:=hb.size
    simp only[Bool.false_eq_true,if_false]
    (refine Ow.new [Sw.root xs] (by (first|rfl|(simp only[BO];done)|omega)) rfl rfl (fun _=>rfl) (by exact Aq) (by omega))
  ·have h2:2≤n:=by omega
   have hs1:=Sw.FJ h2
   have hs0:=Sw.EL n
   have hg:=Uw (N:=N) (l:=xs) (m:=m) (k:=kn) (by have:=hl.out;omega) (by have:=hl.out;omega)
   rw[← hl.out] at hg
   have Hg:=Lib.hid hg
   clear hg
   have hmb:((m:Int)==n)=false:=by simp;omega
   have z3:¬(c=Sw.split n):=by omega
   have z0:(0:Int)≤↑(Sw.split n):=by omega
   have z1:(↑(Sw.split n):Int)≤↑n:=by omega
   have z2:(↑(Sw.split n):Int)≤↑c:=by omega
   by_cases hms:m≤Sw.split n
   ·go_enter Tryz.func169,Tryz.ntmps169
    go_wp2_with (go_at_call 161;apply Calls.mono;apply Io;(exact Bu);(exact Bu);rintro E w' ⟨rfl,rfl⟩)
    (refine CF fun W0 hb0 hc0 hf0 hz0=>?_;go_region_held3 (fun w'=>Held W0 w') ((exact FU)) ((first|(go_at_call 169;apply Calls.mono;apply ih;omega;omega;(apply Rs.A8;apply E8 hxs;omega;(exact AO));omega;exact List.Dr hok;omega;omega;rintro E w1 ⟨A3,c3,n3,rfl,ho3,jJ,hb⟩;obtain⟨hc,hf,hz⟩:=xy hb)|(go_at_call 125;apply Calls.mono;apply (Ml 40);omega;(apply Rs.A8;apply Iw hxs;omega;(exact AO));omega;exact List.Ey hok;rintro E w1 ⟨rfl,hb⟩;obtain⟨hc,hf,hz⟩:=xy hb)|(apply BM FO Dz rfl rfl rfl rfl;(exact Iy);(first|(refine Rs.new [Sw.root (xs.drop (Sw.split n))] (by (first|rfl|(simp only[BO];done)|omega)) rfl rfl (fun _=>rfl) (by omega)));omega;exact Aq;intro A1 c1 w2 ho1 Ap Bo Ay Ah;have hbx:=Ay (fun _=>False) W0 (And.right (by assumption:Held W0 _)) (by exact Aq);clear Ay Ah)));all_goals (obtain⟨hb,hc,hf,hz⟩:=xh (by assumption:Held W0 _)))
    go_wp2
    go_ret
    refine⟨_,_,_,rfl,?_,by omega,AA⟩
    rw[Hg.out,if_pos hms]
    exact ho1.less (by exact Aq)
   ·have y0:IntKind.i64.wrap ((m:Int)-↑(Sw.split n))=((m-Sw.split n:Nat):Int):=by rw[IntWalk.i64_in _ (by omega)];omega
    go_enter Tryz.func169,Tryz.ntmps169
    go_wp2_with (go_at_call 161;apply Calls.mono;apply Io;(exact Bu);(exact Bu);rintro E w' ⟨rfl,rfl⟩)
    (refine CF fun W0 hb0 hc0 hf0 hz0=>?_;go_region_held3 (fun w'=>Held W0 w') ((exact FU)) ((first|(go_at_call 169;apply Calls.mono;apply ih;omega;omega;(apply Rs.A8;apply Iw hxs;omega;(exact AO));omega;exact List.Ey hok;omega;omega;rintro E w1 ⟨A3,c3,n3,rfl,ho3,jJ,hb⟩;obtain⟨hc,hf,hz⟩:=xy hb)|(go_at_call 125;apply Calls.mono;apply (Ml 40);omega;(apply Rs.A8;apply E8 hxs;omega;(exact AO));omega;exact List.Dr hok;rintro E w1 ⟨rfl,hb⟩;obtain⟨hc,hf,hz⟩:=xy hb)|(apply BM FO Dz rfl rfl rfl rfl;(exact Iy);(first|(refine Rs.new [Sw.root (xs.take (Sw.split n))] (by (first|rfl|(simp only[BO];done)|omega)) rfl rfl (fun _=>rfl) (by omega)));omega;exact Aq;intro A1 c1 w2 ho1 Ap Bo Ay Ah;have hbx:=Ay (fun _=>False) W0 (And.right (by assumption:Held W0 _)) (by exact Aq);clear Ay Ah)));all_goals (obtain⟨hb,hc,hf,hz⟩:=xh (by assumption:Held W0 _)))
    go_wp2
    go_ret
    refine⟨_,_,_,rfl,?_,by omega,AA⟩
    rw[Hg.out,if_neg hms]
    exact ho1.less (by exact Aq)
theorem Uj (A:Option Addr) (c n:Nat) (m:Int) (xs:List Int) (w:World) (hxs:RI w 0 A c n xs):Calls Tryz.prog 139 #[.slice A n c,.int .i64 m] w fun E w'=>∃ A' c' n',E=.returned (.slice A' n' c')∧Ga w' w.heap.size A' c' n' (Sw.Dx xs m)∧Ex w w':=by
 have hl:=Lib.hid hxs.1
 have hcap:=hxs.2.le
 have hbig:n≤9223372036854775807:=by have:=hxs.2.cap;unfold maxLen at this;omega
 by_cases h1:Sw.DW xs=true
 ·have QF:n≤40:=by have:=hl.out;simp[Sw.DW] at h1;omega
  have hall:xs.all Sw.BK=true:=by simp only[Sw.DW,Bool.and_eq_true] at h1;exact h1.2
  by_cases h2:Sw.Br m 1 n=true
  ·have hm:1≤m∧m≤n:=by simpa [Sw.Br] using h2
   obtain⟨k,rfl⟩:=Int.eq_ofNat_of_zero_le (show 0≤m by omega)
   have e:Sw.Dx xs k=Sw.grow 40 xs k true:=by
    rw[Sw.Dx,if_pos (by rw[h1,← hl.out,h2];rfl)]
    exact TN _ _ _ _ _ (Nat.le_refl _) (by have:=hl.out;omega) (by omega) (by have:=hl.out;omega)
   rw[e]
   clear e
   go_enter Tryz.func139,Tryz.ntmps139
   go_wp2_with (first|(go_at_call 62;apply Calls.mono;apply Ff;(exact Co);rintro E w' ⟨rfl,rfl⟩)|(go_at_call 61;refine (Cm _ _ _ _).mono ?_;rintro E w' ⟨rfl,rfl⟩)|(go_at_call 169;apply Calls.mono;apply (dV 40);omega;omega;(exact Co);omega;exact hall;omega;omega;rintro E w1 ⟨A1,c1,n1,rfl,ho1,hn1,hb⟩))
   go_ret
   exact⟨_,_,_,rfl,ho1.less Aq,AA⟩
  ·have h2':Sw.Br m 1 n=false:=by simpa using h2
   have e:Sw.Dx xs m=[]:=by rw[Sw.Dx,if_neg (by rw[← hl.out,h2'];simp)]
   rw[e]
   go_enter Tryz.func139,Tryz.ntmps139
   go_wp2_with (first|(go_at_call 62;apply Calls.mono;apply Ff;(exact Co);rintro E w' ⟨rfl,rfl⟩)|(go_at_call 61;refine (Cm _ _ _ _).mono ?_;rintro E w' ⟨rfl,rfl⟩))
   go_ret
   exact⟨_,_,_,rfl,Ow.nil _ _,AA⟩
 ·have h1':Sw.DW xs=false:=by simpa using h1
  have e:Sw.Dx xs m=[]:=by rw[Sw.Dx,if_neg (by rw[h1'];simp)]
  rw[e]
  go_enter Tryz.func139,Tryz.ntmps139
  go_wp2_with (first|(go_at_call 62;apply Calls.mono;apply Ff;(exact Co);rintro E w' ⟨rfl,rfl⟩)|(go_at_call 61;refine (Cm _ _ _ _).mono ?_;rintro E w' ⟨rfl,rfl⟩))
  go_ret
  exact⟨_,_,_,rfl,Ow.nil _ _,AA⟩
theorem Uh (A:Option Addr) (c n:Nat) (m:Int) (xs:List Sw.FC) (w:World) (hxs:RE w 0 A c n xs):Calls Tryz.prog 91 #[.slice A n c,.int .i64 m] w fun E w'=>∃ A' c' n',E=.returned (.slice A' n' c')∧Ga w' w.heap.size A' c' n' (Sw.Dn xs m)∧Ex w w':=by
 have hl:=Lib.hid hxs.1
 have hcap:=hxs.2.le
 have hbig:n≤9223372036854775807:=by have:=hxs.2.cap;unfold maxLen at this;omega
 by_cases QF:n≤40
 ·have je:decide (40<n)=false:=by simp;omega
  have e:Sw.Dn xs m=Sw.Dx (xs.map Sw.EF) m:=by rw[Sw.Dn,if_pos (by simp;have:=hl.out;omega)]
  rw[e];clear e
  go_enter Tryz.func91,Tryz.ntmps91
  go_wp2_with (first|(go_at_call 74;apply Calls.mono;apply LJ;(first|assumption|(exact Co)|omega);omega;rintro E w1 ⟨A1,c1,rfl,ho1,hb⟩;obtain⟨hc,hf,hz⟩:=xy hb)|(go_at_call 139;apply Calls.mono;apply Uj;(apply Ow.Es ho1;(exact AO));rintro E w2 ⟨A2,c2,n2,rfl,ho2,hb⟩;obtain⟨hc,hf,hz⟩:=xy hb))
  go_ret
  exact⟨_,_,_,rfl,ho2.less (by omega),AA⟩
 ·have je:decide (40<n)=true:=by simp;omega
  have e:Sw.Dn xs m=[]:=by rw[Sw.Dn,if_neg (by simp;have:=hl.out;omega)]
  rw[e]
  go_enter Tryz.func91,Tryz.ntmps91
  go_wp2_with fail
  go_ret
  exact⟨_,_,_,rfl,Ow.nil _ _,AA⟩
end Go.Proofs.YtgaflnpmilikcaaGreat
