/- Texts joined: PtrD, PtrE, PtrW. -/
import Derived.Test.YtgaflnpmilikcaaGreatPx24
import Derived.Test.YtgaflnpmilikcaaGreatPx20
import Derived.Test.YtgaflnpmilikcaaGreatPx25
import Derived.Test.YtgaflnpmilikcaaGreatPx13
set_option maxRecDepth 100000
set_option linter.unusedSimpArgs false
set_option linter.unusedVariables false
namespace Go.Proofs.YtgaflnpmilikcaaGreat
open Go.RowKit Go
set_option maxHeartbeats 4000000
theorem nN {W:World} {gl:Nat} (p q r s:Int) (h:gl=W.heap.size):RE (W.alloc (.cells #[.int .i64 p,.int .i64 q,.int .i64 r,.int .i64 s] 140)).drew 0 (some ⟨gl,0,none⟩) 1 1 [⟨p,q,r,s⟩]:=
 Rs.keep (Rs.new (enc:=Sw.FC.enc) (sz:=4) [⟨p,q,r,s⟩] h rfl rfl (fun _=>rfl) (by decide)) (kD (kR _ _))
section
variable {g o n lo:Nat} {τ0 τ:Nat→Nat} {w0 w:World} {aL aP aD aN aS:Option Addr} {Ae AU Ag AY Ac AQ Ad Aa Af Ab:Nat} {m:Sw.CV}
theorem SY (hS:MS g o n lo τ0 w0 aL Ae AU aP Ag AY aD Ac AQ aN Ad Aa aS Af Ab m τ w) {k:Nat} (hk:k<AQ):Calls Tryz.prog 157 #[.pointer (some ⟨g,o,none⟩),.int .i64 k] w fun E w'=>
  ∃ τ',E=.returned (.tuple #[])∧MS g o n lo τ0 w0 aL Ae AU aP Ag AY aD Ac (AQ-1) aN Ad Aa aS Af Ab { m with AJ:=m.AJ.eraseIdx k } τ' w':=by
 obtain⟨gD,x,rfl,uz,rW,hx,d0,d1,d2,d3,d4,aW⟩:=MX hS.ow.AJ.ow hk
 have hcb:=hS.ow.AJ.ow.rs.2.cap
 have hle:=hS.ow.AJ.ow.rs.2.le
 unfold maxLen at hcb
 obtain⟨k0,k1,k2,k3,k4,k5,k6,kf⟩:=hS.at_
 have wk:IntKind.i64.wrap ((k:Int)+1)=(k:Int)+1:=IntWalk.i64_in _ (by omega)
 have HS:=Lib.hid hS
 have hne:=hS.ne (hS.ow.AJ.tag _ rfl) (by decide)
 clear hx d0 d1 d2 d3 d4 aW hS
 go_enter Tryz.func157,Tryz.ntmps157
 go_wp2_with (go_at_call 191;apply Calls.mono;apply (X3 (lo:=lo));(exact HS.out.ow.AJ.ow);exact hk;rintro E w1 ⟨rfl,Ki,hb⟩;obtain⟨hc,hf,hz⟩:=xd hb)
 refine bodyPost_end (v:=.tuple #[]) (by simp[results,Tryz.results157,go_sem]) rfl ⟨_,rfl,HS.out.AJ Ki ?_ (fun b hb=>.inl hb)⟩
 exact Ch.mono hb fun i _ hi=>⟨_,rfl,hi⟩
theorem RO (hS:MS g o n lo τ0 w0 aL Ae AU aP Ag AY aD Ac AQ aN Ad Aa aS Af Ab m τ w) (p q r s:Int) (QF:AU=40):Calls Tryz.prog 160 #[.pointer (some ⟨g,o,none⟩),.agg #[.int .i64 p,.int .i64 q,.int .i64 r,.int .i64 s]] w fun E w'=>E=.returned (.int .i64 6)∧Ex w w':=by
 obtain⟨k0,k1,k2,k3,k4,k5,k6,kf⟩:=hS.at_
 clear hS
 subst QF
 go_enter Tryz.func160,Tryz.ntmps160
 go_wp2_with fail
 go_ret
 exact⟨rfl,AA⟩
theorem Pd (hS:MS g o n lo τ0 w0 aL Ae AU aP Ag AY aD Ac AQ aN Ad Aa aS Af Ab m τ w) (p q r s:Int) (QF:AU<40):Calls Tryz.prog 160 #[.pointer (some ⟨g,o,none⟩),.agg #[.int .i64 p,.int .i64 q,.int .i64 r,.int .i64 s]] w fun E w'=>
  ∃ A c τ',E=.returned (.int .i64 1)∧MS g o n lo τ0 w0 A c (AU+1) aP Ag AY aD Ac AQ aN Ad Aa aS Af Ab { m with log:=m.log ++ [⟨p,q,r,s⟩] } τ' w':=by
 obtain⟨k0,k1,k2,k3,k4,k5,k6,kf⟩:=hS.at_
 have HS:=Lib.hid hS
 have hlo:=hS.lo_le
 have h41:((AU:Int)==40)=false:=by simp;omega
 have iG:¬KW aL g:=fun ⟨a,ha,e⟩=>hS.ne (hS.ow.log.tag a ha) (by decide) e.symm
 have HG:=Lib.hid iG
 clear hS iG
 go_enter Tryz.func160,Tryz.ntmps160
 go_wp2_with fail
 go_region_law (refine BM (lo:=lo) (A:=aL) (B:=some ⟨w.heap.size+1,0,none⟩) (n:=AU) (m:=1) (d:=1) (xs:=m.log) (ys:=[⟨p,q,r,s⟩]) Wl Qw rfl rfl (by simp[Act.eval,Act.put];done) (by simp[Act.eval,Act.put];done) (HS.out.ow.log.ow.keep (by (exact AO))) (nN p q r s (by simp only[zA])) (by omega) (by exact Aq) (fun A1 c1 w2 ho1 Ap Bo Ay Ah=>?_);have hk1:=(Ap.cell (p:=⟨g,o,none⟩) (by simp only[zA,zD];omega) HG.out);have hk2:=(Ap.frozen (p:=⟨g,o,none⟩) (by simp only[zA,zD];omega) HG.out))
 all_goals
  clear hk1 hk2 Ay Ah
  go_wp2
  go_ret
  exact⟨A1,c1,_,rfl,MS.log (HS.out.ex AA) ho1 Ap Bo⟩
theorem ZM (hS:MS g o n lo τ0 w0 aL Ae AU aP Ag AY aD Ac AQ aN Ad Aa aS Af Ab m τ w) (ru rn:Int) (t:Nat) (rh rp:Int) (row:Sw.Row) (hl:m.log.length≤40) (hpn:AY≤4194304):Calls Tryz.prog 155 #[.pointer (some ⟨g,o,none⟩),.agg #[.int .i64 ru,.int .i64 rn,.int .i64 1,.int .i64 t,.int .i64 rh,.int .i64 rp],.agg #[.int .i64 row.who,.int .i64 row.EY,.bool row.used]] w fun E w'=>
  ∃ (bL:Option Addr) (Bg BR:Nat) (bP:Option Addr) (Bf BV:Nat) (bD:Option Addr) (Bh Ba:Nat) (bN:Option Addr) (Bd Bb:Nat) (bS:Option Addr) (Bc BZ:Nat) (τ':Nat→Nat),E=.returned (.int .i64 (Sw.issue m ⟨ru,rn,1,t,rh,rp⟩ row).2)∧MS g o n lo τ0 w0 bL Bg BR bP Bf BV bD Bh Ba bN Bd Bb bS Bc BZ (Sw.issue m ⟨ru,rn,1,t,rh,rp⟩ row).1 τ' w':=by
 obtain⟨f1,f2,f3⟩:=row
 obtain⟨k0,k1,k2,k3,k4,k5,k6,kf⟩:=hS.at_
 have HS:=Lib.hid hS
 have hP:=hS.ow.Ai
 have l1:=hS.ow.log.ow.1
 dsimp only
 by_cases h1:ru≠1∨rh=1
 ·have e:Sw.issue m ⟨ru,rn,1,t,rh,rp⟩ ⟨f1,f2,f3⟩=(m,2):=by unfold Sw.issue;rw[if_pos h1]
  rw[e]
  clear e hS hP l1
  by_cases h2:ru=1
  ·subst h2
   have h3:rh=1:=by rcases h1 with h|h;exact absurd rfl h;exact h
   subst h3
   clear h1
   go_enter Tryz.func155,Tryz.ntmps155
   go_wp2_with fail
   go_ret
   exact⟨_,_,_,_,_,_,_,_,_,_,_,_,_,_,_,τ,rfl,HS.out.ex AA⟩
  ·have g2:(ru != 1)=true:=by simpa using h2
   clear h1
   go_enter Tryz.func155,Tryz.ntmps155
   go_wp2_with fail
   go_ret
   exact⟨_,_,_,_,_,_,_,_,_,_,_,_,_,_,_,τ,rfl,HS.out.ex AA⟩
 have h1':ru=1∧rh≠1:=⟨Classical.byContradiction fun h=>h1 (.inl h),fun h=>h1 (.inr h)⟩
 obtain⟨rfl,nV⟩:=h1'
 have g2:(rh==1)=false:=by simpa using nV
 clear h1
 by_cases h3:f1=0
 case neg=>
  have e:Sw.issue m ⟨1,rn,1,t,rh,rp⟩ ⟨f1,f2,f3⟩=(m,3):=by unfold Sw.issue;rw[if_neg (by simp[nV]),if_pos h3]
  rw[e]
  have g3:(f1 != 0)=true:=by simpa using h3
  clear e hS hP l1
  go_enter Tryz.func155,Tryz.ntmps155
  go_wp2_with fail
  go_ret
  exact⟨_,_,_,_,_,_,_,_,_,_,_,_,_,_,_,τ,rfl,HS.out.ex AA⟩
 subst h3
 by_cases h4:m.log.length=40
 ·have e:Sw.issue m ⟨1,rn,1,t,rh,rp⟩ ⟨0,f2,f3⟩=(m,6):=by unfold Sw.issue;rw[if_neg (by simp[nV]),if_neg (by simp),if_pos h4]
  rw[e]
  have g4:((AU:Int)==40)=true:=by simp;omega
  clear e hS hP l1
  go_enter Tryz.func155,Tryz.ntmps155
  go_wp2_with fail
  go_ret
  exact⟨_,_,_,_,_,_,_,_,_,_,_,_,_,_,_,τ,rfl,HS.out.ex AA⟩
 have g4:((AU:Int)==40)=false:=by simp;omega
 have aU:=hP.ow.rs
 have l2:=hP.ow.1
 have Uq:AU<40:=by omega
 cases h5:Sw.C8 m.Ai rh 1 rp
 case false=>
  have e:Sw.issue m ⟨1,rn,1,t,rh,rp⟩ ⟨0,f2,f3⟩=(m,5):=by unfold Sw.issue;rw[if_neg (by simp[nV]),if_neg (by simp),if_neg h4,if_neg (by simp[h5])]
  rw[e]
  clear e hS l1 l2 h4
  go_enter Tryz.func155,Tryz.ntmps155
  go_wp2_with fail
  (refine CF fun W0 hb0 hc0 hf0 hz0=>?_;refine wp_region_held_drew (S:=fun w'=>Held W0 w') (by kernel_rfl) ?_ (fun hHeld=>?_);(focus ((try dsimp only);(exact FU)));refine rT 0 30 (h:=?_);refine rT 1 31 (h:=?_);refine rT 2 32 (h:=?_);refine rT 3 33 (h:=?_);refine rT 4 34 (h:=?_);refine rT 5 35 (h:=?_);refine rT 6 36 (h:=?_);refine rT 7 37 (h:=?_);refine wpAnyH_ready (rs:=[8]) (by kernel_rfl) (by simp) ?_;refine AllReadyH.cons rfl (fun K hK=>?_) ?_;rotate_left;(focus exact AllReadyH.nil);go_simp;(go_at_call 188;apply Calls.mono;apply Q_;(apply Rs.A8 aU;(exact AO));omega;rintro E w1 ⟨A1,c1,rfl,LK,YB⟩;have hb:=YB;rw[h5];obtain⟨hc,hf,hz⟩:=xy hb);(try go_wp2_with fail);refine hK.out _ _ ?_ (fun hHeld=>?_);(focus ((try dsimp only);(exact FU)));clear hK K;(try simp only[Act.put,DN]);refine rT 9 29 (h:=?_);refine rT 10 39 (h:=?_);refine rT 11 40 (h:=?_);refine rT 12 7 (h:=?_);refine rT 13 8 (h:=?_);refine wpAnyH_done (by kernel_rfl) ?_ _;all_goals (obtain⟨hb,hc,hf,hz⟩:=xh (by assumption:Held W0 _)))
  all_goals go_wp2
  all_goals go_ret
  all_goals exact⟨_,_,_,_,_,_,_,_,_,_,_,_,_,_,_,τ,rfl,HS.out.ex AA⟩
 have e:Sw.issue m ⟨1,rn,1,t,rh,rp⟩ ⟨0,f2,f3⟩=({ m with Ai:=Sw.turned (Sw.turned m.Ai rh (-rp)) 1 rp,log:=m.log ++ [⟨1,t,rh,rp⟩] },1):=by unfold Sw.issue;rw[if_neg (by simp[nV]),if_neg (by simp),if_neg h4,if_pos h5]
 rw[e]
 have HM:=Lib.hid (show Sw.Db m.Ai rh 1 rp=Sw.turned (Sw.turned m.Ai rh (-rp)) 1 rp from by unfold Sw.Db;rw[if_pos h5])
 clear e hS l1 l2 h4
 go_enter Tryz.func155,Tryz.ntmps155
 go_wp2_with fail
 (refine CF fun W0 hb0 hc0 hf0 hz0=>?_;refine wp_region_held_drew (S:=fun w'=>Held W0 w') (by kernel_rfl) ?_ (fun hHeld=>?_);(focus ((try dsimp only);(exact FU)));refine rT 0 30 (h:=?_);refine rT 1 31 (h:=?_);refine rT 2 32 (h:=?_);refine rT 3 33 (h:=?_);refine rT 4 34 (h:=?_);refine rT 5 35 (h:=?_);refine rT 6 36 (h:=?_);refine rT 7 37 (h:=?_);refine wpAnyH_ready (rs:=[8]) (by kernel_rfl) (by simp) ?_;refine AllReadyH.cons rfl (fun K hK=>?_) ?_;rotate_left;(focus exact AllReadyH.nil);go_simp;(go_at_call 188;apply Calls.mono;apply Q_;(apply Rs.A8 aU;(exact AO));omega;rintro E w1 ⟨A1,c1,rfl,LK,YB⟩;have hb:=YB;rw[h5];obtain⟨hc,hf,hz⟩:=xy hb);(try go_wp2_with fail);refine hK.out _ _ ?_ (fun hHeld=>?_);(focus ((try dsimp only);(exact FU)));clear hK K;(try simp only[Act.put,DN]);refine rT 9 29 (h:=?_);refine rT 10 39 (h:=?_);refine rT 11 40 (h:=?_);refine rT 12 7 (h:=?_);refine rT 13 8 (h:=?_);refine wpAnyH_done (by kernel_rfl) ?_ _;all_goals (obtain⟨hb,hc,hf,hz⟩:=xh (by assumption:Held W0 _)))
 all_goals go_wp2_with fail
 rw[HM.out] at LK
 have m1:=MS.Ai (w:=W0.drew) (HS.out.ex AA) LK YB
 apply Calls.mono
 apply (Pd m1 1 t rh rp Uq)
 rintro E w3 ⟨A3,c3,τ3,rfl,dz⟩
 go_wp2
 go_ret
 exact⟨_,_,_,_,_,_,_,_,_,_,_,_,_,_,_,τ3,rfl,dz⟩
end
end Go.Proofs.YtgaflnpmilikcaaGreat
namespace Go.Proofs.YtgaflnpmilikcaaGreat
open Go.RowKit Go
set_option maxHeartbeats 4000000
section
variable {g o n lo:Nat} {τ0 τ:Nat→Nat} {w0 w:World} {aL aP aN aS:Option Addr} {Ae AU Ag AY Ac AQ Ad Aa Af Ab gD k:Nat} {m:Sw.CV}
theorem MS.TQ (h:MS g o n lo τ0 w0 aL Ae AU aP Ag AY (some ⟨gD,0,none⟩) Ac AQ aN Ad Aa aS Af Ab m τ w) {y:Sw.BC} (hx:m.AJ[k]?=some y) (b d:Int) :
  MS g o n lo τ0 w0 aL Ae AU aP Ag AY (some ⟨gD,0,none⟩) Ac AQ aN Ad Aa aS Af Ab { m with AJ:=m.AJ.set k { y with BN:=b,due:=d } } τ ((w.setCell ⟨gD,k*5+3,none⟩ (.int .i64 b)).setCell ⟨gD,k*5+4,none⟩ (.int .i64 d)):=by
 have tD:=h.ow.AJ.tag _ rfl
 have hne:gD≠g:=h.ne tD (by decide)
 have hm:=h.may (h.ow.AJ.ow.blk rfl).1 tD (by decide) (by decide)
 have kP:∀ i j:Nat,(⟨gD,i,none⟩:Addr)≠⟨g,j,none⟩:=fun i j e=>hne (by injection e)
 exact⟨(h.at_.other _ hne).other _ hne,h.lb.set.set,h.ow.TQ hx b d,h.tag,fun i hi=>((World.cell?_setCell_other _ _ _ _ (kP _ _)).trans (World.cell?_setCell_other _ _ _ _ (kP _ _))).trans (h.out i hi),cS (p:=⟨gD,k*5+4,none⟩) (cS (p:=⟨gD,k*5+3,none⟩) h.ch hm _) hm _,h.VN,h.gz,h.UK⟩
end
section
variable {g o n lo:Nat} {τ0 τ:Nat→Nat} {w0 w:World} {aL aP aD aN aS:Option Addr} {Ae AU Ag AY Ac AQ Ad Aa Af Ab:Nat} {m:Sw.CV}
theorem dW (hS:MS g o n lo τ0 w0 aL Ae AU aP Ag AY aD Ac AQ aN Ad Aa aS Af Ab m τ w) (ru rn rk:Int) (t:Nat) (rh rp:Int) {rows:List Sw.Row} (hok:Sw.IL m rows) (hu1:1≤ru) (aT:ru≤5):Calls Tryz.prog 158 #[.pointer (some ⟨g,o,none⟩),.agg #[.int .i64 ru,.int .i64 rn,.int .i64 rk,.int .i64 t,.int .i64 rh,.int .i64 rp],.int .i64 (Sw.FB m.AJ t)] w fun E w'=>
  ∃ (bL:Option Addr) (Bg BR:Nat) (bP:Option Addr) (Bf BV:Nat) (bD:Option Addr) (Bh Ba:Nat) (bN:Option Addr) (Bd Bb:Nat) (bS:Option Addr) (Bc BZ:Nat) (τ':Nat→Nat),E=.returned (.int .i64 (Sw.Gf m ⟨ru,rn,rk,t,rh,rp⟩ (Sw.BH m.AJ t)).2)∧MS g o n lo τ0 w0 bL Bg BR bP Bf BV bD Bh Ba bN Bd Bb bS Bc BZ (Sw.Gf m ⟨ru,rn,rk,t,rh,rp⟩ (Sw.BH m.AJ t)).1 τ' w':=by
 obtain⟨k0,k1,k2,k3,k4,k5,k6,kf⟩:=hS.at_
 have HS:=Lib.hid hS
 have aU:=hS.ow.Ai.ow.rs
 have hpn:AY≤4194304:=by have:=hS.ow.Ai.ow.1;have:=(Sw.Ci.1 hok.Rp).1;omega
 have l3:=hS.ow.AJ.ow.1
 have hck:=hok.Qa
 obtain⟨eu,eZ⟩:=hck
 cases h3:Sw.BH m.AJ t
 case none=>
  have e:Sw.Gf m ⟨ru,rn,rk,t,rh,rp⟩ none=(m,3):=rfl
  rw[e,EJ h3]
  clear e l3 h3 hok hS
  go_enter Tryz.func158,Tryz.ntmps158
  go_wp2_with fail
  go_ret
  exact⟨_,_,_,_,_,_,_,_,_,_,_,_,_,_,_,τ,rfl,HS.out.ex AA⟩
 rename_i kd
 obtain⟨d,hd,hdt⟩:=Sw.Dc h3
 have hk:kd<AQ:=by have:=(List.getElem?_eq_some_iff.1 hd).1;omega
 rw[EI h3]
 have hgd:=Sw.CP (z:=Sw.EE) hd
 obtain⟨gD,y,rfl,R4,Ur,hy,d0,d1,d2,d3,d4,aW⟩:=MX hS.ow.AJ.ow hk
 obtain rfl:y=d:=Option.some.inj (hy.symm.trans hd)
 have hne:=hS.ne (hS.ow.AJ.tag _ rfl) (by decide)
 have hpr:=(Sw.CZ.1 (hok.AJ.get hd)).2.2.2.2.1
 have hcl:=Sw.K9 (Sw.rowAt rows y.ticket).EY
 have p0:1≤y.Al:=by omega
 have p1:y.Al≤60:=by omega
 clear hpr hcl hok hS
 have i0:(0:Int)≤(kd:Int):=by omega
 have i1:(kd:Int)<(AQ:Int):=by omega
 have i2:¬(kd:Int)<0:=by omega
 by_cases h4:0<y.BN
 ·have e:Sw.Gf m ⟨ru,rn,rk,t,rh,rp⟩ (some kd)=(m,3):=by unfold Sw.Gf;dsimp only;rw[hgd,if_pos (by simp[Sw.held,h4])]
  rw[e]
  have hh:Sw.held y=true:=by simp[Sw.held,h4]
  clear e l3 h3 hd hdt hy hgd h4
  go_enter Tryz.func158,Tryz.ntmps158
  go_wp2_with (go_at_call 120;apply Calls.mono;apply (F7 y);rintro E w1 ⟨rfl,hb⟩;rw[hh];obtain⟨hc,hf,hz⟩:=xy hb)
  go_ret
  exact⟨_,_,_,_,_,_,_,_,_,_,_,_,_,_,_,τ,rfl,HS.out.ex AA⟩
 have hh:Sw.held y=false:=by simp[Sw.held];omega
 by_cases h5:y.BP=ru
 ·have g5:(ru==y.BP)=true:=by simp[h5]
  have e:Sw.Gf m ⟨ru,rn,rk,t,rh,rp⟩ (some kd)=(m,2):=by unfold Sw.Gf;dsimp only;rw[hgd,if_neg (by simp[hh]),if_pos h5]
  rw[e]
  clear e l3 h3 hd hdt hy hgd h5 h4
  go_enter Tryz.func158,Tryz.ntmps158
  go_wp2_with (go_at_call 120;apply Calls.mono;apply (F7 y);rintro E w1 ⟨rfl,hb⟩;rw[hh];obtain⟨hc,hf,hz⟩:=xy hb)
  (go_quiet ((first|fail));all_goals (generalize CE:World.drewN _ nq=W0;have hb0:=Ex.Iz CE;clear CE;obtain⟨hc0,hf0,hz0⟩:=xy hb0))
  go_wp2
  go_ret
  exact⟨_,_,_,_,_,_,_,_,_,_,_,_,_,_,_,τ,rfl,HS.out.ex AA⟩
 have g5:(ru==y.BP)=false:=by simp;exact fun h=>h5 h.symm
 have hwr:IntKind.i64.wrap (-y.Al) = -y.Al:=IntWalk.i64_in _ (by omega)
 have hwk:IntKind.i64.wrap (m.clock+5)=m.clock+5:=IntWalk.i64_in _ (by omega)
 cases h6:Sw.Bz m.Ai ru (-y.Al)
 case false=>
  have e:Sw.Gf m ⟨ru,rn,rk,t,rh,rp⟩ (some kd)=(m,5):=by unfold Sw.Gf;dsimp only;rw[hgd,if_neg (by simp[hh]),if_neg h5,if_neg (by simp[h6])]
  rw[e]
  clear e l3 h3 hd hdt hy hgd h5 h4
  go_enter Tryz.func158,Tryz.ntmps158
  go_wp2_with (go_at_call 120;apply Calls.mono;apply (F7 y);rintro E w1 ⟨rfl,hb⟩;rw[hh];obtain⟨hc,hf,hz⟩:=xy hb)
  (go_quiet ((first|fail));all_goals (generalize CE:World.drewN _ nq=W0;have hb0:=Ex.Iz CE;clear CE;obtain⟨hc0,hf0,hz0⟩:=xy hb0))
  go_wp2
  (refine CF fun W0 hb0 hc0 hf0 hz0=>?_;refine wp_region_held_drew (S:=fun w'=>Held W0 w') (by kernel_rfl) ?_ (fun hHeld=>?_);(focus ((try dsimp only);(exact FU)));refine rT 0 36 (h:=?_);refine rT 1 37 (h:=?_);refine rT 2 38 (h:=?_);refine rT 3 39 (h:=?_);refine rT 4 40 (h:=?_);refine rT 5 41 (h:=?_);refine rT 6 42 (h:=?_);refine rT 7 43 (h:=?_);refine rT 8 44 (h:=?_);refine rT 9 45 (h:=?_);refine rT 10 46 (h:=?_);refine wpAnyH_ready (rs:=[11]) (by kernel_rfl) (by simp) ?_;refine AllReadyH.cons rfl (fun K hK=>?_) ?_;rotate_left;(focus exact AllReadyH.nil);go_simp;(go_at_call 137;apply Calls.mono;apply F6;(apply Rs.A8 aU;(exact AO));omega;rintro E w1 ⟨A1,c1,rfl,LK,YB⟩;have hb:=YB;rw[h6];obtain⟨hc,hf,hz⟩:=xy hb);(try go_wp2_with fail);refine hK.out _ _ ?_ (fun hHeld=>?_);(focus ((try dsimp only);(exact FU)));clear hK K;(try simp only[Act.put,DN]);refine rT 12 35 (h:=?_);refine rT 13 48 (h:=?_);refine rT 14 49 (h:=?_);refine rT 15 8 (h:=?_);refine rT 16 9 (h:=?_);refine wpAnyH_done (by kernel_rfl) ?_ _;all_goals (obtain⟨hb,hc,hf,hz⟩:=xh (by assumption:Held W0 _)))
  all_goals go_wp2
  all_goals go_ret
  all_goals exact⟨_,_,_,_,_,_,_,_,_,_,_,_,_,_,_,τ,rfl,HS.out.ex AA⟩
 have e:Sw.Gf m ⟨ru,rn,rk,t,rh,rp⟩ (some kd)=({ m with Ai:=Sw.turned m.Ai ru (-y.Al),AJ:=m.AJ.set kd { y with BN:=ru,due:=m.clock+5 } },1):=by unfold Sw.Gf;dsimp only;rw[hgd,if_neg (by simp[hh]),if_neg h5,if_pos h6]
 rw[e]
 have HP:=Lib.hid (show Sw.Dy m.Ai ru (-y.Al)=Sw.turned m.Ai ru (-y.Al) from by unfold Sw.Dy;rw[if_pos h6])
 have HY:=Lib.hid hy
 clear e l3 h3 hd hdt hy hgd h5 h4
 go_enter Tryz.func158,Tryz.ntmps158
 go_wp2_with (go_at_call 120;apply Calls.mono;apply (F7 y);rintro E w1 ⟨rfl,hb⟩;rw[hh];obtain⟨hc,hf,hz⟩:=xy hb)
 (go_quiet ((first|fail));all_goals (generalize CE:World.drewN _ nq=W0;have hb0:=Ex.Iz CE;clear CE;obtain⟨hc0,hf0,hz0⟩:=xy hb0))
 go_wp2
 (refine CF fun W0 hb0 hc0 hf0 hz0=>?_;refine wp_region_held_drew (S:=fun w'=>Held W0 w') (by kernel_rfl) ?_ (fun hHeld=>?_);(focus ((try dsimp only);(exact FU)));refine rT 0 36 (h:=?_);refine rT 1 37 (h:=?_);refine rT 2 38 (h:=?_);refine rT 3 39 (h:=?_);refine rT 4 40 (h:=?_);refine rT 5 41 (h:=?_);refine rT 6 42 (h:=?_);refine rT 7 43 (h:=?_);refine rT 8 44 (h:=?_);refine rT 9 45 (h:=?_);refine rT 10 46 (h:=?_);refine wpAnyH_ready (rs:=[11]) (by kernel_rfl) (by simp) ?_;refine AllReadyH.cons rfl (fun K hK=>?_) ?_;rotate_left;(focus exact AllReadyH.nil);go_simp;(go_at_call 137;apply Calls.mono;apply F6;(apply Rs.A8 aU;(exact AO));omega;rintro E w1 ⟨A1,c1,rfl,LK,YB⟩;have hb:=YB;rw[h6];obtain⟨hc,hf,hz⟩:=xy hb);(try go_wp2_with fail);refine hK.out _ _ ?_ (fun hHeld=>?_);(focus ((try dsimp only);(exact FU)));clear hK K;(try simp only[Act.put,DN]);refine rT 12 35 (h:=?_);refine rT 13 48 (h:=?_);refine rT 14 49 (h:=?_);refine rT 15 8 (h:=?_);refine rT 16 9 (h:=?_);refine wpAnyH_done (by kernel_rfl) ?_ _;all_goals (obtain⟨hb,hc,hf,hz⟩:=xh (by assumption:Held W0 _)))
 all_goals go_wp2_with fail
 rw[HP.out] at LK
 have m1:=MS.Ai (w:=W0.drew) (HS.out.ex AA) LK YB
 have hLD:=m1.ow.AJ.ow.rG
 have hbW:=YB
 (refine CF fun W0 hb0 hc0 hf0 hz0=>?_;have JR:Lb W0 (gD) (Ac*5):=Lb.ex (by exact Dw) hb0;go_region_held3 (fun w'=>Au (gD) (Ac*5) W0 w') ((exact EX)) (fail);all_goals (rename Au (gD) (Ac*5) W0 _=>FZ;have hb:=Au.ch FZ;obtain⟨hc,hf,hz⟩:=xd hb;have CJ:=Au.lb FZ;(repeat (first|with_reducible replace CJ:=Lb.G_ CJ|with_reducible replace CJ:=Lb.Fy CJ));obtain⟨hcb,M6⟩:=Lb.rules CJ;clear FZ))
 all_goals go_wp2
 all_goals go_ret
 all_goals exact⟨_,_,_,_,_,_,_,_,_,_,_,_,_,_,_,_,rfl,MS.ex (MS.TQ (m1.ex (by assumption)) HY.out ru (m.clock+5)) AA⟩
end
end Go.Proofs.YtgaflnpmilikcaaGreat
namespace Go.Proofs.YtgaflnpmilikcaaGreat
open Go.RowKit Go
set_option maxHeartbeats 1000000
def SWg (g lo:Nat) (τ:Nat→Nat):Nat→Prop:=fun b=>b=g∨(lo≤b∧1≤τ b)
structure WS (g lo:Nat) (τ0:Nat→Nat) (w0:World) (aF:Option Addr) (BD A_:Nat) (aL:Option Addr) (Ae AU:Nat) (aP:Option Addr) (Ag AY:Nat) (aD:Option Addr) (Ac AQ:Nat) (aN:Option Addr) (Ad Aa:Nat) (aS:Option Addr) (Af Ab:Nat) (aI:Option Addr) (BF A7:Nat) (aG:Option Addr) (BA Az:Nat) (aB:Option Addr) (aBc Ao:Nat) (x:Sw.World) (τ:Nat→Nat) (w:World):Prop where
 first:w.cell? ⟨g,0,none⟩=some (.slice aF A_ BD)
 at_:Cs w g 1 aL Ae AU aP Ag AY aD Ac AQ aN Ad Aa aS Af Ab x.AB.clock
 lines:w.cell? ⟨g,7,none⟩=some (.slice aI A7 BF)
 AV:w.cell? ⟨g,8,none⟩=some (.slice aG Az BA)
 BS:w.cell? ⟨g,9,none⟩=some (.slice aB Ao aBc)
 lb:Lb w g 10
 ow:Eh OM Oi τ w lo aF BD A_ aL Ae AU aP Ag AY aD Ac AQ aN Ad Aa aS Af Ab aI BF A7 aG BA Az aB aBc Ao x
 tag:∀ b,b<w0.heap.size→τ b=τ0 b
 ch:Ch (SWg g lo τ0) w0 w
 VN:g<w0.heap.size
 gz:τ0 g=0
 UK:lo≤w0.heap.size
theorem kU (j:Nat):Oi j≠9:=by unfold Oi;omega
section
variable {g lo:Nat} {τ0 τ τ':Nat→Nat} {w0 w w' w1:World} {aF aL aP aD aN aS aI aG aB:Option Addr} {BD A_ Ae AU Ag AY Ac AQ Ad Aa Af Ab BF A7 BA Az aBc Ao:Nat} {x:Sw.World}
theorem WS.g0 (h:WS g lo τ0 w0 aF BD A_ aL Ae AU aP Ag AY aD Ac AQ aN Ad Aa aS Af Ab aI BF A7 aG BA Az aB aBc Ao x τ w):τ g=0:=(h.tag g h.VN).trans h.gz
theorem WS.lo_le (h:WS g lo τ0 w0 aF BD A_ aL Ae AU aP Ag AY aD Ac AQ aN Ad Aa aS Af Ab aI BF A7 aG BA Az aB aBc Ao x τ w):lo≤w.heap.size:=Nat.le_trans h.UK h.ch.size
theorem WS.trans {bF bL bP bD bN bS bI bG bB:Option Addr} {Di DZ Bg BR Bf BV Bh Ba Bd Bb Bc BZ Dg bIn Dh DL Dj Cy:Nat} {z:Sw.World} (h:WS g lo τ0 w0 aF BD A_ aL Ae AU aP Ag AY aD Ac AQ aN Ad Aa aS Af Ab aI BF A7 aG BA Az aB aBc Ao x τ w) (k:WS g lo τ w bF Di DZ bL Bg BR bP Bf BV bD Bh Ba bN Bd Bb bS Bc BZ bI Dg bIn bG Dh DL bB Dj Cy z τ' w'):WS g lo τ0 w0 bF Di DZ bL Bg BR bP Bf BV bD Bh Ba bN Bd Bb bS Bc BZ bI Dg bIn bG Dh DL bB Dj Cy z τ' w':=by
 have hz:=h.ch.size
 refine⟨k.first,k.at_,k.lines,k.AV,k.BS,k.lb,k.ow,fun b hb=>(k.tag b (by omega)).trans (h.tag b hb),h.ch.trans' k.ch fun i hi hs=>?_,h.VN,h.gz,h.UK⟩
 rcases hs with hs | ⟨h1,h2⟩
 ·exact .inl hs
 ·exact .inr ⟨h1,by rw[← h.tag i hi];exact h2⟩
theorem WS.ex (h:WS g lo τ0 w0 aF BD A_ aL Ae AU aP Ag AY aD Ac AQ aN Ad Aa aS Af Ab aI BF A7 aG BA Az aB aBc Ao x τ w) (hb:Ex w w'):WS g lo τ0 w0 aF BD A_ aL Ae AU aP Ag AY aD Ac AQ aN Ad Aa aS Af Ab aI BF A7 aG BA Az aB aBc Ao x τ w':=by
 have hk:KF 0 w w':=kE hb (kR _ _)
 have hc:∀ i:Nat,w'.cell? ⟨g,i,none⟩=w.cell? ⟨g,i,none⟩:=fun i=>World.cell?_of_block (w:=w) (a:=⟨g,i,none⟩) (hb.block g h.at_.lt (fun h=>h))
 exact⟨(hc _).trans h.first,h.at_.keep hk,(hc _).trans h.lines,(hc _).trans h.AV,(hc _).trans h.BS,h.lb.ex hb,h.ow.Av (kE hb (kR _ _)),h.tag,cE hb h.ch,h.VN,h.gz,h.UK⟩
theorem WS.move {r:Nat} (h:WS g lo τ0 w0 aF BD A_ aL Ae AU aP Ag AY aD Ac AQ aN Ad Aa aS Af Ab aI BF A7 aG BA Az aB aBc Ao x τ w) (hb:Ch (· = r) w w') (h1:r<lo) (h2:g≠r):WS g lo τ w' aF BD A_ aL Ae AU aP Ag AY aD Ac AQ aN Ad Aa aS Af Ab aI BF A7 aG BA Az aB aBc Ao x τ w':=by
 have hc:∀ i:Nat,w'.cell? ⟨g,i,none⟩=w.cell? ⟨g,i,none⟩:=fun i=>World.cell?_of_block (w:=w) (a:=⟨g,i,none⟩) (hb.block g h.at_.lt h2)
 exact⟨(hc _).trans h.first,h.at_.apart hb h2,(hc _).trans h.lines,(hc _).trans h.AV,(hc _).trans h.BS,h.lb.MB hb h2,h.ow.Av (kC hb (kR _ _) (.inl h1)),fun _ _=>rfl,Ch.refl _ _,Nat.lt_of_lt_of_le h.at_.lt hb.size,h.g0,Nat.le_trans h.lo_le hb.size⟩
theorem WS.zero (h:WS g lo τ0 w0 aF BD A_ aL Ae AU aP Ag AY aD Ac AQ aN Ad Aa aS Af Ab aI BF A7 aG BA Az aB aBc Ao x τ w) (hb:Ex w w'):WS g lo τ0 w0 aF BD A_ aL Ae AU aP Ag AY aD Ac AQ aN Ad Aa aS Af Ab aI BF A7 aG BA Az aB aBc Ao x (glue τ w.heap.size (fun _=>0)) w':=by
 have h':=h.ex hb
 have hz:=h.ch.size
 exact⟨h'.first,h'.at_,h'.lines,h'.AV,h'.BS,h'.lb,(h.ow.retag fun b hb=>if_pos hb).Av (kE hb (kR _ _)),fun b hb=>(if_pos (by omega)).trans (h.tag b hb),h'.ch,h.VN,h.gz,h.UK⟩
theorem Eh.cell (h:Eh OM Oi τ w lo aF BD A_ aL Ae AU aP Ag AY aD Ac AQ aN Ad Aa aS Af Ab aI BF A7 aG BA Az aB aBc Ao x) (hg:τ g=0) (i:Nat) (v:Value):Eh OM Oi τ (w.setCell ⟨g,i,none⟩ v) lo aF BD A_ aL Ae AU aP Ag AY aD Ac AQ aN Ad Aa aS Af Ab aI BF A7 aG BA Az aB aBc Ao x:=by
 have K:∀ t,1≤t→KT τ t lo w (w.setCell ⟨g,i,none⟩ v):=fun t ht=>(KT.refl _ _ _ _).setCell (.inr (by show τ g≠t;omega))
 exact⟨h.first.keep (K 6 (by decide)),h.Dt.keep fun t h1 _=>K t h1,h.lines.keep (K 7 (by decide)),h.AV.keep (K 8 (by decide)) fun j=>K _ (by unfold OM;omega),h.BS.keep (K 9 (by decide)) fun j=>K _ (by unfold Oi;omega)⟩
theorem KT.sg {t:Nat} (hc:Ch (SG g lo τ) w w') (hg:τ g=0) (ht:6≤t):KT τ t lo w w':=
 ⟨hc.size,fun b h1 h2 h3=>hc.block b h2 fun h=>by
  rcases h with h | ⟨_,_,h5⟩
  ·subst h;omega
  ·omega⟩
theorem WS.ms (h:WS g lo τ0 w0 aF BD A_ aL Ae AU aP Ag AY aD Ac AQ aN Ad Aa aS Af Ab aI BF A7 aG BA Az aB aBc Ao x τ w):MS g 1 10 lo τ w aL Ae AU aP Ag AY aD Ac AQ aN Ad Aa aS Af Ab x.AB τ w:=MS.start h.at_ h.lb h.ow.Dt h.g0 h.lo_le
theorem WS.AB {bL bP bD bN bS:Option Addr} {Bg BR Bf BV Bh Ba Bd Bb Bc BZ:Nat} {m:Sw.CV} (h:WS g lo τ0 w0 aF BD A_ aL Ae AU aP Ag AY aD Ac AQ aN Ad Aa aS Af Ab aI BF A7 aG BA Az aB aBc Ao x τ w) (k:MS g 1 10 lo τ w bL Bg BR bP Bf BV bD Bh Ba bN Bd Bb bS Bc BZ m τ' w'):WS g lo τ0 w0 aF BD A_ bL Bg BR bP Bf BV bD Bh Ba bN Bd Bb bS Bc BZ aI BF A7 aG BA Az aB aBc Ao { x with AB:=m } τ' w':=by
 have K:∀ t,6≤t→KT τ' t lo w w':=fun t ht=>(KT.sg k.ch h.g0 ht).retag k.tag
 refine h.trans ⟨(k.out 0 (by omega)).trans h.first,k.at_,(k.out 7 (by omega)).trans h.lines,(k.out 8 (by omega)).trans h.AV,(k.out 9 (by omega)).trans h.BS,k.lb,
  ⟨(h.ow.first.retag k.tag).keep (K 6 (by decide)),k.ow,(h.ow.lines.retag k.tag).keep (K 7 (by decide)),(h.ow.AV.retag k.tag).keep (K 8 (by decide)) fun j=>K _ (by unfold OM;omega),(h.ow.BS.retag k.tag).keep (K 9 (by decide)) fun j=>K _ (by unfold Oi;omega)⟩,
  k.tag,k.ch.mono fun i _ hi=>?_,h.at_.lt,h.g0,h.lo_le⟩
 rcases hi with hi | ⟨h1,h2,_⟩
 ·exact .inl hi
 ·exact .inr ⟨h1,h2⟩
theorem Cs.setW {clock:Int} {i:Nat} {v:Value} (h:Cs w g 1 aL Ae AU aP Ag AY aD Ac AQ aN Ad Aa aS Af Ab clock) (hi:i=0∨7≤i):Cs (w.setCell ⟨g,i,none⟩ v) g 1 aL Ae AU aP Ag AY aD Ac AQ aN Ad Aa aS Af Ab clock:=
 ⟨by simpa [World.setCell] using h.lt,(World.cell?_setCell_other _ _ _ _ (Fp (by omega))).trans h.log,(World.cell?_setCell_other _ _ _ _ (Fp (by omega))).trans h.Ai,(World.cell?_setCell_other _ _ _ _ (Fp (by omega))).trans h.AJ,(World.cell?_setCell_other _ _ _ _ (Fp (by omega))).trans h.Qa,
  (World.cell?_setCell_other _ _ _ _ (Fp (by omega))).trans h.nums,(World.cell?_setCell_other _ _ _ _ (Fp (by omega))).trans h.said,fun i=>by simpa using h.free i⟩
theorem WS.ZB (h:WS g lo τ0 w0 aF BD A_ aL Ae AU aP Ag AY aD Ac AQ aN Ad Aa aS Af Ab aI BF A7 aG BA Az aB aBc Ao x τ w) {A:Option Addr} {c k:Nat} {ls:List Sw.Ee} (ho:xP w' lo A c k ls) (hc:Ch (KW aI) w w') (hat:∀ b,A=some b→aI=some b∨w.heap.size≤b.block) :
  WS g lo τ0 w0 aF BD A_ aL Ae AU aP Ag AY aD Ac AQ aN Ad Aa aS Af Ab A c k aG BA Az aB aBc Ao { x with lines:=ls } (glue τ w.heap.size (fun _=>7)) (w'.setCell ⟨g,7,none⟩ (.slice A k c)):=by
 have hS:¬KW aI g:=fun ⟨a,ha,e⟩=>by have:=h.ow.lines.tag a ha;have:=h.g0;rw[← e] at *;omega
 have hk:=hc.block g h.at_.lt hS
 have hcc:∀ i:Nat,w'.cell? ⟨g,i,none⟩=w.cell? ⟨g,i,none⟩:=fun i=>World.cell?_of_block (w:=w) (a:=⟨g,i,none⟩) hk
 have tg:∀ b,b<w.heap.size→glue τ w.heap.size (fun _=>7) b=τ b:=fun b hb=>if_pos hb
 have K:∀ t,t≠7→KT (glue τ w.heap.size (fun _=>7)) t lo w w':=fun t ht=>KT.ch hc (KT.refl _ _ _ _) fun i ⟨a,ha,hi⟩=>.inr (by rw[hi,Gs (h.ow.lines.tag a ha)];exact Ne.symm ht)
 have hw:Eh OM Oi (glue τ w.heap.size (fun _=>7)) w' lo aF BD A_ aL Ae AU aP Ag AY aD Ac AQ aN Ad Aa aS Af Ab A c k aG BA Az aB aBc Ao { x with lines:=ls }:=
  ⟨(h.ow.first.retag tg).keep (K 6 (by decide)),(h.ow.Dt.retag tg).keep fun t h1 h5=>K t (by omega),CK.full ho h.ow.lines hat,(h.ow.AV.retag tg).keep (K 8 (by decide)) fun j=>K _ (by unfold OM;omega),(h.ow.BS.retag tg).keep (K 9 (by decide)) fun j=>K _ (by unfold Oi;omega)⟩
 refine h.trans ⟨?_,(h.at_.apart hc hS).setW (.inr (Nat.le_refl _)),World.cell?_setCell_same _ _ _ ((hcc 7).trans h.lines),?_,?_,(h.lb.MB hc hS).set,hw.cell ((tg g h.at_.lt).trans h.g0) _ _,tg,cS (Ch.mono hc fun i _ ⟨a,ha,e⟩=>.inr ?_) (.inl (.inl rfl)) _,h.at_.lt,h.g0,h.lo_le⟩
 ·exact (World.cell?_setCell_other _ _ _ _ (Fp (by omega))).trans ((hcc 0).trans h.first)
 ·exact (World.cell?_setCell_other _ _ _ _ (Fp (by omega))).trans ((hcc 8).trans h.AV)
 ·exact (World.cell?_setCell_other _ _ _ _ (Fp (by omega))).trans ((hcc 9).trans h.BS)
 ·subst e
  have h1:=h.ow.lines.ow.blk ha
  have h2:=h.ow.lines.tag a ha
  exact⟨h1.1,by omega⟩
theorem WS.Ws (h:WS g lo τ0 w0 aF BD A_ aL Ae AU aP Ag AY aD Ac AQ aN Ad Aa aS Af Ab aI BF A7 aG BA Az aB aBc Ao x τ w) {A:Option Addr} {c k:Nat} {ms:List Sw.IX} (hX:KH Oi τ' w' lo A c k ms) (tg:∀ b,b<w.heap.size→τ' b=τ b) (hc:Ch (KW aB) w w') :
  WS g lo τ0 w0 aF BD A_ aL Ae AU aP Ag AY aD Ac AQ aN Ad Aa aS Af Ab aI BF A7 aG BA Az A c k { x with BS:=ms } τ' (w'.setCell ⟨g,9,none⟩ (.slice A k c)):=by
 obtain⟨vs,v1,_⟩:=h.ow.BS.ex
 have hS:¬KW aB g:=fun ⟨a,ha,e⟩=>by have:=v1.tag a ha;have:=h.g0;rw[← e] at *;omega
 have hk:=hc.block g h.at_.lt hS
 have hcc:∀ i:Nat,w'.cell? ⟨g,i,none⟩=w.cell? ⟨g,i,none⟩:=fun i=>World.cell?_of_block (w:=w) (a:=⟨g,i,none⟩) hk
 have K:∀ t,t≠9→KT τ' t lo w w':=fun t ht=>KT.retag (KT.ch hc (KT.refl _ _ _ _) fun i ⟨a,ha,hi⟩=>.inr (by rw[hi,v1.tag a ha];exact Ne.symm ht)) tg
 have hw:Eh OM Oi τ' w' lo aF BD A_ aL Ae AU aP Ag AY aD Ac AQ aN Ad Aa aS Af Ab aI BF A7 aG BA Az A c k { x with BS:=ms }:=
  ⟨(h.ow.first.retag tg).keep (K 6 (by decide)),(h.ow.Dt.retag tg).keep fun t h1 h5=>K t (by omega),(h.ow.lines.retag tg).keep (K 7 (by decide)),(h.ow.AV.retag tg).keep (K 8 (by decide)) fun j=>K _ (by unfold OM;omega),hX⟩
 refine h.trans ⟨?_,(h.at_.apart hc hS).setW (.inr (by omega)),?_,?_,World.cell?_setCell_same _ _ _ ((hcc 9).trans h.BS),(h.lb.MB hc hS).set,hw.cell ((tg g h.at_.lt).trans h.g0) _ _,tg,cS (Ch.mono hc fun i _ ⟨a,ha,e⟩=>.inr ?_) (.inl (.inl rfl)) _,h.at_.lt,h.g0,h.lo_le⟩
 ·exact (World.cell?_setCell_other _ _ _ _ (Fp (by omega))).trans ((hcc 0).trans h.first)
 ·exact (World.cell?_setCell_other _ _ _ _ (Fp (by omega))).trans ((hcc 7).trans h.lines)
 ·exact (World.cell?_setCell_other _ _ _ _ (Fp (by omega))).trans ((hcc 8).trans h.AV)
 ·subst e
  have h1:=v1.ow.blk ha
  have h2:=v1.tag a ha
  exact⟨h1.1,by omega⟩
theorem WS.Uy (h:WS g lo τ0 w0 aF BD A_ aL Ae AU aP Ag AY aD Ac AQ aN Ad Aa aS Af Ab aI BF A7 aG BA Az aB aBc Ao x τ w) {gG k:Nat} {y:Sw.Gate} {B:Option Addr} {d n:Nat} (hA:aG=some ⟨gG,0,none⟩) (hk:k<Az) (hb:Ex w w1) (hd:Ga w1 w.heap.size B d n y.done) :
  WS g lo τ0 w0 aF BD A_ aL Ae AU aP Ag AY aD Ac AQ aN Ad Aa aS Af Ab aI BF A7 aG BA Az aB aBc Ao { x with AV:=x.AV.set k y } (glue τ w.heap.size (fun _=>OM k)) (setCells w1 gG (k*4) (GV.enc ⟨y.head,B,d,n⟩)):=by
 obtain⟨vs,v1,v2,v3⟩:=h.ow.AV.ex
 have eH:=v1.ow.blk hA
 dsimp only at eH
 have tG:τ gG=8:=v1.tag _ hA
 have hz:=hb.size
 have hne:g≠gG:=by have:=h.g0;rintro rfl;omega
 have tg:∀ b,b<w.heap.size→glue τ w.heap.size (fun _=>OM k) b=τ b:=fun b hb=>if_pos hb
 have hset:Ch (· = gG) w1 (setCells w1 gG (k*4) (GV.enc ⟨y.head,B,d,n⟩)):=JI (Ch.refl _ _) rfl
 have hc:Ch (· = gG) w (setCells w1 gG (k*4) (GV.enc ⟨y.head,B,d,n⟩)):=(Ex.ch hb).trans hset
 have K:∀ t,t≠8→KT (glue τ w.heap.size (fun _=>OM k)) t lo w (setCells w1 gG (k*4) (GV.enc ⟨y.head,B,d,n⟩)):=fun t h8=>KT.retag (KT.ch hset (KT.ex hb (KT.refl _ _ _ _)) fun i hi=>.inr (by rw[show i=gG from hi,tG];exact Ne.symm h8)) tg
 have hk9:=hc.block g h.at_.lt hne
 have hcc:∀ i:Nat,(setCells w1 gG (k*4) (GV.enc ⟨y.head,B,d,n⟩)).cell? ⟨g,i,none⟩=w.cell? ⟨g,i,none⟩:=fun i=>World.cell?_of_block (w:=w) (a:=⟨g,i,none⟩) hk9
 have hbl:∀ b,b≠gG→(setCells w1 gG (k*4) (GV.enc ⟨y.head,B,d,n⟩)).heap[b]?=w1.heap[b]?:=fun b hb=>EG hb _ _ _
 have hp:=Ow.put (v1.ow.keep (kE hb (kR _ _))) (fun _=>rfl) ⟨y.head,B,d,n⟩ hA hk
 have hG:Kj OM (glue τ w.heap.size (fun _=>OM k)) (setCells w1 gG (k*4) (GV.enc ⟨y.head,B,d,n⟩)) lo aG BA Az (x.AV.set k y):=by
  refine⟨_,⟨hp,fun a ha=>(tg _ (v1.ow.blk ha).2).trans (v1.tag a ha)⟩,by rw[List.length_set];exact v2,fun j v z hv hz'=>?_⟩
  rw[List.getElem?_set] at hv hz'
  by_cases hjk:k=j
  ·subst hjk
   rw[if_pos rfl,if_pos (by rw[← v1.ow.1];exact hk)] at hv
   rw[if_pos rfl,if_pos (by omega)] at hz'
   cases hv;cases hz'
   refine⟨rfl,⟨(hd.less h.lo_le).Hw fun a ha=>?_,fun a ha=>if_neg (by have:=(hd.blk ha).1;omega)⟩⟩
   exact hbl _ (by have:=(hd.blk ha).1;omega)
  ·rw[if_neg hjk] at hv hz'
   obtain⟨e,hr⟩:=v3 j v z hv hz'
   exact⟨e,(hr.retag tg).keep (K _ (by unfold OM;omega))⟩
 exact h.trans ⟨(hcc 0).trans h.first,h.at_.apart hc hne,(hcc 7).trans h.lines,(hcc 8).trans h.AV,(hcc 9).trans h.BS,h.lb.MB hc hne,
  ⟨(h.ow.first.retag tg).keep (K 6 (by decide)),(h.ow.Dt.retag tg).keep fun t h1 h5=>K t (by omega),(h.ow.lines.retag tg).keep (K 7 (by decide)),hG,(h.ow.BS.retag tg).keep (K 9 (by decide)) fun j=>K _ (by unfold Oi;omega)⟩,
  tg,hc.mono fun i _ hi=>.inr (by rw[show i=gG from hi];exact⟨eH.1,by omega⟩),h.at_.lt,h.g0,h.lo_le⟩
theorem WS.Zp (h:WS g lo τ0 w0 aF BD A_ aL Ae AU aP Ag AY aD Ac AQ aN Ad Aa aS Af Ab aI BF A7 aG BA Az aB aBc Ao x τ w) {gG k:Nat} {y:Sw.Gate} {B:Option Addr} {d n:Nat} (hA:aG=some ⟨gG,0,none⟩) (hk:k<Az) (hb:Ex w w1) (hd:Ga w1 w.heap.size B d n y.done) :
  WS g lo τ0 w0 aF BD A_ aL Ae AU aP Ag AY aD Ac AQ aN Ad Aa aS Af Ab aI BF A7 aG BA Az aB aBc Ao { x with AV:=x.AV.set k y } (glue τ w.heap.size (fun _=>OM k)) ((((w1.setCell ⟨gG,k*4,none⟩ (.int .i64 y.head.size)).setCell ⟨gG,k*4+1,none⟩ (.int .i64 y.head.log)).setCell ⟨gG,k*4+2,none⟩ (.int .i64 y.head.own)).setCell ⟨gG,k*4+3,none⟩ (.slice B n d)):=
 h.Uy hA hk hb hd
theorem Cs.fill {bL bP bD bN bS:Option Addr} {Bg BR Bf BV Bh Ba Bd Bb Bc BZ:Nat} {clock ck:Int} (h:Cs w1 g 1 aL Ae AU aP Ag AY aD Ac AQ aN Ad Aa aS Af Ab clock):Cs ((((((w1.setCell ⟨g,1,none⟩ (.slice bL BR Bg)).setCell ⟨g,2,none⟩ (.slice bP BV Bf)).setCell ⟨g,3,none⟩ (.slice bD Ba Bh)).setCell ⟨g,4,none⟩ (.int .i64 ck)).setCell ⟨g,5,none⟩ (.slice bN Bb Bd)).setCell ⟨g,6,none⟩ (.slice bS BZ Bc)) g 1 bL Bg BR bP Bf BV bD Bh Ba bN Bd Bb bS Bc BZ ck:=
 ⟨by simpa [World.setCell] using h.lt,(World.cell?_setCell_other _ _ _ _ (Fp (by omega))).trans ((World.cell?_setCell_other _ _ _ _ (Fp (by omega))).trans ((World.cell?_setCell_other _ _ _ _ (Fp (by omega))).trans ((World.cell?_setCell_other _ _ _ _ (Fp (by omega))).trans ((World.cell?_setCell_other _ _ _ _ (Fp (by omega))).trans (World.cell?_setCell_same _ _ _ (h.log)))))),(World.cell?_setCell_other _ _ _ _ (Fp (by omega))).trans ((World.cell?_setCell_other _ _ _ _ (Fp (by omega))).trans ((World.cell?_setCell_other _ _ _ _ (Fp (by omega))).trans ((World.cell?_setCell_other _ _ _ _ (Fp (by omega))).trans (World.cell?_setCell_same _ _ _ ((World.cell?_setCell_other _ _ _ _ (Fp (by omega))).trans (h.Ai)))))),(World.cell?_setCell_other _ _ _ _ (Fp (by omega))).trans ((World.cell?_setCell_other _ _ _ _ (Fp (by omega))).trans ((World.cell?_setCell_other _ _ _ _ (Fp (by omega))).trans (World.cell?_setCell_same _ _ _ ((World.cell?_setCell_other _ _ _ _ (Fp (by omega))).trans ((World.cell?_setCell_other _ _ _ _ (Fp (by omega))).trans (h.AJ)))))),(World.cell?_setCell_other _ _ _ _ (Fp (by omega))).trans ((World.cell?_setCell_other _ _ _ _ (Fp (by omega))).trans (World.cell?_setCell_same _ _ _ ((World.cell?_setCell_other _ _ _ _ (Fp (by omega))).trans ((World.cell?_setCell_other _ _ _ _ (Fp (by omega))).trans ((World.cell?_setCell_other _ _ _ _ (Fp (by omega))).trans (h.Qa)))))),(World.cell?_setCell_other _ _ _ _ (Fp (by omega))).trans (World.cell?_setCell_same _ _ _ ((World.cell?_setCell_other _ _ _ _ (Fp (by omega))).trans ((World.cell?_setCell_other _ _ _ _ (Fp (by omega))).trans ((World.cell?_setCell_other _ _ _ _ (Fp (by omega))).trans ((World.cell?_setCell_other _ _ _ _ (Fp (by omega))).trans (h.nums)))))),World.cell?_setCell_same _ _ _ ((World.cell?_setCell_other _ _ _ _ (Fp (by omega))).trans ((World.cell?_setCell_other _ _ _ _ (Fp (by omega))).trans ((World.cell?_setCell_other _ _ _ _ (Fp (by omega))).trans ((World.cell?_setCell_other _ _ _ _ (Fp (by omega))).trans ((World.cell?_setCell_other _ _ _ _ (Fp (by omega))).trans (h.said)))))),fun i=>by simpa using h.free i⟩
theorem WS.nK {bL bP bD bN bS:Option Addr} {Bg BR Bf BV Bh Ba Bd Bb Bc BZ:Nat} {m:Sw.CV} {l:Nat} {τf:Nat→Nat} {ck:Int} (h:WS g lo τ0 w0 aF BD A_ aL Ae AU aP Ag AY aD Ac AQ aN Ad Aa aS Af Ab aI BF A7 aG BA Az aB aBc Ao x τ w) (hb:Ex w w1) (hm:Cn τf w1 l bL Bg BR bP Bf BV bD Bh Ba bN Bd Bb bS Bc BZ m) (hl:w.heap.size≤l) (hck:ck=m.clock) :
  WS g lo τ0 w0 aF BD A_ bL Bg BR bP Bf BV bD Bh Ba bN Bd Bb bS Bc BZ aI BF A7 aG BA Az aB aBc Ao { x with AB:=m } (glue τ w.heap.size τf) ((((((w1.setCell ⟨g,1,none⟩ (.slice bL BR Bg)).setCell ⟨g,2,none⟩ (.slice bP BV Bf)).setCell ⟨g,3,none⟩ (.slice bD Ba Bh)).setCell ⟨g,4,none⟩ (.int .i64 ck)).setCell ⟨g,5,none⟩ (.slice bN Bb Bd)).setCell ⟨g,6,none⟩ (.slice bS BZ Bc)):=by
 have h1:=h.ex hb
 have hz:=hb.size
 have tg:∀ b,b<w.heap.size→glue τ w.heap.size τf b=τ b:=fun b hb=>if_pos hb
 have hk:KF lo w w1:=kE hb (kR _ _)
 have hg:glue τ w.heap.size τf g=0:=(tg g h.at_.lt).trans h.g0
 have hw:Eh OM Oi (glue τ w.heap.size τf) w1 lo aF BD A_ bL Bg BR bP Bf BV bD Bh Ba bN Bd Bb bS Bc BZ aI BF A7 aG BA Az aB aBc Ao { x with AB:=m }:=
  ⟨(h.ow.first.retag tg).Av hk,(hm.EM hl).less (Nat.le_trans h.lo_le hl),(h.ow.lines.retag tg).Av hk,(h.ow.AV.retag tg).Av hk,(h.ow.BS.retag tg).Av hk⟩
 subst hck
 refine h.trans ⟨?_,h1.at_.fill,?_,?_,?_,h1.lb.set.set.set.set.set.set,(((((hw.cell hg _ _).cell hg _ _).cell hg _ _).cell hg _ _).cell hg _ _).cell hg _ _,tg,cS (cS (cS (cS (cS (cS (Ex.ch hb) (.inl (.inl rfl)) _) (.inl (.inl rfl)) _) (.inl (.inl rfl)) _) (.inl (.inl rfl)) _) (.inl (.inl rfl)) _) (.inl (.inl rfl)) _,h.at_.lt,h.g0,h.lo_le⟩
 ·exact (World.cell?_setCell_other _ _ _ _ (Fp (by omega))).trans ((World.cell?_setCell_other _ _ _ _ (Fp (by omega))).trans ((World.cell?_setCell_other _ _ _ _ (Fp (by omega))).trans ((World.cell?_setCell_other _ _ _ _ (Fp (by omega))).trans ((World.cell?_setCell_other _ _ _ _ (Fp (by omega))).trans ((World.cell?_setCell_other _ _ _ _ (Fp (by omega))).trans (h1.first))))))
 ·exact (World.cell?_setCell_other _ _ _ _ (Fp (by omega))).trans ((World.cell?_setCell_other _ _ _ _ (Fp (by omega))).trans ((World.cell?_setCell_other _ _ _ _ (Fp (by omega))).trans ((World.cell?_setCell_other _ _ _ _ (Fp (by omega))).trans ((World.cell?_setCell_other _ _ _ _ (Fp (by omega))).trans ((World.cell?_setCell_other _ _ _ _ (Fp (by omega))).trans (h1.lines))))))
 ·exact (World.cell?_setCell_other _ _ _ _ (Fp (by omega))).trans ((World.cell?_setCell_other _ _ _ _ (Fp (by omega))).trans ((World.cell?_setCell_other _ _ _ _ (Fp (by omega))).trans ((World.cell?_setCell_other _ _ _ _ (Fp (by omega))).trans ((World.cell?_setCell_other _ _ _ _ (Fp (by omega))).trans ((World.cell?_setCell_other _ _ _ _ (Fp (by omega))).trans (h1.AV))))))
 ·exact (World.cell?_setCell_other _ _ _ _ (Fp (by omega))).trans ((World.cell?_setCell_other _ _ _ _ (Fp (by omega))).trans ((World.cell?_setCell_other _ _ _ _ (Fp (by omega))).trans ((World.cell?_setCell_other _ _ _ _ (Fp (by omega))).trans ((World.cell?_setCell_other _ _ _ _ (Fp (by omega))).trans ((World.cell?_setCell_other _ _ _ _ (Fp (by omega))).trans (h1.BS))))))
theorem WS.gX (h:WS g lo τ0 w0 aF BD A_ aL Ae AU aP Ag AY aD Ac AQ aN Ad Aa aS Af Ab aI BF A7 aG BA Az aB aBc Ao x τ w):WS g lo τ0 w0 aF BD A_ aL Ae AU aP Ag AY aD Ac AQ aN Ad Aa aS Af Ab aI BF A7 aG BA Az none 0 0 { x with BS:=[] } τ (w.setCell ⟨g,9,none⟩ (.slice none 0 0)):=
 h.Ws ⟨[],CK.nil ..,rfl,by intro k v g hv;simp at hv⟩ (fun _ _=>rfl) (Ch.refl _ _)
theorem WS.mark {τx:Nat→Nat} (h:WS g lo τ0 w0 aF BD A_ aL Ae AU aP Ag AY aD Ac AQ aN Ad Aa aS Af Ab aI BF A7 aG BA Az aB aBc Ao x τ w) (hb:Ex w w'):WS g lo τ0 w0 aF BD A_ aL Ae AU aP Ag AY aD Ac AQ aN Ad Aa aS Af Ab aI BF A7 aG BA Az aB aBc Ao x (glue τ w.heap.size τx) w':=by
 have h':=h.ex hb
 have hz:=h.ch.size
 exact⟨h'.first,h'.at_,h'.lines,h'.AV,h'.BS,h'.lb,(h.ow.retag fun b hb=>if_pos hb).Av (kE hb (kR _ _)),fun b hb=>(if_pos (by omega)).trans (h.tag b hb),h'.ch,h.VN,h.gz,h.UK⟩
theorem WS.sent (h:WS g lo τ0 w0 aF BD A_ aL Ae AU aP Ag AY aD Ac AQ aN Ad Aa aS Af Ab aI BF A7 aG BA Az aB aBc Ao x τ w) {m:Sw.IX} {vs:List XV} {B A1:Option Addr} {d n c1:Nat} {w2:World} (h1:TS τ 9 w lo aB aBc Ao vs) (h2:Ao=x.BS.length)
  (h3:∀ (j:Nat) (v:XV) (g:Sw.IX),vs[j]?=some v→x.BS[j]?=some g→v.g=g.gate∧v.h=g.head∧JY τ (Oi j) w lo v.A v.c v.n g.proof)
  (hb:Ex w w1) (hd:Ga w1 w.heap.size B d n m.proof) (ho:MZ w2 lo A1 c1 (Ao+1) (vs ++ [⟨m.gate,m.head,B,d,n⟩])) (hc:Ch (KW aB) w1 w2) (hat:∀ b,A1=some b→aB=some b∨w1.heap.size≤b.block) :
  WS g lo τ0 w0 aF BD A_ aL Ae AU aP Ag AY aD Ac AQ aN Ad Aa aS Af Ab aI BF A7 aG BA Az A1 c1 (Ao+1) { x with BS:=x.BS ++ [m] } (glue (glue τ w.heap.size (fun _=>Oi Ao)) w1.heap.size (fun _=>9)) (w2.setCell ⟨g,9,none⟩ (.slice A1 (Ao+1) c1)):=
 (h.mark (τx:=fun _=>Oi Ao) hb).Ws (KH.snoc h1 h2 h3 hb hd h.lo_le ho hc hat kU) (fun b hb=>if_pos hb) hc
theorem WS.lost (h:WS g lo τ0 w0 aF BD A_ aL Ae AU aP Ag AY aD Ac AQ aN Ad Aa aS Af Ab aI BF A7 aG BA Az aB aBc Ao x τ w) {gB i:Nat} {vs:List XV} (h1:TS τ 9 w lo aB aBc Ao vs) (h2:Ao=x.BS.length)
  (h3:∀ (j:Nat) (v:XV) (g:Sw.IX),vs[j]?=some v→x.BS[j]?=some g→v.g=g.gate∧v.h=g.head∧JY τ (Oi j) w lo v.A v.c v.n g.proof)
  (hA:aB=some ⟨gB,0,none⟩) (hi:i<Ao) (ho:MZ w1 lo aB aBc (Ao-1) (vs.eraseIdx i)) (hc:Ch (· = gB) w w1) :
  WS g lo τ0 w0 aF BD A_ aL Ae AU aP Ag AY aD Ac AQ aN Ad Aa aS Af Ab aI BF A7 aG BA Az aB aBc (Ao-1) { x with BS:=x.BS.eraseIdx i } τ (w1.setCell ⟨g,9,none⟩ (.slice aB (Ao-1) aBc)):=by
 have tB:τ gB=9:=h1.tag _ hA
 refine h.Ws ⟨vs.eraseIdx i,⟨ho,h1.tag⟩,by rw[List.length_eraseIdx,if_pos (by omega)];omega,fun k v m hv hm=>?_⟩ (fun _ _=>rfl) (hc.mono fun j _ hj=>⟨_,hA,hj⟩)
 have K:KT τ 11 lo w w1:=KT.ch hc (KT.refl _ _ _ _) fun j hj=>.inr (by rw[show j=gB from hj,tB];decide)
 rw[List.getElem?_eraseIdx] at hv hm
 split at hv
 ·rw[if_pos (by assumption)] at hm
  obtain⟨e1,e2,e3⟩:=h3 _ v m hv hm
  exact⟨e1,e2,CK.keep (t:=11) e3 K⟩
 ·rw[if_neg (by assumption)] at hm
  obtain⟨e1,e2,e3⟩:=h3 _ v m hv hm
  exact⟨e1,e2,CK.keep (t:=11) e3 K⟩
end
end Go.Proofs.YtgaflnpmilikcaaGreat
