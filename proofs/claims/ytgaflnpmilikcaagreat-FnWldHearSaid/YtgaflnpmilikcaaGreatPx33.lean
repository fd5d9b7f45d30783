/- Texts joined: PtrI. -/
import Derived.Test.YtgaflnpmilikcaaGreatPx5
import Derived.Test.YtgaflnpmilikcaaGreatPx32
import Derived.Deep.CutBlock
import Derived.Deep.DeepCutAuto
set_option maxRecDepth 100000
set_option linter.unusedSimpArgs false
set_option linter.unusedVariables false
namespace Go.Proofs.YtgaflnpmilikcaaGreat
open Go.RowKit Go
set_option maxHeartbeats 8000000
abbrev Bl (g gD:Nat) (W w:World):Prop:=
 (∀ b o,¬((⟨b,0,none⟩:Addr)=⟨b-W.heap.size+W.heap.size,0,none⟩)→¬((⟨b,0,none⟩:Addr)=⟨g,0,none⟩)→¬((⟨b,0,none⟩:Addr)=⟨gD,0,none⟩)→w.cell? ⟨b,o,none⟩=W.cell? ⟨b,o,none⟩)∧Ch (fun i=>i=g∨i=gD) W w
theorem Bl.of {g gD:Nat} {W w:World} (h:Ch (fun i=>i=g∨i=gD) W w):Bl g gD W w:=
 ⟨fun b o h1 h2 h3=>h.cell (p:=⟨b,o,none⟩) (by simp at h1;show b<_;omega) (by rintro (e|e);exact h2 (by rw[show b=g from e]);exact h3 (by rw[show b=gD from e])),h⟩
theorem Bl.start (g gD:Nat) (W:World):Bl g gD W W.drew:=.of (Ch.refl _ _).drew
theorem Bl.refl (g gD:Nat) (W:World):Bl g gD W W:=.of (Ch.refl _ _)
theorem Bl.drew {g gD:Nat} {W w:World} (h:Bl g gD W w):Bl g gD W w.drew:=.of h.2.drew
theorem Bl.alloc {g gD:Nat} {W w:World} (h:Bl g gD W w) (o:Obj):Bl g gD W (w.alloc o):=.of (h.2.alloc o)
theorem Bl.set {g gD:Nat} {W w:World} {p:Addr} {u:Value} (h:Bl g gD W w) (hp:p.block=g):Bl g gD W (w.setCell p u):=.of (h.2.setCell (.inl (.inl hp)) u)
theorem Bl.app {g gD:Nat} {W w w':World} {A:Option Addr} (h:Bl g gD W w) (hc:Ch (KW A) w w') (hA:∀ a,A=some a→a.block=gD):Ch (fun i=>i=g∨i=gD) W w':=
 h.2.trans' hc fun i _ ⟨a,ha,e⟩=>.inr (e.trans (hA a ha))
theorem M4 {d:Sw.BC}:∀ {ds:List Sw.BC} {k:Nat},k≤ds.length→(∀ j x,j<k→ds[j]?=some x→x.ticket<d.ticket)→(∀ x,ds[k]?=some x→d.ticket<x.ticket)→Sw.CL d ds=ds.take k ++ d::ds.drop k
 | [],k,hk,_,_=>by
  obtain rfl:k=0:=by simpa using hk
  rfl
 | y::ys,0,_,_,h=>by
  have:=h y rfl
  rw[Sw.CL,if_pos this];rfl
 | y::ys,k+1,hk,h1,h2=>by
  have:=h1 0 y (by omega) rfl
  rw[Sw.CL,if_neg (by omega),M4 (k:=k) (by simpa using hk) (fun j x hj hx=>h1 (j+1) x (by omega) (by simpa using hx)) (fun x hx=>h2 x (by simpa using hx))]
  rfl
theorem XI {W:World} {gl:Nat} (d:Sw.BC) (h:gl=W.heap.size):VJ (W.alloc (.cells #[.int .i64 d.ticket,.int .i64 d.BP,.int .i64 d.Al,.int .i64 d.BN,.int .i64 d.due] 71)) 0 (some ⟨gl,0,none⟩) 1 1 [d]:=
 Rs.new (enc:=Sw.BC.enc) (sz:=5) [d] h rfl rfl (fun _=>rfl) (by decide)
section
variable {g o n lo:Nat} {τ0 τ:Nat→Nat} {w0 w:World} {aL aP aD aN aS:Option Addr} {Ae AU Ag AY Ac AQ Ad Aa Af Ab:Nat} {m:Sw.CV}
theorem V9 (hS:MS g o n lo τ0 w0 aL Ae AU aP Ag AY aD Ac AQ aN Ad Aa aS Af Ab m τ w) (ru rn:Int) (t:Nat) (rh rp:Int) {rows:List Sw.Row} (hok:Sw.IL m rows) (ht:t<8) (hu1:1≤ru) (aT:ru≤5):Calls Tryz.prog 124 #[.pointer (some ⟨g,o,none⟩),.agg #[.int .i64 ru,.int .i64 rn,.int .i64 2,.int .i64 t,.int .i64 rh,.int .i64 rp]] w fun E w'=>
  KX g o n lo τ0 w0 w' E (Sw.offer m ⟨ru,rn,2,t,rh,rp⟩ (Sw.rowAt rows t) (Sw.BH m.AJ t)):=by
 have hSw:=hS
 obtain⟨k0,k1,k2,k3,k4,k5,k6,kf⟩:=hS.at_
 have HS:=Lib.hid hS
 have Fu:=hS.ow.log.ow.rs
 have Yc:=hS.ow.AJ.ow.rs
 have hpn:AY≤4194304:=by have:=hS.ow.Ai.ow.1;have:=(Sw.Ci.1 hok.Rp).1;omega
 have HL:=Lib.hid (Sw.B_.1 hok.fold).1
 have HO:=Lib.hid hok.fold
 have HK:=Lib.hid hok
 have i0:(0:Int)≤(t:Int):=by omega
 have i1:(t:Int)<8:=by omega
 obtain⟨ai,hat⟩:∃ z,z=Sw.FB m.AJ t:=⟨_,rfl⟩
 have HA:=Lib.hid hat
 clear hS hSw hok hat
 go_enter Tryz.func124,Tryz.ntmps124
 go_upto_region 1 with fail
 go_cut [5] (fun p wx=>∃ gb:Nat,p=.pointer (some ⟨gb,0,none⟩)∧w.heap.size+1≤gb∧gb<wx.heap.size∧wx.cell? ⟨gb,0,none⟩=some (.int .i64 (Sw.rowAt rows t).who)∧wx.cell? ⟨gb,1,none⟩=some (.int .i64 (Sw.rowAt rows t).EY)∧wx.cell? ⟨gb,2,none⟩=some (.bool (Sw.rowAt rows t).used)∧Ex (w.alloc (.cells #[.int .i64 ru,.int .i64 rn,.int .i64 2,.int .i64 t,.int .i64 rh,.int .i64 rp] 45)) wx)
 case first=>
  (focus (refine CF fun W0 hb0 hc0 hf0 hz0=>?_;refine Aj [] (S:=fun w'=>Held W0 w') DC (fun hHeld=>?_);(repeat' (first|refine FQ [7] [] hHeld (h:=?_)|refine FW (fun K hK=>?_) ?_|refine FV ?_|exact Cf|refine FT (fun K hK=>?_) ?_|(revert hK;intro hK;go_simp;(try ((go_at_call 32;apply Calls.mono;apply (H6 (rows:=rows) (t:=t));(apply Rs.A8 Fu;(exact AO));exact HO.out;exact ht;rintro E w1 ⟨gr,dr,rfl,⟨Gr,FY,hgR,q0,q1,q2⟩,hb⟩;obtain⟨hc,hf,hz⟩:=xy hb);(try go_wp2_with fail)));refine CQ hK DC (h:=?_);clear hK K hHeld;intro hHeld)));all_goals (refine FR ?_);all_goals (obtain⟨hb,hc,hf,hz⟩:=xh (by assumption:Held W0 _))))
  all_goals go_wp2_with fail
  all_goals go_meet
  all_goals exact⟨_,rfl,Aq,Aq,Ak,Ak,Ak,AA⟩
 case rest=>
  obtain⟨gb,rfl,QQ,Zd,q0,q1,q2,hb⟩:=hcut
  obtain⟨hc,hf,hz⟩:=xy hb
  go_wp2_with fail
  (refine CF fun W0 hb0 hc0 hf0 hz0=>?_;refine wp_region_held_drew (S:=fun w'=>Held W0 w') (by kernel_rfl) ?_ (fun hHeld=>?_);(focus ((try dsimp only);(exact FU)));refine rT 0 16 (h:=?_);refine rT 1 17 (h:=?_);refine rT 2 18 (h:=?_);refine rT 3 19 (h:=?_);refine rT 4 20 (h:=?_);refine wpAnyH_ready (rs:=[5]) (by kernel_rfl) (by simp) ?_;refine AllReadyH.cons rfl (fun K hK=>?_) ?_;rotate_left;(focus exact AllReadyH.nil);go_simp;(go_at_call 78;apply Calls.mono;apply KS;(apply Rs.A8 Yc;(exact AO));rintro E w2 ⟨rfl,hb⟩;rw[← HA.out];obtain⟨hc,hf,hz⟩:=xy hb);(try go_wp2_with fail);refine hK.out _ _ ?_ (fun hHeld=>?_);(focus ((try dsimp only);(exact FU)));clear hK K;(try simp only[Act.put,DN]);refine rT 6 6 (h:=?_);refine wpAnyH_done (by kernel_rfl) ?_ _;all_goals (obtain⟨hb,hc,hf,hz⟩:=xh (by assumption:Held W0 _)))
  all_goals clear hpn HO Fu HL
  by_cases h1:(Sw.rowAt rows t).who=ru
  case neg=>
   have g1:((Sw.rowAt rows t).who==ru)=false:=by simpa using h1
   have e:Sw.offer m ⟨ru,rn,2,t,rh,rp⟩ (Sw.rowAt rows t) (Sw.BH m.AJ t)=(m,2):=by unfold Sw.offer;rw[if_pos h1]
   have He:=Lib.hid e;clear e h1 HK
   go_wp2_with fail
   go_ret
   rw[He.out]
   exact⟨_,_,_,_,_,_,_,_,_,_,_,_,_,_,_,τ,rfl,HS.out.ex AA⟩
  have g1:((Sw.rowAt rows t).who==ru)=true:=by simpa using h1
  cases h3:Sw.BH m.AJ t
  case some kd=>
   have e:Sw.offer m ⟨ru,rn,2,t,rh,rp⟩ (Sw.rowAt rows t) (Sw.BH m.AJ t)=(m,3):=by rw[h3];unfold Sw.offer;rw[if_neg (by simpa using h1),if_pos (.inl rfl)]
   have He:=Lib.hid e
   obtain rfl:ai=(kd:Int):=HA.out.trans (EI h3)
   have j0:(0:Int)≤(kd:Int):=by omega
   clear e h1 h3 HK
   go_wp2_with fail
   go_ret
   rw[He.out]
   exact⟨_,_,_,_,_,_,_,_,_,_,_,_,_,_,_,τ,rfl,HS.out.ex AA⟩
  obtain rfl:ai = -1:=HA.out.trans (EJ h3)
  cases h2:(Sw.rowAt rows t).used
  case true=>
   have e:Sw.offer m ⟨ru,rn,2,t,rh,rp⟩ (Sw.rowAt rows t) (Sw.BH m.AJ t)=(m,3):=by unfold Sw.offer;rw[if_neg (by simpa using h1),if_pos (.inr h2)]
   have He:=Lib.hid e
   rw[h2] at q2
   clear e h1 h3 h2 HK
   go_wp2_with fail
   go_ret
   rw[He.out]
   exact⟨_,_,_,_,_,_,_,_,_,_,_,_,_,_,_,τ,rfl,HS.out.ex AA⟩
  rw[h2] at q2
  by_cases h4:Sw.C9 (Sw.rowAt rows t).EY<rp
  ·have e:Sw.offer m ⟨ru,rn,2,t,rh,rp⟩ (Sw.rowAt rows t) (Sw.BH m.AJ t)=(m,4):=by rw[h3];unfold Sw.offer;rw[if_neg (by simpa using h1),if_neg (by simp[h2]),if_pos h4]
   have He:=Lib.hid e
   clear e h1 h3 h2 HK
   go_wp2_with fail
   (go_quiet ((go_at_call 119;exact Calls.AR (D7 _ _)));all_goals (generalize CE:World.drewN _ nq=W0;have hb0:=Ex.Iz CE;clear CE;obtain⟨hc0,hf0,hz0⟩:=xy hb0))
   go_wp2
   go_ret
   rw[He.out]
   exact⟨_,_,_,_,_,_,_,_,_,_,_,_,_,_,_,τ,rfl,HS.out.ex AA⟩
  have e:Sw.offer m ⟨ru,rn,2,t,rh,rp⟩ (Sw.rowAt rows t) (Sw.BH m.AJ t)=({ m with AJ:=Sw.CL ⟨t,ru,rp,0,0⟩ m.AJ },1):=by rw[h3];unfold Sw.offer;rw[if_neg (by simpa using h1),if_neg (by simp[h2]),if_neg h4]
  have He:=Lib.hid e
  have hno:=Lib.hid (Sw.MV h3)
  have hris:=Lib.hid HK.out.AJ.2
  have l3:=Lib.hid HS.out.ow.AJ.ow.1
  have og:=HK.out.Ms
  have XO:AQ≤8:=by have:=l3.out;omega
  clear e h1 h3 h2 HK og
  go_wp2_with fail
  (go_quiet ((go_at_call 119;exact Calls.AR (D7 _ _)));all_goals (generalize CE:World.drewN _ nq=W0;have hb0:=Ex.Iz CE;clear CE;obtain⟨hc0,hf0,hz0⟩:=xy hb0))
  go_upto_block 3 with fail
  go_cut [6] (fun a wx=>∃ j:Nat,a=.int .i64 j∧j≤AQ∧(∀ i x,i<j→m.AJ[i]?=some x→x.ticket<t)∧(∀ x,m.AJ[j]?=some x→(t:Int)≤x.ticket)∧Ex W0 wx)
  case first=>
   go_wp2_with fail
   go_loopw [6] (fun a wr=>∃ j:Nat,j≤AQ∧a=.int .i64 j∧Ex W0 wr∧∀ i x,i<j→m.AJ[i]?=some x→x.ticket<t) (fun a _=>AQ-(intOf a).toNat)
   case atStart=>exact⟨0,Nat.zero_le _,rfl,Ch.refl _ _,by omega⟩
   case round=>
    obtain⟨j,hj,rfl,wG,hlow⟩:=hrel
    have hst:=xr wG
    (try simp only[BO] at hst)
    obtain⟨y9,yh,hz9⟩:=hst
    have aH:=Lib.hid hlow
    clear hlow
    have j0:(0:Int)≤(j:Int):=by omega
    by_cases hlt:j<AQ
    ·obtain⟨gD,x,pI,R4,Ur,hx,d0,d1,d2,d3,d4,aW⟩:=MX HS.out.ow.AJ.ow hlt
     subst pI
     have HX:=Lib.hid hx
     clear hx d1 d2 d3 d4
     have j1:(j:Int)<(AQ:Int):=by omega
     have hwj:IntKind.i64.wrap ((j:Int)+1)=(j:Int)+1:=IntWalk.i64_in _ (by omega)
     by_cases hxt:x.ticket<(t:Int)
     ·go_wp2_with fail
      (go_quiet ((first|fail));all_goals (generalize CE:World.drewN _ nq=W0;have hb0:=Ex.Iz CE;clear CE;obtain⟨hc0,hf0,hz0⟩:=xy hb0))
      go_wp2_with fail
      go_roundw
      case rel=>
       refine⟨j+1,by omega,by go_num,AA,fun i z hi hz=>?_⟩
       rcases Nat.lt_or_ge i j with h|h
       ·exact aH.out i z h hz
       ·obtain rfl:i=j:=by omega
        have:=HX.out
        rw[this] at hz
        cases hz
        exact hxt
      case measure=>simp[intOf];omega
     ·go_wp2_with fail
      (go_quiet ((first|fail));all_goals (generalize CE:World.drewN _ nq=W0;have hb0:=Ex.Iz CE;clear CE;obtain⟨hc0,hf0,hz0⟩:=xy hb0))
      go_wp2_with fail
      go_meet
      refine⟨j,rfl,by omega,aH.out,fun z hz=>?_,AA⟩
      have:=HX.out
      rw[this] at hz
      cases hz
      omega
    ·have j1:¬(j:Int)<(AQ:Int):=by omega
     go_wp2_with fail
     (go_quiet ((first|fail));all_goals (generalize CE:World.drewN _ nq=W0;have hb0:=Ex.Iz CE;clear CE;obtain⟨hc0,hf0,hz0⟩:=xy hb0))
     go_wp2_with fail
     go_meet
     refine⟨j,rfl,by omega,aH.out,fun z hz=>?_,AA⟩
     have:=(List.getElem?_eq_some_iff.1 hz).1
     have:=l3.out
     omega
  case rest=>
   obtain⟨j,rfl,hj,hlow,hhigh,wG⟩:=hcut
   have hst:=xr wG
   (try simp only[BO] at hst)
   obtain⟨y9,yh,hz9⟩:=hst
   have aH:=Lib.hid hlow
   have qo:=Lib.hid hhigh
   clear hlow hhigh
   have iG:¬KW aD g:=fun ⟨a,ha,e⟩=>HS.out.ne (HS.out.ow.AJ.tag a ha) (by decide) e.symm
   have sK:=Lib.hid iG
   clear iG
   have hlo:=HS.out.lo_le
   have hbW:Ex w wc:=AA
   have j0:(0:Int)≤(j:Int):=by omega
   have hins:m.AJ.take j ++ (⟨t,ru,rp,0,0⟩:Sw.BC)::m.AJ.drop j=Sw.CL ⟨t,ru,rp,0,0⟩ m.AJ:=
    (M4 (by have:=l3.out;omega) aH.out (fun x hx=>by
     have h1:=qo.out x hx
     have h2:=hno.out x (List.mem_of_getElem? hx)
     show (t:Int)<x.ticket
     omega)).symm
   have HI:=Lib.hid hins
   clear hins
   go_upto_region 22 with fail
   have rc3:wc.cell? ⟨w.heap.size,3,none⟩=some (.int .i64 t):=Ak
   have yH:wc.cell? ⟨w.heap.size,0,none⟩=some (.int .i64 ru):=Ak
   have rc5:wc.cell? ⟨w.heap.size,5,none⟩=some (.int .i64 rp):=Ak
   have gc2:wc.cell? ⟨g,o+2,none⟩=some (.slice aD AQ Ac):=Ak
   have gf2:wc.frozen? ⟨g,o+2,none⟩=false:=Ak
   have hws:w.heap.size+1≤wc.heap.size:=Aq
   obtain⟨gE,mG⟩:∃ gE,(∀ a,aD=some a→a.block=gE)∧¬gE=w.heap.size:=by
    cases aD with
    | none=>exact⟨w.heap.size+1,fun a h=>(by cases h),by omega⟩
    | some a=>exact⟨a.block,fun b h=>(by cases h;rfl),by have:=(HS.out.ow.AJ.ow.blk rfl).2;omega⟩
   have zq:=Lib.hid mG.1
   have ABJ:=mG.2
   have hgw:¬g=w.heap.size:=by omega
   have HBW:=And.intro hbW trivial
   clear hbW mG k1 k2 k3 k4 k5 k6 kf q0 q1 q2 y9 yh g1 Yc
   (repeat (rename Ex _ _=>zz;clear zz))
   ((repeat (rename Ch _ _ _=>zz;clear zz));(repeat (rename Be _ _ _=>zz;clear zz));(repeat (rename (∀ (b o:Nat),¬((⟨b,0,none⟩:Addr)=⟨b-_+_,0,none⟩)→_)=>zz;clear zz)))
   have hbW:=HBW.1
   trace_state
   (refine CF fun W0 hb0 hc0 hf0 hz0=>?_)
   refine wp_region_held_drew (S:=fun w'=>Bl g gE W0 w') (by kernel_rfl) ?_ (fun hHeld=>?_)
   focus ((try dsimp only);(first|with_reducible assumption|with_reducible exact Bl.start _ _ _|(refine Bl.of ?_;with_reducible assumption)|((repeat (first|with_reducible refine Bl.set ?_ rfl|with_reducible refine Bl.alloc ?_ _|with_reducible refine Bl.drew ?_));(first|with_reducible assumption|with_reducible exact Bl.refl _ _ _|with_reducible exact Bl.start _ _ _|(refine Bl.of ?_;with_reducible assumption)))))
   refine F4 0 93 (v:=?_) rfl rfl (by kernel_rfl) (by kernel_rfl) (by kernel_rfl) (fun _ _ _ h=>h) (by rfl) ?_ (by assumption) ?_
   rotate_left
   focus (intro w hSw;(try dsimp only at hSw);go_simp;(try with_reducible rfl))
   try simp only[Act.put,List.getElem_toArray,List.getElem_cons_succ,List.getElem_cons_zero,List.setIfInBounds_toArray,List.set_cons_zero,List.set_cons_succ]
   refine F4 1 94 (v:=?_) rfl rfl (by kernel_rfl) (by kernel_rfl) (by kernel_rfl) (fun _ _ _ h=>h) (by rfl) ?_ (by assumption) ?_
   rotate_left
   focus (intro w hSw;(try dsimp only at hSw);go_simp;(try with_reducible rfl))
   try simp only[Act.put,List.getElem_toArray,List.getElem_cons_succ,List.getElem_cons_zero,List.setIfInBounds_toArray,List.set_cons_zero,List.set_cons_succ]
   refine F4 2 95 (v:=?_) rfl rfl (by kernel_rfl) (by kernel_rfl) (by kernel_rfl) (fun _ _ _ h=>h) (by rfl) ?_ (by assumption) ?_
   rotate_left
   focus (intro w hSw;(try dsimp only at hSw);go_simp;(try with_reducible rfl))
   try simp only[Act.put,List.getElem_toArray,List.getElem_cons_succ,List.getElem_cons_zero,List.setIfInBounds_toArray,List.set_cons_zero,List.set_cons_succ]
   refine F4 3 96 (v:=?_) rfl rfl (by kernel_rfl) (by kernel_rfl) (by kernel_rfl) (fun _ _ _ h=>h) (by rfl) ?_ (by assumption) ?_
   rotate_left
   focus (intro w hSw;(try dsimp only at hSw);go_simp;(try with_reducible rfl))
   try simp only[Act.put,List.getElem_toArray,List.getElem_cons_succ,List.getElem_cons_zero,List.setIfInBounds_toArray,List.set_cons_zero,List.set_cons_succ]
   refine F4 5 98 (v:=?_) rfl rfl (by kernel_rfl) (by kernel_rfl) (by kernel_rfl) (fun _ _ _ h=>h) (by rfl) ?_ (by assumption) ?_
   rotate_left
   focus (intro w hSw;(try dsimp only at hSw);go_simp;(try with_reducible rfl))
   try simp only[Act.put,List.getElem_toArray,List.getElem_cons_succ,List.getElem_cons_zero,List.setIfInBounds_toArray,List.set_cons_zero,List.set_cons_succ]
   refine F4 6 99 (v:=?_) rfl rfl (by kernel_rfl) (by kernel_rfl) (by kernel_rfl) (fun _ _ _ h=>h) (by rfl) ?_ (by assumption) ?_
   rotate_left
   focus (intro w hSw;(try dsimp only at hSw);go_simp;(try with_reducible rfl))
   try simp only[Act.put,List.getElem_toArray,List.getElem_cons_succ,List.getElem_cons_zero,List.setIfInBounds_toArray,List.set_cons_zero,List.set_cons_succ]
   refine F4 7 100 (v:=?_) rfl rfl (by kernel_rfl) (by kernel_rfl) (by kernel_rfl) (fun _ _ _ h=>h) (by rfl) ?_ (by assumption) ?_
   rotate_left
   focus (intro w hSw;(try dsimp only at hSw);go_simp;(try with_reducible rfl))
   try simp only[Act.put,List.getElem_toArray,List.getElem_cons_succ,List.getElem_cons_zero,List.setIfInBounds_toArray,List.set_cons_zero,List.set_cons_succ]
   refine F4 8 101 (v:=?_) rfl rfl (by kernel_rfl) (by kernel_rfl) (by kernel_rfl) (fun _ _ _ h=>h) (by rfl) ?_ (by assumption) ?_
   rotate_left
   focus (intro w hSw;(try dsimp only at hSw);go_simp;(try with_reducible rfl))
   try simp only[Act.put,List.getElem_toArray,List.getElem_cons_succ,List.getElem_cons_zero,List.setIfInBounds_toArray,List.set_cons_zero,List.set_cons_succ]
   refine F4 9 102 (v:=?_) rfl rfl (by kernel_rfl) (by kernel_rfl) (by kernel_rfl) (fun _ _ _ h=>h) (by rfl) ?_ (by assumption) ?_
   rotate_left
   focus (intro w hSw;(try dsimp only at hSw);go_simp;(try with_reducible rfl))
   try simp only[Act.put,List.getElem_toArray,List.getElem_cons_succ,List.getElem_cons_zero,List.setIfInBounds_toArray,List.set_cons_zero,List.set_cons_succ]
   refine F4 10 103 (v:=?_) rfl rfl (by kernel_rfl) (by kernel_rfl) (by kernel_rfl) (fun _ _ _ h=>h) (by rfl) ?_ (by assumption) ?_
   rotate_left
   focus (intro w hSw;(try dsimp only at hSw);go_simp;(try with_reducible rfl))
   try simp only[Act.put,List.getElem_toArray,List.getElem_cons_succ,List.getElem_cons_zero,List.setIfInBounds_toArray,List.set_cons_zero,List.set_cons_succ]
   refine F4 11 104 (v:=?_) rfl rfl (by kernel_rfl) (by kernel_rfl) (by kernel_rfl) (fun _ _ _ h=>h) (by rfl) ?_ (by assumption) ?_
   rotate_left
   focus (intro w hSw;(try dsimp only at hSw);go_simp;(try with_reducible rfl))
   try simp only[Act.put,List.getElem_toArray,List.getElem_cons_succ,List.getElem_cons_zero,List.setIfInBounds_toArray,List.set_cons_zero,List.set_cons_succ]
   refine F4 12 105 (v:=?_) rfl rfl (by kernel_rfl) (by kernel_rfl) (by kernel_rfl) (fun _ _ _ h=>h) (by rfl) ?_ (by assumption) ?_
   rotate_left
   focus (intro w hSw;(try dsimp only at hSw);go_simp;(try with_reducible rfl))
   try simp only[Act.put,List.getElem_toArray,List.getElem_cons_succ,List.getElem_cons_zero,List.setIfInBounds_toArray,List.set_cons_zero,List.set_cons_succ]
   refine wpAnyH_ready (rs:=[4,13]) (by kernel_rfl) (by simp) ?_
   refine AllReadyH.cons rfl (fun K hK=>?_) (AllReadyH.cons rfl (fun K hK=>?_) AllReadyH.nil)
   ·go_simp
    refine hK.out _ _ ?_ (fun hHeld=>?_)
    focus ((try dsimp only);(first|with_reducible assumption|with_reducible exact Bl.start _ _ _|(refine Bl.of ?_;with_reducible assumption)|((repeat (first|with_reducible refine Bl.set ?_ rfl|with_reducible refine Bl.alloc ?_ _|with_reducible refine Bl.drew ?_));(first|with_reducible assumption|with_reducible exact Bl.refl _ _ _|with_reducible exact Bl.start _ _ _|(refine Bl.of ?_;with_reducible assumption)))))
    clear hK K
    try simp only[Act.put,List.getElem_toArray,List.getElem_cons_succ,List.getElem_cons_zero,List.setIfInBounds_toArray,List.set_cons_zero,List.set_cons_succ]
    refine wpAnyH_ready (rs:=[13]) (by kernel_rfl) (by simp) ?_
    refine AllReadyH.cons rfl (fun K hK=>?_) ?_
    rotate_left
    focus exact AllReadyH.nil
    go_simp
    refine hK.out _ _ ?_ (fun hHeld=>?_)
    focus ((try dsimp only);(first|with_reducible assumption|with_reducible exact Bl.start _ _ _|(refine Bl.of ?_;with_reducible assumption)|((repeat (first|with_reducible refine Bl.set ?_ rfl|with_reducible refine Bl.alloc ?_ _|with_reducible refine Bl.drew ?_));(first|with_reducible assumption|with_reducible exact Bl.refl _ _ _|with_reducible exact Bl.start _ _ _|(refine Bl.of ?_;with_reducible assumption)))))
    clear hK K
    try simp only[Act.put,List.getElem_toArray,List.getElem_cons_succ,List.getElem_cons_zero,List.setIfInBounds_toArray,List.set_cons_zero,List.set_cons_succ]
    refine wpAnyH_ready (rs:=[14]) (by kernel_rfl) (by simp) ?_
    refine AllReadyH.cons rfl (fun K hK=>?_) ?_
    rotate_left
    focus exact AllReadyH.nil
    go_simp
    (go_at_call 156;apply Calls.mono;apply (SV (lo:=lo) (ds:=m.AJ) (d:=⟨t,ru,rp,0,0⟩));(exact HS.out.ow.AJ.ow.keep AO);exact hj;omega;(first|exact XI ⟨t,ru,rp,0,0⟩ rfl|exact Rs.keep (XI ⟨t,ru,rp,0,0⟩ rfl) (kD (kR _ _)));(first|exact Lb.new rfl rfl|exact Lb.drew (Lb.new rfl rfl));(exact HS.out.ow.AJ.ow.apart Aq);(exact Aq);rintro E w5 ⟨A5,c5,rfl,Ki,TJ,jg⟩;have hbE:=Bl.app hHeld TJ zq.out;have hk1:=(TJ.cell (p:=⟨g,o+2,none⟩) Aq sK.out);have hk2:=(TJ.frozen (p:=⟨g,o+2,none⟩) Aq sK.out))
    (try go_wp2_with fail)
    refine hK.out _ _ ?_ (fun hHeld=>?_)
    focus ((try dsimp only);(first|with_reducible assumption|with_reducible exact Bl.start _ _ _|(refine Bl.of ?_;with_reducible assumption)|((repeat (first|with_reducible refine Bl.set ?_ rfl|with_reducible refine Bl.alloc ?_ _|with_reducible refine Bl.drew ?_));(first|with_reducible assumption|with_reducible exact Bl.refl _ _ _|with_reducible exact Bl.start _ _ _|(refine Bl.of ?_;with_reducible assumption)))))
    clear hK K
    try simp only[Act.put,List.getElem_toArray,List.getElem_cons_succ,List.getElem_cons_zero,List.setIfInBounds_toArray,List.set_cons_zero,List.set_cons_succ]
    refine F4 15 108 (v:=?_) rfl rfl (by kernel_rfl) (by kernel_rfl) (by kernel_rfl) (fun _ _ _ h=>h) (by rfl) ?_ (by assumption) ?_
    rotate_left
    focus (intro w hSw;(try dsimp only at hSw);go_simp;(try with_reducible rfl))
    try simp only[Act.put,List.getElem_toArray,List.getElem_cons_succ,List.getElem_cons_zero,List.setIfInBounds_toArray,List.set_cons_zero,List.set_cons_succ]
    refine F4 16 109 (v:=?_) rfl rfl (by kernel_rfl) (by kernel_rfl) (by kernel_rfl) (fun _ _ _ h=>h) (by rfl) ?_ (by assumption) ?_
    rotate_left
    focus (intro w hSw;(try dsimp only at hSw);go_simp;(try with_reducible rfl))
    try simp only[Act.put,List.getElem_toArray,List.getElem_cons_succ,List.getElem_cons_zero,List.setIfInBounds_toArray,List.set_cons_zero,List.set_cons_succ]
    refine wpAnyH_ready (rs:=[17]) (by kernel_rfl) (by simp) ?_
    refine AllReadyH.cons rfl (fun K hK=>?_) ?_
    rotate_left
    focus exact AllReadyH.nil
    go_simp
    refine hK.out _ _ ?_ (fun hHeld=>?_)
    focus ((try dsimp only);(first|with_reducible assumption|with_reducible exact Bl.start _ _ _|(refine Bl.of ?_;with_reducible assumption)|((repeat (first|with_reducible refine Bl.set ?_ rfl|with_reducible refine Bl.alloc ?_ _|with_reducible refine Bl.drew ?_));(first|with_reducible assumption|with_reducible exact Bl.refl _ _ _|with_reducible exact Bl.start _ _ _|(refine Bl.of ?_;with_reducible assumption)))))
    clear hK K
    try simp only[Act.put,List.getElem_toArray,List.getElem_cons_succ,List.getElem_cons_zero,List.setIfInBounds_toArray,List.set_cons_zero,List.set_cons_succ]
    refine wpAnyH_done (by kernel_rfl) ?_ _
    rw[HI.out] at Ki
    clear hk1 hk2
    go_wp2
    go_ret
    rw[He.out]
    exact⟨_,_,_,_,_,_,_,_,_,_,_,_,_,_,_,_,rfl,MS.AJ (HS.out.ex AA) Ki TJ jg⟩
   ·go_simp
    refine hK.out _ _ ?_ (fun hHeld=>?_)
    focus ((try dsimp only);(first|with_reducible assumption|with_reducible exact Bl.start _ _ _|(refine Bl.of ?_;with_reducible assumption)|((repeat (first|with_reducible refine Bl.set ?_ rfl|with_reducible refine Bl.alloc ?_ _|with_reducible refine Bl.drew ?_));(first|with_reducible assumption|with_reducible exact Bl.refl _ _ _|with_reducible exact Bl.start _ _ _|(refine Bl.of ?_;with_reducible assumption)))))
    clear hK K
    try simp only[Act.put,List.getElem_toArray,List.getElem_cons_succ,List.getElem_cons_zero,List.setIfInBounds_toArray,List.set_cons_zero,List.set_cons_succ]
    refine wpAnyH_ready (rs:=[4]) (by kernel_rfl) (by simp) ?_
    refine AllReadyH.cons rfl (fun K hK=>?_) ?_
    rotate_left
    focus exact AllReadyH.nil
    go_simp
    refine hK.out _ _ ?_ (fun hHeld=>?_)
    focus ((try dsimp only);(first|with_reducible assumption|with_reducible exact Bl.start _ _ _|(refine Bl.of ?_;with_reducible assumption)|((repeat (first|with_reducible refine Bl.set ?_ rfl|with_reducible refine Bl.alloc ?_ _|with_reducible refine Bl.drew ?_));(first|with_reducible assumption|with_reducible exact Bl.refl _ _ _|with_reducible exact Bl.start _ _ _|(refine Bl.of ?_;with_reducible assumption)))))
    clear hK K
    try simp only[Act.put,List.getElem_toArray,List.getElem_cons_succ,List.getElem_cons_zero,List.setIfInBounds_toArray,List.set_cons_zero,List.set_cons_succ]
    refine wpAnyH_ready (rs:=[14]) (by kernel_rfl) (by simp) ?_
    refine AllReadyH.cons rfl (fun K hK=>?_) ?_
    rotate_left
    focus exact AllReadyH.nil
    go_simp
    (go_at_call 156;apply Calls.mono;apply (SV (lo:=lo) (ds:=m.AJ) (d:=⟨t,ru,rp,0,0⟩));(exact HS.out.ow.AJ.ow.keep AO);exact hj;omega;(first|exact XI ⟨t,ru,rp,0,0⟩ rfl|exact Rs.keep (XI ⟨t,ru,rp,0,0⟩ rfl) (kD (kR _ _)));(first|exact Lb.new rfl rfl|exact Lb.drew (Lb.new rfl rfl));(exact HS.out.ow.AJ.ow.apart Aq);(exact Aq);rintro E w5 ⟨A5,c5,rfl,Ki,TJ,jg⟩;have hbE:=Bl.app hHeld TJ zq.out;have hk1:=(TJ.cell (p:=⟨g,o+2,none⟩) Aq sK.out);have hk2:=(TJ.frozen (p:=⟨g,o+2,none⟩) Aq sK.out))
    (try go_wp2_with fail)
    refine hK.out _ _ ?_ (fun hHeld=>?_)
    focus ((try dsimp only);(first|with_reducible assumption|with_reducible exact Bl.start _ _ _|(refine Bl.of ?_;with_reducible assumption)|((repeat (first|with_reducible refine Bl.set ?_ rfl|with_reducible refine Bl.alloc ?_ _|with_reducible refine Bl.drew ?_));(first|with_reducible assumption|with_reducible exact Bl.refl _ _ _|with_reducible exact Bl.start _ _ _|(refine Bl.of ?_;with_reducible assumption)))))
    clear hK K
    try simp only[Act.put,List.getElem_toArray,List.getElem_cons_succ,List.getElem_cons_zero,List.setIfInBounds_toArray,List.set_cons_zero,List.set_cons_succ]
    refine F4 15 108 (v:=?_) rfl rfl (by kernel_rfl) (by kernel_rfl) (by kernel_rfl) (fun _ _ _ h=>h) (by rfl) ?_ (by assumption) ?_
    rotate_left
    focus (intro w hSw;(try dsimp only at hSw);go_simp;(try with_reducible rfl))
    try simp only[Act.put,List.getElem_toArray,List.getElem_cons_succ,List.getElem_cons_zero,List.setIfInBounds_toArray,List.set_cons_zero,List.set_cons_succ]
    refine F4 16 109 (v:=?_) rfl rfl (by kernel_rfl) (by kernel_rfl) (by kernel_rfl) (fun _ _ _ h=>h) (by rfl) ?_ (by assumption) ?_
    rotate_left
    focus (intro w hSw;(try dsimp only at hSw);go_simp;(try with_reducible rfl))
    try simp only[Act.put,List.getElem_toArray,List.getElem_cons_succ,List.getElem_cons_zero,List.setIfInBounds_toArray,List.set_cons_zero,List.set_cons_succ]
    refine wpAnyH_ready (rs:=[17]) (by kernel_rfl) (by simp) ?_
    refine AllReadyH.cons rfl (fun K hK=>?_) ?_
    rotate_left
    focus exact AllReadyH.nil
    go_simp
    refine hK.out _ _ ?_ (fun hHeld=>?_)
    focus ((try dsimp only);(first|with_reducible assumption|with_reducible exact Bl.start _ _ _|(refine Bl.of ?_;with_reducible assumption)|((repeat (first|with_reducible refine Bl.set ?_ rfl|with_reducible refine Bl.alloc ?_ _|with_reducible refine Bl.drew ?_));(first|with_reducible assumption|with_reducible exact Bl.refl _ _ _|with_reducible exact Bl.start _ _ _|(refine Bl.of ?_;with_reducible assumption)))))
    clear hK K
    try simp only[Act.put,List.getElem_toArray,List.getElem_cons_succ,List.getElem_cons_zero,List.setIfInBounds_toArray,List.set_cons_zero,List.set_cons_succ]
    refine wpAnyH_done (by kernel_rfl) ?_ _
    rw[HI.out] at Ki
    clear hk1 hk2
    go_wp2
    go_ret
    rw[He.out]
    exact⟨_,_,_,_,_,_,_,_,_,_,_,_,_,_,_,_,rfl,MS.AJ (HS.out.ex AA) Ki TJ jg⟩
end
end Go.Proofs.YtgaflnpmilikcaaGreat
