/- Texts joined: DoE, DoF, PtrC. -/
import Derived.Test.YtgaflnpmilikcaaGreatPx5
import Derived.Test.YtgaflnpmilikcaaGreatPx23
import Derived.Test.YtgaflnpmilikcaaGreatPx21
import Derived.Test.YtgaflnpmilikcaaGreatPx22
set_option maxRecDepth 100000
set_option linter.unusedSimpArgs false
set_option linter.unusedVariables false
namespace Go.Proofs.YtgaflnpmilikcaaGreat
open Go.RowKit Go
set_option maxHeartbeats 2000000
theorem Yo (aL:Option Addr) (Ae AU:Nat) (aP:Option Addr) (Ag AY:Nat) (aD:Option Addr) (Ac AQ:Nat) (aN:Option Addr) (Ad Aa:Nat) (aS:Option Addr) (Af Ab:Nat) (m:Sw.CV) (ru rn:Int) (t:Nat) (rh rp:Int) (rows:List Sw.Row) (lo:Nat) (τ:Nat→Nat) (w:World) (hM:Cn τ w lo aL Ae AU aP Ag AY aD Ac AQ aN Ad Aa aS Af Ab m) (hok:Sw.IL m rows) (ht:t<8) (hlo:lo≤w.heap.size):Calls Tryz.prog 201 #[.agg #[.slice aL AU Ae,.slice aP AY Ag,.slice aD AQ Ac,.int .i64 m.clock,.slice aN Aa Ad,.slice aS Ab Af],.agg #[.int .i64 ru,.int .i64 rn,.int .i64 2,.int .i64 t,.int .i64 rh,.int .i64 rp]] w fun E w'=>Jq lo τ w w' E (Sw.offer m ⟨ru,rn,2,t,rh,rp⟩ (Sw.rowAt rows t) (Sw.BH m.AJ t)):=by
 have K5:=hM.log
 have Mr:=hM.AJ
 have og:m.AJ.length≤8:=hok.Ms
 have l3:=hM.AJ.ow.1
 have HO:=Lib.hid hok.fold
 have i0:(0:Int)≤(t:Int):=by omega
 have i1:(t:Int)<8:=by omega
 clear hok
 have hcap:=Lib.hid (show True from trivial)
 by_cases h1:(Sw.rowAt rows t).who=ru
 case neg=>
  have g1:((Sw.rowAt rows t).who != ru)=true:=by simpa using h1
  have e:Sw.offer m ⟨ru,rn,2,t,rh,rp⟩ (Sw.rowAt rows t) (Sw.BH m.AJ t)=(m,2):=by unfold Sw.offer;rw[if_pos h1]
  rw[e]
  clear e h1 l3
  go_enter Tryz.func201,Tryz.ntmps201
  go_wp2_with fail
  (focus (refine CF fun W0 hb0 hc0 hf0 hz0=>?_;refine Aj [] (S:=fun w'=>Held W0 w') DC (fun hHeld=>?_);(repeat' (first|refine FQ [5] [] hHeld (h:=?_)|refine FW (fun K hK=>?_) ?_|refine FV ?_|exact Cf|refine FT (fun K hK=>?_) ?_|(revert hK;intro hK;go_simp;(try ((go_at_call 121;apply Calls.mono;apply (Ca (rows:=rows) (t:=t));(apply CK.Es K5;(exact AO));exact HO.out;exact ht;rintro E w1 ⟨gr,dr,rfl,⟨Gr,FY,hgR,q0,q1,q2⟩,hb⟩;obtain⟨hc,hf,hz⟩:=xy hb);(try go_wp2_with fail)));refine CQ hK DC (h:=?_);clear hK K hHeld;intro hHeld)));all_goals (refine FR ?_);all_goals (obtain⟨hb,hc,hf,hz⟩:=xh (by assumption:Held W0 _))))
  all_goals go_wp2_with (go_at_call 210;apply Calls.mono;apply Cx;(exact Bt);rintro E w' ⟨rfl,rfl⟩)
  all_goals (refine bodyPost_ret (v:=.tuple #[.agg #[.slice aL AU Ae,.slice aP AY Ag,.slice aD AQ Ac,.int .i64 m.clock,.slice aN Aa Ad,.slice aS Ab Af],.int .i64 2]) (by simp[results,Tryz.results201,go_sem, *]) rfl ?_;exact⟨_,_,_,_,_,_,_,_,_,_,_,_,_,_,_,τ,rfl,hM.Av AO,fun _ _=>rfl,AA⟩)
 have g1:((Sw.rowAt rows t).who != ru)=false:=by simpa using h1
 cases h3:Sw.BH m.AJ t
 case some kd=>
  have e:Sw.offer m ⟨ru,rn,2,t,rh,rp⟩ (Sw.rowAt rows t) (some kd)=(m,3):=by unfold Sw.offer;rw[if_neg (by simpa using h1),if_pos (.inl rfl)]
  rw[e]
  have HD:=Lib.hid (EI h3)
  have k0:(0:Int)≤(kd:Int):=by omega
  clear e h1 l3 h3
  go_enter Tryz.func201,Tryz.ntmps201
  go_wp2_with fail
  (focus (refine CF fun W0 hb0 hc0 hf0 hz0=>?_;refine Aj [] (S:=fun w'=>Held W0 w') DC (fun hHeld=>?_);(repeat' (first|refine FQ [5] [] hHeld (h:=?_)|refine FW (fun K hK=>?_) ?_|refine FV ?_|exact Cf|refine FT (fun K hK=>?_) ?_|(revert hK;intro hK;go_simp;(try ((go_at_call 121;apply Calls.mono;apply (Ca (rows:=rows) (t:=t));(apply CK.Es K5;(exact AO));exact HO.out;exact ht;rintro E w1 ⟨gr,dr,rfl,⟨Gr,FY,hgR,q0,q1,q2⟩,hb⟩;obtain⟨hc,hf,hz⟩:=xy hb);(try go_wp2_with fail)));refine CQ hK DC (h:=?_);clear hK K hHeld;intro hHeld)));all_goals (refine FR ?_);all_goals (obtain⟨hb,hc,hf,hz⟩:=xh (by assumption:Held W0 _))))
  all_goals go_wp2_with (go_at_call 210;apply Calls.mono;apply Cx;(apply CK.Es Mr;(exact AO));rintro E w' ⟨rfl,rfl⟩;rw[HD.out])
  all_goals (refine bodyPost_ret (v:=.tuple #[.agg #[.slice aL AU Ae,.slice aP AY Ag,.slice aD AQ Ac,.int .i64 m.clock,.slice aN Aa Ad,.slice aS Ab Af],.int .i64 3]) (by simp[results,Tryz.results201,go_sem, *]) rfl ?_;exact⟨_,_,_,_,_,_,_,_,_,_,_,_,_,_,_,τ,rfl,hM.Av AO,fun _ _=>rfl,AA⟩)
 have HD:=Lib.hid (EJ h3)
 cases h2:(Sw.rowAt rows t).used
 case true=>
  have e:Sw.offer m ⟨ru,rn,2,t,rh,rp⟩ (Sw.rowAt rows t) none=(m,3):=by unfold Sw.offer;rw[if_neg (by simpa using h1),if_pos (.inr h2)]
  rw[e]
  have H2:=Lib.hid h2
  clear e h1 l3 h3 h2
  go_enter Tryz.func201,Tryz.ntmps201
  go_wp2_with fail
  (focus (refine CF fun W0 hb0 hc0 hf0 hz0=>?_;refine Aj [] (S:=fun w'=>Held W0 w') DC (fun hHeld=>?_);(repeat' (first|refine FQ [5] [] hHeld (h:=?_)|refine FW (fun K hK=>?_) ?_|refine FV ?_|exact Cf|refine FT (fun K hK=>?_) ?_|(revert hK;intro hK;go_simp;(try ((go_at_call 121;apply Calls.mono;apply (Ca (rows:=rows) (t:=t));(apply CK.Es K5;(exact AO));exact HO.out;exact ht;rintro E w1 ⟨gr,dr,rfl,⟨Gr,FY,hgR,q0,q1,q2⟩,hb⟩;rw[H2.out] at q2;obtain⟨hc,hf,hz⟩:=xy hb);(try go_wp2_with fail)));refine CQ hK DC (h:=?_);clear hK K hHeld;intro hHeld)));all_goals (refine FR ?_);all_goals (obtain⟨hb,hc,hf,hz⟩:=xh (by assumption:Held W0 _))))
  all_goals go_wp2_with (go_at_call 210;apply Calls.mono;apply Cx;(apply CK.Es Mr;(exact AO));rintro E w' ⟨rfl,rfl⟩;rw[HD.out])
  all_goals (refine bodyPost_ret (v:=.tuple #[.agg #[.slice aL AU Ae,.slice aP AY Ag,.slice aD AQ Ac,.int .i64 m.clock,.slice aN Aa Ad,.slice aS Ab Af],.int .i64 3]) (by simp[results,Tryz.results201,go_sem, *]) rfl ?_;exact⟨_,_,_,_,_,_,_,_,_,_,_,_,_,_,_,τ,rfl,hM.Av AO,fun _ _=>rfl,AA⟩)
 have H2:=Lib.hid h2
 by_cases h4:Sw.C9 (Sw.rowAt rows t).EY<rp
 ·have e:Sw.offer m ⟨ru,rn,2,t,rh,rp⟩ (Sw.rowAt rows t) none=(m,4):=by unfold Sw.offer;rw[if_neg (by simpa using h1),if_neg (by simp[h2]),if_pos h4]
  rw[e]
  clear e h1 l3 h3 h2
  go_enter Tryz.func201,Tryz.ntmps201
  go_wp2_with fail
  (focus (refine CF fun W0 hb0 hc0 hf0 hz0=>?_;refine Aj [] (S:=fun w'=>Held W0 w') DC (fun hHeld=>?_);(repeat' (first|refine FQ [5] [] hHeld (h:=?_)|refine FW (fun K hK=>?_) ?_|refine FV ?_|exact Cf|refine FT (fun K hK=>?_) ?_|(revert hK;intro hK;go_simp;(try ((go_at_call 121;apply Calls.mono;apply (Ca (rows:=rows) (t:=t));(apply CK.Es K5;(exact AO));exact HO.out;exact ht;rintro E w1 ⟨gr,dr,rfl,⟨Gr,FY,hgR,q0,q1,q2⟩,hb⟩;rw[H2.out] at q2;obtain⟨hc,hf,hz⟩:=xy hb);(try go_wp2_with fail)));refine CQ hK DC (h:=?_);clear hK K hHeld;intro hHeld)));all_goals (refine FR ?_);all_goals (obtain⟨hb,hc,hf,hz⟩:=xh (by assumption:Held W0 _))))
  all_goals go_wp2_with (go_at_call 210;apply Calls.mono;apply Cx;(apply CK.Es Mr;(exact AO));rintro E w' ⟨rfl,rfl⟩;rw[HD.out])
  all_goals (go_quiet ((go_at_call 106;exact Calls.AR (Bw _ _)));all_goals (generalize CE:World.drewN _ nq=W0;have hb0:=Ex.Iz CE;clear CE;obtain⟨hc0,hf0,hz0⟩:=xy hb0))
  all_goals go_wp2
  all_goals (refine bodyPost_ret (v:=.tuple #[.agg #[.slice aL AU Ae,.slice aP AY Ag,.slice aD AQ Ac,.int .i64 m.clock,.slice aN Aa Ad,.slice aS Ab Af],.int .i64 4]) (by simp[results,Tryz.results201,go_sem, *]) rfl ?_;exact⟨_,_,_,_,_,_,_,_,_,_,_,_,_,_,_,τ,rfl,hM.Av AO,fun _ _=>rfl,AA⟩)
 ·have e:Sw.offer m ⟨ru,rn,2,t,rh,rp⟩ (Sw.rowAt rows t) none=({ m with AJ:=Sw.CL ⟨t,ru,rp,0,0⟩ m.AJ },1):=by unfold Sw.offer;rw[if_neg (by simpa using h1),if_neg (by simp[h2]),if_neg h4]
  rw[e]
  have XO:AQ≤4194304:=by omega
  clear e h1 l3 h3 h2
  go_enter Tryz.func201,Tryz.ntmps201
  go_wp2_with fail
  (focus (refine CF fun W0 hb0 hc0 hf0 hz0=>?_;refine Aj [] (S:=fun w'=>Held W0 w') DC (fun hHeld=>?_);(repeat' (first|refine FQ [5] [] hHeld (h:=?_)|refine FW (fun K hK=>?_) ?_|refine FV ?_|exact Cf|refine FT (fun K hK=>?_) ?_|(revert hK;intro hK;go_simp;(try ((go_at_call 121;apply Calls.mono;apply (Ca (rows:=rows) (t:=t));(apply CK.Es K5;(exact AO));exact HO.out;exact ht;rintro E w1 ⟨gr,dr,rfl,⟨Gr,FY,hgR,q0,q1,q2⟩,hb⟩;rw[H2.out] at q2;obtain⟨hc,hf,hz⟩:=xy hb);(try go_wp2_with fail)));refine CQ hK DC (h:=?_);clear hK K hHeld;intro hHeld)));all_goals (refine FR ?_);all_goals (obtain⟨hb,hc,hf,hz⟩:=xh (by assumption:Held W0 _))))
  all_goals go_wp2_with (go_at_call 210;apply Calls.mono;apply Cx;(apply CK.Es Mr;(exact AO));rintro E w' ⟨rfl,rfl⟩;rw[HD.out])
  all_goals (go_quiet ((go_at_call 106;exact Calls.AR (Bw _ _)));all_goals (generalize CE:World.drewN _ nq=W0;have hb0:=Ex.Iz CE;clear CE;obtain⟨hc0,hf0,hz0⟩:=xy hb0))
  all_goals go_wp2_with (go_at_call 227;apply Calls.mono;apply (iy (d:=⟨t,ru,rp,0,0⟩));(apply CK.Es Mr;(exact AO));omega;rintro E w3 ⟨A3,c3,rfl,ho3,hb3⟩;obtain⟨hc3,hf3,hz3⟩:=xy hb3)
  all_goals (refine bodyPost_ret (v:=.tuple #[.agg #[.slice aL AU Ae,.slice aP AY Ag,.slice A3 (AQ+1) c3,.int .i64 m.clock,.slice aN Aa Ad,.slice aS Ab Af],.int .i64 1]) (by simp[results,Tryz.results201,go_sem, *]) rfl ?_;(have m1:=Cn.dealt ((hM.CX (τ':=fun _=>0) (Nat.le_refl _)).Av AO) ho3 (Nat.le_refl _) Aq (kE hb3 (kR _ _)));exact⟨_,_,_,_,_,_,_,_,_,_,_,_,_,_,_,_,rfl,m1.box (g0:=w.heap.size) (g1:=w.heap.size+3) KA (Lj Qh Aq),fun b hb=>(if_pos Aq).trans (if_pos hb),AA⟩)
set_option maxHeartbeats 2000000
theorem Cn.atD {aL aP aD aN aS:Option Addr} {Ae AU Ag AY Ac AQ Ad Aa Af Ab:Nat} {m:Sw.CV} {τ:Nat→Nat} {w:World} {lo:Nat} (h:Cn τ w lo aL Ae AU aP Ag AY aD Ac AQ aN Ad Aa aS Af Ab m) {g:Nat} (hg:aD=some ⟨g,0,none⟩):SM lo τ g:=
 ⟨(h.AJ.ow.blk hg).1,by have:=h.AJ.tag _ hg;rw[show τ g=3 from this];decide,by have:=h.AJ.tag _ hg;rw[show τ g=3 from this];decide⟩
theorem Cn.TQ {aL aP aN aS:Option Addr} {Ae AU Ag AY Ac AQ Ad Aa Af Ab:Nat} {m:Sw.CV} {τ:Nat→Nat} {w:World} {lo:Nat} {gD k:Nat} {y:Sw.BC} (h:Cn τ w lo aL Ae AU aP Ag AY (some ⟨gD,0,none⟩) Ac AQ aN Ad Aa aS Af Ab m) (hx:m.AJ[k]?=some y) (b d:Int) :
  Cn τ ((w.setCell ⟨gD,k*5+3,none⟩ (.int .i64 b)).setCell ⟨gD,k*5+4,none⟩ (.int .i64 d)) lo aL Ae AU aP Ag AY (some ⟨gD,0,none⟩) Ac AQ aN Ad Aa aS Af Ab { m with AJ:=m.AJ.set k { y with BN:=b,due:=d } }:=by
 have tD:τ gD=3:=h.AJ.tag _ rfl
 have K:∀ t,t≠3→KT τ t lo w ((w.setCell ⟨gD,k*5+3,none⟩ (.int .i64 b)).setCell ⟨gD,k*5+4,none⟩ (.int .i64 d)):=fun t ht=>
  ((KT.refl _ _ _ _).setCell (.inr (by show τ gD≠t;rw[tD];exact Ne.symm ht))).setCell (.inr (by show τ gD≠t;rw[tD];exact Ne.symm ht))
 refine⟨h.log.keep (K 1 (by decide)),h.Ai.keep (K 2 (by decide)),⟨?_,h.AJ.tag⟩,h.nums.keep (K 4 (by decide)),h.said.keep (K 5 (by decide))⟩
 have h2:=Xb (TV h.AJ.ow rfl hx b) rfl (XC hx) d
 rw[List.set_set] at h2
 exact h2
theorem bq (aL:Option Addr) (Ae AU:Nat) (aP:Option Addr) (Ag AY:Nat) (aD:Option Addr) (Ac AQ:Nat) (aN:Option Addr) (Ad Aa:Nat) (aS:Option Addr) (Af Ab:Nat) (m:Sw.CV) (ru rn rk:Int) (t:Nat) (rh rp:Int) (rows:List Sw.Row) (lo:Nat) (τ:Nat→Nat) (w:World) (hM:Cn τ w lo aL Ae AU aP Ag AY aD Ac AQ aN Ad Aa aS Af Ab m) (hok:Sw.IL m rows) (ht:t<8) (hu1:1≤ru) (aT:ru≤5) (hlo:lo≤w.heap.size):Calls Tryz.prog 202 #[.agg #[.slice aL AU Ae,.slice aP AY Ag,.slice aD AQ Ac,.int .i64 m.clock,.slice aN Aa Ad,.slice aS Ab Af],.agg #[.int .i64 ru,.int .i64 rn,.int .i64 rk,.int .i64 t,.int .i64 rh,.int .i64 rp]] w fun E w'=>Jq lo τ w w' E (Sw.Gf m ⟨ru,rn,rk,t,rh,rp⟩ (Sw.BH m.AJ t)):=by
 have Mr:=hM.AJ
 have zK:=hM.Ai
 have og:m.AJ.length≤8:=hok.Ms
 have l3:=hM.AJ.ow.1
 have aU:AY≤4194304:=by have:=hM.Ai.ow.1;have:=(Sw.Ci.1 hok.Rp).1;omega
 have hck:=hok.Qa
 obtain⟨eu,eZ⟩:=hck
 have i0:(0:Int)≤(t:Int):=by omega
 have i1:(t:Int)<8:=by omega
 cases h3:Sw.BH m.AJ t
 case none=>
  have e:Sw.Gf m ⟨ru,rn,rk,t,rh,rp⟩ none=(m,3):=rfl
  rw[e]
  have HD:=Lib.hid (EJ h3)
  clear e l3 h3 hok
  go_enter Tryz.func202,Tryz.ntmps202
  go_wp2_with (go_at_call 210;apply Calls.mono;apply Cx;(apply CK.Es Mr;(exact AO));rintro E w' ⟨rfl,rfl⟩;rw[HD.out])
  refine bodyPost_ret (v:=.tuple #[.agg #[.slice aL AU Ae,.slice aP AY Ag,.slice aD AQ Ac,.int .i64 m.clock,.slice aN Aa Ad,.slice aS Ab Af],.int .i64 3]) (by simp[results,Tryz.results202,go_sem, *]) rfl ?_
  exact⟨_,_,_,_,_,_,_,_,_,_,_,_,_,_,_,τ,rfl,hM.Av AO,fun _ _=>rfl,AA⟩
 rename_i kd
 obtain⟨d,hd,hdt⟩:=Sw.Dc h3
 have hk:kd<AQ:=by have:=(List.getElem?_eq_some_iff.1 hd).1;omega
 have HD:=Lib.hid (EI h3)
 have hgd:=Sw.CP (z:=Sw.EE) hd
 obtain⟨gD,y,rfl,R4,Ur,hy,d0,d1,d2,d3,d4,aW⟩:=MX hM.AJ.ow hk
 obtain rfl:y=d:=Option.some.inj (hy.symm.trans hd)
 have hpr:=(Sw.CZ.1 (hok.AJ.get hd)).2.2.2.2.1
 have hcl:=Sw.K9 (Sw.rowAt rows y.ticket).EY
 have p0:1≤y.Al:=by omega
 have p1:y.Al≤60:=by omega
 clear hpr hcl hok
 have k0:(0:Int)≤(kd:Int):=by omega
 have k1:(kd:Int)<(AQ:Int):=by omega
 have k2:¬(kd:Int)<0:=by omega
 by_cases h4:0<y.BN
 ·have e:Sw.Gf m ⟨ru,rn,rk,t,rh,rp⟩ (some kd)=(m,3):=by unfold Sw.Gf;dsimp only;rw[hgd,if_pos (by simp[Sw.held,h4])]
  rw[e]
  clear e l3 h3 hd hdt hy hgd
  go_enter Tryz.func202,Tryz.ntmps202
  go_wp2_with (go_at_call 210;apply Calls.mono;apply Cx;(apply CK.Es Mr;(exact AO));rintro E w' ⟨rfl,rfl⟩;rw[HD.out])
  refine bodyPost_ret (v:=.tuple #[.agg #[.slice aL AU Ae,.slice aP AY Ag,.slice (some ⟨gD,0,none⟩) AQ Ac,.int .i64 m.clock,.slice aN Aa Ad,.slice aS Ab Af],.int .i64 3]) (by simp[results,Tryz.results202,go_sem, *]) rfl ?_
  exact⟨_,_,_,_,_,_,_,_,_,_,_,_,_,_,_,τ,rfl,hM.Av AO,fun _ _=>rfl,AA⟩
 have hh:¬Sw.held y=true:=by simp[Sw.held];omega
 by_cases h5:y.BP=ru
 ·have g5:(y.BP==ru)=true:=by simpa using h5
  have e:Sw.Gf m ⟨ru,rn,rk,t,rh,rp⟩ (some kd)=(m,2):=by unfold Sw.Gf;dsimp only;rw[hgd,if_neg hh,if_pos h5]
  rw[e]
  clear e l3 h3 hd hdt hy hgd h5 hh
  go_enter Tryz.func202,Tryz.ntmps202
  go_wp2_with (go_at_call 210;apply Calls.mono;apply Cx;(apply CK.Es Mr;(exact AO));rintro E w' ⟨rfl,rfl⟩;rw[HD.out])
  (go_quiet ((first|fail));all_goals (generalize CE:World.drewN _ nq=W0;have hb0:=Ex.Iz CE;clear CE;obtain⟨hc0,hf0,hz0⟩:=xy hb0))
  go_wp2
  refine bodyPost_ret (v:=.tuple #[.agg #[.slice aL AU Ae,.slice aP AY Ag,.slice (some ⟨gD,0,none⟩) AQ Ac,.int .i64 m.clock,.slice aN Aa Ad,.slice aS Ab Af],.int .i64 2]) (by simp[results,Tryz.results202,go_sem, *]) rfl ?_
  exact⟨_,_,_,_,_,_,_,_,_,_,_,_,_,_,_,τ,rfl,hM.Av AO,fun _ _=>rfl,AA⟩
 have g5:(y.BP==ru)=false:=by simpa using h5
 have hwr:IntKind.i64.wrap (-y.Al) = -y.Al:=IntWalk.i64_in _ (by omega)
 cases h6:Sw.Bz m.Ai ru (-y.Al)
 case false=>
  have e:Sw.Gf m ⟨ru,rn,rk,t,rh,rp⟩ (some kd)=(m,5):=by unfold Sw.Gf;dsimp only;rw[hgd,if_neg hh,if_neg h5,if_neg (by simp[h6])]
  rw[e]
  clear e l3 h3 hd hdt hy hgd h5 hh
  go_enter Tryz.func202,Tryz.ntmps202
  go_wp2_with (go_at_call 210;apply Calls.mono;apply Cx;(apply CK.Es Mr;(exact AO));rintro E w' ⟨rfl,rfl⟩;rw[HD.out])
  (go_quiet ((first|fail));all_goals (generalize CE:World.drewN _ nq=W0;have hb0:=Ex.Iz CE;clear CE;obtain⟨hc0,hf0,hz0⟩:=xy hb0))
  go_wp2
  (refine CF fun W0 hb0 hc0 hf0 hz0=>?_;go_region_held3 (fun w'=>Held W0 w') ((exact FU)) (((go_at_call 175;apply Calls.mono;apply F3;(exact Bt);(exact Bu);rintro E w1 ⟨A',c',rfl,LK,hb⟩;obtain⟨hc,hf,hz⟩:=xy hb)));all_goals (obtain⟨hb,hc,hf,hz⟩:=xh (by assumption:Held W0 _)))
  all_goals go_wp2
  refine bodyPost_ret (v:=.tuple #[.agg #[.slice aL AU Ae,.slice aP AY Ag,.slice (some ⟨gD,0,none⟩) AQ Ac,.int .i64 m.clock,.slice aN Aa Ad,.slice aS Ab Af],.int .i64 5]) (by simp[results,Tryz.results202,go_sem, *]) rfl ?_
  exact⟨_,_,_,_,_,_,_,_,_,_,_,_,_,_,_,τ,rfl,hM.Av AO,fun _ _=>rfl,AA⟩
 have e:Sw.Gf m ⟨ru,rn,rk,t,rh,rp⟩ (some kd)=({ m with Ai:=Sw.turned m.Ai ru (-y.Al),AJ:=m.AJ.set kd { y with BN:=ru,due:=m.clock+5 } },1):=by unfold Sw.Gf;dsimp only;rw[hgd,if_neg hh,if_neg h5,if_pos h6]
 rw[e]
 have HP:=Lib.hid (show Sw.Dy m.Ai ru (-y.Al)=Sw.turned m.Ai ru (-y.Al) from by unfold Sw.Dy;rw[if_pos h6])
 have HY:=Lib.hid hy
 clear e l3 h3 hd hdt hy hgd h5 hh
 go_enter Tryz.func202,Tryz.ntmps202
 go_wp2_with (go_at_call 210;apply Calls.mono;apply Cx;(apply CK.Es Mr;(exact AO));rintro E w' ⟨rfl,rfl⟩;rw[HD.out])
 (go_quiet ((first|fail));all_goals (generalize CE:World.drewN _ nq=W0;have hb0:=Ex.Iz CE;clear CE;obtain⟨hc0,hf0,hz0⟩:=xy hb0))
 go_wp2
 (refine CF fun W0 hb0 hc0 hf0 hz0=>?_;go_region_held3 (fun w'=>Held W0 w') ((exact FU)) (((go_at_call 175;apply Calls.mono;apply F3;(exact Bt);(exact Bu);rintro E w1 ⟨A',c',rfl,LK,hb⟩;obtain⟨hc,hf,hz⟩:=xy hb)));all_goals (obtain⟨hb,hc,hf,hz⟩:=xh (by assumption:Held W0 _)))
 all_goals go_wp2
 refine bodyPost_ret (v:=.tuple #[.agg #[.slice aL AU Ae,.slice A' AY c',.slice (some ⟨gD,0,none⟩) AQ Ac,.int .i64 m.clock,.slice aN Aa Ad,.slice aS Ab Af],.int .i64 1]) (by simp[results,Tryz.results202,go_sem, *]) rfl ?_
 rw[HP.out] at LK
 have m1:=Cn.Sv ((hM.CX (τ':=fun _=>0) (Nat.le_refl _)).Av AO) LK (Nat.le_refl _) Aq (kE (by assumption) (kR _ _))
 have m2:=Cn.TQ (m1.box (w':=w1.setCell ⟨w.heap.size,1,none⟩ (.slice A' AY c')) (g0:=w.heap.size) (g1:=w.heap.size+3) KA (Lj Qh Aq)) HY.out ru (m.clock+5)
 have Ya:SM lo τ gD∨w.heap.size≤gD:=.inl (hM.atD rfl)
 exact⟨_,_,_,_,_,_,_,_,_,_,_,_,_,_,_,_,rfl,m2.box (g0:=w.heap.size) (g1:=w.heap.size+3) KA (Lj Qh Aq),fun b hb=>(if_pos Aq).trans (if_pos hb),by (with_reducible repeat (first|exact cR _ _|apply cA|apply cD|apply cN|(refine cS ?_ (Or.inr (by first|omega|(simp only[BO];omega))) _)|(refine cS ?_ Ya _)|(apply cE;assumption)|(apply cK;assumption)))⟩
end Go.Proofs.YtgaflnpmilikcaaGreat
namespace Go.Proofs.YtgaflnpmilikcaaGreat
open Go.RowKit Go
set_option maxHeartbeats 2000000
structure MS (g o n lo:Nat) (τ0:Nat→Nat) (w0:World) (aL:Option Addr) (Ae AU:Nat) (aP:Option Addr) (Ag AY:Nat) (aD:Option Addr) (Ac AQ:Nat) (aN:Option Addr) (Ad Aa:Nat) (aS:Option Addr) (Af Ab:Nat) (m:Sw.CV) (τ:Nat→Nat) (w:World):Prop where
 at_:Cs w g o aL Ae AU aP Ag AY aD Ac AQ aN Ad Aa aS Af Ab m.clock
 lb:Lb w g n
 ow:Cn τ w lo aL Ae AU aP Ag AY aD Ac AQ aN Ad Aa aS Af Ab m
 tag:∀ b,b<w0.heap.size→τ b=τ0 b
 out:∀ i,i<o∨o+6≤i→w.cell? ⟨g,i,none⟩=w0.cell? ⟨g,i,none⟩
 ch:Ch (SG g lo τ0) w0 w
 VN:g<w0.heap.size
 gz:τ0 g=0
 UK:lo≤w0.heap.size
section
variable {g o n lo:Nat} {τ0 τ:Nat→Nat} {w0 w w':World} {aL aP aD aN aS:Option Addr} {Ae AU Ag AY Ac AQ Ad Aa Af Ab:Nat} {m:Sw.CV}
theorem MS.start (hA:Cs w g o aL Ae AU aP Ag AY aD Ac AQ aN Ad Aa aS Af Ab m.clock) (hL:Lb w g n) (hM:Cn τ w lo aL Ae AU aP Ag AY aD Ac AQ aN Ad Aa aS Af Ab m) (hg:τ g=0) (hlo:lo≤w.heap.size):MS g o n lo τ w aL Ae AU aP Ag AY aD Ac AQ aN Ad Aa aS Af Ab m τ w:=
 ⟨hA,hL,hM,fun _ _=>rfl,fun _ _=>rfl,Ch.refl _ _,hA.lt,hg,hlo⟩
theorem MS.g0 (h:MS g o n lo τ0 w0 aL Ae AU aP Ag AY aD Ac AQ aN Ad Aa aS Af Ab m τ w):τ g=0:=(h.tag g h.VN).trans h.gz
theorem MS.ex (h:MS g o n lo τ0 w0 aL Ae AU aP Ag AY aD Ac AQ aN Ad Aa aS Af Ab m τ w) (hb:Ex w w'):MS g o n lo τ0 w0 aL Ae AU aP Ag AY aD Ac AQ aN Ad Aa aS Af Ab m τ w':=by
 have hk:KF 0 w w':=kE hb (kR _ _)
 exact⟨h.at_.keep hk,h.lb.ex hb,h.ow.Av (kE hb (kR _ _)),h.tag,fun i hi=>(World.cell?_of_block (w:=w) (a:=⟨g,i,none⟩) (hb.block g h.at_.lt (fun h=>h))).trans (h.out i hi),cE hb h.ch,h.VN,h.gz,h.UK⟩
theorem MS.may (h:MS g o n lo τ0 w0 aL Ae AU aP Ag AY aD Ac AQ aN Ad Aa aS Af Ab m τ w) {i t:Nat} (hl:lo≤i) (ht:τ i=t) (h1:1≤t) (h5:t≤5):SG g lo τ0 i∨w0.heap.size≤i:=by
 by_cases hi:i<w0.heap.size
 ·exact .inl (.inr ⟨hl,by rw[← h.tag i hi,ht];exact h1,by rw[← h.tag i hi,ht];exact h5⟩)
 ·exact .inr (by omega)
theorem MS.ne (h:MS g o n lo τ0 w0 aL Ae AU aP Ag AY aD Ac AQ aN Ad Aa aS Af Ab m τ w) {i t:Nat} (ht:τ i=t) (h1:1≤t):i≠g:=by
 rintro rfl
 have:=h.g0
 omega
theorem Fp {g i j:Nat} (h:i≠j):(⟨g,i,none⟩:Addr)≠⟨g,j,none⟩:=fun e=>h (by injection e)
theorem Cs.sZ {clock:Int} (h:Cs w g o aL Ae AU aP Ag AY aD Ac AQ aN Ad Aa aS Af Ab clock) (B:Option Addr) (n d:Nat):Cs (w.setCell ⟨g,o,none⟩ (.slice B n d)) g o B d n aP Ag AY aD Ac AQ aN Ad Aa aS Af Ab clock:=
 ⟨by simpa [World.setCell] using h.lt,World.cell?_setCell_same _ _ _ h.log,(World.cell?_setCell_other _ _ _ _ (Fp (by omega))).trans h.Ai,(World.cell?_setCell_other _ _ _ _ (Fp (by omega))).trans h.AJ,(World.cell?_setCell_other _ _ _ _ (Fp (by omega))).trans h.Qa,
  (World.cell?_setCell_other _ _ _ _ (Fp (by omega))).trans h.nums,(World.cell?_setCell_other _ _ _ _ (Fp (by omega))).trans h.said,fun i=>by simpa using h.free i⟩
theorem Cs.sj {clock:Int} (h:Cs w g o aL Ae AU aP Ag AY aD Ac AQ aN Ad Aa aS Af Ab clock) (B:Option Addr) (n d:Nat):Cs (w.setCell ⟨g,o+2,none⟩ (.slice B n d)) g o aL Ae AU aP Ag AY B d n aN Ad Aa aS Af Ab clock:=
 ⟨by simpa [World.setCell] using h.lt,(World.cell?_setCell_other _ _ _ _ (Fp (by omega))).trans h.log,(World.cell?_setCell_other _ _ _ _ (Fp (by omega))).trans h.Ai,World.cell?_setCell_same _ _ _ h.AJ,(World.cell?_setCell_other _ _ _ _ (Fp (by omega))).trans h.Qa,
  (World.cell?_setCell_other _ _ _ _ (Fp (by omega))).trans h.nums,(World.cell?_setCell_other _ _ _ _ (Fp (by omega))).trans h.said,fun i=>by simpa using h.free i⟩
theorem Cs.apart {S:Nat→Prop} {clock:Int} (h:Cs w g o aL Ae AU aP Ag AY aD Ac AQ aN Ad Aa aS Af Ab clock) (hb:Ch S w w') (hS:¬S g):Cs w' g o aL Ae AU aP Ag AY aD Ac AQ aN Ad Aa aS Af Ab clock:=by
 have hk:=hb.block g h.lt hS
 have c:∀ i:Nat,w'.cell? ⟨g,i,none⟩=w.cell? ⟨g,i,none⟩:=fun i=>World.cell?_of_block (w:=w) (a:=⟨g,i,none⟩) hk
 exact⟨Nat.lt_of_lt_of_le h.lt hb.size,(c _).trans h.log,(c _).trans h.Ai,(c _).trans h.AJ,(c _).trans h.Qa,(c _).trans h.nums,(c _).trans h.said,fun i=>(World.frozen?_of_block (w:=w) (a:=⟨g,i,none⟩) hk).trans (h.free i)⟩
theorem Cn.cell (h:Cn τ w lo aL Ae AU aP Ag AY aD Ac AQ aN Ad Aa aS Af Ab m) (hg:τ g=0) (i:Nat) (v:Value):Cn τ (w.setCell ⟨g,i,none⟩ v) lo aL Ae AU aP Ag AY aD Ac AQ aN Ad Aa aS Af Ab m:=
 h.keep fun t h1 _=>(KT.refl _ _ _ _).setCell (.inr (by show τ g≠t;omega))
theorem Cn.Su (h:Cn τ w lo aL Ae AU aP Ag AY aD Ac AQ aN Ad Aa aS Af Ab m) {A:Option Addr} {c n:Nat} {ds:List Sw.BC} (ho:Pw w' lo A c n ds) (hc:Ch (KW aD) w w') (hat:∀ b,A=some b→aD=some b∨w.heap.size≤b.block) :
  Cn (glue τ w.heap.size (fun _=>3)) w' lo aL Ae AU aP Ag AY A c n aN Ad Aa aS Af Ab { m with AJ:=ds }:=by
 have K:∀ t,t≠3→KT (glue τ w.heap.size (fun _=>3)) t lo w w':=fun t ht=>KT.ch hc (KT.refl _ _ _ _) fun i ⟨a,ha,hi⟩=>.inr (by rw[hi,Gs (h.AJ.tag a ha)];exact Ne.symm ht)
 exact⟨(h.log.CX (Nat.le_refl _)).keep (K 1 (by decide)),(h.Ai.CX (Nat.le_refl _)).keep (K 2 (by decide)),CK.full ho h.AJ hat,(h.nums.CX (Nat.le_refl _)).keep (K 4 (by decide)),(h.said.CX (Nat.le_refl _)).keep (K 5 (by decide))⟩
theorem MS.Gs (h:MS g o n lo τ0 w0 aL Ae AU aP Ag AY aD Ac AQ aN Ad Aa aS Af Ab m τ w) (t:Nat):∀ b,b<w0.heap.size→glue τ w.heap.size (fun _=>t) b=τ0 b:=fun b hb=>
 (if_pos (by have:=h.ch.size;omega)).trans (h.tag b hb)
theorem MS.WR (h:MS g o n lo τ0 w0 aL Ae AU aP Ag AY aD Ac AQ aN Ad Aa aS Af Ab m τ w) (t:Nat):glue τ w.heap.size (fun _=>t) g=0:=(h.Gs t g h.VN).trans h.gz
theorem MS.lo_le (h:MS g o n lo τ0 w0 aL Ae AU aP Ag AY aD Ac AQ aN Ad Aa aS Af Ab m τ w):lo≤w.heap.size:=Nat.le_trans h.UK h.ch.size
theorem MS.AJ (h:MS g o n lo τ0 w0 aL Ae AU aP Ag AY aD Ac AQ aN Ad Aa aS Af Ab m τ w) {A:Option Addr} {c k:Nat} {ds:List Sw.BC} (ho:Pw w' lo A c k ds) (hc:Ch (KW aD) w w') (hat:∀ b,A=some b→aD=some b∨w.heap.size≤b.block) :
  MS g o n lo τ0 w0 aL Ae AU aP Ag AY A c k aN Ad Aa aS Af Ab { m with AJ:=ds } (glue τ w.heap.size (fun _=>3)) (w'.setCell ⟨g,o+2,none⟩ (.slice A k c)):=by
 have hS:¬KW aD g:=fun ⟨a,ha,e⟩=>h.ne (h.ow.AJ.tag a ha) (by decide) e.symm
 refine⟨(h.at_.apart hc hS).sj A k c,(h.lb.MB hc hS).set,(h.ow.Su ho hc hat).cell (h.WR 3) _ _,h.Gs 3,fun i hi=>?_,cS (h.ch.trans' hc fun i hi ⟨a,ha,e⟩=>?_) (.inl (.inl rfl)) _,h.VN,h.gz,h.UK⟩
 ·refine (World.cell?_setCell_other _ _ _ _ (Fp (by omega))).trans ?_
  exact (hc.cell (p:=⟨g,i,none⟩) h.at_.lt hS).trans (h.out i hi)
 ·subst e
  rcases h.may (h.ow.AJ.ow.blk ha).1 (h.ow.AJ.tag a ha) (by decide) (by decide) with h1|h1
  ·exact h1
  ·omega
theorem MS.log (h:MS g o n lo τ0 w0 aL Ae AU aP Ag AY aD Ac AQ aN Ad Aa aS Af Ab m τ w) {A:Option Addr} {c k:Nat} {es:List Sw.FC} (ho:sJ w' lo A c k es) (hc:Ch (KW aL) w w') (hat:∀ b,A=some b→aL=some b∨w.heap.size≤b.block) :
  MS g o n lo τ0 w0 A c k aP Ag AY aD Ac AQ aN Ad Aa aS Af Ab { m with log:=es } (glue τ w.heap.size (fun _=>1)) (w'.setCell ⟨g,o,none⟩ (.slice A k c)):=by
 have hS:¬KW aL g:=fun ⟨a,ha,e⟩=>h.ne (h.ow.log.tag a ha) (by decide) e.symm
 refine⟨(h.at_.apart hc hS).sZ A k c,(h.lb.MB hc hS).set,(h.ow.logged ho hc hat).cell (h.WR 1) _ _,h.Gs 1,fun i hi=>?_,cS (h.ch.trans' hc fun i hi ⟨a,ha,e⟩=>?_) (.inl (.inl rfl)) _,h.VN,h.gz,h.UK⟩
 ·refine (World.cell?_setCell_other _ _ _ _ (Fp (by omega))).trans ?_
  exact (hc.cell (p:=⟨g,i,none⟩) h.at_.lt hS).trans (h.out i hi)
 ·subst e
  rcases h.may (h.ow.log.ow.blk ha).1 (h.ow.log.tag a ha) (by decide) (by decide) with h1|h1
  ·exact h1
  ·omega
theorem MS.Ai (h:MS g o n lo τ0 w0 aL Ae AU aP Ag AY aD Ac AQ aN Ad Aa aS Af Ab m τ w) {A:Option Addr} {c k:Nat} {ps:List Int} (ho:Ga w' w.heap.size A c k ps) (hc:Ex w w') :
  MS g o n lo τ0 w0 aL Ae AU A c k aD Ac AQ aN Ad Aa aS Af Ab { m with Ai:=ps } (glue τ w.heap.size (fun _=>2)) (w'.setCell ⟨g,o+1,none⟩ (.slice A k c)):=by
 refine⟨(h.at_.keep (kE hc (kR _ _))).iq A k c,(h.lb.ex hc).set,(h.ow.Sv ho (Nat.le_refl _) h.lo_le (kE hc (kR _ _))).cell (h.WR 2) _ _,h.Gs 2,fun i hi=>?_,cS (cE hc h.ch) (.inl (.inl rfl)) _,h.VN,h.gz,h.UK⟩
 refine (World.cell?_setCell_other _ _ _ _ (Fp (by omega))).trans ?_
 exact (hc.cell (p:=⟨g,i,none⟩) h.at_.lt (fun h=>h)).trans (h.out i hi)
theorem MS.zero (h:MS g o n lo τ0 w0 aL Ae AU aP Ag AY aD Ac AQ aN Ad Aa aS Af Ab m τ w) (hb:Ex w w'):MS g o n lo τ0 w0 aL Ae AU aP Ag AY aD Ac AQ aN Ad Aa aS Af Ab m (glue τ w.heap.size (fun _=>0)) w':=by
 have h':=h.ex hb
 exact⟨h'.at_,h'.lb,(h.ow.CX (Nat.le_refl _)).Av (kE hb (kR _ _)),h.Gs 0,h'.out,h'.ch,h.VN,h.gz,h.UK⟩
theorem MS.PW (h:MS g o n lo τ0 w0 aL Ae AU aP Ag AY aD Ac AQ aN Ad Aa aS Af Ab m τ w):MS g o n lo τ w aL Ae AU aP Ag AY aD Ac AQ aN Ad Aa aS Af Ab m τ w:=⟨h.at_,h.lb,h.ow,fun _ _=>rfl,fun _ _=>rfl,Ch.refl _ _,h.at_.lt,h.g0,h.lo_le⟩
theorem MS.trans {bL bP bD bN bS:Option Addr} {Bg BR Bf BV Bh Ba Bd Bb Bc BZ:Nat} {m':Sw.CV} {τ':Nat→Nat} (h:MS g o n lo τ0 w0 aL Ae AU aP Ag AY aD Ac AQ aN Ad Aa aS Af Ab m τ w) (k:MS g o n lo τ w bL Bg BR bP Bf BV bD Bh Ba bN Bd Bb bS Bc BZ m' τ' w'):MS g o n lo τ0 w0 bL Bg BR bP Bf BV bD Bh Ba bN Bd Bb bS Bc BZ m' τ' w':=by
 have hz:=h.ch.size
 refine⟨k.at_,k.lb,k.ow,fun b hb=>(k.tag b (by omega)).trans (h.tag b hb),fun i hi=>(k.out i hi).trans (h.out i hi),h.ch.trans' k.ch fun i hi hs=>?_,h.VN,h.gz,h.UK⟩
 rcases hs with hs | ⟨h1,h2,h3⟩
 ·exact .inl hs
 ·exact .inr ⟨h1,by rw[← h.tag i hi];exact h2,by rw[← h.tag i hi];exact h3⟩
theorem MS.box {b:Nat} (h:MS g o n lo τ0 w0 aL Ae AU aP Ag AY aD Ac AQ aN Ad Aa aS Af Ab m τ w) (hb:b<w0.heap.size) (hz:τ0 b=0) (hne:b≠g):(∀ i,w.cell? ⟨b,i,none⟩=w0.cell? ⟨b,i,none⟩)∧(∀ i,w.frozen? ⟨b,i,none⟩=w0.frozen? ⟨b,i,none⟩):=by
 have hS:¬SG g lo τ0 b:=by
  rintro (h1 | ⟨_,h2,_⟩)
  ·exact hne h1
  ·omega
 exact⟨fun i=>h.ch.cell (p:=⟨b,i,none⟩) hb hS,fun i=>h.ch.frozen (p:=⟨b,i,none⟩) hb hS⟩
theorem RY {τ:Nat→Nat} {k b:Nat} (h:k≤b):glue τ k (fun _=>0) b=0:=if_neg (by omega)
end
end Go.Proofs.YtgaflnpmilikcaaGreat
