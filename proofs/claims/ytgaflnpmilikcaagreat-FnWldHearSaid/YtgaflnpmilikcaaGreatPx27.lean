/- Texts joined: DoD. -/
import Derived.Test.YtgaflnpmilikcaaGreatPx5
import Derived.Test.YtgaflnpmilikcaaGreatPx23
set_option maxRecDepth 100000
set_option linter.unusedSimpArgs false
set_option linter.unusedVariables false
namespace Go.Proofs.YtgaflnpmilikcaaGreat
open Go.RowKit Go
set_option maxHeartbeats 2000000
theorem b_ (aL:Option Addr) (Ae AU:Nat) (aP:Option Addr) (Ag AY:Nat) (aD:Option Addr) (Ac AQ:Nat) (aN:Option Addr) (Ad Aa:Nat) (aS:Option Addr) (Af Ab:Nat) (m:Sw.CV) (ru rn:Int) (t:Nat) (rh rp:Int) (rows:List Sw.Row) (lo:Nat) (τ:Nat→Nat) (w:World) (hM:Cn τ w lo aL Ae AU aP Ag AY aD Ac AQ aN Ad Aa aS Af Ab m) (hok:Sw.IL m rows) (ht:t<8) (hlo:lo≤w.heap.size):Calls Tryz.prog 201 #[.agg #[.slice aL AU Ae,.slice aP AY Ag,.slice aD AQ Ac,.int .i64 m.clock,.slice aN Aa Ad,.slice aS Ab Af],.agg #[.int .i64 ru,.int .i64 rn,.int .i64 3,.int .i64 t,.int .i64 rh,.int .i64 rp]] w fun E w'=>Jq lo τ w w' E (Sw.ED m ⟨ru,rn,3,t,rh,rp⟩ (Sw.rowAt rows t) (Sw.BH m.AJ t)):=by
 have K5:=hM.log
 have Mr:=hM.AJ
 have og:m.AJ.length≤8:=hok.Ms
 have l3:=hM.AJ.ow.1
 have HO:=Lib.hid hok.fold
 have i0:(0:Int)≤(t:Int):=by omega
 have i1:(t:Int)<8:=by omega
 clear hok
 by_cases h1:(Sw.rowAt rows t).who=ru
 case neg=>
  have g1:((Sw.rowAt rows t).who != ru)=true:=by simpa using h1
  have e:Sw.ED m ⟨ru,rn,3,t,rh,rp⟩ (Sw.rowAt rows t) (Sw.BH m.AJ t)=(m,2):=by unfold Sw.ED;rw[if_pos h1]
  rw[e]
  clear e h1 l3
  go_enter Tryz.func201,Tryz.ntmps201
  go_wp2_with fail
  (focus (refine CF fun W0 hb0 hc0 hf0 hz0=>?_;refine Aj [] (S:=fun w'=>Held W0 w') DC (fun hHeld=>?_);(repeat' (first|refine FQ [5] [] hHeld (h:=?_)|refine FW (fun K hK=>?_) ?_|refine FV ?_|exact Cf|refine FT (fun K hK=>?_) ?_|(revert hK;intro hK;go_simp;(try ((go_at_call 121;apply Calls.mono;apply (Ca (rows:=rows) (t:=t));(apply CK.Es K5;(exact AO));exact HO.out;exact ht;rintro E w1 ⟨gr,dr,rfl,⟨Gr,FY,hgR,q0,q1,q2⟩,hb⟩;obtain⟨hc,hf,hz⟩:=xy hb);(try go_wp2_with fail)));refine CQ hK DC (h:=?_);clear hK K hHeld;intro hHeld)));all_goals (refine FR ?_);all_goals (obtain⟨hb,hc,hf,hz⟩:=xh (by assumption:Held W0 _))))
  all_goals go_wp2_with (go_at_call 210;apply Calls.mono;apply Cx;(exact Bt);rintro E w' ⟨rfl,rfl⟩)
  all_goals (refine bodyPost_ret (v:=.tuple #[.agg #[.slice aL AU Ae,.slice aP AY Ag,.slice aD AQ Ac,.int .i64 m.clock,.slice aN Aa Ad,.slice aS Ab Af],.int .i64 2]) (by simp[results,Tryz.results201,go_sem, *]) rfl ?_;exact⟨_,_,_,_,_,_,_,_,_,_,_,_,_,_,_,τ,rfl,hM.Av AO,fun _ _=>rfl,AA⟩)
 have g1:((Sw.rowAt rows t).who != ru)=false:=by simpa using h1
 cases h3:Sw.BH m.AJ t
 case none=>
  have e:Sw.ED m ⟨ru,rn,3,t,rh,rp⟩ (Sw.rowAt rows t) none=(m,3):=by unfold Sw.ED;rw[if_neg (by simpa using h1)]
  rw[e]
  have HD:=Lib.hid (EJ h3)
  clear e h1 l3 h3
  go_enter Tryz.func201,Tryz.ntmps201
  go_wp2_with fail
  (focus (refine CF fun W0 hb0 hc0 hf0 hz0=>?_;refine Aj [] (S:=fun w'=>Held W0 w') DC (fun hHeld=>?_);(repeat' (first|refine FQ [5] [] hHeld (h:=?_)|refine FW (fun K hK=>?_) ?_|refine FV ?_|exact Cf|refine FT (fun K hK=>?_) ?_|(revert hK;intro hK;go_simp;(try ((go_at_call 121;apply Calls.mono;apply (Ca (rows:=rows) (t:=t));(apply CK.Es K5;(exact AO));exact HO.out;exact ht;rintro E w1 ⟨gr,dr,rfl,⟨Gr,FY,hgR,q0,q1,q2⟩,hb⟩;obtain⟨hc,hf,hz⟩:=xy hb);(try go_wp2_with fail)));refine CQ hK DC (h:=?_);clear hK K hHeld;intro hHeld)));all_goals (refine FR ?_);all_goals (obtain⟨hb,hc,hf,hz⟩:=xh (by assumption:Held W0 _))))
  all_goals go_wp2_with (go_at_call 210;apply Calls.mono;apply Cx;(apply CK.Es Mr;(exact AO));rintro E w' ⟨rfl,rfl⟩;rw[HD.out])
  all_goals (refine bodyPost_ret (v:=.tuple #[.agg #[.slice aL AU Ae,.slice aP AY Ag,.slice aD AQ Ac,.int .i64 m.clock,.slice aN Aa Ad,.slice aS Ab Af],.int .i64 3]) (by simp[results,Tryz.results201,go_sem, *]) rfl ?_;exact⟨_,_,_,_,_,_,_,_,_,_,_,_,_,_,_,τ,rfl,hM.Av AO,fun _ _=>rfl,AA⟩)
 rename_i kd
 obtain⟨d,hd,hdt⟩:=Sw.Dc h3
 have hk:kd<AQ:=by have:=(List.getElem?_eq_some_iff.1 hd).1;omega
 have HD:=Lib.hid (EI h3)
 have hgd:=Sw.CP (z:=Sw.EE) hd
 obtain⟨gD,y,rfl,R4,Ur,hy,d0,d1,d2,d3,d4,aW⟩:=MX hM.AJ.ow hk
 obtain rfl:y=d:=Option.some.inj (hy.symm.trans hd)
 have k0:(0:Int)≤(kd:Int):=by omega
 have k1:(kd:Int)<(AQ:Int):=by omega
 have k2:¬(kd:Int)<0:=by omega
 by_cases h4:0<y.BN
 ·have e:Sw.ED m ⟨ru,rn,3,t,rh,rp⟩ (Sw.rowAt rows t) (some kd)=(m,3):=by unfold Sw.ED;rw[if_neg (by simpa using h1)];dsimp only;rw[hgd,if_pos (by simp[Sw.held,h4])]
  rw[e]
  clear e h1 l3 h3 hd hdt hy hgd
  go_enter Tryz.func201,Tryz.ntmps201
  go_wp2_with fail
  (focus (refine CF fun W0 hb0 hc0 hf0 hz0=>?_;refine Aj [] (S:=fun w'=>Held W0 w') DC (fun hHeld=>?_);(repeat' (first|refine FQ [5] [] hHeld (h:=?_)|refine FW (fun K hK=>?_) ?_|refine FV ?_|exact Cf|refine FT (fun K hK=>?_) ?_|(revert hK;intro hK;go_simp;(try ((go_at_call 121;apply Calls.mono;apply (Ca (rows:=rows) (t:=t));(apply CK.Es K5;(exact AO));exact HO.out;exact ht;rintro E w1 ⟨gr,dr,rfl,⟨Gr,FY,hgR,q0,q1,q2⟩,hb⟩;obtain⟨hc,hf,hz⟩:=xy hb);(try go_wp2_with fail)));refine CQ hK DC (h:=?_);clear hK K hHeld;intro hHeld)));all_goals (refine FR ?_);all_goals (obtain⟨hb,hc,hf,hz⟩:=xh (by assumption:Held W0 _))))
  all_goals go_wp2_with (go_at_call 210;apply Calls.mono;apply Cx;(apply CK.Es Mr;(exact AO));rintro E w' ⟨rfl,rfl⟩;rw[HD.out])
  all_goals (refine bodyPost_ret (v:=.tuple #[(.agg #[.slice aL AU Ae,.slice aP AY Ag,.slice (some ⟨gD,0,none⟩) AQ Ac,.int .i64 m.clock,.slice aN Aa Ad,.slice aS Ab Af]),.int .i64 3]) (by simp[results,Tryz.results201,go_sem, *]) rfl ?_;exact⟨_,_,_,_,_,_,_,_,_,_,_,_,_,_,_,τ,rfl,hM.Av AO,fun _ _=>rfl,AA⟩)
 ·have e:Sw.ED m ⟨ru,rn,3,t,rh,rp⟩ (Sw.rowAt rows t) (some kd)=({ m with AJ:=m.AJ.eraseIdx kd },1):=by unfold Sw.ED;rw[if_neg (by simpa using h1)];dsimp only;rw[hgd,if_neg (by simp[Sw.held];omega)]
  rw[e]
  have XO:AQ≤4194304:=by omega
  clear e h1 l3 h3 hd hdt hy hgd
  go_enter Tryz.func201,Tryz.ntmps201
  go_wp2_with fail
  (focus (refine CF fun W0 hb0 hc0 hf0 hz0=>?_;refine Aj [] (S:=fun w'=>Held W0 w') DC (fun hHeld=>?_);(repeat' (first|refine FQ [5] [] hHeld (h:=?_)|refine FW (fun K hK=>?_) ?_|refine FV ?_|exact Cf|refine FT (fun K hK=>?_) ?_|(revert hK;intro hK;go_simp;(try ((go_at_call 121;apply Calls.mono;apply (Ca (rows:=rows) (t:=t));(apply CK.Es K5;(exact AO));exact HO.out;exact ht;rintro E w1 ⟨gr,dr,rfl,⟨Gr,FY,hgR,q0,q1,q2⟩,hb⟩;obtain⟨hc,hf,hz⟩:=xy hb);(try go_wp2_with fail)));refine CQ hK DC (h:=?_);clear hK K hHeld;intro hHeld)));all_goals (refine FR ?_);all_goals (obtain⟨hb,hc,hf,hz⟩:=xh (by assumption:Held W0 _))))
  all_goals go_wp2_with (first|(go_at_call 210;apply Calls.mono;apply Cx;(apply CK.Es Mr;(exact AO));rintro E w' ⟨rfl,rfl⟩;rw[HD.out])|(go_at_call 226;apply Calls.mono;apply (Yn (k:=kd));(apply CK.Es Mr;(exact AO));exact hk;omega;rintro E w3 ⟨A3,c3,rfl,ho3,hb3⟩;obtain⟨hc3,hf3,hz3⟩:=xy hb3))
  all_goals (refine bodyPost_ret (v:=.tuple #[.agg #[.slice aL AU Ae,.slice aP AY Ag,.slice A3 (AQ-1) c3,.int .i64 m.clock,.slice aN Aa Ad,.slice aS Ab Af],.int .i64 1]) (by simp[results,Tryz.results201,go_sem, *]) rfl ?_;(have m1:=Cn.dealt ((hM.CX (τ':=fun _=>0) (Nat.le_refl _)).Av AO) ho3 (Nat.le_refl _) Aq (kE hb3 (kR _ _)));exact⟨_,_,_,_,_,_,_,_,_,_,_,_,_,_,_,_,rfl,m1.box (g0:=w.heap.size) (g1:=w.heap.size+3) KA (Lj Qh Aq),fun b hb=>(if_pos Aq).trans (if_pos hb),AA⟩)
end Go.Proofs.YtgaflnpmilikcaaGreat
