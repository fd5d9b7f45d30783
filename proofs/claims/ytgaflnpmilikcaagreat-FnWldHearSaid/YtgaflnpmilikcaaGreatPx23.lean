/- Texts joined: DoC. -/
import Derived.Test.YtgaflnpmilikcaaGreatPx5
import Derived.Test.YtgaflnpmilikcaaGreatPx22
set_option maxRecDepth 100000
set_option linter.unusedSimpArgs false
set_option linter.unusedVariables false
namespace Go.Proofs.YtgaflnpmilikcaaGreat
open Go.RowKit Go
set_option maxHeartbeats 2000000
theorem Ca (aL:Option Addr) (Ae AU:Nat) (aP:Option Addr) (Ag AY:Nat) (aD:Option Addr) (Ac AQ:Nat) (aN:Option Addr) (Ad Aa:Nat) (aS:Option Addr) (Af Ab:Nat) (m:Sw.CV) (rows:List Sw.Row) (t:Nat) (w:World) (hL:RE w 0 aL Ae AU m.log) (hf:Sw.Bq m.log=some rows) (ht:t<8):Calls Tryz.prog 121 #[.agg #[.slice aL AU Ae,.slice aP AY Ag,.slice aD AQ Ac,.int .i64 m.clock,.slice aN Aa Ad,.slice aS Ab Af]] w fun E w'=>∃ g c,E=.returned (.slice (some ⟨g,0,none⟩) 8 c)∧(PQ w' w.heap.size (some ⟨g,0,none⟩) c 8 rows∧w.heap.size≤g∧g<w'.heap.size∧w'.cell? ⟨g,t*3,none⟩=some (.int .i64 (Sw.rowAt rows t).who)∧w'.cell? ⟨g,t*3+1,none⟩=some (.int .i64 (Sw.rowAt rows t).EY)∧w'.cell? ⟨g,t*3+2,none⟩=some (.bool (Sw.rowAt rows t).used))∧Ex w w':=by
 refine (LC aL Ae AU aP Ag AY aD Ac AQ aN Ad Aa aS Af Ab m w hL).mono ?_
 rintro E w' ⟨A',c',n',rfl,ho,hb⟩
 rw[Sw.Cu hf] at ho
 have h8:=Sw.Ct (Sw.Bv hf)
 obtain rfl:n'=8:=by rw[ho.1,h8]
 obtain⟨g,x,rfl,hlo,hlt,hx,c0,c1,c2,hfz⟩:=ND ho ht
 have e:Sw.rowAt rows t=x:=by unfold Sw.rowAt;rw[Int.toNat_natCast];exact Sw.CP hx
 rw[e]
 exact⟨g,c',rfl,⟨ho,hlo,hlt,c0,c1,c2⟩,hb⟩
theorem EI {ds:List Sw.BC} {t:Int} {k:Nat} (h:Sw.BH ds t=some k):Sw.FB ds t=k:=by unfold Sw.FB;rw[h]
theorem EJ {ds:List Sw.BC} {t:Int} (h:Sw.BH ds t=none):Sw.FB ds t = -1:=by unfold Sw.FB;rw[h]
theorem Yv (aL:Option Addr) (Ae AU:Nat) (aP:Option Addr) (Ag AY:Nat) (aD:Option Addr) (Ac AQ:Nat) (aN:Option Addr) (Ad Aa:Nat) (aS:Option Addr) (Af Ab:Nat) (m:Sw.CV) (ru rn rk:Int) (t:Nat) (rh rp:Int) (rows:List Sw.Row) (lo:Nat) (τ:Nat→Nat) (w:World) (hM:Cn τ w lo aL Ae AU aP Ag AY aD Ac AQ aN Ad Aa aS Af Ab m) (hok:Sw.IL m rows) (ht:t<8) (hu1:1≤ru) (aT:ru≤5) (hlo:lo≤w.heap.size):Calls Tryz.prog 204 #[.agg #[.slice aL AU Ae,.slice aP AY Ag,.slice aD AQ Ac,.int .i64 m.clock,.slice aN Aa Ad,.slice aS Ab Af],.agg #[.int .i64 ru,.int .i64 rn,.int .i64 rk,.int .i64 t,.int .i64 rh,.int .i64 rp]] w fun E w'=>Jq lo τ w w' E (Sw.enter m ⟨ru,rn,rk,t,rh,rp⟩ (Sw.rowAt rows t) (Sw.BH m.AJ t)):=by
 have K5:=hM.log
 have Mr:=hM.AJ
 have pF:m.log.length≤40:=(Sw.B_.1 hok.fold).1
 have l1:=hM.log.ow.1
 have HO:=Lib.hid hok.fold
 have hfits:Sw.Bn rows ⟨3,t,ru,0⟩=(decide ((Sw.rowAt rows t).who=ru) && !(Sw.rowAt rows t).used):=by
  have he:Sw.GI ⟨3,t,ru,0⟩=true:=Sw.FH.2 ⟨by dsimp only;omega,by dsimp only;omega,by dsimp only;omega⟩
  simp[Sw.Bn,Sw.Bv hok.fold,he,Sw.DI]
 clear hok
 have i0:(0:Int)≤(t:Int):=by omega
 have i1:(t:Int)<8:=by omega
 by_cases h1:(Sw.rowAt rows t).who=ru
 case neg=>
  have g1:((Sw.rowAt rows t).who != ru)=true:=by simpa using h1
  have e:Sw.enter m ⟨ru,rn,rk,t,rh,rp⟩ (Sw.rowAt rows t) (Sw.BH m.AJ t)=(m,2):=by unfold Sw.enter;rw[if_pos h1]
  rw[e]
  clear e h1 hfits l1
  go_enter Tryz.func204,Tryz.ntmps204
  go_wp2_with fail
  (focus (refine CF fun W0 hb0 hc0 hf0 hz0=>?_;refine Aj [] (S:=fun w'=>Held W0 w') DC (fun hHeld=>?_);(repeat' (first|refine FQ [6] [] hHeld (h:=?_)|refine FW (fun K hK=>?_) ?_|refine FV ?_|exact Cf|refine FT (fun K hK=>?_) ?_|(revert hK;intro hK;go_simp;(try ((go_at_call 121;apply Calls.mono;apply (Ca (rows:=rows) (t:=t));(apply CK.Es K5;(exact AO));exact HO.out;exact ht;rintro E w1 ⟨gr,dr,rfl,⟨Gr,FY,hgR,q0,q1,q2⟩,hb⟩;obtain⟨hc,hf,hz⟩:=xy hb);(try go_wp2_with fail)));refine CQ hK DC (h:=?_);clear hK K hHeld;intro hHeld)));all_goals (refine FR ?_);all_goals (obtain⟨hb,hc,hf,hz⟩:=xh (by assumption:Held W0 _))))
  all_goals go_wp2
  refine bodyPost_ret (v:=.tuple #[.agg #[.slice aL AU Ae,.slice aP AY Ag,.slice aD AQ Ac,.int .i64 m.clock,.slice aN Aa Ad,.slice aS Ab Af],.int .i64 2]) (by simp[results,Tryz.results204,go_sem, *]) rfl ?_
  exact⟨_,_,_,_,_,_,_,_,_,_,_,_,_,_,_,τ,rfl,hM.Av AO,fun _ _=>rfl,AA⟩
 have g1:((Sw.rowAt rows t).who != ru)=false:=by simpa using h1
 cases h2:(Sw.rowAt rows t).used
 case true=>
  have e:Sw.enter m ⟨ru,rn,rk,t,rh,rp⟩ (Sw.rowAt rows t) (Sw.BH m.AJ t)=(m,3):=by unfold Sw.enter;rw[if_neg (by simpa using h1),if_pos (.inl h2)]
  rw[e]
  rw[h2] at hfits
  have HF:=Lib.hid (show Sw.Bn rows ⟨3,t,ru,0⟩=false from by rw[hfits];simp)
  clear e h1 hfits l1 h2
  go_enter Tryz.func204,Tryz.ntmps204
  go_wp2_with fail
  (focus (refine CF fun W0 hb0 hc0 hf0 hz0=>?_;refine Aj [] (S:=fun w'=>Held W0 w') DC (fun hHeld=>?_);(repeat' (first|refine FQ [6] [] hHeld (h:=?_)|refine FW (fun K hK=>?_) ?_|refine FV ?_|exact Cf|refine FT (fun K hK=>?_) ?_|(revert hK;intro hK;go_simp;(try ((go_at_call 121;apply Calls.mono;apply (Ca (rows:=rows) (t:=t));(apply CK.Es K5;(exact AO));exact HO.out;exact ht;rintro E w1 ⟨gr,dr,rfl,⟨Gr,FY,hgR,q0,q1,q2⟩,hb⟩;obtain⟨hc,hf,hz⟩:=xy hb);(try go_wp2_with fail)));refine CQ hK DC (h:=?_);clear hK K hHeld;intro hHeld)));all_goals (refine FR ?_);all_goals (obtain⟨hb,hc,hf,hz⟩:=xh (by assumption:Held W0 _))))
  all_goals go_wp2_with fail
  (refine CF fun W0 hb0 hc0 hf0 hz0=>?_;refine wp_region_held_drew (S:=fun w'=>Held W0 w') (by kernel_rfl) ?_ (fun hHeld=>?_);(focus ((try dsimp only);(exact FU)));refine rT 0 23 (h:=?_);refine rT 2 25 (h:=?_);refine wpAnyH_ready (rs:=[1]) (by kernel_rfl) (by simp) ?_;refine AllReadyH.cons rfl (fun K hK=>?_) ?_;rotate_left;(focus exact AllReadyH.nil);go_simp;(first|(go_at_call 121;apply Calls.mono;apply (Ca (rows:=rows) (t:=t));(apply CK.Es K5;(exact AO));exact HO.out;exact ht;rintro E w1 ⟨gr,dr,rfl,⟨Gr,FY,hgR,q0,q1,q2⟩,hb⟩;obtain⟨hc,hf,hz⟩:=xy hb)|(go_at_call 184;apply Calls.mono;apply (DJ (e:=⟨3,t,ru,0⟩));(apply Ow.Es Gr;(exact AO));rintro E w2 ⟨rfl,hb⟩;rw[HF.out];obtain⟨hc,hf,hz⟩:=xy hb));(try go_wp2_with fail);refine hK.out _ _ ?_ (fun hHeld=>?_);(focus ((try dsimp only);(exact FU)));clear hK K;(try simp only[Act.put,DN]);refine wpAnyH_ready (rs:=[3]) (by kernel_rfl) (by simp) ?_;refine AllReadyH.cons rfl (fun K hK=>?_) ?_;rotate_left;(focus exact AllReadyH.nil);go_simp;(first|(go_at_call 121;apply Calls.mono;apply (Ca (rows:=rows) (t:=t));(apply CK.Es K5;(exact AO));exact HO.out;exact ht;rintro E w1 ⟨gr,dr,rfl,⟨Gr,FY,hgR,q0,q1,q2⟩,hb⟩;obtain⟨hc,hf,hz⟩:=xy hb)|(go_at_call 184;apply Calls.mono;apply (DJ (e:=⟨3,t,ru,0⟩));(apply Ow.Es Gr;(exact AO));rintro E w2 ⟨rfl,hb⟩;rw[HF.out];obtain⟨hc,hf,hz⟩:=xy hb));(try go_wp2_with fail);refine hK.out _ _ ?_ (fun hHeld=>?_);(focus ((try dsimp only);(exact FU)));clear hK K;(try simp only[Act.put,DN]);refine rT 4 27 (h:=?_);refine rT 5 28 (h:=?_);refine EP 6 29 rfl rfl (by kernel_rfl) (by kernel_rfl) (by kernel_rfl) (fun _ _ _ h=>h) (by rfl) (by assumption) ?_;(try simp only[Act.put,DN]);refine EP 7 30 rfl rfl (by kernel_rfl) (by kernel_rfl) (by kernel_rfl) (fun _ _ _ h=>h) (by rfl) (by assumption) ?_;(try simp only[Act.put,DN]);refine EP 8 31 rfl rfl (by kernel_rfl) (by kernel_rfl) (by kernel_rfl) (fun _ _ _ h=>h) (by rfl) (by assumption) ?_;(try simp only[Act.put,DN]);refine EP 9 32 rfl rfl (by kernel_rfl) (by kernel_rfl) (by kernel_rfl) (fun _ _ _ h=>h) (by rfl) (by assumption) ?_;(try simp only[Act.put,DN]);refine EP 10 33 rfl rfl (by kernel_rfl) (by kernel_rfl) (by kernel_rfl) (fun _ _ _ h=>h) (by rfl) (by assumption) ?_;(try simp only[Act.put,DN]);refine EP 11 34 rfl rfl (by kernel_rfl) (by kernel_rfl) (by kernel_rfl) (fun _ _ _ h=>h) (by rfl) (by assumption) ?_;(try simp only[Act.put,DN]);refine rT 12 35 (h:=?_);refine wpAnyH_done (by kernel_rfl) ?_ _;all_goals (obtain⟨hb,hc,hf,hz⟩:=xh (by assumption:Held W0 _)))
  all_goals go_wp2
  refine bodyPost_ret (v:=.tuple #[.agg #[.slice aL AU Ae,.slice aP AY Ag,.slice aD AQ Ac,.int .i64 m.clock,.slice aN Aa Ad,.slice aS Ab Af],.int .i64 3]) (by simp[results,Tryz.results204,go_sem, *]) rfl ?_
  exact⟨_,_,_,_,_,_,_,_,_,_,_,_,_,_,_,τ,rfl,hM.Av AO,fun _ _=>rfl,AA⟩
 rw[h2] at hfits
 have HF:=Lib.hid (show Sw.Bn rows ⟨3,t,ru,0⟩=true from by rw[hfits];simp[h1])
 cases h3:Sw.BH m.AJ t
 case some k=>
  have e:Sw.enter m ⟨ru,rn,rk,t,rh,rp⟩ (Sw.rowAt rows t) (some k)=(m,3):=by unfold Sw.enter;rw[if_neg (by simpa using h1),if_pos (.inr rfl)]
  rw[e]
  have HD:=Lib.hid (EI h3)
  have k0:(0:Int)≤(k:Int):=by omega
  clear e h1 hfits l1 h2 h3
  go_enter Tryz.func204,Tryz.ntmps204
  go_wp2_with fail
  (focus (refine CF fun W0 hb0 hc0 hf0 hz0=>?_;refine Aj [] (S:=fun w'=>Held W0 w') DC (fun hHeld=>?_);(repeat' (first|refine FQ [6] [] hHeld (h:=?_)|refine FW (fun K hK=>?_) ?_|refine FV ?_|exact Cf|refine FT (fun K hK=>?_) ?_|(revert hK;intro hK;go_simp;(try ((go_at_call 121;apply Calls.mono;apply (Ca (rows:=rows) (t:=t));(apply CK.Es K5;(exact AO));exact HO.out;exact ht;rintro E w1 ⟨gr,dr,rfl,⟨Gr,FY,hgR,q0,q1,q2⟩,hb⟩;obtain⟨hc,hf,hz⟩:=xy hb);(try go_wp2_with fail)));refine CQ hK DC (h:=?_);clear hK K hHeld;intro hHeld)));all_goals (refine FR ?_);all_goals (obtain⟨hb,hc,hf,hz⟩:=xh (by assumption:Held W0 _))))
  all_goals go_wp2_with fail
  (refine CF fun W0 hb0 hc0 hf0 hz0=>?_;refine wp_region_held_drew (S:=fun w'=>Held W0 w') (by kernel_rfl) ?_ (fun hHeld=>?_);(focus ((try dsimp only);(exact FU)));refine rT 0 23 (h:=?_);refine rT 2 25 (h:=?_);refine wpAnyH_ready (rs:=[1]) (by kernel_rfl) (by simp) ?_;refine AllReadyH.cons rfl (fun K hK=>?_) ?_;rotate_left;(focus exact AllReadyH.nil);go_simp;(first|(go_at_call 121;apply Calls.mono;apply (Ca (rows:=rows) (t:=t));(apply CK.Es K5;(exact AO));exact HO.out;exact ht;rintro E w1 ⟨gr,dr,rfl,⟨Gr,FY,hgR,q0,q1,q2⟩,hb⟩;obtain⟨hc,hf,hz⟩:=xy hb)|(go_at_call 184;apply Calls.mono;apply (DJ (e:=⟨3,t,ru,0⟩));(apply Ow.Es Gr;(exact AO));rintro E w2 ⟨rfl,hb⟩;rw[HF.out];obtain⟨hc,hf,hz⟩:=xy hb)|(go_at_call 210;apply Calls.mono;apply Cx;(apply CK.Es Mr;(exact AO));rintro E w' ⟨rfl,rfl⟩;rw[HD.out]));(try go_wp2_with fail);refine hK.out _ _ ?_ (fun hHeld=>?_);(focus ((try dsimp only);(exact FU)));clear hK K;(try simp only[Act.put,DN]);refine wpAnyH_ready (rs:=[3]) (by kernel_rfl) (by simp) ?_;refine AllReadyH.cons rfl (fun K hK=>?_) ?_;rotate_left;(focus exact AllReadyH.nil);go_simp;(first|(go_at_call 121;apply Calls.mono;apply (Ca (rows:=rows) (t:=t));(apply CK.Es K5;(exact AO));exact HO.out;exact ht;rintro E w1 ⟨gr,dr,rfl,⟨Gr,FY,hgR,q0,q1,q2⟩,hb⟩;obtain⟨hc,hf,hz⟩:=xy hb)|(go_at_call 184;apply Calls.mono;apply (DJ (e:=⟨3,t,ru,0⟩));(apply Ow.Es Gr;(exact AO));rintro E w2 ⟨rfl,hb⟩;rw[HF.out];obtain⟨hc,hf,hz⟩:=xy hb)|(go_at_call 210;apply Calls.mono;apply Cx;(apply CK.Es Mr;(exact AO));rintro E w' ⟨rfl,rfl⟩;rw[HD.out]));(try go_wp2_with fail);refine hK.out _ _ ?_ (fun hHeld=>?_);(focus ((try dsimp only);(exact FU)));clear hK K;(try simp only[Act.put,DN]);refine rT 4 27 (h:=?_);refine rT 5 28 (h:=?_);refine rT 6 29 (h:=?_);refine rT 7 30 (h:=?_);refine rT 8 31 (h:=?_);refine rT 9 32 (h:=?_);refine wpAnyH_ready (rs:=[10]) (by kernel_rfl) (by simp) ?_;refine AllReadyH.cons rfl (fun K hK=>?_) ?_;rotate_left;(focus exact AllReadyH.nil);go_simp;(first|(go_at_call 121;apply Calls.mono;apply (Ca (rows:=rows) (t:=t));(apply CK.Es K5;(exact AO));exact HO.out;exact ht;rintro E w1 ⟨gr,dr,rfl,⟨Gr,FY,hgR,q0,q1,q2⟩,hb⟩;obtain⟨hc,hf,hz⟩:=xy hb)|(go_at_call 184;apply Calls.mono;apply (DJ (e:=⟨3,t,ru,0⟩));(apply Ow.Es Gr;(exact AO));rintro E w2 ⟨rfl,hb⟩;rw[HF.out];obtain⟨hc,hf,hz⟩:=xy hb)|(go_at_call 210;apply Calls.mono;apply Cx;(apply CK.Es Mr;(exact AO));rintro E w' ⟨rfl,rfl⟩;rw[HD.out]));(try go_wp2_with fail);refine hK.out _ _ ?_ (fun hHeld=>?_);(focus ((try dsimp only);(exact FU)));clear hK K;(try simp only[Act.put,DN]);refine rT 11 34 (h:=?_);refine rT 12 35 (h:=?_);refine wpAnyH_done (by kernel_rfl) ?_ _;all_goals (obtain⟨hb,hc,hf,hz⟩:=xh (by assumption:Held W0 _)))
  all_goals go_wp2
  refine bodyPost_ret (v:=.tuple #[.agg #[.slice aL AU Ae,.slice aP AY Ag,.slice aD AQ Ac,.int .i64 m.clock,.slice aN Aa Ad,.slice aS Ab Af],.int .i64 3]) (by simp[results,Tryz.results204,go_sem, *]) rfl ?_
  exact⟨_,_,_,_,_,_,_,_,_,_,_,_,_,_,_,τ,rfl,hM.Av AO,fun _ _=>rfl,AA⟩
 have HD:=Lib.hid (EJ h3)
 by_cases h4:m.log.length=40
 ·have e:Sw.enter m ⟨ru,rn,rk,t,rh,rp⟩ (Sw.rowAt rows t) none=(m,6):=by unfold Sw.enter;rw[if_neg (by simpa using h1),if_neg (by simp[h2]),if_pos h4]
  rw[e]
  have g4:((AU:Int)==40)=true:=by simp;omega
  clear e h1 hfits l1 h2 h3 h4
  go_enter Tryz.func204,Tryz.ntmps204
  go_wp2_with fail
  (focus (refine CF fun W0 hb0 hc0 hf0 hz0=>?_;refine Aj [] (S:=fun w'=>Held W0 w') DC (fun hHeld=>?_);(repeat' (first|refine FQ [6] [] hHeld (h:=?_)|refine FW (fun K hK=>?_) ?_|refine FV ?_|exact Cf|refine FT (fun K hK=>?_) ?_|(revert hK;intro hK;go_simp;(try ((go_at_call 121;apply Calls.mono;apply (Ca (rows:=rows) (t:=t));(apply CK.Es K5;(exact AO));exact HO.out;exact ht;rintro E w1 ⟨gr,dr,rfl,⟨Gr,FY,hgR,q0,q1,q2⟩,hb⟩;obtain⟨hc,hf,hz⟩:=xy hb);(try go_wp2_with fail)));refine CQ hK DC (h:=?_);clear hK K hHeld;intro hHeld)));all_goals (refine FR ?_);all_goals (obtain⟨hb,hc,hf,hz⟩:=xh (by assumption:Held W0 _))))
  all_goals go_wp2_with fail
  (refine CF fun W0 hb0 hc0 hf0 hz0=>?_;refine wp_region_held_drew (S:=fun w'=>Held W0 w') (by kernel_rfl) ?_ (fun hHeld=>?_);(focus ((try dsimp only);(exact FU)));refine rT 0 23 (h:=?_);refine rT 2 25 (h:=?_);refine wpAnyH_ready (rs:=[1]) (by kernel_rfl) (by simp) ?_;refine AllReadyH.cons rfl (fun K hK=>?_) ?_;rotate_left;(focus exact AllReadyH.nil);go_simp;(first|(go_at_call 121;apply Calls.mono;apply (Ca (rows:=rows) (t:=t));(apply CK.Es K5;(exact AO));exact HO.out;exact ht;rintro E w1 ⟨gr,dr,rfl,⟨Gr,FY,hgR,q0,q1,q2⟩,hb⟩;obtain⟨hc,hf,hz⟩:=xy hb)|(go_at_call 184;apply Calls.mono;apply (DJ (e:=⟨3,t,ru,0⟩));(apply Ow.Es Gr;(exact AO));rintro E w2 ⟨rfl,hb⟩;rw[HF.out];obtain⟨hc,hf,hz⟩:=xy hb)|(go_at_call 210;apply Calls.mono;apply Cx;(apply CK.Es Mr;(exact AO));rintro E w' ⟨rfl,rfl⟩;rw[HD.out]));(try go_wp2_with fail);refine hK.out _ _ ?_ (fun hHeld=>?_);(focus ((try dsimp only);(exact FU)));clear hK K;(try simp only[Act.put,DN]);refine wpAnyH_ready (rs:=[3]) (by kernel_rfl) (by simp) ?_;refine AllReadyH.cons rfl (fun K hK=>?_) ?_;rotate_left;(focus exact AllReadyH.nil);go_simp;(first|(go_at_call 121;apply Calls.mono;apply (Ca (rows:=rows) (t:=t));(apply CK.Es K5;(exact AO));exact HO.out;exact ht;rintro E w1 ⟨gr,dr,rfl,⟨Gr,FY,hgR,q0,q1,q2⟩,hb⟩;obtain⟨hc,hf,hz⟩:=xy hb)|(go_at_call 184;apply Calls.mono;apply (DJ (e:=⟨3,t,ru,0⟩));(apply Ow.Es Gr;(exact AO));rintro E w2 ⟨rfl,hb⟩;rw[HF.out];obtain⟨hc,hf,hz⟩:=xy hb)|(go_at_call 210;apply Calls.mono;apply Cx;(apply CK.Es Mr;(exact AO));rintro E w' ⟨rfl,rfl⟩;rw[HD.out]));(try go_wp2_with fail);refine hK.out _ _ ?_ (fun hHeld=>?_);(focus ((try dsimp only);(exact FU)));clear hK K;(try simp only[Act.put,DN]);refine rT 4 27 (h:=?_);refine rT 5 28 (h:=?_);refine rT 6 29 (h:=?_);refine rT 7 30 (h:=?_);refine rT 8 31 (h:=?_);refine rT 9 32 (h:=?_);refine wpAnyH_ready (rs:=[10]) (by kernel_rfl) (by simp) ?_;refine AllReadyH.cons rfl (fun K hK=>?_) ?_;rotate_left;(focus exact AllReadyH.nil);go_simp;(first|(go_at_call 121;apply Calls.mono;apply (Ca (rows:=rows) (t:=t));(apply CK.Es K5;(exact AO));exact HO.out;exact ht;rintro E w1 ⟨gr,dr,rfl,⟨Gr,FY,hgR,q0,q1,q2⟩,hb⟩;obtain⟨hc,hf,hz⟩:=xy hb)|(go_at_call 184;apply Calls.mono;apply (DJ (e:=⟨3,t,ru,0⟩));(apply Ow.Es Gr;(exact AO));rintro E w2 ⟨rfl,hb⟩;rw[HF.out];obtain⟨hc,hf,hz⟩:=xy hb)|(go_at_call 210;apply Calls.mono;apply Cx;(apply CK.Es Mr;(exact AO));rintro E w' ⟨rfl,rfl⟩;rw[HD.out]));(try go_wp2_with fail);refine hK.out _ _ ?_ (fun hHeld=>?_);(focus ((try dsimp only);(exact FU)));clear hK K;(try simp only[Act.put,DN]);refine rT 11 34 (h:=?_);refine rT 12 35 (h:=?_);refine wpAnyH_done (by kernel_rfl) ?_ _;all_goals (obtain⟨hb,hc,hf,hz⟩:=xh (by assumption:Held W0 _)))
  all_goals go_wp2
  refine bodyPost_ret (v:=.tuple #[.agg #[.slice aL AU Ae,.slice aP AY Ag,.slice aD AQ Ac,.int .i64 m.clock,.slice aN Aa Ad,.slice aS Ab Af],.int .i64 6]) (by simp[results,Tryz.results204,go_sem, *]) rfl ?_
  exact⟨_,_,_,_,_,_,_,_,_,_,_,_,_,_,_,τ,rfl,hM.Av AO,fun _ _=>rfl,AA⟩
 have e:Sw.enter m ⟨ru,rn,rk,t,rh,rp⟩ (Sw.rowAt rows t) none=({ m with log:=m.log ++ [⟨3,t,ru,0⟩] },1):=by unfold Sw.enter;rw[if_neg (by simpa using h1),if_neg (by simp[h2]),if_neg h4]
 rw[e]
 have g4:((AU:Int)==40)=false:=by simp;omega
 have oI:AU≤40:=by omega
 clear e h1 hfits l1 h2 h3 h4
 go_enter Tryz.func204,Tryz.ntmps204
 go_wp2_with fail
 (focus (refine CF fun W0 hb0 hc0 hf0 hz0=>?_;refine Aj [] (S:=fun w'=>Held W0 w') DC (fun hHeld=>?_);(repeat' (first|refine FQ [6] [] hHeld (h:=?_)|refine FW (fun K hK=>?_) ?_|refine FV ?_|exact Cf|refine FT (fun K hK=>?_) ?_|(revert hK;intro hK;go_simp;(try ((go_at_call 121;apply Calls.mono;apply (Ca (rows:=rows) (t:=t));(apply CK.Es K5;(exact AO));exact HO.out;exact ht;rintro E w1 ⟨gr,dr,rfl,⟨Gr,FY,hgR,q0,q1,q2⟩,hb⟩;obtain⟨hc,hf,hz⟩:=xy hb);(try go_wp2_with fail)));refine CQ hK DC (h:=?_);clear hK K hHeld;intro hHeld)));all_goals (refine FR ?_);all_goals (obtain⟨hb,hc,hf,hz⟩:=xh (by assumption:Held W0 _))))
 all_goals go_wp2_with fail
 (refine CF fun W0 hb0 hc0 hf0 hz0=>?_;refine wp_region_held_drew (S:=fun w'=>Held W0 w') (by kernel_rfl) ?_ (fun hHeld=>?_);(focus ((try dsimp only);(exact FU)));refine rT 0 23 (h:=?_);refine rT 2 25 (h:=?_);refine wpAnyH_ready (rs:=[1]) (by kernel_rfl) (by simp) ?_;refine AllReadyH.cons rfl (fun K hK=>?_) ?_;rotate_left;(focus exact AllReadyH.nil);go_simp;(first|(go_at_call 121;apply Calls.mono;apply (Ca (rows:=rows) (t:=t));(apply CK.Es K5;(exact AO));exact HO.out;exact ht;rintro E w1 ⟨gr,dr,rfl,⟨Gr,FY,hgR,q0,q1,q2⟩,hb⟩;obtain⟨hc,hf,hz⟩:=xy hb)|(go_at_call 184;apply Calls.mono;apply (DJ (e:=⟨3,t,ru,0⟩));(apply Ow.Es Gr;(exact AO));rintro E w2 ⟨rfl,hb⟩;rw[HF.out];obtain⟨hc,hf,hz⟩:=xy hb)|(go_at_call 210;apply Calls.mono;apply Cx;(apply CK.Es Mr;(exact AO));rintro E w' ⟨rfl,rfl⟩;rw[HD.out]));(try go_wp2_with fail);refine hK.out _ _ ?_ (fun hHeld=>?_);(focus ((try dsimp only);(exact FU)));clear hK K;(try simp only[Act.put,DN]);refine wpAnyH_ready (rs:=[3]) (by kernel_rfl) (by simp) ?_;refine AllReadyH.cons rfl (fun K hK=>?_) ?_;rotate_left;(focus exact AllReadyH.nil);go_simp;(first|(go_at_call 121;apply Calls.mono;apply (Ca (rows:=rows) (t:=t));(apply CK.Es K5;(exact AO));exact HO.out;exact ht;rintro E w1 ⟨gr,dr,rfl,⟨Gr,FY,hgR,q0,q1,q2⟩,hb⟩;obtain⟨hc,hf,hz⟩:=xy hb)|(go_at_call 184;apply Calls.mono;apply (DJ (e:=⟨3,t,ru,0⟩));(apply Ow.Es Gr;(exact AO));rintro E w2 ⟨rfl,hb⟩;rw[HF.out];obtain⟨hc,hf,hz⟩:=xy hb)|(go_at_call 210;apply Calls.mono;apply Cx;(apply CK.Es Mr;(exact AO));rintro E w' ⟨rfl,rfl⟩;rw[HD.out]));(try go_wp2_with fail);refine hK.out _ _ ?_ (fun hHeld=>?_);(focus ((try dsimp only);(exact FU)));clear hK K;(try simp only[Act.put,DN]);refine rT 4 27 (h:=?_);refine rT 5 28 (h:=?_);refine rT 6 29 (h:=?_);refine rT 7 30 (h:=?_);refine rT 8 31 (h:=?_);refine rT 9 32 (h:=?_);refine wpAnyH_ready (rs:=[10]) (by kernel_rfl) (by simp) ?_;refine AllReadyH.cons rfl (fun K hK=>?_) ?_;rotate_left;(focus exact AllReadyH.nil);go_simp;(first|(go_at_call 121;apply Calls.mono;apply (Ca (rows:=rows) (t:=t));(apply CK.Es K5;(exact AO));exact HO.out;exact ht;rintro E w1 ⟨gr,dr,rfl,⟨Gr,FY,hgR,q0,q1,q2⟩,hb⟩;obtain⟨hc,hf,hz⟩:=xy hb)|(go_at_call 184;apply Calls.mono;apply (DJ (e:=⟨3,t,ru,0⟩));(apply Ow.Es Gr;(exact AO));rintro E w2 ⟨rfl,hb⟩;rw[HF.out];obtain⟨hc,hf,hz⟩:=xy hb)|(go_at_call 210;apply Calls.mono;apply Cx;(apply CK.Es Mr;(exact AO));rintro E w' ⟨rfl,rfl⟩;rw[HD.out]));(try go_wp2_with fail);refine hK.out _ _ ?_ (fun hHeld=>?_);(focus ((try dsimp only);(exact FU)));clear hK K;(try simp only[Act.put,DN]);refine rT 11 34 (h:=?_);refine rT 12 35 (h:=?_);refine wpAnyH_done (by kernel_rfl) ?_ _;all_goals (obtain⟨hb,hc,hf,hz⟩:=xh (by assumption:Held W0 _)))
 all_goals go_wp2_with (at_builtin;apply BL (lo:=lo) Wl Qw rfl rfl rfl rfl;(exact Ow.keep (K5.ow) AO);(refine Rs.new [⟨3,t,ru,0⟩] (by (first|rfl|(simp only[BO];done)|omega)) rfl rfl (fun _=>rfl) (by omega));omega;(exact Aq);intro A1 c1 w2 ho1 Ap Bo Ay Ah;clear Ay;obtain⟨hB0,Ta⟩:=Ch.DK Ap (g:=w.heap.size) (by exact Aq) (Ow.apart (K5.ow) (by omega));obtain⟨hB1,hF1⟩:=Ch.DK Ap (g:=w.heap.size+1) (by exact Aq) (Ow.apart (K5.ow) (by omega));obtain⟨hB2,hF2⟩:=Ch.DK Ap (g:=w.heap.size+1+1) (by exact Aq) (Ow.apart (K5.ow) (by omega));have QB:=Ap.size;(try simp only[BO] at QB))
 refine bodyPost_ret (v:=.tuple #[.agg #[.slice A1 (AU+1) c1,.slice aP AY Ag,.slice aD AQ Ac,.int .i64 m.clock,.slice aN Aa Ad,.slice aS Ab Af],.int .i64 1]) (by simp[results,Tryz.results204,go_sem, *]) rfl ?_
 have m2:=Cn.logged ((hM.CX (τ':=fun _=>0) (Nat.le_refl _)).Av AO) ho1 Ap Bo
 have hS:=Ch.trans' (show Ch (SM lo τ) w _ from AA) Ap (fun i _ h=>hM.xO h)
 exact⟨_,_,_,_,_,_,_,_,_,_,_,_,_,_,_,_,rfl,m2.box (g0:=w.heap.size) (g1:=w.heap.size+4) KA (Lj Qh Aq),fun b hb=>(if_pos Aq).trans (if_pos hb),AA⟩
end Go.Proofs.YtgaflnpmilikcaaGreat
