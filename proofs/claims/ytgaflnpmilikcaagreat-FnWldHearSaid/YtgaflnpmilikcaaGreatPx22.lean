/- Texts joined: DoB, ImpM. -/
import Derived.Test.YtgaflnpmilikcaaGreatPx19
import Derived.Test.YtgaflnpmilikcaaGreatPx12
import Derived.Test.YtgaflnpmilikcaaGreatPx20
import Derived.Test.YtgaflnpmilikcaaGreatPx18
set_option maxRecDepth 100000
set_option linter.unusedSimpArgs false
set_option linter.unusedVariables false
namespace Go.Proofs.YtgaflnpmilikcaaGreat
open Go.RowKit Go
set_option maxHeartbeats 2000000
@[go_sem] theorem aR (W:World) (b i:Nat) (u:Value):(W.setCell ⟨b,i,none⟩ u).cell? ⟨b,i,none⟩=(W.cell? ⟨b,i,none⟩).map (fun _=>u):=by
 cases h:W.cell? ⟨b,i,none⟩ with
 | some v=>rw[World.cell?_setCell_same _ _ _ h];rfl
 | none=>
  simp only[World.cell?,World.setCell,Array.getElem?_modify,if_true] at h ⊢
  cases hh:W.heap[b]? with
  | none=>simp
  | some o=>
   rw[hh] at h
   cases o with
   | cells c T fz=>simp at h ⊢;omega
   | _=>simp
def Jq (lo:Nat) (τ:Nat→Nat) (w w':World) (E:Ending) (x:Sw.CV × Int):Prop:=
 ∃ (bL:Option Addr) (Bg BR:Nat) (bP:Option Addr) (Bf BV:Nat) (bD:Option Addr) (Bh Ba:Nat) (bN:Option Addr) (Bd Bb:Nat) (bS:Option Addr) (Bc BZ:Nat) (τ':Nat→Nat),E=.returned (.tuple #[.agg #[.slice bL BR Bg,.slice bP BV Bf,.slice bD Ba Bh,.int .i64 x.1.clock,.slice bN Bb Bd,.slice bS BZ Bc],.int .i64 x.2])∧Cn τ' w' lo bL Bg BR bP Bf BV bD Bh Ba bN Bd Bb bS Bc BZ x.1∧(∀ b,b<w.heap.size→τ' b=τ b)∧Ch (SM lo τ) w w'
section
variable {τ:Nat→Nat} {w w':World} {lo g k:Nat}
theorem Ch.DK {A:Option Addr} (h:Ch (KW A) w w') (hg:g<w.heap.size) (hA:∀ a,A=some a→a.block≠g):(∀ o,w'.cell? ⟨g,o,none⟩=w.cell? ⟨g,o,none⟩)∧(∀ o,w'.frozen? ⟨g,o,none⟩=w.frozen? ⟨g,o,none⟩):=
 ⟨fun o=>h.cell (p:=⟨g,o,none⟩) hg (fun ⟨a,ha,e⟩=>hA a ha e.symm),fun o=>h.frozen (p:=⟨g,o,none⟩) hg (fun ⟨a,ha,e⟩=>hA a ha e.symm)⟩
theorem Ch.Gv (h:Ch (SM lo τ) w w') (hg:g<w.heap.size) (h0:τ g=0):(∀ o,w'.cell? ⟨g,o,none⟩=w.cell? ⟨g,o,none⟩)∧(∀ o,w'.frozen? ⟨g,o,none⟩=w.frozen? ⟨g,o,none⟩):=
 ⟨fun o=>h.cell (p:=⟨g,o,none⟩) hg (fun ⟨_,h1,_⟩=>by have h1:1≤τ g:=h1;omega),fun o=>h.frozen (p:=⟨g,o,none⟩) hg (fun ⟨_,h1,_⟩=>by have h1:1≤τ g:=h1;omega)⟩
theorem Cn.old {aL aP aD aN aS:Option Addr} {Ae AU Ag AY Ac AQ Ad Aa Af Ab:Nat} {m:Sw.CV} {w0:World} (h:Cn τ w0 lo aL Ae AU aP Ag AY aD Ac AQ aN Ad Aa aS Af Ab m) (hg:w0.heap.size≤g) :
  (∀ a,aL=some a→a.block≠g)∧(∀ a,aP=some a→a.block≠g)∧(∀ a,aD=some a→a.block≠g)∧(∀ a,aN=some a→a.block≠g)∧(∀ a,aS=some a→a.block≠g):=
 ⟨fun a ha=>by have:=(h.log.ow.blk ha).2;omega,fun a ha=>by have:=(h.Ai.ow.blk ha).2;omega,fun a ha=>by have:=(h.AJ.ow.blk ha).2;omega,fun a ha=>by have:=(h.nums.ow.blk ha).2;omega,fun a ha=>by have:=(h.said.ow.blk ha).2;omega⟩
theorem Cn.xO {aL aP aD aN aS:Option Addr} {Ae AU Ag AY Ac AQ Ad Aa Af Ab:Nat} {m:Sw.CV} (h:Cn τ w lo aL Ae AU aP Ag AY aD Ac AQ aN Ad Aa aS Af Ab m) {i:Nat} (hi:KW aL i):SM lo τ i:=by
 obtain⟨a,ha,rfl⟩:=hi
 exact⟨(h.log.ow.blk ha).1,by rw[h.log.tag a ha];decide,by rw[h.log.tag a ha];decide⟩
theorem Cn.logged {aL aP aD aN aS:Option Addr} {Ae AU Ag AY Ac AQ Ad Aa Af Ab:Nat} {m:Sw.CV} (h:Cn τ w lo aL Ae AU aP Ag AY aD Ac AQ aN Ad Aa aS Af Ab m) {A:Option Addr} {c n:Nat} {es:List Sw.FC} (ho:sJ w' lo A c n es) (hc:Ch (KW aL) w w') (hat:∀ b,A=some b→aL=some b∨w.heap.size≤b.block) :
  Cn (glue τ w.heap.size (fun _=>1)) w' lo A c n aP Ag AY aD Ac AQ aN Ad Aa aS Af Ab { m with log:=es }:=by
 have K:∀ t,t≠1→KT (glue τ w.heap.size (fun _=>1)) t lo w w':=fun t ht=>KT.ch hc (KT.refl _ _ _ _) fun i ⟨a,ha,hi⟩=>.inr (by rw[hi,Gs (h.log.tag a ha)];exact Ne.symm ht)
 exact⟨CK.full ho h.log hat,(h.Ai.CX (Nat.le_refl _)).keep (K 2 (by decide)),(h.AJ.CX (Nat.le_refl _)).keep (K 3 (by decide)),(h.nums.CX (Nat.le_refl _)).keep (K 4 (by decide)),(h.said.CX (Nat.le_refl _)).keep (K 5 (by decide))⟩
theorem Cn.Sv {aL aP aD aN aS:Option Addr} {Ae AU Ag AY Ac AQ Ad Aa Af Ab:Nat} {m:Sw.CV} (h:Cn τ w lo aL Ae AU aP Ag AY aD Ac AQ aN Ad Aa aS Af Ab m) {A:Option Addr} {c n l:Nat} {ps:List Int} (ho:Ga w' l A c n ps) (hl:w.heap.size≤l) (hlo:lo≤l) (hk:KF lo w w') :
  Cn (glue τ w.heap.size (fun _=>2)) w' lo aL Ae AU A c n aD Ac AQ aN Ad Aa aS Af Ab { m with Ai:=ps }:=
 ⟨(h.log.CX (Nat.le_refl _)).Av hk,CK.Vk ho hl hlo,(h.AJ.CX (Nat.le_refl _)).Av hk,(h.nums.CX (Nat.le_refl _)).Av hk,(h.said.CX (Nat.le_refl _)).Av hk⟩
theorem Cn.dealt {aL aP aD aN aS:Option Addr} {Ae AU Ag AY Ac AQ Ad Aa Af Ab:Nat} {m:Sw.CV} (h:Cn τ w lo aL Ae AU aP Ag AY aD Ac AQ aN Ad Aa aS Af Ab m) {A:Option Addr} {c n l:Nat} {ds:List Sw.BC} (ho:Pw w' l A c n ds) (hl:w.heap.size≤l) (hlo:lo≤l) (hk:KF lo w w') :
  Cn (glue τ w.heap.size (fun _=>3)) w' lo aL Ae AU aP Ag AY A c n aN Ad Aa aS Af Ab { m with AJ:=ds }:=
 ⟨(h.log.CX (Nat.le_refl _)).Av hk,(h.Ai.CX (Nat.le_refl _)).Av hk,CK.Vk ho hl hlo,(h.nums.CX (Nat.le_refl _)).Av hk,(h.said.CX (Nat.le_refl _)).Av hk⟩
end
theorem Ow.apart {α:Type} {enc:α→List Value} {sz:Nat} {e:TypeId} {w:World} {lo c n g:Nat} {A:Option Addr} {xs:List α} (h:Ow enc sz e w lo A c n xs) (hg:w.heap.size≤g):∀ a,A=some a→a.block≠g:=
 fun a ha=>by have:=(h.blk ha).2;omega
def BX (g0 g1:Nat):Nat→Prop:=fun b=>g0≤b∧b<g1
theorem BX.mk {g0 g1 b:Nat} (h:g0≤b) (k:b<g1):BX g0 g1 b:=⟨h,k⟩
theorem KA {p:Prop} (h:p:=by with_reducible repeat (first|exact cR _ _|apply cA|apply cD|apply cN|(refine cS ?_ (Or.inl (BX.mk Aq Aq)) _)|(refine cS ?_ (Or.inr Aq) _)|(apply cE;assumption))):p:=h
theorem Cn.box {τ:Nat→Nat} {w w':World} {lo g0 g1:Nat} {aL aP aD aN aS:Option Addr} {Ae AU Ag AY Ac AQ Ad Aa Af Ab:Nat} {m:Sw.CV} (h:Cn τ w lo aL Ae AU aP Ag AY aD Ac AQ aN Ad Aa aS Af Ab m) (hx:Ch (BX g0 g1) w w') (h0:∀ b,g0≤b→b<g1→τ b=0):Cn τ w' lo aL Ae AU aP Ag AY aD Ac AQ aN Ad Aa aS Af Ab m:=
 h.keep fun t h1 _=>KT.ch hx (KT.refl _ _ _ _) fun i hi=>.inr (by rw[h0 i hi.1 hi.2];omega)
theorem Qh {τ:Nat→Nat} {k g1:Nat}:∀ b,k≤b→b<g1→glue τ k (fun _=>0) b=0:=fun b h _=>if_neg (by omega)
theorem Lj {τ τ':Nat→Nat} {g0 g1 k:Nat} (h:∀ b,g0≤b→b<g1→τ b=0) (hk:g1≤k):∀ b,g0≤b→b<g1→glue τ k τ' b=0:=fun b h1 h2=>(if_pos (by omega)).trans (h b h1 h2)
theorem Ty {m:Sw.CV} {rows:List Sw.Row} (h:Sw.IL m rows):Sw.CS m=rows∧rows.length=8:=⟨Sw.Cu h.fold,Sw.Ct (Sw.Bv h.fold)⟩
theorem Yr (aL:Option Addr) (Ae AU:Nat) (aP:Option Addr) (Ag AY:Nat) (aD:Option Addr) (Ac AQ:Nat) (aN:Option Addr) (Ad Aa:Nat) (aS:Option Addr) (Af Ab:Nat) (m:Sw.CV) (r:Sw.Ee) (rows:List Sw.Row) (lo:Nat) (τ:Nat→Nat) (w:World) (hM:Cn τ w lo aL Ae AU aP Ag AY aD Ac AQ aN Ad Aa aS Af Ab m) (hok:Sw.IL m rows) (hr:Sw.CR r=true) (hk:r.kind=1) (hlo:lo≤w.heap.size):Calls Tryz.prog 200 #[.agg #[.slice aL AU Ae,.slice aP AY Ag,.slice aD AQ Ac,.int .i64 m.clock,.slice aN Aa Ad,.slice aS Ab Af],.agg #[.int .i64 r.user,.int .i64 r.n,.int .i64 r.kind,.int .i64 r.ticket,.int .i64 r.who,.int .i64 r.Al]] w fun E w'=>Jq lo τ w w' E (Sw.issue m r (Sw.rowAt rows r.ticket)):=by
 have hr':=Sw.EB.1 hr
 obtain⟨hrow,h8⟩:=Ty hok
 have pF:m.log.length≤40:=(Sw.B_.1 hok.fold).1
 have K5:=hM.log
 have zK:=hM.Ai
 have Mr:=hM.AJ
 have l1:=hM.log.ow.1
 have l2:=Lib.hid hM.Ai.ow.1
 have aU:AY≤4194304:=by have:=l2.out;have:=(Sw.Ci.1 hok.Rp).1;omega
 have hfits:Sw.Bn rows ⟨1,r.ticket,r.who,r.Al⟩=decide ((Sw.rowAt rows r.ticket).who=0):=by
  have he:Sw.GI ⟨1,r.ticket,r.who,r.Al⟩=true:=Sw.FH.2 ⟨hr'.2.2.2.1,by dsimp only;omega,by dsimp only;omega⟩
  simp[Sw.Bn,Sw.Bv hok.fold,he,Sw.DI]
 by_cases h1:r.user≠1∨r.who=1
 ·have e:Sw.issue m r (Sw.rowAt rows r.ticket)=(m,2):=by unfold Sw.issue;rw[if_pos h1]
  rw[e]
  clear e hfits hrow hr' hr hk l1
  rcases h1 with h1|h1
  ·have g1:(r.user != 1)=true:=by simpa using h1
   clear h1
   go_enter Tryz.func200,Tryz.ntmps200
   go_wp2_with fail
   refine bodyPost_ret (v:=.tuple #[.agg #[.slice aL AU Ae,.slice aP AY Ag,.slice aD AQ Ac,.int .i64 m.clock,.slice aN Aa Ad,.slice aS Ab Af],.int .i64 2]) (by simp[results,Tryz.results200,go_sem, *]) rfl ?_
   exact⟨_,_,_,_,_,_,_,_,_,_,_,_,_,_,_,τ,rfl,hM.Av (by (exact AO)),fun _ _=>rfl,by (exact AA)⟩
  ·have g1:(r.who==1)=true:=by simpa using h1
   clear h1
   cases g2:(r.user != 1)
   all_goals
    go_enter Tryz.func200,Tryz.ntmps200
    go_wp2_with fail
    refine bodyPost_ret (v:=.tuple #[.agg #[.slice aL AU Ae,.slice aP AY Ag,.slice aD AQ Ac,.int .i64 m.clock,.slice aN Aa Ad,.slice aS Ab Af],.int .i64 2]) (by simp[results,Tryz.results200,go_sem, *]) rfl ?_
    exact⟨_,_,_,_,_,_,_,_,_,_,_,_,_,_,_,τ,rfl,hM.Av (by (exact AO)),fun _ _=>rfl,by (exact AA)⟩
 have h1a:(r.user != 1)=false:=by simpa using fun h=>h1 (.inl h)
 have h1b:(r.who==1)=false:=by simpa using fun h=>h1 (.inr h)
 have HR:=Lib.hid hrow
 have HF:=Lib.hid hfits
 have HL:=Lib.hid l1
 cases h2:decide ((Sw.rowAt rows r.ticket).who=0)
 case false=>
  have h2':=of_decide_eq_false h2
  have e:Sw.issue m r (Sw.rowAt rows r.ticket)=(m,3):=by unfold Sw.issue;rw[if_neg h1,if_pos h2']
  rw[e]
  clear e hfits hrow hr' hr hk l1 h1 h2'
  rw[h2] at HF;clear h2
  go_enter Tryz.func200,Tryz.ntmps200
  go_wp2_with fail
  (refine CF fun W0 hb0 hc0 hf0 hz0=>?_;go_region_held3 (fun w'=>Held W0 w') ((exact FU)) ((first|(go_at_call 121;apply Calls.mono;apply LC;(exact Bt);rintro E w1 ⟨A',c',n',rfl,Gr,hb⟩;obtain⟨hc,hf,hz⟩:=xy hb)|(go_at_call 184;apply Calls.mono;apply (DJ (e:=⟨1,r.ticket,r.who,r.Al⟩));(apply Ow.Es Gr;(exact AO));rintro E w2 ⟨rfl,hb⟩;rw[HR.out,HF.out];obtain⟨hc,hf,hz⟩:=xy hb)));all_goals (obtain⟨hb,hc,hf,hz⟩:=xh (by assumption:Held W0 _)))
  all_goals go_wp2
  refine bodyPost_ret (v:=.tuple #[.agg #[.slice aL AU Ae,.slice aP AY Ag,.slice aD AQ Ac,.int .i64 m.clock,.slice aN Aa Ad,.slice aS Ab Af],.int .i64 3]) (by simp[results,Tryz.results200,go_sem, *]) rfl ?_
  exact⟨_,_,_,_,_,_,_,_,_,_,_,_,_,_,_,τ,rfl,hM.Av (by (exact AO)),fun _ _=>rfl,by (exact AA)⟩
 have h2':=of_decide_eq_true h2
 rw[h2] at HF;clear h2
 by_cases h3:m.log.length=40
 ·have e:Sw.issue m r (Sw.rowAt rows r.ticket)=(m,6):=by unfold Sw.issue;rw[if_neg h1,if_neg (by simpa using h2'),if_pos h3]
  rw[e]
  have g3:((AU:Int)==40)=true:=by simp;omega
  clear e hfits hrow hr' hr hk l1 h1 h2' h3
  go_enter Tryz.func200,Tryz.ntmps200
  go_wp2_with fail
  (refine CF fun W0 hb0 hc0 hf0 hz0=>?_;go_region_held3 (fun w'=>Held W0 w') ((exact FU)) ((first|(go_at_call 121;apply Calls.mono;apply LC;(exact Bt);rintro E w1 ⟨A',c',n',rfl,Gr,hb⟩;obtain⟨hc,hf,hz⟩:=xy hb)|(go_at_call 184;apply Calls.mono;apply (DJ (e:=⟨1,r.ticket,r.who,r.Al⟩));(apply Ow.Es Gr;(exact AO));rintro E w2 ⟨rfl,hb⟩;rw[HR.out,HF.out];obtain⟨hc,hf,hz⟩:=xy hb)));all_goals (obtain⟨hb,hc,hf,hz⟩:=xh (by assumption:Held W0 _)))
  all_goals go_wp2
  refine bodyPost_ret (v:=.tuple #[.agg #[.slice aL AU Ae,.slice aP AY Ag,.slice aD AQ Ac,.int .i64 m.clock,.slice aN Aa Ad,.slice aS Ab Af],.int .i64 6]) (by simp[results,Tryz.results200,go_sem, *]) rfl ?_
  exact⟨_,_,_,_,_,_,_,_,_,_,_,_,_,_,_,τ,rfl,hM.Av (by (exact AO)),fun _ _=>rfl,by (exact AA)⟩
 have g3:((AU:Int)==40)=false:=by simp;omega
 cases h4:Sw.C8 m.Ai r.who 1 r.Al
 case false=>
  have e:Sw.issue m r (Sw.rowAt rows r.ticket)=(m,5):=by unfold Sw.issue;rw[if_neg h1,if_neg (by simpa using h2'),if_neg h3,if_neg (by simp[h4])]
  rw[e]
  clear e hfits hrow hr' hr hk l1 h1 h2' h3
  go_enter Tryz.func200,Tryz.ntmps200
  go_wp2_with fail
  (refine CF fun W0 hb0 hc0 hf0 hz0=>?_;go_region_held3 (fun w'=>Held W0 w') ((exact FU)) ((first|(go_at_call 121;apply Calls.mono;apply LC;(exact Bt);rintro E w1 ⟨A',c',n',rfl,Gr,hb⟩;obtain⟨hc,hf,hz⟩:=xy hb)|(go_at_call 184;apply Calls.mono;apply (DJ (e:=⟨1,r.ticket,r.who,r.Al⟩));(apply Ow.Es Gr;(exact AO));rintro E w2 ⟨rfl,hb⟩;rw[HR.out,HF.out];obtain⟨hc,hf,hz⟩:=xy hb)));all_goals (obtain⟨hb,hc,hf,hz⟩:=xh (by assumption:Held W0 _)))
  all_goals go_wp2_with (go_at_call 225;apply Calls.mono;apply Qo;(exact Bt);(exact Bu);rintro E w1 ⟨A',c',rfl,LK,hb⟩;obtain⟨hc,hf,hz⟩:=xy hb)
  refine bodyPost_ret (v:=.tuple #[.agg #[.slice aL AU Ae,.slice aP AY Ag,.slice aD AQ Ac,.int .i64 m.clock,.slice aN Aa Ad,.slice aS Ab Af],.int .i64 5]) (by simp[results,Tryz.results200,go_sem, *]) rfl ?_
  exact⟨_,_,_,_,_,_,_,_,_,_,_,_,_,_,_,τ,rfl,hM.Av (by (exact AO)),fun _ _=>rfl,by (exact AA)⟩
 have e:Sw.issue m r (Sw.rowAt rows r.ticket)=({ m with Ai:=Sw.turned (Sw.turned m.Ai r.who (-r.Al)) 1 r.Al,log:=m.log ++ [⟨1,r.ticket,r.who,r.Al⟩] },1):=by
  unfold Sw.issue;rw[if_neg h1,if_neg (by simpa using h2'),if_neg h3,if_pos h4]
 rw[e]
 have hpe:Sw.Db m.Ai r.who 1 r.Al=Sw.turned (Sw.turned m.Ai r.who (-r.Al)) 1 r.Al:=by unfold Sw.Db;rw[if_pos h4]
 have HP:=Lib.hid hpe
 have oI:AU≤40:=by omega
 clear e hfits hrow hr' hr hk l1 h1 h2' h3 hpe
 go_enter Tryz.func200,Tryz.ntmps200
 go_wp2_with fail
 (refine CF fun W0 hb0 hc0 hf0 hz0=>?_;go_region_held3 (fun w'=>Held W0 w') ((exact FU)) ((first|(go_at_call 121;apply Calls.mono;apply LC;(exact Bt);rintro E w1 ⟨A',c',n',rfl,Gr,hb⟩;obtain⟨hc,hf,hz⟩:=xy hb)|(go_at_call 184;apply Calls.mono;apply (DJ (e:=⟨1,r.ticket,r.who,r.Al⟩));(apply Ow.Es Gr;(exact AO));rintro E w2 ⟨rfl,hb⟩;rw[HR.out,HF.out];obtain⟨hc,hf,hz⟩:=xy hb)));all_goals (obtain⟨hb,hc,hf,hz⟩:=xh (by assumption:Held W0 _)))
 all_goals go_wp2_with (first|(go_at_call 225;apply Calls.mono;apply Qo;(exact Bt);(exact Bu);rintro E w1 ⟨A',c',rfl,LK,hb⟩;obtain⟨hc,hf,hz⟩:=xy hb)|(at_builtin;apply BL (lo:=lo) Wl Qw rfl rfl rfl rfl;(exact Ow.keep (K5.ow) AO);(refine Rs.new [⟨1,r.ticket,r.who,r.Al⟩] (by (first|rfl|(simp only[BO];done)|omega)) rfl rfl (fun _=>rfl) (by omega));omega;(exact Aq);intro A1 c1 w2 ho1 Ap Bo Ay Ah;clear Ay;obtain⟨hB0,Ta⟩:=Ch.DK Ap (g:=w.heap.size) (by exact Aq) (Ow.apart (K5.ow) (by omega));obtain⟨hB1,hF1⟩:=Ch.DK Ap (g:=w.heap.size+1) (by exact Aq) (Ow.apart (K5.ow) (by omega));obtain⟨hB2,hF2⟩:=Ch.DK Ap (g:=w.heap.size+1+1) (by exact Aq) (Ow.apart (K5.ow) (by omega));have QB:=Ap.size;(try simp only[BO] at QB)))
 refine bodyPost_ret (v:=.tuple #[.agg #[.slice A1 (AU+1) c1,.slice A' AY c',.slice aD AQ Ac,.int .i64 m.clock,.slice aN Aa Ad,.slice aS Ab Af],.int .i64 1]) (by simp[results,Tryz.results200,go_sem, *]) rfl ?_
 rw[HP.out] at LK
 have m1:=Cn.Sv ((hM.CX (τ':=fun _=>0) (Nat.le_refl _)).Av AO) LK (Nat.le_refl _) Aq (kE hb (kR _ _))
 have m2:=Cn.logged (m1.box (g0:=w.heap.size) (g1:=w.heap.size+4) KA (Lj Qh Aq)) ho1 Ap Bo
 have hS:=Ch.trans' (show Ch (SM lo τ) w _ from AA) Ap (fun i _ h=>hM.xO h)
 exact⟨_,_,_,_,_,_,_,_,_,_,_,_,_,_,_,_,rfl,m2.box (g0:=w.heap.size) (g1:=w.heap.size+4) KA (Lj (Lj Qh Aq) Aq),fun b hb=>(if_pos Aq).trans ((if_pos Aq).trans (if_pos hb)),AA⟩
end Go.Proofs.YtgaflnpmilikcaaGreat
namespace Go.Proofs.YtgaflnpmilikcaaGreat
open Go.RowKit Go
set_option maxHeartbeats 2000000
theorem GH (A:Option Addr) (c n:Nat) (xs:List Sw.FC) (w:World) (hxs:RE w 0 A c n xs) (hn:n≤4194304):Calls Tryz.prog 123 #[.slice A n c] w fun E w'=>∃ A' c',E=.returned (.slice A' n c')∧sJ w' w.heap.size A' c' n xs∧Ex w w':=by
 go_enter Tryz.func123,Tryz.ntmps123
 go_wp2_with (at_builtin;apply BL (lo:=w.heap.size) Wl Qw rfl rfl rfl rfl;(exact Iy);(exact Co);omega;exact Aq;intro A1 c1 w2 ho1 Ap Bo Ay Ah;have hb:=Ay (fun _=>False) w (by exact AA) (by exact Aq);have hz:=Ap.size;(try simp only[BO] at hz);obtain⟨hc,hf⟩:=BJ Ah;clear Ah Ay)
 go_ret
 rw[Nat.zero_add,List.nil_append] at ho1
 exact⟨A1,c1,rfl,ho1,AA⟩
theorem KR (aL:Option Addr) (Ae AU:Nat) (aP:Option Addr) (Ag AY:Nat) (aD:Option Addr) (Ac AQ:Nat) (aN:Option Addr) (Ad Aa:Nat) (aS:Option Addr) (Af Ab:Nat) (m:Sw.CV) (w:World) (hm:RM w 0 aL Ae AU aP Ag AY aD Ac AQ aN Ad Aa aS Af Ab m) (hn:AU+AY+AQ+Aa+Ab≤1048576):Calls Tryz.prog 69 #[.agg #[.slice aL AU Ae,.slice aP AY Ag,.slice aD AQ Ac,.int .i64 m.clock,.slice aN Aa Ad,.slice aS Ab Af]] w fun E w'=>∃ bL Bg BR bP Bf BV bD Bh Ba bN Bd Bb bS Bc BZ τ,E=.returned (.agg #[.slice bL BR Bg,.slice bP BV Bf,.slice bD Ba Bh,.int .i64 m.clock,.slice bN Bb Bd,.slice bS BZ Bc])∧Cn τ w' w.heap.size bL Bg BR bP Bf BV bD Bh Ba bN Bd Bb bS Bc BZ m∧Ex w w':=by
 obtain⟨m1,m2,m3,m4,m5⟩:=hm
 go_enter Tryz.func69,Tryz.ntmps69
 go_wp2_with fail
 (refine CF fun W0 hb0 hc0 hf0 hz0=>?_;have JR:Lb W0 (w.heap.size+1) 6:=Lb.ex (by exact Dw) hb0;refine wp_region_held_drew (S:=fun w'=>Au (w.heap.size+1) 6 W0 w') (by kernel_rfl) ?_ (fun hHeld=>?_);(focus ((try dsimp only);(exact EX)));refine rT 0 3 (h:=?_);refine rT 1 4 (h:=?_);refine rT 3 6 (h:=?_);refine rT 4 7 (h:=?_);refine rT 6 9 (h:=?_);refine rT 7 10 (h:=?_);refine rT 9 12 (h:=?_);refine rT 10 13 (h:=?_);refine rT 11 14 (h:=?_);refine rT 12 15 (h:=?_);refine rT 14 17 (h:=?_);refine rT 15 18 (h:=?_);refine wpAnyH_ready (rs:=[2]) (by kernel_rfl) (by simp) ?_;refine AllReadyH.cons rfl (fun K hK=>?_) ?_;rotate_left;(focus exact AllReadyH.nil);go_simp;(first|(go_at_call 123;apply Calls.mono;apply GH;(apply Rs.A8 m1;(exact AO));(exact Bu);rintro E wL ⟨AL,cL,rfl,nk,hb⟩;obtain⟨hc,hf,hz⟩:=xy hb)|(go_at_call 86;apply Calls.mono;apply Bj;(apply Rs.A8 m2;(exact AO));(exact Bu);rintro E wP ⟨AP,cP,rfl,LK,hb⟩;obtain⟨hc,hf,hz⟩:=xy hb)|(apply BM IZ FX rfl rfl rfl rfl;(first|apply Ow.nil|refine Ow.new [] (by (first|rfl|(simp only[BO];done)|omega)) rfl rfl (fun _=>rfl) (Nat.le_refl _) (by omega));(apply Rs.A8 m3;exact AO);omega;(first|exact Nat.le_refl _|exact Aq);intro AD cD wD Ki TI TK Oh Iq;have hbx:=Oh (· = (w.heap.size+1)) W0 (Au.ch (by assumption:Au (w.heap.size+1) 6 W0 _)) (by exact Aq);have IY:=Lb.low Iq (by have:=JR.lt;exact Aq) (Au.lb (by assumption:Au (w.heap.size+1) 6 W0 _));have WG:=TI.size;have qy:=Lib.hid (And.intro WG Iq);(try simp only[BO] at WG);clear Oh Iq TK)|(go_at_call 86;apply Calls.mono;apply Bj;(apply Rs.A8 m4;(exact AO));(exact Bu);rintro E wN ⟨AN,cN,rfl,ni,hb⟩;obtain⟨hc,hf,hz⟩:=xy hb)|(go_at_call 86;apply Calls.mono;apply Bj;(apply Rs.A8 m5;(exact AO));(exact Bu);rintro E wS ⟨AS,cS,rfl,ng,hb⟩;obtain⟨hc,hf,hz⟩:=xy hb));(try go_wp2_with fail);refine hK.out _ _ ?_ (fun hHeld=>?_);(focus ((try dsimp only);(exact EX)));clear hK K;(try simp only[Act.put,DN]);refine wpAnyH_ready (rs:=[5]) (by kernel_rfl) (by simp) ?_;refine AllReadyH.cons rfl (fun K hK=>?_) ?_;rotate_left;(focus exact AllReadyH.nil);go_simp;(first|(go_at_call 123;apply Calls.mono;apply GH;(apply Rs.A8 m1;(exact AO));(exact Bu);rintro E wL ⟨AL,cL,rfl,nk,hb⟩;obtain⟨hc,hf,hz⟩:=xy hb)|(go_at_call 86;apply Calls.mono;apply Bj;(apply Rs.A8 m2;(exact AO));(exact Bu);rintro E wP ⟨AP,cP,rfl,LK,hb⟩;obtain⟨hc,hf,hz⟩:=xy hb)|(apply BM IZ FX rfl rfl rfl rfl;(first|apply Ow.nil|refine Ow.new [] (by (first|rfl|(simp only[BO];done)|omega)) rfl rfl (fun _=>rfl) (Nat.le_refl _) (by omega));(apply Rs.A8 m3;exact AO);omega;(first|exact Nat.le_refl _|exact Aq);intro AD cD wD Ki TI TK Oh Iq;have hbx:=Oh (· = (w.heap.size+1)) W0 (Au.ch (by assumption:Au (w.heap.size+1) 6 W0 _)) (by exact Aq);have IY:=Lb.low Iq (by have:=JR.lt;exact Aq) (Au.lb (by assumption:Au (w.heap.size+1) 6 W0 _));have WG:=TI.size;have qy:=Lib.hid (And.intro WG Iq);(try simp only[BO] at WG);clear Oh Iq TK)|(go_at_call 86;apply Calls.mono;apply Bj;(apply Rs.A8 m4;(exact AO));(exact Bu);rintro E wN ⟨AN,cN,rfl,ni,hb⟩;obtain⟨hc,hf,hz⟩:=xy hb)|(go_at_call 86;apply Calls.mono;apply Bj;(apply Rs.A8 m5;(exact AO));(exact Bu);rintro E wS ⟨AS,cS,rfl,ng,hb⟩;obtain⟨hc,hf,hz⟩:=xy hb));(try go_wp2_with fail);refine hK.out _ _ ?_ (fun hHeld=>?_);(focus ((try dsimp only);(exact EX)));clear hK K;(try simp only[Act.put,DN]);refine wpAnyH_ready (rs:=[8]) (by kernel_rfl) (by simp) ?_;refine AllReadyH.cons rfl (fun K hK=>?_) ?_;rotate_left;(focus exact AllReadyH.nil);(first|(go_at_call 123;apply Calls.mono;apply GH;(apply Rs.A8 m1;(exact AO));(exact Bu);rintro E wL ⟨AL,cL,rfl,nk,hb⟩;obtain⟨hc,hf,hz⟩:=xy hb)|(go_at_call 86;apply Calls.mono;apply Bj;(apply Rs.A8 m2;(exact AO));(exact Bu);rintro E wP ⟨AP,cP,rfl,LK,hb⟩;obtain⟨hc,hf,hz⟩:=xy hb)|(apply BM IZ FX rfl rfl rfl rfl;(first|apply Ow.nil|refine Ow.new [] (by (first|rfl|(simp only[BO];done)|omega)) rfl rfl (fun _=>rfl) (Nat.le_refl _) (by omega));(apply Rs.A8 m3;exact AO);omega;(first|exact Nat.le_refl _|exact Aq);intro AD cD wD Ki TI TK Oh Iq;have hbx:=Oh (· = (w.heap.size+1)) W0 (Au.ch (by assumption:Au (w.heap.size+1) 6 W0 _)) (by exact Aq);have IY:=Lb.low Iq (by have:=JR.lt;exact Aq) (Au.lb (by assumption:Au (w.heap.size+1) 6 W0 _));have WG:=TI.size;have qy:=Lib.hid (And.intro WG Iq);(try simp only[BO] at WG);clear Oh Iq TK)|(go_at_call 86;apply Calls.mono;apply Bj;(apply Rs.A8 m4;(exact AO));(exact Bu);rintro E wN ⟨AN,cN,rfl,ni,hb⟩;obtain⟨hc,hf,hz⟩:=xy hb)|(go_at_call 86;apply Calls.mono;apply Bj;(apply Rs.A8 m5;(exact AO));(exact Bu);rintro E wS ⟨AS,cS,rfl,ng,hb⟩;obtain⟨hc,hf,hz⟩:=xy hb));(try simp only[Act.put,DN]);refine hK.out _ _ ?_ (fun hHeld=>?_);(focus ((try dsimp only);(exact EX)));clear hK K;(try simp only[Act.put,DN]);refine wpAnyH_ready (rs:=[13]) (by kernel_rfl) (by simp) ?_;refine AllReadyH.cons rfl (fun K hK=>?_) ?_;rotate_left;(focus exact AllReadyH.nil);go_simp;(first|(go_at_call 123;apply Calls.mono;apply GH;(apply Rs.A8 m1;(exact AO));(exact Bu);rintro E wL ⟨AL,cL,rfl,nk,hb⟩;obtain⟨hc,hf,hz⟩:=xy hb)|(go_at_call 86;apply Calls.mono;apply Bj;(apply Rs.A8 m2;(exact AO));(exact Bu);rintro E wP ⟨AP,cP,rfl,LK,hb⟩;obtain⟨hc,hf,hz⟩:=xy hb)|(apply BM IZ FX rfl rfl rfl rfl;(first|apply Ow.nil|refine Ow.new [] (by (first|rfl|(simp only[BO];done)|omega)) rfl rfl (fun _=>rfl) (Nat.le_refl _) (by omega));(apply Rs.A8 m3;exact AO);omega;(first|exact Nat.le_refl _|exact Aq);intro AD cD wD Ki TI TK Oh Iq;have hbx:=Oh (· = (w.heap.size+1)) W0 (Au.ch (by assumption:Au (w.heap.size+1) 6 W0 _)) (by exact Aq);have IY:=Lb.low Iq (by have:=JR.lt;exact Aq) (Au.lb (by assumption:Au (w.heap.size+1) 6 W0 _));have WG:=TI.size;have qy:=Lib.hid (And.intro WG Iq);(try simp only[BO] at WG);clear Oh Iq TK)|(go_at_call 86;apply Calls.mono;apply Bj;(apply Rs.A8 m4;(exact AO));(exact Bu);rintro E wN ⟨AN,cN,rfl,ni,hb⟩;obtain⟨hc,hf,hz⟩:=xy hb)|(go_at_call 86;apply Calls.mono;apply Bj;(apply Rs.A8 m5;(exact AO));(exact Bu);rintro E wS ⟨AS,cS,rfl,ng,hb⟩;obtain⟨hc,hf,hz⟩:=xy hb));(try go_wp2_with fail);refine hK.out _ _ ?_ (fun hHeld=>?_);(focus ((try dsimp only);(exact EX)));clear hK K;(try simp only[Act.put,DN]);refine wpAnyH_ready (rs:=[16]) (by kernel_rfl) (by simp) ?_;refine AllReadyH.cons rfl (fun K hK=>?_) ?_;rotate_left;(focus exact AllReadyH.nil);go_simp;(first|(go_at_call 123;apply Calls.mono;apply GH;(apply Rs.A8 m1;(exact AO));(exact Bu);rintro E wL ⟨AL,cL,rfl,nk,hb⟩;obtain⟨hc,hf,hz⟩:=xy hb)|(go_at_call 86;apply Calls.mono;apply Bj;(apply Rs.A8 m2;(exact AO));(exact Bu);rintro E wP ⟨AP,cP,rfl,LK,hb⟩;obtain⟨hc,hf,hz⟩:=xy hb)|(apply BM IZ FX rfl rfl rfl rfl;(first|apply Ow.nil|refine Ow.new [] (by (first|rfl|(simp only[BO];done)|omega)) rfl rfl (fun _=>rfl) (Nat.le_refl _) (by omega));(apply Rs.A8 m3;exact AO);omega;(first|exact Nat.le_refl _|exact Aq);intro AD cD wD Ki TI TK Oh Iq;have hbx:=Oh (· = (w.heap.size+1)) W0 (Au.ch (by assumption:Au (w.heap.size+1) 6 W0 _)) (by exact Aq);have IY:=Lb.low Iq (by have:=JR.lt;exact Aq) (Au.lb (by assumption:Au (w.heap.size+1) 6 W0 _));have WG:=TI.size;have qy:=Lib.hid (And.intro WG Iq);(try simp only[BO] at WG);clear Oh Iq TK)|(go_at_call 86;apply Calls.mono;apply Bj;(apply Rs.A8 m4;(exact AO));(exact Bu);rintro E wN ⟨AN,cN,rfl,ni,hb⟩;obtain⟨hc,hf,hz⟩:=xy hb)|(go_at_call 86;apply Calls.mono;apply Bj;(apply Rs.A8 m5;(exact AO));(exact Bu);rintro E wS ⟨AS,cS,rfl,ng,hb⟩;obtain⟨hc,hf,hz⟩:=xy hb));(try go_wp2_with fail);refine hK.out _ _ ?_ (fun hHeld=>?_);(focus ((try dsimp only);(exact EX)));clear hK K;(try simp only[Act.put,DN]);refine rT 17 20 (h:=?_);refine wpAnyH_ready (rs:=[18]) (by kernel_rfl) (by simp) ?_;refine AllReadyH.cons rfl (fun K hK=>?_) ?_;rotate_left;(focus exact AllReadyH.nil);have hb:=Au.ch hHeld;obtain⟨hc,hf,hz⟩:=xd hb;have JQ:=Au.lb hHeld;obtain⟨hcx,hfx⟩:=Lb.rules JQ;go_simp;refine hK.out _ _ ?_ (fun FZ=>?_);(focus ((try dsimp only);(exact EX)));clear hK K hHeld hcx hfx JQ;have CJ:=Au.lb FZ;(repeat (first|with_reducible replace CJ:=Lb.G_ CJ|with_reducible replace CJ:=Lb.Fy CJ));obtain⟨hcb,M6⟩:=Lb.rules CJ;have hbf:=Au.ch FZ;clear FZ;(try simp only[Act.put,DN]);refine wpAnyH_done (by kernel_rfl) ?_ _)
 go_wp2
 simp only[Nat.zero_add,List.nil_append] at Ki
 refine bodyPost_ret (v:=.agg #[.slice AL AU cL,.slice AP AY cP,.slice AD AQ cD,.int .i64 m.clock,.slice AN Aa cN,.slice AS Ab cS]) (by simp[results,Tryz.results69,go_sem, *]) rfl ?_
 refine⟨_,_,_,_,_,_,_,_,_,_,_,_,_,_,_,glue (fun _=>1) wL.heap.size (glue (fun _=>2) wP.heap.size (glue (fun _=>3) wD.heap.size (glue (fun _=>4) wN.heap.size (fun _=>5)))),rfl,?_,AA⟩
 refine Cn.build nk LK Ki ni ng ?_ ?_ ?_ ?_ ?_ ?_ ?_ ?_ ?_ ?_ ?_ ?_ ?_ ?_
 all_goals first|exact Aq|(repeat (first|(with_reducible exact kR _ _)|(with_reducible apply kA)|(with_reducible apply kD)|(with_reducible apply kN)|(with_reducible refine kS ?_ (by first|omega|(simp only[BO];omega)))|(with_reducible (apply kE;assumption))|(refine kL qy.out ?_ (by exact Aq))))
def SG (g lo:Nat) (τ:Nat→Nat):Nat→Prop:=fun b=>b=g∨SM lo τ b
theorem Q6 (g o:Nat) (aL:Option Addr) (Ae AU:Nat) (aP:Option Addr) (Ag AY:Nat) (aD:Option Addr) (Ac AQ:Nat) (aN:Option Addr) (Ad Aa:Nat) (aS:Option Addr) (Af Ab:Nat) (t:Int) (w:World) (hA:Cs w g o aL Ae AU aP Ag AY aD Ac AQ aN Ad Aa aS Af Ab t) (ht:t=99999):Calls Tryz.prog 89 #[.pointer (some ⟨g,o,none⟩)] w fun E w'=>E=.returned (.bool false)∧Ex w w':=by
 subst ht
 obtain⟨k0,k1,k2,k3,k4,k5,k6,kf⟩:=hA
 go_enter Tryz.func89,Tryz.ntmps89
 go_wp2_with fail
 go_ret
 exact⟨rfl,AA⟩
theorem dQ (g o n:Nat) (aL:Option Addr) (Ae AU:Nat) (aP:Option Addr) (Ag AY:Nat) (aD:Option Addr) (Ac AQ:Nat) (aN:Option Addr) (Ad Aa:Nat) (aS:Option Addr) (Af Ab:Nat) (m:Sw.CV) (lo:Nat) (τ:Nat→Nat) (w:World) (hA:Cs w g o aL Ae AU aP Ag AY aD Ac AQ aN Ad Aa aS Af Ab m.clock) (hL:Lb w g n) (hM:Cn τ w lo aL Ae AU aP Ag AY aD Ac AQ aN Ad Aa aS Af Ab m) (hg:τ g=0) (eu:0≤m.clock) (eZ:m.clock<99999) (hn:AQ≤4194304) (hp:AY≤4194304) (hlo:lo≤w.heap.size):Calls Tryz.prog 89 #[.pointer (some ⟨g,o,none⟩)] w fun E w'=>∃ A c,∃ τ':Nat→Nat,E=.returned (.bool true)∧Cs w' g o aL Ae AU A c AY aD Ac AQ aN Ad Aa aS Af Ab (m.clock+1)∧Lb w' g n∧Cn τ' w' lo aL Ae AU A c AY aD Ac AQ aN Ad Aa aS Af Ab (Sw.tick m)∧(∀ b,b<w.heap.size→τ' b=τ b)∧(∀ i,i<o∨o+6≤i→w'.cell? ⟨g,i,none⟩=w.cell? ⟨g,i,none⟩)∧Ch (SG g lo τ) w w':=by
 have l3:=Lib.hid hM.AJ.ow.1
 have hgl:=hA.lt
 have ABW:(m.clock==99999)=false:=by rw[beq_eq_false_iff_ne];omega
 obtain⟨k0,k1,k2,k3,k4,k5,k6,kf⟩:=hA
 have hA:Cs w g o aL Ae AU aP Ag AY aD Ac AQ aN Ad Aa aS Af Ab m.clock:=⟨k0,k1,k2,k3,k4,k5,k6,kf⟩
 go_enter Tryz.func89,Tryz.ntmps89
 go_wp2_with fail
 go_loopw [22] (fun i wr=>∃ (k:Nat) (B:Option Addr) (d:Nat) (τr:Nat→Nat),k≤AQ∧i=.int .i64 k∧Ch (SG g lo τ) w wr∧(∀ b,b<w.heap.size→τr b=τ b) ∧
  Cs wr g o aL Ae AU B d AY aD Ac AQ aN Ad Aa aS Af Ab (m.clock+1)∧w.heap.size≤wr.heap.size∧Lb wr g n∧(∀ i,i<o∨o+6≤i→wr.cell? ⟨g,i,none⟩=w.cell? ⟨g,i,none⟩) ∧
  Cn τr wr lo aL Ae AU B d AY aD Ac AQ aN Ad Aa aS Af Ab (E_ m k)) (fun i _=>AQ-(intOf i).toNat)
 case atStart=>
  have hgx:SG g lo τ g∨w.heap.size≤g:=Or.inl (Or.inl rfl)
  refine⟨0,aP,Ag,τ,Nat.zero_le _,rfl,(by (with_reducible repeat (first|exact cR _ _|apply cA|apply cD|apply cN|(refine cS ?_ (Or.inr (by first|omega|(simp only[BO];omega))) _)|(refine cS ?_ hgx _)|(apply cE;assumption)|(apply cK;assumption)))),fun _ _=>rfl,hA.si _,by exact Aq,(by exact Dw),?_,?_⟩
  ·intro i hi
   exact World.cell?_setCell_other _ _ _ _ (fun e=>by injection e;omega)
  ·refine Cn.keep (m:=E_ m 0) (Cn.XT hM _) fun t h1 h5=>?_
   have hnt:τ g≠t:=by rw[hg];omega
   (with_reducible repeat (first|exact tR _ _ _ _|apply tA|apply tD|apply tN|(apply tE;assumption)|(refine tS ?_ (by first|exact Or.inl (by first|omega|(simp only[BO];omega))|exact Or.inr (by rw[hnt];decide)|exact Or.inr hnt))))
 case round=>
  obtain⟨k,B,d,τr,hk,rfl,hb2,hτ,hmk,hsz,Fu,hout,ho⟩:=hrel
  clear hA hM k0 k1 k2 k3 k4 k5 k6 kf
  obtain⟨k0,k1,k2,k3,k4,k5,k6,kf⟩:=hmk
  have hmk:Cs wr g o aL Ae AU B d AY aD Ac AQ aN Ad Aa aS Af Ab (m.clock+1):=⟨k0,k1,k2,k3,k4,k5,k6,kf⟩
  have Hτ:=Lib.hid hτ
  have gQ:=Lib.hid hout
  clear hτ hout
  have h0:τr g=0:=(Hτ.out g hgl).trans hg
  by_cases hlt:k<AQ
  ·obtain⟨y,hy⟩:∃ y,m.AJ[k]?=some y:=⟨_,List.getElem?_eq_getElem (by have:=l3.out;omega)⟩
   have hyb:=MW (clock:=m.clock+1) hy
   obtain⟨gD,x,pI,R4,Ur,hx,q0,q1,q2,q3,q4,hfz⟩:=MX ho.AJ.ow hlt
   obtain rfl:x=y:=by rw[show (E_ m k).AJ=Je (m.clock+1) m.AJ k from rfl,hyb] at hx;exact (Option.some.inj hx).symm
   subst pI
   have HX:=Lib.hid hx
   have HY:=Lib.hid hy
   clear hx hy hyb
   have tD:τr gD=3:=ho.AJ.tag _ rfl
   have hne:gD≠g:=by rintro rfl;rw[h0] at tD;cases tD
   by_cases hh:0<x.BN∧x.due<m.clock+1
   case neg=>
    have e:E_ m (k+1)=E_ m k:=by
     unfold E_
     rw[JF HY.out,XW hh,Rm HY.out (Z6 hh)]
    have He:=Lib.hid e;clear e
    by_cases hb1:0<x.BN
    ·have jZ:¬x.due<m.clock+1:=fun h=>hh ⟨hb1,h⟩
     have hd:Sw.held x=true:=by simp[Sw.held,hb1]
     clear hh
     go_wp2_with fail
     (refine CF fun W0 hb0 hc0 hf0 hz0=>?_;refine wp_region_held_drew (S:=fun w'=>Held W0 w') (by kernel_rfl) ?_ (fun hHeld=>?_);(focus ((try dsimp only);(exact FU)));refine rT 0 27 (h:=?_);refine wpAnyH_ready (rs:=[1]) (by kernel_rfl) (by simp) ?_;refine AllReadyH.cons rfl (fun K hK=>?_) ?_;rotate_left;(focus exact AllReadyH.nil);go_simp;(go_at_call 120;apply Calls.mono;apply (F7 x);rintro E w1 ⟨rfl,hb⟩;rw[hd];obtain⟨hc,hf,hz⟩:=xy hb);(try go_wp2_with fail);refine hK.out _ _ ?_ (fun hHeld=>?_);(focus ((try dsimp only);(exact FU)));clear hK K;(try simp only[Act.put,DN]);refine rT 2 29 (h:=?_);refine rT 3 30 (h:=?_);refine rT 4 31 (h:=?_);refine rT 5 32 (h:=?_);refine rT 6 33 (h:=?_);refine rT 7 34 (h:=?_);refine rT 8 35 (h:=?_);refine rT 9 36 (h:=?_);refine rT 10 37 (h:=?_);refine wpAnyH_done (by kernel_rfl) ?_ _;all_goals (obtain⟨hb,hc,hf,hz⟩:=xh (by assumption:Held W0 _)))
     all_goals go_wp2
     go_roundw
     case rel=>
      exact⟨k+1,B,d,τr,by omega,by go_num,(by (exact AA)),Hτ.out,hmk.keep (by (exact AO)),by exact Aq,(by exact Dw),fun i hi=>(World.cell?_of_block (w:=wr) (a:=⟨g,i,none⟩) (show w1.heap[g]?=wr.heap[g]? from (by exact (KF.block (by (exact AO):KF 0 wr w1) g (Nat.zero_le _) (by omega))))).trans (gQ.out i hi),by rw[He.out];exact ho.Av (by (exact AO))⟩
     case measure=>simp[intOf];omega
    ·have hd:Sw.held x=false:=by simp[Sw.held];omega
     clear hh
     go_wp2_with fail
     (refine CF fun W0 hb0 hc0 hf0 hz0=>?_;refine wp_region_held_drew (S:=fun w'=>Held W0 w') (by kernel_rfl) ?_ (fun hHeld=>?_);(focus ((try dsimp only);(exact FU)));refine rT 0 27 (h:=?_);refine wpAnyH_ready (rs:=[1]) (by kernel_rfl) (by simp) ?_;refine AllReadyH.cons rfl (fun K hK=>?_) ?_;rotate_left;(focus exact AllReadyH.nil);go_simp;(go_at_call 120;apply Calls.mono;apply (F7 x);rintro E w1 ⟨rfl,hb⟩;rw[hd];obtain⟨hc,hf,hz⟩:=xy hb);(try go_wp2_with fail);refine hK.out _ _ ?_ (fun hHeld=>?_);(focus ((try dsimp only);(exact FU)));clear hK K;(try simp only[Act.put,DN]);refine rT 2 29 (h:=?_);refine EP 3 30 rfl rfl (by kernel_rfl) (by kernel_rfl) (by kernel_rfl) (fun _ _ _ h=>h) (by rfl) (by assumption) ?_;(try simp only[Act.put,DN]);refine EP 4 31 rfl rfl (by kernel_rfl) (by kernel_rfl) (by kernel_rfl) (fun _ _ _ h=>h) (by rfl) (by assumption) ?_;(try simp only[Act.put,DN]);refine EP 5 32 rfl rfl (by kernel_rfl) (by kernel_rfl) (by kernel_rfl) (fun _ _ _ h=>h) (by rfl) (by assumption) ?_;(try simp only[Act.put,DN]);refine EP 6 33 rfl rfl (by kernel_rfl) (by kernel_rfl) (by kernel_rfl) (fun _ _ _ h=>h) (by rfl) (by assumption) ?_;(try simp only[Act.put,DN]);refine EP 7 34 rfl rfl (by kernel_rfl) (by kernel_rfl) (by kernel_rfl) (fun _ _ _ h=>h) (by rfl) (by assumption) ?_;(try simp only[Act.put,DN]);refine EP 8 35 rfl rfl (by kernel_rfl) (by kernel_rfl) (by kernel_rfl) (fun _ _ _ h=>h) (by rfl) (by assumption) ?_;(try simp only[Act.put,DN]);refine EP 9 36 rfl rfl (by kernel_rfl) (by kernel_rfl) (by kernel_rfl) (fun _ _ _ h=>h) (by rfl) (by assumption) ?_;(try simp only[Act.put,DN]);refine rT 10 37 (h:=?_);refine wpAnyH_done (by kernel_rfl) ?_ _;all_goals (obtain⟨hb,hc,hf,hz⟩:=xh (by assumption:Held W0 _)))
     all_goals go_wp2
     go_roundw
     case rel=>
      exact⟨k+1,B,d,τr,by omega,by go_num,(by (exact AA)),Hτ.out,hmk.keep (by (exact AO)),by exact Aq,(by exact Dw),fun i hi=>(World.cell?_of_block (w:=wr) (a:=⟨g,i,none⟩) (show w1.heap[g]?=wr.heap[g]? from (by exact (KF.block (by (exact AO):KF 0 wr w1) g (Nat.zero_le _) (by omega))))).trans (gQ.out i hi),by rw[He.out];exact ho.Av (by (exact AO))⟩
     case measure=>simp[intOf];omega
   case pos=>
    obtain⟨hb1,jZ⟩:=hh
    have hd:Sw.held x=true:=by simp[Sw.held,hb1]
    have e:E_ m (k+1)=⟨m.log,Sw.Dy (E_ m k).Ai x.BN x.Al,(E_ m k).AJ.set k { x with BN:=0,due:=0 },m.clock+1,m.nums,m.said⟩:=by
     unfold E_
     dsimp only
     rw[JF HY.out,XU hb1 jZ,← OP HY.out,Z5 hb1 jZ]
    have He:=Lib.hid e;clear e
    go_wp2_with fail
    (refine CF fun W0 hb0 hc0 hf0 hz0=>?_;refine wp_region_held_drew (S:=fun w'=>Held W0 w') (by kernel_rfl) ?_ (fun hHeld=>?_);(focus ((try dsimp only);(exact FU)));refine rT 0 27 (h:=?_);refine wpAnyH_ready (rs:=[1]) (by kernel_rfl) (by simp) ?_;refine AllReadyH.cons rfl (fun K hK=>?_) ?_;rotate_left;(focus exact AllReadyH.nil);go_simp;(go_at_call 120;apply Calls.mono;apply (F7 x);rintro E w1 ⟨rfl,hb⟩;rw[hd];obtain⟨hc,hf,hz⟩:=xy hb);(try go_wp2_with fail);refine hK.out _ _ ?_ (fun hHeld=>?_);(focus ((try dsimp only);(exact FU)));clear hK K;(try simp only[Act.put,DN]);refine rT 2 29 (h:=?_);refine rT 3 30 (h:=?_);refine rT 4 31 (h:=?_);refine rT 5 32 (h:=?_);refine rT 6 33 (h:=?_);refine rT 7 34 (h:=?_);refine rT 8 35 (h:=?_);refine rT 9 36 (h:=?_);refine rT 10 37 (h:=?_);refine wpAnyH_done (by kernel_rfl) ?_ _;all_goals (obtain⟨hb,hc,hf,hz⟩:=xh (by assumption:Held W0 _)))
    all_goals go_wp2
    have hLD:=ho.AJ.ow.rG
    (refine CF fun W0 hb0 hc0 hf0 hz0=>?_;have JR:Lb W0 (g) n:=Lb.ex (by exact Dw) hb0;refine wp_region_held_drew (S:=fun w'=>Au (g) n W0 w') (by kernel_rfl) ?_ (fun hHeld=>?_);(focus ((try dsimp only);(exact EX)));refine rT 0 39 (h:=?_);refine rT 1 40 (h:=?_);refine rT 2 41 (h:=?_);refine rT 3 42 (h:=?_);refine rT 5 44 (h:=?_);refine rT 6 45 (h:=?_);refine rT 7 46 (h:=?_);refine rT 8 47 (h:=?_);refine wpAnyH_ready (rs:=[4]) (by kernel_rfl) (by simp) ?_;refine AllReadyH.cons rfl (fun K hK=>?_) ?_;rotate_left;(focus exact AllReadyH.nil);go_simp;refine hK.out _ _ ?_ (fun hHeld=>?_);(focus ((try dsimp only);(exact EX)));clear hK K;(try simp only[Act.put,DN]);refine wpAnyH_ready (rs:=[9]) (by kernel_rfl) (by simp) ?_;refine AllReadyH.cons rfl (fun K hK=>?_) ?_;rotate_left;(focus exact AllReadyH.nil);go_simp;(go_at_call 137;apply Calls.mono;apply F6;(apply Rs.A8 ho.Ai.rs;(exact AO));omega;rintro E w3 ⟨A3,c3,rfl,ho3,hb⟩;have hb3:=hb;obtain⟨hc,hf,hz⟩:=xy hb);(try go_wp2_with fail);refine hK.out _ _ ?_ (fun hHeld=>?_);(focus ((try dsimp only);(exact EX)));clear hK K;(try simp only[Act.put,DN]);refine rT 10 38 (h:=?_);refine rT 11 49 (h:=?_);refine rT 12 50 (h:=?_);refine rT 13 51 (h:=?_);refine rT 14 52 (h:=?_);refine wpAnyH_ready (rs:=[15]) (by kernel_rfl) (by simp) ?_;refine AllReadyH.cons rfl (fun K hK=>?_) ?_;rotate_left;(focus exact AllReadyH.nil);have hb:=Au.ch hHeld;obtain⟨hc,hf,hz⟩:=xd hb;have JQ:=Au.lb hHeld;obtain⟨hcx,hfx⟩:=Lb.rules JQ;go_simp;refine hK.out _ _ ?_ (fun FZ=>?_);(focus ((try dsimp only);(exact EX)));clear hK K hHeld hcx hfx JQ;have CJ:=Au.lb FZ;(repeat (first|with_reducible replace CJ:=Lb.G_ CJ|with_reducible replace CJ:=Lb.Fy CJ));obtain⟨hcb,M6⟩:=Lb.rules CJ;have hbf:=Au.ch FZ;clear FZ;(try simp only[Act.put,DN]);refine wpAnyH_done (by kernel_rfl) ?_ _)
    all_goals go_wp2
    have hex:Ex wr w3:=AA
    (refine CF fun W0 hb0 hc0 hf0 hz0=>?_;have JR:Lb W0 (gD) (Ac*5):=Lb.ex (by exact Dw) hb0;go_region_held3 (fun w'=>Au (gD) (Ac*5) W0 w') ((exact EX)) (fail);all_goals (rename Au (gD) (Ac*5) W0 _=>FZ;have hb:=Au.ch FZ;obtain⟨hc,hf,hz⟩:=xd hb;have CJ:=Au.lb FZ;(repeat (first|with_reducible replace CJ:=Lb.G_ CJ|with_reducible replace CJ:=Lb.Fy CJ));obtain⟨hcb,M6⟩:=Lb.rules CJ;clear FZ))
    all_goals go_wp2
    have eH:SG g lo τ g∨w.heap.size≤g:=Or.inl (Or.inl rfl)
    have Ya:SG g lo τ gD∨w.heap.size≤gD:=by
     by_cases oJ:gD<w.heap.size
     ·exact .inl (.inr ⟨R4,by rw[← Hτ.out gD oJ,tD];omega,by rw[← Hτ.out gD oJ,tD];omega⟩)
     ·exact .inr (by omega)
    have tV:KF 0 wr w3:=by (exact AO)
    have yN:KF 0 (w3.setCell ⟨g,o+1,none⟩ (.slice A3 AY c3)) W0:=by (exact AO)
    have hcx:Ch (SG g lo τ) w w3:=(by (exact AA))
    have hcy:Ch (SG g lo τ) w W0:=cE (by assumption) (cS hcx eH _)
    have kP:∀ i j:Nat,(⟨gD,i,none⟩:Addr)≠⟨g,j,none⟩:=fun i j e=>hne (by injection e)
    refine⟨⟨k+1,A3,c3,glue τr wr.heap.size (fun _=>2),by omega,by go_num,cD (cS (cS hcy Ya _) Ya _),fun b hb=>(if_pos (by omega)).trans (Hτ.out b hb),?_,by exact Aq,(by exact Dw),?_,?_⟩,by simp[intOf];omega⟩
    ·exact (((((hmk.keep tV).iq A3 AY c3).keep yN).other _ hne).other _ hne).drew
    ·intro i hi
     refine (World.cell?_setCell_other _ _ _ _ (kP _ _)).trans ?_
     refine (World.cell?_setCell_other _ _ _ _ (kP _ _)).trans ?_
     refine (World.cell?_of_block (a:=⟨g,i,none⟩) (yN.block g (Nat.zero_le _) (by simp only[World.setCell,Array.size_modify];have:=tV.size;omega))).trans ?_
     refine (World.cell?_setCell_other _ _ _ _ (fun e=>by injection e;omega)).trans ?_
     exact (World.cell?_of_block (a:=⟨g,i,none⟩) (tV.block g (Nat.zero_le _) (by omega))).trans (gQ.out i hi)
    ·rw[He.out]
     exact (Cn.backed ho hex (by assumption) (ho3.less (by exact Aq)) h0 (by omega) (MW HY.out) (by omega)).Av (by (exact AO))
  ·go_wp2_with fail
   go_ret
   obtain rfl:k=AQ:=by omega
   refine⟨B,d,τr,rfl,hmk,Fu,?_,Hτ.out,gQ.out,hb2⟩
   rw[← Qe (Nat.le_of_eq l3.out.symm)]
   exact ho
end Go.Proofs.YtgaflnpmilikcaaGreat
