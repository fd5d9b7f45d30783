/- Texts joined: DrawB. -/
import Derived.Test.YtgaflnpmilikcaaGreatPx37
set_option maxRecDepth 100000
set_option linter.unusedSimpArgs false
set_option linter.unusedVariables false
namespace Go.Proofs.YtgaflnpmilikcaaGreat
open Go.RowKit Go
set_option maxHeartbeats 4000000
def bM (v:Nat) (a b c d:Int):Int:=if v=0 then a else if v=1 then b else if v=2 then c else d
theorem R7 {v:Nat} (h:v<4) (W:World) (a b c d:Int) (T:TypeId):(W.alloc (.cells #[.int .i64 a,.int .i64 b,.int .i64 c,.int .i64 d] T)).cell? ⟨W.heap.size,v,none⟩=some (.int .i64 (bM v a b c d)):=by
 rcases (by omega:v=0∨v=1∨v=2∨v=3) with rfl|rfl|rfl|rfl <;> simp[go_sem,bM]
theorem Cn.jB {aL aP aD aS:Option Addr} {Ae AU Ag AY Ac AQ Ad Aa Af Ab:Nat} {m:Sw.CV} {τ:Nat→Nat} {w:World} {lo gN k:Nat} (h:Cn τ w lo aL Ae AU aP Ag AY aD Ac AQ (some ⟨gN,0,none⟩) Ad Aa aS Af Ab m) (hn:k<m.nums.length) (a:Int) :
  Cn τ (w.setCell ⟨gN,k,none⟩ (.int .i64 a)) lo aL Ae AU aP Ag AY aD Ac AQ (some ⟨gN,0,none⟩) Ad Aa aS Af Ab { m with nums:=m.nums.set k a }:=by
 have tN:τ gN=4:=h.nums.tag _ rfl
 have K:∀ t,t≠4→KT τ t lo w (w.setCell ⟨gN,k,none⟩ (.int .i64 a)):=fun t h4=>(KT.refl _ _ _ _).setCell (.inr (by show τ gN≠t;rw[tN];exact Ne.symm h4))
 refine⟨h.log.keep (K 1 (by decide)),h.Ai.keep (K 2 (by decide)),h.AJ.keep (K 3 (by decide)),⟨?_,h.nums.tag⟩,h.said.keep (K 5 (by decide))⟩
 have h1:=Ow.set h.nums.ow (fun _=>rfl) (k:=k) (j:=0) (u:=.int .i64 a) rfl (List.getElem?_eq_getElem hn) (by omega) (y:=a) rfl
 simpa only [Nat.mul_one,Nat.add_zero] using h1
theorem Cn.bQ {aL aP aD aN:Option Addr} {Ae AU Ag AY Ac AQ Ad Aa Af Ab:Nat} {m:Sw.CV} {τ:Nat→Nat} {w:World} {lo gS k:Nat} (h:Cn τ w lo aL Ae AU aP Ag AY aD Ac AQ aN Ad Aa (some ⟨gS,0,none⟩) Af Ab m) (hn:k<m.said.length) (a:Int) :
  Cn τ (w.setCell ⟨gS,k,none⟩ (.int .i64 a)) lo aL Ae AU aP Ag AY aD Ac AQ aN Ad Aa (some ⟨gS,0,none⟩) Af Ab { m with said:=m.said.set k a }:=by
 have tN:τ gS=5:=h.said.tag _ rfl
 have K:∀ t,t≠5→KT τ t lo w (w.setCell ⟨gS,k,none⟩ (.int .i64 a)):=fun t h4=>(KT.refl _ _ _ _).setCell (.inr (by show τ gS≠t;rw[tN];exact Ne.symm h4))
 refine⟨h.log.keep (K 1 (by decide)),h.Ai.keep (K 2 (by decide)),h.AJ.keep (K 3 (by decide)),h.nums.keep (K 4 (by decide)),⟨?_,h.said.tag⟩⟩
 have h1:=Ow.set h.said.ow (fun _=>rfl) (k:=k) (j:=0) (u:=.int .i64 a) rfl (List.getElem?_eq_getElem hn) (by omega) (y:=a) rfl
 simpa only [Nat.mul_one,Nat.add_zero] using h1
theorem ZE (rb P:Nat) (aL:Option Addr) (Ae AU:Nat) (aP:Option Addr) (Ag AY:Nat) (aD:Option Addr) (Ac AQ:Nat) (aN:Option Addr) (Ad Aa:Nat) (aS:Option Addr) (Af Ab:Nat) (mk:Sw.CV) (w:World) (hr:Be w rb P) (hM:RM w (rb+1) aL Ae AU aP Ag AY aD Ac AQ aN Ad Aa aS Af Ab mk) (hn:AU+AY+AQ+Aa+Ab≤100) (zI:Aa=5) (hS5:Ab=5) (hP:P≤800000):Calls Tryz.prog 81 #[.pointer (some ⟨rb,0,none⟩),.agg #[.slice aL AU Ae,.slice aP AY Ag,.slice aD AQ Ac,.int .i64 mk.clock,.slice aN Aa Ad,.slice aS Ab Af]] w fun E w'=>∃ eL O7 NA eP O5 M_ eD O8 NC eN O6 eNn eS O4 M9 x,E=.returned (.agg #[.slice eL NA O7,.slice eP M_ O5,.slice eD NC O8,.int .i64 x.clock,.slice eN eNn O6,.slice eS M9 O4])∧RM w' w.heap.size eL O7 NA eP O5 M_ eD O8 NC eN O6 eNn eS O4 M9 x∧NA+M_+NC+eNn+M9≤110∧Be w' rb (P+60)∧Ch (· = rb) w w':=by
 have hlt:=hr.lt
 have zl:=Lib.hid zI
 have zi:=Lib.hid hS5
 clear zI hS5
 go_enter Tryz.func81,Tryz.ntmps81
 go_upto_region 2 with (go_at_call 95;apply Calls.mono;apply J3;(exact RM.A8 hM AO);omega;rintro E w1 ⟨dL,Ep,Ec,dP,Eo,Eg,dD,Er,Ed,dN,Ej,Eb,dS,Ei,Ea,τ,rfl,ho,hb⟩;obtain⟨hc,hf,hz⟩:=xy hb)
 (refine CF fun W0 hb0 hc0 hf0 hz0=>?_)
 have hA:Cs W0 w.heap.size 0 dL Ep Ec dP Eo Eg dD Er Ed dN Ej Eb dS Ei Ea mk.clock:=⟨Aq,Ak,Ak,Ak,Ak,Ak,Ak,fun i=>Ak⟩
 have hR:Lb W0 (w.heap.size+1) 6:=(by (exact Gd))
 have hO:Cn τ W0 (w.heap.size+2) dL Ep Ec dP Eo Eg dD Er Ed dN Ej Eb dS Ei Ea mk:=(ho.Av AO).less Aq
 have hlen:Ec+Eg+Ed+Eb+Ea≤100:=by
  have h1:=ho.rm.len
  have h2:=hM.len
  omega
 have HK:VI w W0 rb P:=⟨Be.keep hr (by (exact Cj)),AA⟩
 have E5:=Lib.hid (show Eb=5 from ho.nums.ow.1.trans (hM.nums.1.symm.trans zl.out))
 have S5:=Lib.hid (show Ea=5 from ho.said.ow.1.trans (hM.said.1.symm.trans zi.out))
 clear hb hc hf hz hb0 hc0 hf0 hz0 ho hr hM zl zi
 ((repeat (rename Ch _ _ _=>zz;clear zz));(repeat (rename Be _ _ _=>zz;clear zz));(repeat (rename (∀ (b o:Nat),¬((⟨b,0,none⟩:Addr)=⟨b-_+_,0,none⟩)→_)=>zz;clear zz)))
 have hrd:=HK.rd
 have hb:=HK.ch
 have rH:=hb.size
 have OU:=hO.rm
 have hOL:=hO.log.ow
 have wU:=hO.AJ.ow
 have hR2:=hR.lt
 obtain⟨k0,k1,k2,k3,k4,k5,k6,kf⟩:=hA
 simp only[Nat.zero_add] at k1 k2 k3 k4 k5 k6
 go_upto_block 0 with (go_at_call 37;apply Calls.mono;apply DU;(apply Be.keep;assumption;(exact Cj));(exact Bu);(exact Bu);rintro E w1 ⟨v,rfl,⟨hv0,hv1⟩,hrd,hb⟩;obtain⟨hc,hf,hz⟩:=xd hb)
 go_cut [] (fun wx=>∃ (eL:Option Addr) (O7 NA:Nat) (eP:Option Addr) (O5 M_:Nat) (eD:Option Addr) (O8 NC:Nat) (eN:Option Addr) (O6 eNn:Nat) (eS:Option Addr) (O4 M9:Nat) (x:Sw.CV),Cs wx w.heap.size 0 eL O7 NA eP O5 M_ eD O8 NC eN O6 eNn eS O4 M9 x.clock∧RM wx (w.heap.size+2) eL O7 NA eP O5 M_ eD O8 NC eN O6 eNn eS O4 M9 x∧NA+M_+NC+eNn+M9≤110∧Lb wx (w.heap.size+1) 6∧Be wx rb (P+50)∧Ch (· = rb) w wx)
 case first=>
  go_wp2_with (first|(go_at_call 37;apply Calls.mono;apply (JG (fun _=>True));(apply Be.keep;assumption;(exact Cj));omega;(first|rfl|(simp;done));(repeat (first|exact IM.nil|(refine IM.cons ⟨_,rfl,(by first|exact trivial|omega)⟩ ?_)));omega;(first|omega|(simp only[BO];omega));rintro E w1 ⟨v,x,rfl,hv,hq,hcx,hrd,hb⟩;(try simp only[BO] at hcx);obtain⟨hc,hf,hz⟩:=xd hb)|(go_at_call 82;apply Calls.mono;apply P9;(apply Be.keep;assumption;(exact Cj));(exact Bu);(exact Bu);(exact Bu);rintro E w1 ⟨A,c,m,xs,rfl,hps,hpl,hrd,hb⟩;obtain⟨hc,hf,hz⟩:=xd hb)|fail)
  ·(focus (refine CF fun W0 hb0 hc0 hf0 hz0=>?_;refine Aj [5,6,7] (S:=fun w'=>Ce rb W0 w') MQ (fun hHeld=>?_);(repeat' (first|refine Mc [] [] (h:=?_)|refine FQ [] [] hHeld (h:=?_)|refine Mo (fun K hK=>?_) ?_|refine FW (fun K hK=>?_) ?_|refine FV ?_|exact Cf|refine Mh (fun K hK=>?_) ?_|refine FT (fun K hK=>?_) ?_|((apply BM (lo:=w.heap.size+2) Wl Qw rfl rfl rfl rfl;(exact Iy);(first|(refine Rs.new [⟨_,_,_,_⟩] (by (first|rfl|(simp only[BO];done)|omega)) rfl rfl (fun _=>rfl) (by omega)));omega;exact Aq;intro A1 c1 w2 ho1 Ap Bo Ay Ah;have hb:=Ay (· = rb) w (by exact AA) (by omega);have hrd:=Be.low (Be.keep (by assumption) (by exact Cj)) Ap.size Ah (by omega);have hz:=Ap.size;(try simp only[BO] at hz);obtain⟨hc,hf⟩:=BJ Ah;clear Ay);(first|(refine CQ hK MQ (h:=?_);clear hK K hHeld;intro hHeld)|(refine ER hK (h:=?_);clear hK K)))|(revert hK;intro hK;go_simp;(try ((go_at_call 133;apply Calls.mono;apply Vp;(apply Be.keep;assumption;(exact Cj));(exact Bu);(exact Bu);(exact Bu);rintro E w1 ⟨a,b,c,d,rfl,hrd,hb⟩;obtain⟨hc,hf,hz⟩:=xd hb);(try go_wp2_with fail)));(first|(refine CQ hK MQ (h:=?_);clear hK K hHeld;intro hHeld)|(refine ER hK (h:=?_);clear hK K)))));all_goals (refine FR ?_)))
   all_goals go_wp2_with fail
   all_goals go_meet
   all_goals have Uv:=(Cn.logged (hO.Av (by (exact AO))) ho1 Ap Bo).rm
   all_goals exact⟨A1,c1,Ec+1,dP,Eo,Eg,dD,Er,Ed,dN,Ej,Eb,dS,Ei,Ea,⟨_,mk.Ai,mk.AJ,mk.clock,mk.nums,mk.said⟩,⟨Aq,Ak,Ak,Ak,Ak,Ak,Ak,fun i=>Ak⟩,⟨Uv.log.keep AO,Uv.Ai.keep AO,Uv.AJ.keep AO,Uv.nums.keep AO,Uv.said.keep AO⟩,by omega,Lb.set (Lb.low Ah (by omega) (by (exact Gd))),(Be.keep hrd (by (exact Cj))).more (by omega),AA⟩
  ·go_meet
   exact⟨dL,Ep,Ec,A,c,m,dD,Er,Ed,dN,Ej,Eb,dS,Ei,Ea,⟨mk.log,xs,mk.AJ,mk.clock,mk.nums,mk.said⟩,⟨Aq,Ak,Ak,Ak,Ak,Ak,Ak,fun i=>Ak⟩,⟨OU.log.keep AO,(hps.keep AO).less Aq,OU.AJ.keep AO,OU.nums.keep AO,OU.said.keep AO⟩,by omega,by (exact Gd),(Be.keep hrd (by (exact Cj))).more (by omega),AA⟩
  ·(focus (refine CF fun W0 hb0 hc0 hf0 hz0=>?_;refine Aj [14,15,16] (S:=fun w'=>Ce rb W0 w') MQ (fun hHeld=>?_);(repeat' (first|refine Mc [] [] (h:=?_)|refine FQ [] [] hHeld (h:=?_)|refine Mo (fun K hK=>?_) ?_|refine FW (fun K hK=>?_) ?_|refine FV ?_|exact Cf|refine Mh (fun K hK=>?_) ?_|refine FT (fun K hK=>?_) ?_|((apply BM (lo:=w.heap.size+2) IZ FX rfl rfl rfl rfl;(exact Iy);(first|(refine Rs.new [⟨_,_,_,_,_⟩] (by (first|rfl|(simp only[BO];done)|omega)) rfl rfl (fun _=>rfl) (by omega)));omega;exact Aq;intro A1 c1 w2 ho1 Ap Bo Ay Ah;have hb:=Ay (· = rb) w (by exact AA) (by omega);have hrd:=Be.low (Be.keep (by assumption) (by exact Cj)) Ap.size Ah (by omega);have hz:=Ap.size;(try simp only[BO] at hz);obtain⟨hc,hf⟩:=BJ Ah;clear Ay);(first|(refine CQ hK MQ (h:=?_);clear hK K hHeld;intro hHeld)|(refine ER hK (h:=?_);clear hK K)))|(revert hK;intro hK;go_simp;(try ((go_at_call 37;apply Calls.mono;apply DU;(apply Be.keep;assumption;(exact Cj));(exact Bu);(exact Bu);rintro E w1 ⟨v,rfl,⟨hv0,hv1⟩,hrd,hb⟩;obtain⟨hc,hf,hz⟩:=xd hb);(try go_wp2_with fail)));(first|(refine CQ hK MQ (h:=?_);clear hK K hHeld;intro hHeld)|(refine ER hK (h:=?_);clear hK K)))));all_goals (refine FR ?_)))
   all_goals go_wp2_with fail
   all_goals go_meet
   all_goals have Uv:=(Cn.Su (hO.Av (by (exact AO))) ho1 Ap Bo).rm
   all_goals exact⟨dL,Ep,Ec,dP,Eo,Eg,A1,c1,Ed+1,dN,Ej,Eb,dS,Ei,Ea,⟨mk.log,mk.Ai,_,mk.clock,mk.nums,mk.said⟩,⟨Aq,Ak,Ak,Ak,Ak,Ak,Ak,fun i=>Ak⟩,⟨Uv.log.keep AO,Uv.Ai.keep AO,Uv.AJ.keep AO,Uv.nums.keep AO,Uv.said.keep AO⟩,by omega,Lb.set (Lb.low Ah (by omega) (by (exact Gd))),(Be.keep hrd (by (exact Cj))).more (by omega),AA⟩
  ·go_meet
   exact⟨dL,Ep,Ec,dP,Eo,Eg,dD,Er,Ed,dN,Ej,Eb,dS,Ei,Ea,⟨mk.log,mk.Ai,mk.AJ,x,mk.nums,mk.said⟩,⟨Aq,Ak,Ak,Ak,Ak,Ak,Ak,fun i=>Ak⟩,⟨OU.log.keep AO,OU.Ai.keep AO,OU.AJ.keep AO,OU.nums.keep AO,OU.said.keep AO⟩,by omega,by (exact Gd),(Be.keep hrd (by (exact Cj))).more (by omega),AA⟩
  rotate_left 3
  ·go_meet
   exact⟨dL,Ep,Ec,dP,Eo,Eg,dD,Er,Ed,dN,Ej,Eb,dS,Ei,Ea,mk,⟨Aq,Ak,Ak,Ak,Ak,Ak,Ak,fun i=>Ak⟩,⟨OU.log.keep AO,OU.Ai.keep AO,OU.AJ.keep AO,OU.nums.keep AO,OU.said.keep AO⟩,by omega,by (exact Gd),(Be.keep hrd (by (exact Cj))).more (by omega),AA⟩
  ·go_meet
   have hd:=Rs.drop OU.log (fun _=>rfl) (k:=1) (by omega)
   rw[if_pos (by assumption),show Ep-1=0 from by omega] at hd
   exact⟨dL,0,Ec-1,dP,Eo,Eg,dD,Er,Ed,dN,Ej,Eb,dS,Ei,Ea,⟨mk.log.drop 1,mk.Ai,mk.AJ,mk.clock,mk.nums,mk.said⟩,⟨Aq,Ak,Ak,Ak,Ak,Ak,Ak,fun i=>Ak⟩,⟨Rs.keep hd AO,OU.Ai.keep AO,OU.AJ.keep AO,OU.nums.keep AO,OU.said.keep AO⟩,by omega,by (exact Gd),(Be.keep hrd (by (exact Cj))).more (by omega),AA⟩
  ·rcases hO.log.ow.form with⟨rfl,h0,_⟩ | ⟨gL,cur,rfl,-⟩
   ·exfalso;omega
   go_meet
   have hd:=Rs.drop OU.log (fun _=>rfl) (k:=1) (by omega)
   rw[if_neg (by assumption)] at hd
   simp only[Option.map_some,Addr.add_lit,Nat.zero_add,Nat.one_mul] at hd
   exact⟨(some ⟨gL,4,none⟩),Ep-1,Ec-1,dP,Eo,Eg,dD,Er,Ed,dN,Ej,Eb,dS,Ei,Ea,⟨mk.log.drop 1,mk.Ai,mk.AJ,mk.clock,mk.nums,mk.said⟩,⟨Aq,Ak,Ak,Ak,Ak,Ak,Ak,fun i=>Ak⟩,⟨Rs.keep hd AO,OU.Ai.keep AO,OU.AJ.keep AO,OU.nums.keep AO,OU.said.keep AO⟩,by omega,by (exact Gd),(Be.keep hrd (by (exact Cj))).more (by omega),AA⟩
  ·go_meet
   exact⟨dL,Ep,Ec,dP,Eo,Eg,dD,Er,Ed,dN,Ej,Eb,dS,Ei,Ea,mk,⟨Aq,Ak,Ak,Ak,Ak,Ak,Ak,fun i=>Ak⟩,⟨OU.log.keep AO,OU.Ai.keep AO,OU.AJ.keep AO,OU.nums.keep AO,OU.said.keep AO⟩,by omega,by (exact Gd),(Be.keep hrd (by (exact Cj))).more (by omega),AA⟩
  ·rcases hO.nums.ow.form with⟨rfl,h0,_⟩ | ⟨gN,cur,rfl,hg0,hg1,-⟩
   ·exfalso;have:=E5.out;omega
   have e5:=E5.out
   subst e5
   have hl5:5=mk.nums.length:=hO.nums.ow.1
   have hd5:5≤Ej:=hO.nums.ow.rs.2.le
   obtain⟨hcg,hfg⟩:=Lb.rules (hO.nums.ow.lb rfl)
   have xu:=Lib.hid hl5
   clear hl5
   (focus (refine CF fun W0 hb0 hc0 hf0 hz0=>?_;refine Aj [10] (S:=fun w'=>Ce rb W0 w') MQ (fun hHeld=>?_);(repeat' (first|refine Mc [8] [] (h:=?_)|refine FQ [8] [] hHeld (h:=?_)|refine Mo (fun K hK=>?_) ?_|refine FW (fun K hK=>?_) ?_|refine FV ?_|exact Cf|refine Mh (fun K hK=>?_) ?_|refine FT (fun K hK=>?_) ?_|(revert hK;intro hK;go_simp;(try ((first|(go_at_call 37;apply Calls.mono;apply (Gy (N:=5));(apply Be.keep;assumption;(exact Cj));omega;rfl;decide;rintro E w5 ⟨v5,rfl,hv5,hrd,hb⟩;have Um:(v5:Int)<5:=(by omega);(obtain⟨hc,hf,hz⟩:=xd hb))|(go_at_call 37;apply Calls.mono;apply (Gy (N:=4));(apply Be.keep;assumption;(exact Cj));omega;rfl;decide;rintro E w4 ⟨v4,rfl,hv4,hrd,hb⟩;have hsel:=R7 hv4;have uG:(v4:Int)<4:=(by omega);(obtain⟨hc,hf,hz⟩:=xd hb)));(try go_wp2_with fail)));(first|(refine CQ hK MQ (h:=?_);clear hK K hHeld;intro hHeld)|(refine ER hK (h:=?_);clear hK K)))));all_goals (refine FR ?_)))
   all_goals go_wp2_with fail
   all_goals go_meet
   all_goals have hO4:=fun wz (k:KF (w.heap.size+2) _ wz)=>Cn.rm (Cn.jB (hO.Av k) (show v5<mk.nums.length from (by have:=xu.out;omega)) (bM v4 (-1) 0 99999 100000))
   all_goals exact⟨dL,Ep,Ec,dP,Eo,Eg,dD,Er,Ed,some ⟨gN,0,none⟩,Ej,5,dS,Ei,Ea,⟨mk.log,mk.Ai,mk.AJ,mk.clock,_,mk.said⟩,⟨Aq,Ak,Ak,Ak,Ak,Ak,Ak,fun i=>Ak⟩,hO4 _ AO,by omega,by (exact Gd),(Be.keep hrd (by (exact Cj))).more (by omega),AA⟩
  ·rcases hO.said.ow.form with⟨rfl,h0,_⟩ | ⟨gS,cur,rfl,hg0,hg1,-⟩
   ·exfalso;have:=S5.out;omega
   have e5:=S5.out
   subst e5
   have hl5:5=mk.said.length:=hO.said.ow.1
   have hd5:5≤Ei:=hO.said.ow.rs.2.le
   obtain⟨hcg,hfg⟩:=Lb.rules (hO.said.ow.lb rfl)
   have xu:=Lib.hid hl5
   clear hl5
   (focus (refine CF fun W0 hb0 hc0 hf0 hz0=>?_;refine Aj [10] (S:=fun w'=>Ce rb W0 w') MQ (fun hHeld=>?_);(repeat' (first|refine Mc [8] [] (h:=?_)|refine FQ [8] [] hHeld (h:=?_)|refine Mo (fun K hK=>?_) ?_|refine FW (fun K hK=>?_) ?_|refine FV ?_|exact Cf|refine Mh (fun K hK=>?_) ?_|refine FT (fun K hK=>?_) ?_|(revert hK;intro hK;go_simp;(try ((first|(go_at_call 37;apply Calls.mono;apply (Gy (N:=5));(apply Be.keep;assumption;(exact Cj));omega;rfl;decide;rintro E w5 ⟨v5,rfl,hv5,hrd,hb⟩;have Um:(v5:Int)<5:=(by omega);(obtain⟨hc,hf,hz⟩:=xd hb))|(go_at_call 37;apply Calls.mono;apply (Gy (N:=4));(apply Be.keep;assumption;(exact Cj));omega;rfl;decide;rintro E w4 ⟨v4,rfl,hv4,hrd,hb⟩;have hsel:=R7 hv4;have uG:(v4:Int)<4:=(by omega);(obtain⟨hc,hf,hz⟩:=xd hb)));(try go_wp2_with fail)));(first|(refine CQ hK MQ (h:=?_);clear hK K hHeld;intro hHeld)|(refine ER hK (h:=?_);clear hK K)))));all_goals (refine FR ?_)))
   all_goals go_wp2_with fail
   all_goals go_meet
   all_goals have hO4:=fun wz (k:KF (w.heap.size+2) _ wz)=>Cn.rm (Cn.bQ (hO.Av k) (show v5<mk.said.length from (by have:=xu.out;omega)) (bM v4 (-1) 0 7 2))
   all_goals exact⟨dL,Ep,Ec,dP,Eo,Eg,dD,Er,Ed,dN,Ej,Eb,some ⟨gS,0,none⟩,Ei,5,⟨mk.log,mk.Ai,mk.AJ,mk.clock,mk.nums,_⟩,⟨Aq,Ak,Ak,Ak,Ak,Ak,Ak,fun i=>Ak⟩,hO4 _ AO,by omega,by (exact Gd),(Be.keep hrd (by (exact Cj))).more (by omega),AA⟩
  ·rcases wU.form with⟨rfl,h0,_⟩ | ⟨gD,cur,rfl,uz,ABK,-⟩
   ·exfalso;omega
   obtain⟨yd,hyd⟩:∃ y,mk.AJ[0]?=some y:=⟨_,List.getElem?_eq_getElem (by have:=wU.1;omega)⟩
   obtain⟨gD',xD,pI,-,-,-,p0,p1,p2,p3,p4,aW⟩:=MX wU (show 0<Ed by omega)
   cases pI
   (focus (refine CF fun W0 hb0 hc0 hf0 hz0=>?_;refine Aj [6] (S:=fun w'=>Ce rb W0 w') MQ (fun hHeld=>?_);(repeat' (first|refine Mc [] [] (h:=?_)|refine FQ [] [] hHeld (h:=?_)|refine Mo (fun K hK=>?_) ?_|refine FW (fun K hK=>?_) ?_|refine FV ?_|exact Cf|refine Mh (fun K hK=>?_) ?_|refine FT (fun K hK=>?_) ?_|(revert hK;intro hK;go_simp;(try ((go_at_call 37;apply Calls.mono;apply DU;(apply Be.keep;assumption;(exact Cj));(exact Bu);(exact Bu);rintro E w1 ⟨v,rfl,⟨hv0,hv1⟩,hrd,hb⟩;obtain⟨hc,hf,hz⟩:=xd hb);(try go_wp2_with fail)));(first|(refine CQ hK MQ (h:=?_);clear hK K hHeld;intro hHeld)|(refine ER hK (h:=?_);clear hK K)))));all_goals (refine FR ?_)))
   all_goals go_wp2_with fail
   all_goals go_meet
   all_goals have hO4:=hO.Av (w':=w1) (by (exact AO))
   all_goals have Uv:=(Cn.Su hO4 (TV hO4.AJ.ow rfl hyd v) (cS (cR _ _) (.inl ⟨_,rfl,rfl⟩) _) (fun b h=>.inl h)).rm
   all_goals exact⟨dL,Ep,Ec,dP,Eo,Eg,some ⟨gD,0,none⟩,Er,Ed,dN,Ej,Eb,dS,Ei,Ea,⟨mk.log,mk.Ai,_,mk.clock,mk.nums,mk.said⟩,⟨Aq,Ak,Ak,Ak,Ak,Ak,Ak,fun i=>Ak⟩,⟨Uv.log.keep AO,Uv.Ai.keep AO,Uv.AJ.keep AO,Uv.nums.keep AO,Uv.said.keep AO⟩,by omega,by (exact Gd),(Be.keep hrd (by (exact Cj))).more (by omega),AA⟩
 case rest=>
  clear k0 k1 k2 k3 k4 k5 k6 kf hR hR2 OU hO hlen rH
  ((repeat (rename Ch _ _ _=>zz;clear zz));(repeat (rename Be _ _ _=>zz;clear zz));(repeat (rename (∀ (b o:Nat),¬((⟨b,0,none⟩:Addr)=⟨b-_+_,0,none⟩)→_)=>zz;clear zz)))
  obtain⟨eL,O7,NA,eP,O5,M_,eD,O8,NC,eN,O6,eNn,eS,O4,M9,x,⟨k0,k1,k2,k3,k4,k5,k6,kf⟩,hx,hl,hR,hrd,hb⟩:=hcut
  simp only[Nat.zero_add] at k1 k2 k3 k4 k5 k6
  obtain⟨r0,hr0⟩:=hR.at_ (i:=0) (by omega)
  obtain⟨r1,hr1⟩:=hR.at_ (i:=1) (by omega)
  obtain⟨r2,hr2⟩:=hR.at_ (i:=2) (by omega)
  obtain⟨r3,hr3⟩:=hR.at_ (i:=3) (by omega)
  obtain⟨r4,hr4⟩:=hR.at_ (i:=4) (by omega)
  obtain⟨r5,yV⟩:=hR.at_ (i:=5) (by omega)
  have hrf:=hR.rules.2
  go_wp2_with fail
  refine bodyPost_ret (v:=.agg #[.slice eL NA O7,.slice eP M_ O5,.slice eD NC O8,.int .i64 x.clock,.slice eN eNn O6,.slice eS M9 O4]) (by simp[results,Tryz.results81,go_sem, *]) rfl ?_
  exact⟨_,_,_,_,_,_,_,_,_,_,_,_,_,_,_,x,rfl,⟨(hx.log.keep AO).less (by omega),(hx.Ai.keep AO).less (by omega),(hx.AJ.keep AO).less (by omega),(hx.nums.keep AO).less (by omega),(hx.said.keep AO).less (by omega)⟩,hl,(Be.keep hrd (by (exact Cj))).more (by omega),AA⟩
end Go.Proofs.YtgaflnpmilikcaaGreat
