/- Texts joined: DrV. -/
import Derived.Test.YtgaflnpmilikcaaGreatPx37
import Derived.Test.YtgaflnpmilikcaaGreatPx38
set_option maxRecDepth 100000
set_option linter.unusedSimpArgs false
set_option linter.unusedVariables false
namespace Go.Proofs.YtgaflnpmilikcaaGreat
open Go.RowKit Go
set_option maxHeartbeats 20000000
def Tn (v:Nat) (a b c d:Int):Int:=if v=0 then a else if v=1 then b else if v=2 then c else d
theorem Ql {v:Nat} (h:v<4) (W:World) (a b c d:Int) (T:TypeId):(W.alloc (.cells #[.int .i64 a,.int .i64 b,.int .i64 c,.int .i64 d] T)).cell? ⟨W.heap.size,v,none⟩=some (.int .i64 (Tn v a b c d)):=by
 rcases (show v=0∨v=1∨v=2∨v=3 by omega) with rfl|rfl|rfl|rfl <;> simp[go_sem,Tn]
theorem Q3 (rb P:Nat) (aF:Option Addr) (BD A_:Nat) (aL:Option Addr) (Ae AU:Nat) (aP:Option Addr) (Ag AY:Nat) (aD:Option Addr) (Ac AQ:Nat) (aN:Option Addr) (Ad Aa:Nat) (aS:Option Addr) (Af Ab:Nat) (aI:Option Addr) (BF A7:Nat) (aG:Option Addr) (BA Az:Nat) (aB:Option Addr) (aBc Ao:Nat) (x:Sw.World) (w:World) (hr:Be w rb P) (hok:Sw.Iu x) (hW:RW w (rb+1) aF BD A_ aL Ae AU aP Ag AY aD Ac AQ aN Ad Aa aS Af Ab aI BF A7 aG BA Az aB aBc Ao x) (hP:P≤700000):Calls Tryz.prog 68 #[.pointer (some ⟨rb,0,none⟩),.agg #[.slice aF A_ BD,.slice aL AU Ae,.slice aP AY Ag,.slice aD AQ Ac,.int .i64 x.AB.clock,.slice aN Aa Ad,.slice aS Ab Af,.slice aI A7 BF,.slice aG Az BA,.slice aB Ao aBc]] w fun E w'=>∃ (e:Sw.Ev),E=.returned (.agg #[.int .i64 e.kind,.int .i64 e.EK.user,.int .i64 e.EK.n,.int .i64 e.EK.kind,.int .i64 e.EK.ticket,.int .i64 e.EK.who,.int .i64 e.EK.Al,.int .i64 e.at_,.int .i64 e.ticket,.int .i64 e.who])∧Be w' rb (P+100)∧Ch (· = rb) w w':=by
 have hlt:=hr.lt
 obtain⟨rows,hmo⟩:=Sw.BU.1 hok.Dt
 have TL:Ao≤6:=by have h1:=hok.Ir;have h2:=hW.BS.len.1;omega
 have HO:=Lib.hid hmo
 have e1:Sw.CS x.AB=rows:=Sw.Cu hmo.fold
 have e2:=Sw.Ct (Sw.Bv hmo.fold)
 have E1:=Lib.hid e1
 have E2:=Lib.hid e2
 have hM:=hW.Dt
 have wv:IntKind.i64.wrap ((Ao:Int)+1)=(Ao:Int)+1:=IntWalk.i64_in _ (by omega)
 clear hok hmo e1 e2
 go_enter Tryz.func68,Tryz.ntmps68
 go_upto_region 2 with (go_at_call 37;apply Calls.mono;apply DU;(apply Be.keep;assumption;(exact Cj));(exact Bu);(exact Bu);rintro E w1 ⟨v,rfl,⟨hv0,hv1⟩,hrd,hb⟩;obtain⟨hc,hf,hz⟩:=xd hb)
 obtain⟨vk,rfl⟩:=Int.eq_ofNat_of_zero_le hv0
 clear hv0 hv1
 go_upto_region 3 with (go_at_call 37;apply Calls.mono;apply DU;(apply Be.keep;assumption;(exact Cj));(exact Bu);(exact Bu);rintro E w1 ⟨v,rfl,⟨hv0,hv1⟩,hrd,hb⟩;obtain⟨hc,hf,hz⟩:=xd hb)
 rcases (show v=0∨v=1∨v=8∨(v=2∨v=3)∨v=4∨(v=5∨v=6∨v=7)∨9≤v by omega) with rfl|rfl|rfl|hv|rfl|hv|hv
 ·go_wp2_with fail
  refine bodyPost_ret (v:=.agg #[.int .i64 2,.int .i64 0,.int .i64 0,.int .i64 0,.int .i64 0,.int .i64 0,.int .i64 0,.int .i64 0,.int .i64 0,.int .i64 0]) (by simp[results,Tryz.results68,go_sem, *]) rfl ?_
  exact⟨⟨2,⟨0,0,0,0,0,0⟩,0,0,0⟩,rfl,(Be.keep hrd Cj).more (by omega),AA⟩
 ·go_wp2_with fail
  refine bodyPost_ret (v:=.agg #[.int .i64 4,.int .i64 0,.int .i64 0,.int .i64 0,.int .i64 0,.int .i64 0,.int .i64 0,.int .i64 vk,.int .i64 0,.int .i64 0]) (by simp[results,Tryz.results68,go_sem, *]) rfl ?_
  exact⟨⟨4,⟨0,0,0,0,0,0⟩,vk,0,0⟩,rfl,(Be.keep hrd Cj).more (by omega),AA⟩
 ·go_wp2_with fail
  refine bodyPost_ret (v:=.agg #[.int .i64 4,.int .i64 0,.int .i64 0,.int .i64 0,.int .i64 0,.int .i64 0,.int .i64 0,.int .i64 vk,.int .i64 0,.int .i64 0]) (by simp[results,Tryz.results68,go_sem, *]) rfl ?_
  exact⟨⟨4,⟨0,0,0,0,0,0⟩,vk,0,0⟩,rfl,(Be.keep hrd Cj).more (by omega),AA⟩
 ·rcases hv with rfl|rfl
  all_goals
   clear hv0 hv1
   go_wp2_with (go_at_call 37;apply Calls.mono;apply DU;(apply Be.keep;assumption;(exact Cj));(exact Bu);(exact Bu);rintro E w1 ⟨v,rfl,⟨hv0,hv1⟩,hrd,hb⟩;obtain⟨hc,hf,hz⟩:=xd hb)
   refine bodyPost_ret (v:=.agg #[.int .i64 5,.int .i64 0,.int .i64 0,.int .i64 0,.int .i64 0,.int .i64 0,.int .i64 0,.int .i64 v,.int .i64 0,.int .i64 0]) (by simp[results,Tryz.results68,go_sem, *]) rfl ?_
   exact⟨⟨5,⟨0,0,0,0,0,0⟩,v,0,0⟩,rfl,(Be.keep hrd Cj).more (by omega),AA⟩
 ·go_wp2_with fail
  (focus (refine CF fun W0 hb0 hc0 hf0 hz0=>?_;refine Aj [12] (S:=fun w'=>Ce rb W0 w') MQ (fun hHeld=>?_);(repeat' (first|refine Mc [4] [] (h:=?_)|refine FQ [4] [] hHeld (h:=?_)|refine Mo (fun K hK=>?_) ?_|refine FW (fun K hK=>?_) ?_|refine FV ?_|exact Cf|refine Mh (fun K hK=>?_) ?_|refine FT (fun K hK=>?_) ?_|(revert hK;intro hK;go_simp;(try ((first|(go_at_call 37;apply Calls.mono;apply (Gy (N:=4));(apply Be.keep;assumption;(exact Cj));omega;rfl;decide;rintro E w5 ⟨v5,rfl,hv5,hrd,hb⟩;have hsel:=Ql hv5;have Um:(v5:Int)<4:=(by omega);(obtain⟨hc,hf,hz⟩:=xd hb))|(go_at_call 37;apply Calls.mono;apply DU;(apply Be.keep;assumption;(exact Cj));(exact Bu);(exact Bu);rintro E w1 ⟨v,rfl,⟨hv0,hv1⟩,hrd,hb⟩;obtain⟨hc,hf,hz⟩:=xd hb));(try go_wp2_with fail)));(first|(refine ER hK (h:=?_);clear hK K)|(refine CQ hK MQ (h:=?_);clear hK K hHeld;intro hHeld)))));all_goals (refine FR ?_)))
  all_goals go_wp2_with fail
  all_goals refine bodyPost_ret (v:=.agg #[.int .i64 (Tn v5 6 7 3 9),.int .i64 0,.int .i64 0,.int .i64 0,.int .i64 0,.int .i64 0,.int .i64 0,.int .i64 v,.int .i64 0,.int .i64 0]) (by simp[results,Tryz.results68,go_sem, *]) rfl ?_
  all_goals exact⟨⟨Tn v5 6 7 3 9,⟨0,0,0,0,0,0⟩,v,0,0⟩,rfl,(Be.keep hrd Cj).more (by omega),AA⟩
 ·have hV:=Lib.hid hv
  have hv':RowKit.Hid ((v==5)=true∨((v==5)=false∧(v==6)=true)∨((v==5)=false∧(v==6)=false∧(v==7)=true)):=Lib.hid (by rcases hv with rfl|rfl|rfl <;> decide)
  have q0:(v==0)=false:=by simp;omega
  have q1:(v==1)=false:=by simp;omega
  have q2:(v==2)=false:=by simp;omega
  have q3:(v==3)=false:=by simp;omega
  have q4:(v==4)=false:=by simp;omega
  clear hv hv0 hv1
  rcases hv'.out with q5 | ⟨q5,q6⟩ | ⟨q5,q6,q7⟩
  all_goals
   go_upto_region 16 with (go_at_call 37;apply Calls.mono;apply DU;(apply Be.keep;assumption;(exact Cj));(exact Bu);(exact Bu);rintro E w1 ⟨v,rfl,⟨hv0,hv1⟩,hrd,hb⟩;obtain⟨hc,hf,hz⟩:=xd hb)
   obtain⟨t0,rfl⟩:=Int.eq_ofNat_of_zero_le hv0
   have ht0:t0<8:=by omega
   clear hv0 hv1
   go_upto_region 18 with (first|(go_at_call 37;apply Calls.mono;apply DU;(apply Be.keep;assumption;(exact Cj));(exact Bu);(exact Bu);rintro E w1 ⟨v,rfl,⟨hv0,hv1⟩,hrd,hb⟩;obtain⟨hc,hf,hz⟩:=xd hb)|(go_at_call 121;apply Calls.mono;apply (LC (m:=x.AB));(apply Rs.A8 hM.log;(exact AO));rintro E w1 ⟨A1,c1,n1,rfl,hrow,hb⟩;obtain⟨hc,hf,hz⟩:=xy hb))
   rw[E1.out] at hrow
   obtain rfl:n1=8:=hrow.1.trans E2.out
   have Un:PQ w1 w.heap.size A1 c1 8 rows:=(hrow.keep AO).less Aq
   have wh:VI w w1 rb (P+5):=⟨(Be.keep hrd Cj).more (by omega),AA⟩
   have hsz1:w.heap.size+2≤w1.heap.size:=Aq
   have wT:Lb w1 (w.heap.size+1) 10:=by (exact Gd)
   clear hrow hv0 hv1 hrd hb hc hf hz
   ((repeat (rename Ch _ _ _=>zz;clear zz));(repeat (rename Be _ _ _=>zz;clear zz));(repeat (rename (∀ (b o:Nat),¬((⟨b,0,none⟩:Addr)=⟨b-_+_,0,none⟩)→_)=>zz;clear zz)))
   obtain⟨nW,hb1⟩:=wh
   obtain⟨who,hwho⟩:∃ z,z=1+v:=⟨_,rfl⟩
   rw[← hwho]
   clear hwho
   go_wp2_with fail
   go_loopw [6,9] (fun t k wr=>∃ (tt kk:Nat),t=.int .i64 tt∧tt<8∧k=.int .i64 kk∧kk≤3∧Ch (· = rb) w1 wr∧Be wr rb (P+5+kk)) (fun _ k _=>3-(intOf k).toNat)
   case atStart=>exact⟨t0,0,rfl,ht0,rfl,by omega,Ch.refl _ _,nW⟩
   case round=>
    obtain⟨tt,kk,rfl,YV,rfl,hkk,hb2,di⟩:=hrel
    have hst:=xc hb2
    obtain⟨hc2,hf2,hz2⟩:=hst
    have hrw:PQ wr w.heap.size A1 c1 8 rows:=Un.keep AO
    obtain⟨gR,y,hA,oG,n_,hy,p0,p1,p2,hfz⟩:=ND hrw YV
    subst hA
    clear hy p2 hfz
    have i0:(0:Int)≤(tt:Int):=by omega
    have i1:(tt:Int)<8:=by omega
    have iF:((8:Int)==8)=true:=rfl
    by_cases hgo:kk<3∧y.who=0
    ·obtain⟨hk5,hw0⟩:=hgo
     have hg1:(kk:Int)<3:=by omega
     have hg2:(y.who==0)=true:=by simp[hw0]
     go_wp2_with (go_at_call 37;apply Calls.mono;apply DU;(apply Be.keep;assumption;(exact Cj));(exact Bu);(exact Bu);rintro E w1 ⟨v,rfl,⟨hv0,hv1⟩,hrd,hb⟩;obtain⟨hc,hf,hz⟩:=xd hb)
     obtain⟨t1,rfl⟩:=Int.eq_ofNat_of_zero_le hv0
     go_roundw
     case rel=>exact⟨t1,kk+1,rfl,by omega,by go_num,by omega,AA,hrd.more (by omega)⟩
     case measure=>simp[intOf];omega
    ·rcases (show ¬(kk:Int)<3∨((kk:Int)<3∧(y.who==0)=false) by by_cases h5:kk<3;exact .inr ⟨by omega,by simp;exact fun h=>hgo ⟨h5,h⟩⟩;exact .inl (by omega)) with hk5 | ⟨hk5,hg2⟩
     all_goals
      have Fu:Lb wr (w.heap.size+1) 10:=by (exact Gd)
      obtain⟨hcz,hfz⟩:=Lb.rules Fu
      obtain⟨ABV,ABN⟩:=Lb.rules wT
      by_cases hy0:0<y.who
      case neg=>
       have hy0':¬ 0<y.who:=hy0
       have t_:decide (0<y.who)=false:=decide_eq_false hy0
       go_wp2_with fail
       refine bodyPost_ret (v:=.agg #[.int .i64 8,.int .i64 0,.int .i64 0,.int .i64 0,.int .i64 0,.int .i64 0,.int .i64 0,.int .i64 vk,.int .i64 tt,.int .i64 who]) (by simp[results,Tryz.results68,go_sem, *]) rfl ?_;(first|refine⟨⟨8,⟨0,0,0,0,0,0⟩,vk,tt,who⟩,rfl,?_,?_⟩|refine⟨⟨⟨8,⟨0,0,0,0,0,0⟩,vk,tt,who⟩,rfl⟩,?_,?_⟩);(focus (exact Be.more (Be.keep (by assumption) Cj) (by omega)));exact AA
      case pos=>
       have t_:decide (0<y.who)=true:=decide_eq_true hy0
       go_upto_if 91 with (go_at_call 37;apply Calls.mono;apply DU;(apply Be.keep;assumption;(exact Cj));(exact Bu);(exact Bu);rintro E w1 ⟨v,rfl,⟨hv0,hv1⟩,hrd,hb⟩;obtain⟨hc,hf,hz⟩:=xd hb)
       by_cases uF:0<v
       case pos=>
        have uE:decide (0<v)=true:=decide_eq_true uF
        go_wp2_with fail
        refine bodyPost_ret (v:=.agg #[.int .i64 8,.int .i64 0,.int .i64 0,.int .i64 0,.int .i64 0,.int .i64 0,.int .i64 0,.int .i64 vk,.int .i64 tt,.int .i64 y.who]) (by simp[results,Tryz.results68,go_sem, *]) rfl ?_;(first|refine⟨⟨8,⟨0,0,0,0,0,0⟩,vk,tt,y.who⟩,rfl,?_,?_⟩|refine⟨⟨⟨8,⟨0,0,0,0,0,0⟩,vk,tt,y.who⟩,rfl⟩,?_,?_⟩);(focus (exact Be.more (Be.keep (by assumption) Cj) (by omega)));exact AA
       case neg=>
        have AAq:¬ 0<v:=uF
        have uE:decide (0<v)=false:=decide_eq_false uF
        go_wp2_with fail
        refine bodyPost_ret (v:=.agg #[.int .i64 8,.int .i64 0,.int .i64 0,.int .i64 0,.int .i64 0,.int .i64 0,.int .i64 0,.int .i64 vk,.int .i64 tt,.int .i64 who]) (by simp[results,Tryz.results68,go_sem, *]) rfl ?_;(first|refine⟨⟨8,⟨0,0,0,0,0,0⟩,vk,tt,who⟩,rfl,?_,?_⟩|refine⟨⟨⟨8,⟨0,0,0,0,0,0⟩,vk,tt,who⟩,rfl⟩,?_,?_⟩);(focus (exact Be.more (Be.keep (by assumption) Cj) (by omega)));exact AA
 ·have q0:(v==0)=false:=by simp;omega
  have q1:(v==1)=false:=by simp;omega
  have q2:(v==2)=false:=by simp;omega
  have q3:(v==3)=false:=by simp;omega
  have q4:(v==4)=false:=by simp;omega
  have q5:(v==5)=false:=by simp;omega
  have q6:(v==6)=false:=by simp;omega
  have q7:(v==7)=false:=by simp;omega
  have q8:(v==8)=false:=by simp;omega
  clear hv hv0 hv1
  go_wp2_with (go_at_call 122;apply Calls.mono;apply (UN (m:=x.AB) (rows:=rows));(apply Be.keep;assumption;(exact Cj));exact HO.out;exact (hM.keep AO).less (by omega);omega;omega;omega;rintro E w3 ⟨p,q,r,s,t,u,rfl,hrd,hb⟩;(obtain⟨hc,hf,hz⟩:=xd hb))
  refine bodyPost_ret (v:=.agg #[.int .i64 1,.int .i64 p,.int .i64 q,.int .i64 r,.int .i64 s,.int .i64 t,.int .i64 u,.int .i64 0,.int .i64 0,.int .i64 0]) (by simp[results,Tryz.results68,go_sem, *]) rfl ?_
  exact⟨⟨1,⟨p,q,r,s,t,u⟩,0,0,0⟩,rfl,(Be.keep hrd Cj).more (by omega),AA⟩
end Go.Proofs.YtgaflnpmilikcaaGreat
