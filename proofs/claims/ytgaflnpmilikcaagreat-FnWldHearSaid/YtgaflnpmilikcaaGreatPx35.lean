/- Texts joined: DrawR. -/
import Derived.Test.YtgaflnpmilikcaaGreatPx12
import Derived.Test.YtgaflnpmilikcaaGreatPx19
import Derived.Deep.CutBlock
import Derived.Deep.DeepCutAuto
set_option maxRecDepth 100000
set_option linter.unusedSimpArgs false
set_option linter.unusedVariables false
namespace Go.Proofs.YtgaflnpmilikcaaGreat
open Go.RowKit Go
set_option maxHeartbeats 4000000
theorem Vd (aL:Option Addr) (Ae AU:Nat) (aP:Option Addr) (Ag AY:Nat) (aD:Option Addr) (Ac AQ:Nat) (aN:Option Addr) (Ad Aa:Nat) (aS:Option Addr) (Af Ab:Nat) (m:Sw.CV) (rows:List Sw.Row) (t:Int) (w:World) (hD:VJ w 0 aD Ac AQ m.AJ) (hok:Sw.IL m rows):Calls Tryz.prog 187 #[.agg #[.slice aL AU Ae,.slice aP AY Ag,.slice aD AQ Ac,.int .i64 m.clock,.slice aN Aa Ad,.slice aS Ab Af],.int .i64 t] w fun E w'=>
  ∃ (p q r s u:Int) (b:Bool),E=.returned (.tuple #[.agg #[.int .i64 p,.int .i64 q,.int .i64 r,.int .i64 s,.int .i64 u],.bool b])∧(b=true→1≤q∧q≤5)∧Ex w w':=by
 cases h:Sw.BH m.AJ t with
 | none=>
  refine (Vb aL Ae AU aP Ag AY aD Ac AQ aN Ad Aa aS Af Ab m t w hD (by unfold Sw.FB;rw[h])).mono ?_
  rintro E w' ⟨rfl,hb⟩
  exact⟨_,_,_,_,_,_,rfl,fun h=>(by cases h),hb⟩
 | some k=>
  obtain⟨d,hd,_⟩:=Sw.Dc h
  refine (Va aL Ae AU aP Ag AY aD Ac AQ aN Ad Aa aS Af Ab m t k d w hD (by unfold Sw.FB;rw[h]) hd).mono ?_
  rintro E w' ⟨rfl,hb⟩
  have:=(Sw.CZ.1 (hok.AJ.get hd)).2.1
  exact⟨_,_,_,_,_,_,rfl,fun _=>this,hb⟩
theorem Cs.blk {w w':World} {g o:Nat} {aL aP aD aN aS:Option Addr} {Ae AU Ag AY Ac AQ Ad Aa Af Ab:Nat} {clock:Int} (h:Cs w g o aL Ae AU aP Ag AY aD Ac AQ aN Ad Aa aS Af Ab clock) (hb:w'.heap[g]?=w.heap[g]?) (hz:w.heap.size≤w'.heap.size):Cs w' g o aL Ae AU aP Ag AY aD Ac AQ aN Ad Aa aS Af Ab clock:=by
 have c:∀ i:Nat,w'.cell? ⟨g,i,none⟩=w.cell? ⟨g,i,none⟩:=fun i=>World.cell?_of_block (w:=w) (a:=⟨g,i,none⟩) hb
 exact⟨Nat.lt_of_lt_of_le h.lt hz,(c _).trans h.log,(c _).trans h.Ai,(c _).trans h.AJ,(c _).trans h.Qa,(c _).trans h.nums,(c _).trans h.said,fun i=>(World.frozen?_of_block (w:=w) (a:=⟨g,i,none⟩) hb).trans (h.free i)⟩
def ACA (w:World) (g:Nat):Prop:=Ints w g 6∧∃ u:Int,w.cell? ⟨g,0,none⟩=some (.int .i64 u)∧1≤u∧u≤5
theorem ZC (rb P:Nat) (aL:Option Addr) (Ae AU:Nat) (aP:Option Addr) (Ag AY:Nat) (aD:Option Addr) (Ac AQ:Nat) (aN:Option Addr) (Ad Aa:Nat) (aS:Option Addr) (Af Ab:Nat) (m:Sw.CV) (rows:List Sw.Row) (w:World) (hr:Be w rb P) (hok:Sw.IL m rows) (hM:RM w (rb+1) aL Ae AU aP Ag AY aD Ac AQ aN Ad Aa aS Af Ab m) (hP:P≤900000):Calls Tryz.prog 154 #[.pointer (some ⟨rb,0,none⟩),.agg #[.slice aL AU Ae,.slice aP AY Ag,.slice aD AQ Ac,.int .i64 m.clock,.slice aN Aa Ad,.slice aS Ab Af]] w fun E w'=>∃ p q r s t u,E=.returned (.agg #[.int .i64 p,.int .i64 q,.int .i64 r,.int .i64 s,.int .i64 t,.int .i64 u])∧Be w' rb (P+40)∧Ch (· = rb) w w':=by
 have hlt:=hr.lt
 have HO:=Lib.hid hok
 have e1:Sw.CS m=rows:=Sw.Cu hok.fold
 have e2:=Sw.Ct (Sw.Bv hok.fold)
 clear hok
 go_enter Tryz.func154,Tryz.ntmps154
 go_upto_block 0 with (first|(go_at_call 121;apply Calls.mono;apply LC;(apply Rs.A8 hM.log;(exact AO));rintro E w1 ⟨A1,c1,n1,rfl,hrow,hb⟩;obtain⟨hc,hf,hz⟩:=xy hb)|(go_at_call 37;apply Calls.mono;apply DU;(apply Be.keep;assumption;(exact Cj));(exact Bu);(exact Bu);rintro E w1 ⟨v,rfl,⟨hv0,hv1⟩,hrd,hb⟩;obtain⟨hc,hf,hz⟩:=xd hb))
 rw[e1] at hrow
 obtain rfl:n1=8:=hrow.1.trans e2
 obtain⟨t0,rfl⟩:=Int.eq_ofNat_of_zero_le hv0
 have ht0:t0<8:=by omega
 have Un:PQ w1 w.heap.size A1 c1 8 rows:=(hrow.keep AO).less Aq
 have wT:Ints w1 (w.heap.size+1) 6:=by (exact Im)
 have hmk:Cs w1 w.heap.size 0 aL Ae AU aP Ag AY aD Ac AQ aN Ad Aa aS Af Ab m.clock:=⟨Aq,Ak,Ak,Ak,Ak,Ak,Ak,fun i=>Ak⟩
 have wh:VI w w1 rb (P+1):=⟨hrd,AA⟩
 have hsz:w.heap.size+2≤w1.heap.size:=Aq
 clear hrow hv0 hv1 hrd hb hc hf hz
 ((repeat (rename Ch _ _ _=>zz;clear zz));(repeat (rename Be _ _ _=>zz;clear zz));(repeat (rename (∀ (b o:Nat),¬((⟨b,0,none⟩:Addr)=⟨b-_+_,0,none⟩)→_)=>zz;clear zz)))
 obtain⟨hrd,hb⟩:=wh
 go_cut [6] (fun t wx=>∃ tt:Nat,t=.int .i64 tt∧tt<8∧Ch (· = rb) w1 wx∧Be wx rb (P+10))
 case first=>
  go_wp2_with fail
  go_loopw [6,7] (fun t k wr=>∃ (tt kk:Nat),t=.int .i64 tt∧tt<8∧k=.int .i64 kk∧kk≤5∧Ch (· = rb) w1 wr∧Be wr rb (P+1+kk)) (fun _ k _=>5-(intOf k).toNat)
  case atStart=>exact⟨t0,0,rfl,ht0,rfl,by omega,Ch.refl _ _,hrd⟩
  case round=>
   obtain⟨tt,kk,rfl,YV,rfl,hkk,hb2,di⟩:=hrel
   have hst:=xc hb2
   obtain⟨hc2,hf2,hz2⟩:=hst
   have hrw:PQ wr w.heap.size A1 c1 8 rows:=Un.keep AO
   obtain⟨gR,y,hA,oG,n_,hy,q0,q1,q2,hfz⟩:=ND hrw YV
   subst hA
   clear hy q2 hfz
   have i0:(0:Int)≤(tt:Int):=by omega
   have i1:(tt:Int)<8:=by omega
   have iF:((8:Int)==8)=true:=rfl
   by_cases hgo:kk<5∧y.who=0
   ·obtain⟨hk5,hw0⟩:=hgo
    have hg1:(kk:Int)<5:=by omega
    have hg2:(y.who==0)=true:=by simp[hw0]
    go_wp2_with (go_at_call 37;apply Calls.mono;apply DU;(apply Be.keep;assumption;(exact Cj));(exact Bu);(exact Bu);rintro E w1 ⟨v,rfl,⟨hv0,hv1⟩,hrd,hb⟩;obtain⟨hc,hf,hz⟩:=xd hb)
    obtain⟨t1,rfl⟩:=Int.eq_ofNat_of_zero_le hv0
    go_roundw
    case rel=>exact⟨t1,kk+1,rfl,by omega,by go_num,by omega,AA,hrd.more (by omega)⟩
    case measure=>simp[intOf];omega
   ·rcases (show ¬(kk:Int)<5∨((kk:Int)<5∧(y.who==0)=false) by by_cases h5:kk<5;exact .inr ⟨by omega,by simp;exact fun h=>hgo ⟨h5,h⟩⟩;exact .inl (by omega)) with hk5 | ⟨hk5,hg2⟩
    all_goals
     go_wp2_with fail
     go_meet
     exact⟨tt,rfl,YV,hb2,di.more (by omega)⟩
 case rest=>
  obtain⟨tt,rfl,YV,hb2,di⟩:=hcut
  have hrw:PQ wc w.heap.size A1 c1 8 rows:=Un.keep AO
  obtain⟨gR,y,hA,oG,n_,hy,q0,q1,q2,hfz⟩:=ND hrw YV
  subst hA
  have HY:=Lib.hid hy
  have i0:(0:Int)≤(tt:Int):=by omega
  have i1:(tt:Int)<8:=by omega
  have iF:((8:Int)==8)=true:=rfl
  have hRc:Ints wc (w.heap.size+1) 6:=by (exact Im)
  have o6:Ch (· = rb) w wc:=hb.trans' hb2 (fun i _ hi=>hi)
  have hmc:Cs wc w.heap.size 0 aL Ae AU aP Ag AY aD Ac AQ aN Ad Aa aS Af Ab m.clock:=hmk.blk (hb2.block w.heap.size (by omega) (by omega)) hb2.size
  obtain⟨k0,k1,k2,k3,k4,k5,k6,kfm⟩:=hmc
  simp only[Nat.zero_add] at k1 k2 k3 k4 k5 k6
  have AAs:w.heap.size+2≤wc.heap.size:=by have:=hb2.size;omega
  clear hy q2 hfz Un wT hmk hsz hrd hb hb2 hrw
  have hb:=o6
  go_upto_block 2 with (first|(go_at_call 37;apply Calls.mono;apply DU;(apply Be.keep;assumption;(exact Cj));(exact Bu);(exact Bu);rintro E w1 ⟨v,rfl,⟨hv0,hv1⟩,hrd,hb⟩;obtain⟨hc,hf,hz⟩:=xd hb)|(go_at_call 187;apply Calls.mono;apply (Vd (rows:=rows));(apply Rs.A8 hM.AJ;(exact AO));(exact HO.out);rintro E w2 ⟨d1,d2,d3,d4,d5,ok,rfl,hsel,hb⟩;obtain⟨hc,hf,hz⟩:=xy hb))
  (refine CF fun W0 hb0 hc0 hf0 hz0=>?_)
  obtain⟨g,hgg⟩:∃ g,g=w1.heap.size:=⟨_,rfl⟩
  obtain⟨gd,hgd⟩:∃ g,g=w2.heap.size:=⟨_,rfl⟩
  have hI:Ints W0 g 6:=(by rw[hgg];(exact Im))
  have hR:Ints W0 (w.heap.size+1) 6:=(by (exact Im))
  have qc0:W0.cell? ⟨g,0,none⟩=some (.int .i64 (1+v)):=by rw[hgg];(go_simp;first|done|simp[*])
  have qc1:W0.cell? ⟨g,1,none⟩=some (.int .i64 0):=by rw[hgg];(go_simp;first|done|simp[*])
  have qc2:W0.cell? ⟨g,2,none⟩=some (.int .i64 0):=by rw[hgg];(go_simp;first|done|simp[*])
  have qc3:W0.cell? ⟨g,3,none⟩=some (.int .i64 tt):=by rw[hgg];(go_simp;first|done|simp[*])
  have qc4:W0.cell? ⟨g,4,none⟩=some (.int .i64 0):=by rw[hgg];(go_simp;first|done|simp[*])
  have qc5:W0.cell? ⟨g,5,none⟩=some (.int .i64 0):=by rw[hgg];(go_simp;first|done|simp[*])
  have dc1:W0.cell? ⟨gd,1,none⟩=some (.int .i64 d2):=by rw[hgd];(go_simp;first|done|simp[*])
  have dc3:W0.cell? ⟨gd,3,none⟩=some (.int .i64 d4):=by rw[hgd];(go_simp;first|done|simp[*])
  have yH:W0.cell? ⟨gR,tt*3,none⟩=some (.int .i64 y.who):=Ak
  have rc1:W0.cell? ⟨gR,tt*3+1,none⟩=some (.int .i64 y.EY):=Ak
  have yL:W0.cell? ⟨w.heap.size,4,none⟩=some (.slice aN Aa Ad):=Ak
  have HR:VI w W0 rb (P+12):=⟨(Be.keep hrd (show KB rb w1 W0 from by (exact Cj))).more (by omega),AA⟩
  rw[← hgg,← hgd]
  have ABG:gR<g:=by rw[hgg];omega
  have hg0:w.heap.size+2≤g:=by rw[hgg];exact Aq
  have ABE:g+1≤gd:=by rw[hgd,hgg];omega
  have hgd1:gd<W0.heap.size:=by rw[hgd];omega
  have hfr:=hI.free
  clear hb0 hc0 hf0 hz0 hb hc hf hz hrd hgg hgd q0 q1 o6 di k1 k2 k3 k4 k5 k6 kfm hRc
  ((repeat (rename Ch _ _ _=>zz;clear zz));(repeat (rename Be _ _ _=>zz;clear zz));(repeat (rename (∀ (b o:Nat),¬((⟨b,0,none⟩:Addr)=⟨b-_+_,0,none⟩)→_)=>zz;clear zz)))
  obtain⟨hrd,hb⟩:=HR
  have hRl:=hR.lt
  have hcap:=YL y.EY
  obtain⟨hcap0,hcap1⟩:=hcap
  have h_:=Sw.IQ.1 (List.all_eq_true.1 (Bool.and_eq_true_iff.1 (Sw.Bv HO.out.fold)).1 y (List.mem_of_getElem? HY.out))
  go_cut [] (fun wx=>Ints wx g 6∧(∃ u:Int,wx.cell? ⟨g,0,none⟩=some (.int .i64 u)∧1≤u∧u≤5)∧Ints wx (w.heap.size+1) 6∧wx.cell? ⟨w.heap.size,4,none⟩=some (.slice aN Aa Ad)∧Be wx rb (P+25)∧Ch (· = rb) w wx)
  case first=>
   rcases (show (y.who==0)=true∨((y.who==0)=false∧1≤y.who∧y.who≤5) by (rcases h_ with⟨h,_⟩ | ⟨h,_⟩;exact .inl (by simp[h]);exact .inr ⟨by simp;omega,h⟩)) with hw0 | ⟨hw0,hw1,yS⟩
   all_goals clear h_
   all_goals cases ok
   all_goals try (have hs2:=hsel rfl;obtain⟨AAw,AAv⟩:=hs2)
   all_goals clear hsel
   all_goals go_wp2_with (first|(go_at_call 37;apply Calls.mono;apply (JG (fun _=>True));(apply Be.keep;assumption;(exact Cj));omega;(first|rfl|(simp;done));(repeat (first|exact IM.nil|(refine IM.cons ⟨_,rfl,(by first|exact trivial|omega)⟩ ?_)));omega;(first|omega|(simp only[BO];omega));rintro E w1 ⟨v,x,rfl,hv,hq,hcx,hrd,hb⟩;(try simp only[BO] at hcx);obtain⟨hc,hf,hz⟩:=xd hb)|(go_at_call 37;apply Calls.mono;apply DU;(apply Be.keep;assumption;(exact Cj));(exact Bu);(exact Bu);rintro E w1 ⟨v,rfl,⟨hv0,hv1⟩,hrd,hb⟩;obtain⟨hc,hf,hz⟩:=xd hb)|(go_at_call 106;refine (Bw _ _).mono ?_;rintro E w' ⟨rfl,rfl⟩))
   all_goals go_meet
   all_goals exact⟨by (exact Im),by (go_simp <;> omega),by (exact Im),Ak,Be.more (Be.keep (by assumption) (by (exact Cj))) (by omega),AA⟩
  case rest=>
   clear hI hR qc0 qc1 qc2 qc3 qc4 qc5 dc1 dc3 yH rc1 yL hrd hb hRl h_ hcap0 hcap1 hsel hfr
   obtain⟨hI,⟨u,hu,hu1,aT⟩,hR,yL,hrd,hb⟩:=hcut
   obtain⟨k,rfl⟩:∃ k:Nat,u=(k:Int)+1:=⟨(u-1).toNat,by omega⟩
   have hk5:k<5:=by omega
   have fE:Aa=5:=hM.nums.1.trans HO.out.NL
   subst fE
   have hN0:RI wc 0 aN Ad 5 m.nums:=Rs.A8 hM.nums AO
   obtain⟨gN,off,last,hA,_,AA5,_,hx,hcN⟩:=G8 hN0 hk5
   have hlb:0≤last∧last≤99999:=by
    obtain⟨z,hz⟩:∃ z,m.said[k]?=some z:=⟨_,List.getElem?_eq_getElem (by rw[HO.out.Rv];exact hk5)⟩
    have:=Sw.Kr.1 ((Sw.J5 (by rw[HO.out.NL,HO.out.Rv])).1 HO.out.nums _ _ _ hx hz)
    exact this.1
   obtain⟨hl0,hl1⟩:=hlb
   subst hA
   clear hx hN0 hM
   have hfr:=hI.free
   have zM:=hI.lt
   have Fu:=hR.lt
   obtain⟨o1,ho1⟩:=hI.at_ (i:=1) (by omega)
   obtain⟨o2,ho2⟩:=hI.at_ (i:=2) (by omega)
   obtain⟨o3,ho3⟩:=hI.at_ (i:=3) (by omega)
   obtain⟨o4,Uo⟩:=hI.at_ (i:=4) (by omega)
   obtain⟨o5,Oe⟩:=hI.at_ (i:=5) (by omega)
   obtain⟨r0,hr0⟩:=hR.at_ (i:=0) (by omega);obtain⟨r1,hr1⟩:=hR.at_ (i:=1) (by omega);obtain⟨r2,hr2⟩:=hR.at_ (i:=2) (by omega);obtain⟨r3,hr3⟩:=hR.at_ (i:=3) (by omega);obtain⟨r4,hr4⟩:=hR.at_ (i:=4) (by omega);obtain⟨r5,yV⟩:=hR.at_ (i:=5) (by omega);have hrf:=hR.free
   go_wp2_with (go_at_call 37;apply Calls.mono;apply DU;(apply Be.keep;assumption;(exact Cj));(exact Bu);(exact Bu);rintro E w1 ⟨v,rfl,⟨hv0,hv1⟩,hrd,hb⟩;obtain⟨hc,hf,hz⟩:=xd hb)
   ·refine bodyPost_ret (v:=.agg #[.int .i64 ((k:Int)+1),.int .i64 (1+v),.int .i64 o2,.int .i64 o3,.int .i64 o4,.int .i64 o5]) (by simp[results,Tryz.results154,go_sem, *]) rfl ?_
    exact⟨_,_,_,_,_,_,rfl,(Be.keep hrd (by (exact Cj))).more (by omega),AA⟩
   ·refine bodyPost_ret (v:=.agg #[.int .i64 ((k:Int)+1),.int .i64 (last+1),.int .i64 o2,.int .i64 o3,.int .i64 o4,.int .i64 o5]) (by simp[results,Tryz.results154,go_sem, *]) rfl ?_
    exact⟨_,_,_,_,_,_,rfl,(Be.keep hrd (by (exact Cj))).more (by omega),AA⟩
end Go.Proofs.YtgaflnpmilikcaaGreat
