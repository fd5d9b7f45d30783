/-
 Walk: the law iT.
-/
import Derived.Test.YtgaflnpmilikcaaGreatPx52
import Derived.Test.YtgaflnpmilikcaaGreatPx54
set_option maxRecDepth 100000
set_option linter.unusedSimpArgs false
set_option linter.unusedVariables false
namespace Go.Proofs.YtgaflnpmilikcaaGreat
open Go.RowKit Go
set_option maxHeartbeats 20000000
theorem YI (A:Option Addr) (c n:Nat) (bs:List Int) (w:World) (hxs:RB w 0 A c n bs) (hq:∀ x∈bs,0≤x∧x≤255):Calls Tryz.prog 4 #[.slice A n c] w fun E w'=>E=.returned (.bool true)∧Ex w w':=by
 have hbig:=Rs.big hxs
 by_cases hn:n≤1048576
 case neg=>
  go_enter Tryz.func4,Tryz.ntmps4
  go_wp2_with fail
  go_ret
  exact⟨rfl,AA⟩
 go_enter Tryz.func4,Tryz.ntmps4
 go_wp2_with fail
 apply Calls.mono
 apply VA
 ·apply Rs.A8 hxs;(exact AO)
 ·exact hq
 rintro E w1 ⟨aF,BD,A_,aL,Ae,AU,aP,Ag,AY,aD,Ac,AQ,aN,Ad,Aa,aS,Af,Ab,aI,BF,A7,aG,BA,Az,aB,aBc,Ao,z,rfl,hz1,hzn,hb⟩
 obtain⟨hc,hf,hz⟩:=xy hb
 clear hxs hq
 cases g:Sw.Cc z
 ·have hX:=Jy (e:=⟨2,Sw.Eu,0,0,0⟩) g
  have HX:=Lib.hid hX
  go_upto_region 8 with (first|(go_at_call 19;apply Calls.mono;apply (J8 (x:=z));(apply RW.A8 hz1;(exact AO));rintro E w6 ⟨rfl,hb⟩;rw[g];obtain⟨hc,hf,hz⟩:=xy hb)|(go_at_call 15;apply Calls.mono;apply (CW (x:=z));(apply RW.A8 hz1;(exact AO));rintro E w7 ⟨rfl,hb⟩;rw[g];obtain⟨hc,hf,hz⟩:=xy hb))
  clear hX
  go_wp2_with (first|(go_at_call 16;refine (Ie _).mono ?_;rintro E w' ⟨rfl,rfl⟩)|(go_at_call 20;apply Calls.mono;apply (MN (x:=z) (k:=2) (i:=0) (t:=0) (u:=0));(apply RW.A8 hz1;(exact AO));rintro E w8 ⟨bF,Di,DZ,bL,Bg,BR,bP,Bf,BV,bD,Bh,Ba,bN,Bd,Bb,bS,Bc,BZ,bI,Dg,bIn,bG,Dh,DL,bB,Dj,Cy,τ8,rfl,hox,hb⟩;rw[HX.out] at hox;rw[HX.out];obtain⟨hc,hf,hz⟩:=xy hb)|(go_at_call 13;apply Calls.mono;apply (Fz (x:=Sw.Cz));(apply RW.A8 hox.JU;(exact AO));rintro E w9 ⟨rfl,hb⟩;rw[show decide (Sw.Cz=Sw.Cz)=true from decide_eq_true rfl];obtain⟨hc,hf,hz⟩:=xy hb))
  go_ret
  exact⟨rfl,AA⟩
 ·have HO:=Lib.hid (Sw.Am.1 g)
  have hgl:Az=2:=by have h1:=hz1.AV.len.1;have h2:=HO.out.GU;omega
  subst hgl
  go_upto_region 11 with (first|(go_at_call 19;apply Calls.mono;apply (J8 (x:=z));(apply RW.A8 hz1;(exact AO));rintro E w6 ⟨rfl,hb⟩;rw[g];obtain⟨hc,hf,hz⟩:=xy hb)|(go_at_call 15;apply Calls.mono;apply (CW (x:=z));(apply RW.A8 hz1;(exact AO));rintro E w7 ⟨rfl,hb⟩;rw[g];obtain⟨hc,hf,hz⟩:=xy hb))
  (refine CF fun W0 hb0 hc0 hf0 hz0=>?_)
  have hA:Fw W0 w1.heap.size aF BD A_ aL Ae AU aP Ag AY aD Ac AQ aN Ad Aa aS Af Ab aI BF A7 aG BA 2 aB aBc Ao z.AB.clock:=Fw.new
  have D8:RW W0 0 aF BD A_ aL Ae AU aP Ag AY aD Ac AQ aN Ad Aa aS Af Ab aI BF A7 aG BA 2 aB aBc Ao z:=hz1.A8 AO
  have HE:Mq w W0:=⟨AA⟩
  clear g hz1 hb hb0 hc hc0 hf hf0 hz hz0
  ((repeat (rename Ch _ _ _=>zz;clear zz));(repeat (rename Be _ _ _=>zz;clear zz));(repeat (rename (∀ (b o:Nat),¬((⟨b,0,none⟩:Addr)=⟨b-_+_,0,none⟩)→_)=>zz;clear zz)))
  generalize w1.heap.size=gw at hA ⊢
  obtain⟨Wq,CE⟩:∃ z,z=W0:=⟨_,rfl⟩
  subst CE
  obtain⟨a0,a1,a2,a3,a4,a5,a6,a7,a8,a9,KG,af⟩:=hA
  go_wp2_with fail
  go_loopw [7] (fun i wr=>∃ k:Nat,k≤2∧i=.int .i64 k∧Ex Wq wr) (fun i _=>2-(intOf i).toNat)
  case atStart=>exact⟨0,by omega,rfl,Ch.refl _ _⟩
  case round=>
   obtain⟨k,hk,rfl,hb2⟩:=hrel
   have hst:=xr hb2
   (try simp only[BO] at hst)
   obtain⟨hc2,hf2,hz2⟩:=hst
   by_cases hlt:k<2
   ·have t1:(0:Int)≤(k:Int):=by omega
    have t2:(k:Int)<2:=by omega
    have hgs:=D8.AV.A8 (by exact kE hb2 (kR _ _))
    obtain⟨g1,o1,u,B1,d1,n1,rfl,hg0,hg,hd,hy,q0,q1,q2,q3,hr1⟩:=Ld hgs hlt
    have HU:=Lib.hid (HO.out.Yd u (List.mem_of_getElem? hy))
    clear hd hy
    go_wp2_with (go_at_call 21;apply Calls.mono;apply (GG (t:=u.head) (xs:=u.done));(apply Rs.A8 hr1;(exact AO));rintro E w9 ⟨rfl,hb⟩;rw[show Sw.DF ⟨u.head,u.done⟩=true from HU.out];obtain⟨hc,hf,hz⟩:=xy hb)
    go_roundw
    case rel=>exact⟨k+1,by omega,by go_num,AA⟩
    case measure=>simp[intOf];omega
   ·have t3:¬(k:Int)<2:=by omega
    have HB2:Mq Wq wr:=⟨hb2⟩
    have XM:RW wr 0 aF BD A_ aL Ae AU aP Ag AY aD Ac AQ aN Ad Aa aS Af Ab aI BF A7 aG BA 2 aB aBc Ao z:=D8.A8 (by exact kE hb2 (kR _ _))
    have h22:((2:Int)==2)=true:=rfl
    go_wp2_with fail
    go_loopw [8] (fun i wx=>∃ k:Nat,k≤Ao∧i=.int .i64 k∧Ex wr wx) (fun i _=>Ao-(intOf i).toNat)
    case atStart=>exact⟨0,by omega,rfl,Ch.refl _ _⟩
    case round=>
     obtain⟨k,hk,rfl,hb3⟩:=hrel
     have hst:=xr hb3
     (try simp only[BO] at hst)
     obtain⟨hc3,hf3,hz3⟩:=hst
     by_cases hlt:k<Ao
     ·have t1:(0:Int)≤(k:Int):=by omega
      have t2:(k:Int)<(Ao:Int):=by omega
      have hgs:=XM.BS.A8 (by exact kE hb3 (kR _ _))
      obtain⟨g1,o1,u,B1,d1,n1,rfl,hg0,hg,hd,hy,q0,q1,q2,q3,q4,hr1⟩:=QU hgs hlt
      have hx:=HO.out.aj u (List.mem_of_getElem? hy)
      simp only[Sw.Fs,Bool.and_eq_true,Sw.BB] at hx
      have u1:¬u.gate<0:=by omega
      have u2:¬ 2≤u.gate:=by omega
      have u1':decide (u.gate<0)=false:=decide_eq_false u1
      have u2':decide (2≤u.gate)=false:=decide_eq_false u2
      have HU:=Lib.hid hx.1.2
      clear hd hy hx
      go_wp2_with (go_at_call 22;refine (Ip u.head _).mono ?_;rintro E w9 ⟨rfl,hb⟩;rw[HU.out];obtain⟨hc,hf,hz⟩:=xy hb)
      go_roundw
      case rel=>exact⟨k+1,by omega,by go_num,AA⟩
      case measure=>simp[intOf];omega
     ·obtain rfl:k=Ao:=by omega
      go_wp2_with (go_at_call 23;apply Calls.mono;apply (GD (m:=z.AB));(apply RM.A8 XM.Dt;(exact AO));rintro E w9 ⟨rfl,hb⟩;rw[HO.out.Dt];obtain⟨hc,hf,hz⟩:=xy hb)
      go_ret
      exact⟨rfl,Ch.trans' HE.out (Ch.trans' HB2.out (by exact AA) (fun _ _ h=>h)) (fun _ _ h=>h)⟩
end Go.Proofs.YtgaflnpmilikcaaGreat
