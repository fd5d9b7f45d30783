/- Texts joined: PtrT, PtrU. -/
import Derived.Test.YtgaflnpmilikcaaGreatPx38
import Derived.Test.YtgaflnpmilikcaaGreatPx43
import Derived.Test.YtgaflnpmilikcaaGreatPx41
import Derived.Test.YtgaflnpmilikcaaGreatPx5
set_option maxRecDepth 100000
set_option linter.unusedSimpArgs false
set_option linter.unusedVariables false
namespace Go.Proofs.YtgaflnpmilikcaaGreat
open Go.RowKit Go
set_option maxHeartbeats 20000000
section
variable {g lo:Nat} {τ0 τ:Nat→Nat} {w0 w:World} {aF aL aP aD aN aS aI aG aB:Option Addr} {BD A_ Ae AU Ag AY Ac AQ Ad Aa Af Ab BF A7 BA Az aBc Ao:Nat} {x:Sw.World}
theorem ZH (hS:WS g lo τ0 w0 aF BD A_ aL Ae AU aP Ag AY aD Ac AQ aN Ad Aa aS Af Ab aI BF A7 aG BA Az aB aBc Ao x τ w) (hok:Sw.Cc x=true) (kk:Nat) (hkk:kk<2):Calls Tryz.prog 94 #[.pointer (some ⟨g,0,none⟩),.int .i64 kk] w fun E w'=>
  ∃ (bL:Option Addr) (Bg BR:Nat) (bP:Option Addr) (Bf BV:Nat) (bD:Option Addr) (Bh Ba:Nat) (bN:Option Addr) (Bd Bb:Nat) (bS:Option Addr) (Bc BZ:Nat) (I:Option Addr) (Ic In:Nat) (τ':Nat→Nat),E=.returned (.tuple #[])∧WS g lo τ0 w0 aF BD A_ bL Bg BR bP Bf BV bD Bh Ba bN Bd Bb bS Bc BZ I Ic In aG BA Az aB aBc Ao (Sw.tell x kk) τ' w':=by
 obtain⟨-,-,hG2,-,-,RS⟩:=IP hok
 have hl4:=hS.ow.AV.rg.len.1
 have L4:=Lib.hid (show Az=2 by omega)
 clear hl4 hG2
 have g1:Sw.Br (kk:Int) 0 1=true:=Sw.BB.2 (by omega)
 obtain⟨vg,Jj,Pf,Kz⟩:=hS.ow.AV.ex
 obtain⟨gG,xg,rfl,Ut,WH,hxg,c0,c1',c2',c3',eO⟩:=Lc Jj.ow (show kk<Az by have:=L4.out;omega)
 obtain⟨y,hy2⟩:∃ y,x.AV[kk]?=some y:=⟨_,List.getElem?_eq_getElem (by have:=L4.out;omega)⟩
 obtain⟨e1,hdone⟩:=Kz kk xg y hxg hy2
 obtain⟨xh,xA,xc,xn⟩:=xg
 dsimp only at e1 hdone c0 c1' c2' c3'
 subst e1
 have Ji:=RS y (List.mem_of_getElem? hy2)
 have htk:∀ t∈y.done,0≤t∧t≤7:=by
  have h1:=Ji
  simp only[Sw.DF,Bool.and_eq_true] at h1
  exact fun t ht=>((Sw.Js _ _).1 h1.2).1 t ht |>.1
 have hga:Sw.Cb x kk=y:=by unfold Sw.Cb;rw[Int.toNat_natCast];exact Sw.CP hy2
 have HE:=Lib.hid (show Sw.tell x kk=y.done.foldl Sw.Bp x from by unfold Sw.tell;rw[g1,if_pos rfl,hga])
 have xY:=Lib.hid htk
 have HL:=Lib.hid hdone.ow.1
 have Li:=Lib.hid hok
 have hxb:=hdone.ow.rs.big
 have u1:(0:Int)≤(kk:Int):=by omega
 have u2:(kk:Int)<(Az:Int):=by have:=L4.out;omega
 have k8:=hS.AV
 have LM:=hS.at_.lt
 have iV:=Lib.hid hS
 clear hga Ji hy2 hxg RS Jj Pf Kz htk hok c0 c1' c2' g1 hS
 go_enter Tryz.func94,Tryz.ntmps94
 go_wp2_with fail
 go_loopw [16] (fun i wr=>∃ (j:Nat) (bL:Option Addr) (Bg BR:Nat) (bP:Option Addr) (Bf BV:Nat) (bD:Option Addr) (Bh Ba:Nat) (bN:Option Addr) (Bd Bb:Nat) (bS:Option Addr) (Bc BZ:Nat) (I:Option Addr) (Ic In:Nat) (τr:Nat→Nat),j≤xn∧i=.int .i64 j∧WS g lo τ0 w0 aF BD A_ bL Bg BR bP Bf BV bD Bh Ba bN Bd Bb bS Bc BZ I Ic In (some ⟨gG,0,none⟩) BA Az aB aBc Ao (I7 x y.done j) τr wr∧(∀ b,b<w.heap.size→τr b=τ b)∧(∀ t,t=6∨8≤t→KT τ t lo w wr)) (fun i _=>xn-(intOf i).toNat)
 case atStart=>
  refine⟨0,aL,Ae,AU,aP,Ag,AY,aD,Ac,AQ,aN,Ad,Aa,aS,Af,Ab,aI,BF,A7,τ,Nat.zero_le _,rfl,?_,fun _ _=>rfl,fun t _=>.of AO⟩
  rw[show I7 x y.done 0=x from rfl]
  exact iV.out.ex AA
 case round=>
  obtain⟨j,bL,Bg,BR,bP,Bf,BV,bD,Bh,Ba,bN,Bd,Bb,bS,Bc,BZ,I,Ic,In,τr,hj,rfl,hS,tag,kp⟩:=hrel
  obtain⟨z,hz⟩:∃ z,z=I7 x y.done j:=⟨_,rfl⟩
  rw[← hz] at hS
  have nT:Sw.Iu z:=by rw[hz];exact Sw.Kk _ (Sw.Am.1 Li.out)
  have HS:=Lib.hid hS
  have XM:=(kp 6 (.inl rfl)).size
  obtain⟨mlt,m0,m1,m2,m3,m4,m5,mf⟩:=hS.at_
  simp only[Nat.reduceAdd] at m1 m2 m3 m4 m5
  have ow:=hS.ow.Dt
  have HZ:=Lib.hid hz
  have iU:=Lib.hid nT
  have KP:=Lib.hid kp
  have TAG:=Lib.hid tag
  clear hz nT kp tag c3' hS
  by_cases hlt:j<xn
  ·have hdr:=hdone.keep (KP.out (OM kk) (.inr (by unfold OM;omega)))
   obtain⟨gd,td,rfl,hd0,hd1,htd,cd,oQ⟩:=KC hdr.ow hlt
   have ZU:=xY.out td (List.mem_of_getElem? htd)
   obtain⟨tn,rfl⟩:∃ tn:Nat,td=tn:=⟨td.toNat,by omega⟩
   have htn:tn<8:=by omega
   have HT:=Lib.hid (show I7 x y.done (j+1)=Sw.Bp z tn from by rw[HZ.out];exact Pz htd)
   obtain⟨rows,hok⟩:=Sw.BU.1 iU.out.Dt
   have hrows:=(Ty hok).1
   have hro:=Sw.J4 (Sw.Bv hok.fold) (tn:Int)
   have HK:=Lib.hid hok
   have e1:Sw.Bp z tn=if decide (0<(Sw.rowAt rows tn).who) && !(Sw.rowAt rows tn).used&&decide (Sw.lastOf z.AB.nums (Sw.rowAt rows tn).who<99999) then (Sw.ask z ⟨(Sw.rowAt rows tn).who,Sw.lastOf z.AB.nums (Sw.rowAt rows tn).who+1,6,tn,0,0⟩).1 else z:=by
    unfold Sw.Bp;rw[hrows]
   obtain⟨row,hrw⟩:∃ row,row=Sw.rowAt rows (tn:Int):=⟨_,rfl⟩
   rw[← hrw] at e1 hro
   have HRW:=Lib.hid hrw
   have E1:=Lib.hid e1
   have v1:(0:Int)≤(j:Int):=by omega
   have v2:(j:Int)<(xn:Int):=by omega
   have v3:(0:Int)≤(tn:Int):=by omega
   have v4:(tn:Int)<8:=by omega
   have yS:0≤row.who∧row.who≤5:=by
    have h1:=hro
    rw[Sw.IQ] at h1
    omega
   clear hok hrows hro hrw e1 htd ZU
   by_cases w0:0<row.who
   case neg=>
    have E2:=Lib.hid (show Sw.Bp z tn=z from by rw[E1.out,if_neg (by simp;intro h;omega)])
    have w0':¬ 0<row.who:=w0
    have w0d:decide (0<row.who)=false:=decide_eq_false w0
    go_wp2_with (go_at_call 32;apply Calls.mono;apply (H6 (m:=z.AB) (rows:=rows) (t:=tn));(apply CK.Es ow.log;(exact AO));exact HK.out.fold;exact htn;rintro E w1 ⟨gr,dr,rfl,⟨Gr,FY,hgR,q0,q1,q2⟩,hb⟩;rw[← HRW.out] at q0 q1 q2;obtain⟨hc,hf,hz⟩:=xy hb)
    (go_quiet ((first|fail));all_goals (generalize CE:World.drewN _ nq=W0;have hb0:=Ex.Iz CE;clear CE;obtain⟨hc0,hf0,hz0⟩:=xy hb0))
    go_wp2_with fail
    go_roundw
    case rel=>
     refine⟨j+1,bL,Bg,BR,bP,Bf,BV,bD,Bh,Ba,bN,Bd,Bb,bS,Bc,BZ,I,Ic,In,τr,by omega,by go_num,?_,TAG.out,fun t ht=>KT.ex (by exact AA) (KP.out t ht)⟩
     rw[HT.out,E2.out]
     exact HS.out.ex AA
    case measure=>simp[intOf];omega
   case pos=>
    have w0d:decide (0<row.who)=true:=decide_eq_true w0
    obtain⟨v,hv⟩:∃ v:Nat,row.who=v+1:=⟨(row.who-1).toNat,by omega⟩
    have hv5:v<5:=by omega
    obtain rfl:Bb=5:=by rw[ow.nums.ow.1,HK.out.NL]
    obtain⟨gN,nv,rfl,d_,hgN,iC,cN,rX⟩:=KC ow.nums.ow hv5
    have hlast:Sw.lastOf z.AB.nums row.who=nv:=by unfold Sw.lastOf;rw[show (row.who-1).toNat=v from by omega];exact Sw.CP iC
    have lJ:=Lib.hid hlast
    have wv:IntKind.i64.wrap (row.who-1)=(v:Int):=by rw[IntWalk.i64_in _ (by omega)];omega
    have i0:(0:Int)≤(v:Int):=by omega
    have i1:(v:Int)<5:=by omega
    clear iC hlast hv
    cases hu:row.used
    case true=>
     have E2:=Lib.hid (show Sw.Bp z tn=z from by rw[E1.out,hu,if_neg (by simp)])
     go_wp2_with (go_at_call 32;apply Calls.mono;apply (H6 (m:=z.AB) (rows:=rows) (t:=tn));(apply CK.Es ow.log;(exact AO));exact HK.out.fold;exact htn;rintro E w1 ⟨gr,dr,rfl,⟨Gr,FY,hgR,q0,q1,q2⟩,hb⟩;rw[← HRW.out] at q0 q1 q2;rw[hu] at q2;obtain⟨hc,hf,hz⟩:=xy hb)
     (go_quiet ((first|fail));all_goals (generalize CE:World.drewN _ nq=W0;have hb0:=Ex.Iz CE;clear CE;obtain⟨hc0,hf0,hz0⟩:=xy hb0))
     go_wp2_with fail
     go_roundw
     case rel=>
      refine⟨j+1,bL,Bg,BR,bP,Bf,BV,bD,Bh,Ba,some ⟨gN,0,none⟩,Bd,5,bS,Bc,BZ,I,Ic,In,τr,by omega,by go_num,?_,TAG.out,fun t ht=>KT.ex (by exact AA) (KP.out t ht)⟩
      rw[HT.out,E2.out]
      exact HS.out.ex AA
     case measure=>simp[intOf];omega
    case false=>
     by_cases n9:nv<99999
     case neg=>
      have n9d:decide (nv<99999)=false:=decide_eq_false n9
      have E2:=Lib.hid (show Sw.Bp z tn=z from by rw[E1.out,lJ.out,if_neg (by simp;intro h1 h2;omega)])
      go_wp2_with (go_at_call 32;apply Calls.mono;apply (H6 (m:=z.AB) (rows:=rows) (t:=tn));(apply CK.Es ow.log;(exact AO));exact HK.out.fold;exact htn;rintro E w1 ⟨gr,dr,rfl,⟨Gr,FY,hgR,q0,q1,q2⟩,hb⟩;rw[← HRW.out] at q0 q1 q2;rw[hu] at q2;obtain⟨hc,hf,hz⟩:=xy hb)
      (go_quiet ((first|fail));all_goals (generalize CE:World.drewN _ nq=W0;have hb0:=Ex.Iz CE;clear CE;obtain⟨hc0,hf0,hz0⟩:=xy hb0))
      go_wp2_with fail
      go_roundw
      case rel=>
       refine⟨j+1,bL,Bg,BR,bP,Bf,BV,bD,Bh,Ba,some ⟨gN,0,none⟩,Bd,5,bS,Bc,BZ,I,Ic,In,τr,by omega,by go_num,?_,TAG.out,fun t ht=>KT.ex (by exact AA) (KP.out t ht)⟩
       rw[HT.out,E2.out]
       exact HS.out.ex AA
      case measure=>simp[intOf];omega
     case pos=>
      have n9d:decide (nv<99999)=true:=decide_eq_true n9
      have E2:=Lib.hid (show Sw.Bp z tn=(Sw.ask z ⟨row.who,nv+1,6,tn,0,0⟩).1 from by rw[E1.out,lJ.out,hu,if_pos (by simp;omega)])
      have hno:=Sw.Kr.1 (Sw.Sn HK.out (u:=row.who) (by omega))
      rw[lJ.out] at hno
      have wv2:IntKind.i64.wrap (nv+1)=nv+1:=IntWalk.i64_in _ (by omega)
      have GY:In≤300:=by have h1:=iU.out.lines;have h2:=HS.out.ow.lines.ow.1;omega
      clear hno
      go_wp2_with (go_at_call 32;apply Calls.mono;apply (H6 (m:=z.AB) (rows:=rows) (t:=tn));(apply CK.Es ow.log;(exact AO));exact HK.out.fold;exact htn;rintro E w1 ⟨gr,dr,rfl,⟨Gr,FY,hgR,q0,q1,q2⟩,hb⟩;rw[← HRW.out] at q0 q1 q2;rw[hu] at q2;obtain⟨hc,hf,hz⟩:=xy hb)
      (go_quiet ((first|fail));all_goals (generalize CE:World.drewN _ nq=W0;have hb0:=Ex.Iz CE;clear CE;obtain⟨hc0,hf0,hz0⟩:=xy hb0))
      go_wp2_with fail
      (focus (refine CF fun W0 hb0 hc0 hf0 hz0=>?_;refine Aj [16] (S:=fun w'=>Held W0 w') DC (fun hHeld=>?_);(repeat' (first|refine Mc [] [] (h:=?_)|refine FQ [] [] hHeld (h:=?_)|refine Mo (fun K hK=>?_) ?_|refine FW (fun K hK=>?_) ?_|refine FV ?_|exact Cf|refine Mh (fun K hK=>?_) ?_|refine FT (fun K hK=>?_) ?_|(revert hK;intro hK;go_simp;(try ((go_at_call 88;apply Calls.mono;apply (XK (HS.out.ex AA) (r:=⟨row.who,nv+1,6,tn,0,0⟩) HK.out GY);rintro E w6 ⟨fL,Jo,Jc,fP,Jm,Ja,fD,Jp,Jd,fN,Jn,Jb,fS,Jl,JZ,I6,ky,kv,τ6,rfl,QY,iA,jQ⟩);(try go_wp2_with fail)));(first|(refine CQ hK DC (h:=?_);clear hK K hHeld;intro hHeld)|(refine ER hK (h:=?_);clear hK K)))));all_goals (refine FR ?_)))
      all_goals go_wp2_with fail
      all_goals go_roundw
      repeat (case measure=>(simp[intOf];omega))
      all_goals (refine⟨j+1,fL,Jo,Jc,fP,Jm,Ja,fD,Jp,Jd,fN,Jn,Jb,fS,Jl,JZ,I6,ky,kv,τ6,by omega,by go_num,?_,fun b hb=>(iA b Aq).trans (TAG.out b hb),fun t ht=>KT.comp (KT.ex (by exact AA) (KP.out t ht)) (jQ t ht) TAG.out⟩;rw[HT.out,E2.out];exact QY)
  ·have Zc:j=xn:=by omega
   have nR:Sw.tell x kk=z:=by rw[HE.out,HZ.out];unfold I7;rw[List.take_of_length_le (by have:=HL.out;omega)]
   have xV:=Lib.hid nR
   clear nR Zc
   go_wp2_with fail
   refine bodyPost_end (v:=.tuple #[]) (by simp[results,Tryz.results94,go_sem]) rfl ⟨bL,Bg,BR,bP,Bf,BV,bD,Bh,Ba,bN,Bd,Bb,bS,Bc,BZ,I,Ic,In,τr,rfl,?_⟩
   rw[xV.out]
   exact HS.out.ex AA
end
end Go.Proofs.YtgaflnpmilikcaaGreat
namespace Go.Proofs.YtgaflnpmilikcaaGreat
open Go.RowKit Go
set_option maxHeartbeats 20000000
def IB (g lo:Nat) (τ0:Nat→Nat) (w0 w':World) (E:Ending) (n:Int) (z:Sw.World):Prop:=
 ∃ (bF:Option Addr) (Di DZ:Nat) (bL:Option Addr) (Bg BR:Nat) (bP:Option Addr) (Bf BV:Nat) (bD:Option Addr) (Bh Ba:Nat) (bN:Option Addr) (Bd Bb:Nat) (bS:Option Addr) (Bc BZ:Nat) (bI:Option Addr) (Dg bIn:Nat) (bG:Option Addr) (Dh DL:Nat) (bB:Option Addr) (Dj Cy:Nat) (τ':Nat→Nat),E=.returned (.int .i64 n)∧WS g lo τ0 w0 bF Di DZ bL Bg BR bP Bf BV bD Bh Ba bN Bd Bb bS Bc BZ bI Dg bIn bG Dh DL bB Dj Cy z τ' w'
section
variable {g lo:Nat} {τ0 τ:Nat→Nat} {w0 w:World} {aF aL aP aD aN aS aI aG aB:Option Addr} {BD A_ Ae AU Ag AY Ac AQ Ad Aa Af Ab BF A7 BA Az aBc Ao:Nat} {x:Sw.World} {eq:Sw.Ee} {ea et ew:Int}
theorem Vy (hS:WS g lo τ0 w0 aF BD A_ aL Ae AU aP Ag AY aD Ac AQ aN Ad Aa aS Af Ab aI BF A7 aG BA Az aB aBc Ao x τ w) (hok:Sw.Cc x=true):Calls Tryz.prog 41 #[.pointer (some ⟨g,0,none⟩),.agg #[.int .i64 1,.int .i64 eq.user,.int .i64 eq.n,.int .i64 eq.kind,.int .i64 eq.ticket,.int .i64 eq.who,.int .i64 eq.Al,.int .i64 ea,.int .i64 et,.int .i64 ew]] w fun E w'=>IB g lo τ0 w0 w' E (Sw.ask x eq).2 (Sw.ask x eq).1:=by
 have k9:=hS.BS
 have k7:=hS.lines
 have k8:=hS.AV
 have LM:=hS.at_.lt
 have VK:=hS.at_.free
 have hlo:=hS.lo_le
 obtain⟨rows,hmo⟩:=Sw.BU.1 (Sw.Am.1 hok).Dt
 have HK:=Lib.hid hmo
 have GY:A7≤300:=by have h1:=(Sw.Am.1 hok).lines;have h2:=hS.ow.lines.ow.1;omega
 have TL:Ao≤6:=by have h1:=(Sw.Am.1 hok).Ir;have h2:=hS.ow.BS.rx.len.1;omega
 have hG2:Az=2:=by have h1:=(Sw.Am.1 hok).GU;have h2:=hS.ow.AV.rg.len.1;omega
 have L4:=Lib.hid hG2
 have wb:IntKind.i64.wrap ((Ao:Int)-1)=(Ao:Int)-1:=IntWalk.i64_in _ (by omega)
 have HS:=Lib.hid hS
 have Li:=Lib.hid hok
 clear hS hok hmo hG2
 go_enter Tryz.func41,Tryz.ntmps41
 go_wp2_with fail
 (go_quiet ((go_at_call 61;exact Calls.AR (Cm _ _ _ _)));all_goals (generalize CE:World.drewN _ nq=W0;have hb0:=Ex.Iz CE;clear CE;obtain⟨hc0,hf0,hz0⟩:=xy hb0))
 go_wp2_with (go_at_call 88;apply Calls.mono;apply (XK (HS.out.ex AA) eq HK.out GY);rintro E w6 ⟨fL,Jo,Jc,fP,Jm,Ja,fD,Jp,Jd,fN,Jn,Jb,fS,Jl,JZ,I6,ky,kv,τ6,rfl,QY,iA,jQ⟩)
 go_ret
 exact⟨aF,BD,A_,fL,Jo,Jc,fP,Jm,Ja,fD,Jp,Jd,fN,Jn,Jb,fS,Jl,JZ,I6,ky,kv,aG,BA,Az,aB,aBc,Ao,τ6,rfl,QY⟩
theorem Vx (hS:WS g lo τ0 w0 aF BD A_ aL Ae AU aP Ag AY aD Ac AQ aN Ad Aa aS Af Ab aI BF A7 aG BA Az aB aBc Ao x τ w) (hok:Sw.Cc x=true) (h:Sw.Br ea 0 1=false):Calls Tryz.prog 41 #[.pointer (some ⟨g,0,none⟩),.agg #[.int .i64 4,.int .i64 eq.user,.int .i64 eq.n,.int .i64 eq.kind,.int .i64 eq.ticket,.int .i64 eq.who,.int .i64 eq.Al,.int .i64 ea,.int .i64 et,.int .i64 ew]] w fun E w'=>IB g lo τ0 w0 w' E 0 x:=by
 have k9:=hS.BS
 have k7:=hS.lines
 have k8:=hS.AV
 have LM:=hS.at_.lt
 have VK:=hS.at_.free
 have hlo:=hS.lo_le
 obtain⟨rows,hmo⟩:=Sw.BU.1 (Sw.Am.1 hok).Dt
 have HK:=Lib.hid hmo
 have GY:A7≤300:=by have h1:=(Sw.Am.1 hok).lines;have h2:=hS.ow.lines.ow.1;omega
 have TL:Ao≤6:=by have h1:=(Sw.Am.1 hok).Ir;have h2:=hS.ow.BS.rx.len.1;omega
 have hG2:Az=2:=by have h1:=(Sw.Am.1 hok).GU;have h2:=hS.ow.AV.rg.len.1;omega
 have L4:=Lib.hid hG2
 have wb:IntKind.i64.wrap ((Ao:Int)-1)=(Ao:Int)-1:=IntWalk.i64_in _ (by omega)
 have HS:=Lib.hid hS
 have Li:=Lib.hid hok
 clear hS hok hmo hG2
 go_enter Tryz.func41,Tryz.ntmps41
 go_wp2_with fail
 (go_quiet ((go_at_call 61;exact Calls.AR (Cm _ _ _ _)));all_goals (generalize CE:World.drewN _ nq=W0;have hb0:=Ex.Iz CE;clear CE;obtain⟨hc0,hf0,hz0⟩:=xy hb0))
 go_wp2_with (go_at_call 63;refine (BQ _ _).mono ?_;rintro E w' ⟨rfl,rfl⟩)
 go_ret
 exact⟨aF,BD,A_,aL,Ae,AU,aP,Ag,AY,aD,Ac,AQ,aN,Ad,Aa,aS,Af,Ab,aI,BF,A7,aG,BA,Az,aB,aBc,Ao,τ,rfl,HS.out.ex AA⟩
theorem Vw (hS:WS g lo τ0 w0 aF BD A_ aL Ae AU aP Ag AY aD Ac AQ aN Ad Aa aS Af Ab aI BF A7 aG BA Az aB aBc Ao x τ w) (hok:Sw.Cc x=true) (h:Sw.Br ea 0 ((Ao:Int)-1)=false):Calls Tryz.prog 41 #[.pointer (some ⟨g,0,none⟩),.agg #[.int .i64 5,.int .i64 eq.user,.int .i64 eq.n,.int .i64 eq.kind,.int .i64 eq.ticket,.int .i64 eq.who,.int .i64 eq.Al,.int .i64 ea,.int .i64 et,.int .i64 ew]] w fun E w'=>IB g lo τ0 w0 w' E 0 x:=by
 have k9:=hS.BS
 have k7:=hS.lines
 have k8:=hS.AV
 have LM:=hS.at_.lt
 have VK:=hS.at_.free
 have hlo:=hS.lo_le
 obtain⟨rows,hmo⟩:=Sw.BU.1 (Sw.Am.1 hok).Dt
 have HK:=Lib.hid hmo
 have GY:A7≤300:=by have h1:=(Sw.Am.1 hok).lines;have h2:=hS.ow.lines.ow.1;omega
 have TL:Ao≤6:=by have h1:=(Sw.Am.1 hok).Ir;have h2:=hS.ow.BS.rx.len.1;omega
 have hG2:Az=2:=by have h1:=(Sw.Am.1 hok).GU;have h2:=hS.ow.AV.rg.len.1;omega
 have L4:=Lib.hid hG2
 have wb:IntKind.i64.wrap ((Ao:Int)-1)=(Ao:Int)-1:=IntWalk.i64_in _ (by omega)
 have HS:=Lib.hid hS
 have Li:=Lib.hid hok
 clear hS hok hmo hG2
 go_enter Tryz.func41,Tryz.ntmps41
 go_wp2_with fail
 (go_quiet ((go_at_call 61;exact Calls.AR (Cm _ _ _ _)));all_goals (generalize CE:World.drewN _ nq=W0;have hb0:=Ex.Iz CE;clear CE;obtain⟨hc0,hf0,hz0⟩:=xy hb0))
 go_wp2_with (go_at_call 63;refine (BQ _ _).mono ?_;rintro E w' ⟨rfl,rfl⟩)
 go_ret
 exact⟨aF,BD,A_,aL,Ae,AU,aP,Ag,AY,aD,Ac,AQ,aN,Ad,Aa,aS,Af,Ab,aI,BF,A7,aG,BA,Az,aB,aBc,Ao,τ,rfl,HS.out.ex AA⟩
theorem Vv (hS:WS g lo τ0 w0 aF BD A_ aL Ae AU aP Ag AY aD Ac AQ aN Ad Aa aS Af Ab aI BF A7 aG BA Az aB aBc Ao x τ w) (hok:Sw.Cc x=true) (h:Sw.Br ea 0 ((Ao:Int)-1)=false):Calls Tryz.prog 41 #[.pointer (some ⟨g,0,none⟩),.agg #[.int .i64 6,.int .i64 eq.user,.int .i64 eq.n,.int .i64 eq.kind,.int .i64 eq.ticket,.int .i64 eq.who,.int .i64 eq.Al,.int .i64 ea,.int .i64 et,.int .i64 ew]] w fun E w'=>IB g lo τ0 w0 w' E 0 x:=by
 have k9:=hS.BS
 have k7:=hS.lines
 have k8:=hS.AV
 have LM:=hS.at_.lt
 have VK:=hS.at_.free
 have hlo:=hS.lo_le
 obtain⟨rows,hmo⟩:=Sw.BU.1 (Sw.Am.1 hok).Dt
 have HK:=Lib.hid hmo
 have GY:A7≤300:=by have h1:=(Sw.Am.1 hok).lines;have h2:=hS.ow.lines.ow.1;omega
 have TL:Ao≤6:=by have h1:=(Sw.Am.1 hok).Ir;have h2:=hS.ow.BS.rx.len.1;omega
 have hG2:Az=2:=by have h1:=(Sw.Am.1 hok).GU;have h2:=hS.ow.AV.rg.len.1;omega
 have L4:=Lib.hid hG2
 have wb:IntKind.i64.wrap ((Ao:Int)-1)=(Ao:Int)-1:=IntWalk.i64_in _ (by omega)
 have HS:=Lib.hid hS
 have Li:=Lib.hid hok
 clear hS hok hmo hG2
 go_enter Tryz.func41,Tryz.ntmps41
 go_wp2_with fail
 (go_quiet ((go_at_call 61;exact Calls.AR (Cm _ _ _ _)));all_goals (generalize CE:World.drewN _ nq=W0;have hb0:=Ex.Iz CE;clear CE;obtain⟨hc0,hf0,hz0⟩:=xy hb0))
 go_wp2_with (go_at_call 63;refine (BQ _ _).mono ?_;rintro E w' ⟨rfl,rfl⟩)
 go_ret
 exact⟨aF,BD,A_,aL,Ae,AU,aP,Ag,AY,aD,Ac,AQ,aN,Ad,Aa,aS,Af,Ab,aI,BF,A7,aG,BA,Az,aB,aBc,Ao,τ,rfl,HS.out.ex AA⟩
theorem Vu (hS:WS g lo τ0 w0 aF BD A_ aL Ae AU aP Ag AY aD Ac AQ aN Ad Aa aS Af Ab aI BF A7 aG BA Az aB aBc Ao x τ w) (hok:Sw.Cc x=true) (h:Sw.Br ea 0 ((Ao:Int)-1)=false):Calls Tryz.prog 41 #[.pointer (some ⟨g,0,none⟩),.agg #[.int .i64 7,.int .i64 eq.user,.int .i64 eq.n,.int .i64 eq.kind,.int .i64 eq.ticket,.int .i64 eq.who,.int .i64 eq.Al,.int .i64 ea,.int .i64 et,.int .i64 ew]] w fun E w'=>IB g lo τ0 w0 w' E 0 x:=by
 have k9:=hS.BS
 have k7:=hS.lines
 have k8:=hS.AV
 have LM:=hS.at_.lt
 have VK:=hS.at_.free
 have hlo:=hS.lo_le
 obtain⟨rows,hmo⟩:=Sw.BU.1 (Sw.Am.1 hok).Dt
 have HK:=Lib.hid hmo
 have GY:A7≤300:=by have h1:=(Sw.Am.1 hok).lines;have h2:=hS.ow.lines.ow.1;omega
 have TL:Ao≤6:=by have h1:=(Sw.Am.1 hok).Ir;have h2:=hS.ow.BS.rx.len.1;omega
 have hG2:Az=2:=by have h1:=(Sw.Am.1 hok).GU;have h2:=hS.ow.AV.rg.len.1;omega
 have L4:=Lib.hid hG2
 have wb:IntKind.i64.wrap ((Ao:Int)-1)=(Ao:Int)-1:=IntWalk.i64_in _ (by omega)
 have HS:=Lib.hid hS
 have Li:=Lib.hid hok
 clear hS hok hmo hG2
 go_enter Tryz.func41,Tryz.ntmps41
 go_wp2_with fail
 (go_quiet ((go_at_call 61;exact Calls.AR (Cm _ _ _ _)));all_goals (generalize CE:World.drewN _ nq=W0;have hb0:=Ex.Iz CE;clear CE;obtain⟨hc0,hf0,hz0⟩:=xy hb0))
 go_wp2_with (go_at_call 63;refine (BQ _ _).mono ?_;rintro E w' ⟨rfl,rfl⟩)
 go_ret
 exact⟨aF,BD,A_,aL,Ae,AU,aP,Ag,AY,aD,Ac,AQ,aN,Ad,Aa,aS,Af,Ab,aI,BF,A7,aG,BA,Az,aB,aBc,Ao,τ,rfl,HS.out.ex AA⟩
theorem Vt (hS:WS g lo τ0 w0 aF BD A_ aL Ae AU aP Ag AY aD Ac AQ aN Ad Aa aS Af Ab aI BF A7 aG BA Az aB aBc Ao x τ w) (hok:Sw.Cc x=true) (h:Sw.Br ea 0 1=false):Calls Tryz.prog 41 #[.pointer (some ⟨g,0,none⟩),.agg #[.int .i64 8,.int .i64 eq.user,.int .i64 eq.n,.int .i64 eq.kind,.int .i64 eq.ticket,.int .i64 eq.who,.int .i64 eq.Al,.int .i64 ea,.int .i64 et,.int .i64 ew]] w fun E w'=>IB g lo τ0 w0 w' E 0 x:=by
 have k9:=hS.BS
 have k7:=hS.lines
 have k8:=hS.AV
 have LM:=hS.at_.lt
 have VK:=hS.at_.free
 have hlo:=hS.lo_le
 obtain⟨rows,hmo⟩:=Sw.BU.1 (Sw.Am.1 hok).Dt
 have HK:=Lib.hid hmo
 have GY:A7≤300:=by have h1:=(Sw.Am.1 hok).lines;have h2:=hS.ow.lines.ow.1;omega
 have TL:Ao≤6:=by have h1:=(Sw.Am.1 hok).Ir;have h2:=hS.ow.BS.rx.len.1;omega
 have hG2:Az=2:=by have h1:=(Sw.Am.1 hok).GU;have h2:=hS.ow.AV.rg.len.1;omega
 have L4:=Lib.hid hG2
 have wb:IntKind.i64.wrap ((Ao:Int)-1)=(Ao:Int)-1:=IntWalk.i64_in _ (by omega)
 have HS:=Lib.hid hS
 have Li:=Lib.hid hok
 clear hS hok hmo hG2
 go_enter Tryz.func41,Tryz.ntmps41
 go_wp2_with fail
 (go_quiet ((go_at_call 61;exact Calls.AR (Cm _ _ _ _)));all_goals (generalize CE:World.drewN _ nq=W0;have hb0:=Ex.Iz CE;clear CE;obtain⟨hc0,hf0,hz0⟩:=xy hb0))
 go_wp2_with (go_at_call 63;refine (BQ _ _).mono ?_;rintro E w' ⟨rfl,rfl⟩)
 go_ret
 exact⟨aF,BD,A_,aL,Ae,AU,aP,Ag,AY,aD,Ac,AQ,aN,Ad,Aa,aS,Af,Ab,aI,BF,A7,aG,BA,Az,aB,aBc,Ao,τ,rfl,HS.out.ex AA⟩
theorem UZ (hS:WS g lo τ0 w0 aF BD A_ aL Ae AU aP Ag AY aD Ac AQ aN Ad Aa aS Af Ab aI BF A7 aG BA Az aB aBc Ao x τ w) (hok:Sw.Cc x=true) (h:Sw.Br ea 0 1=true) (h2:Sw.Br et 0 7=false):Calls Tryz.prog 41 #[.pointer (some ⟨g,0,none⟩),.agg #[.int .i64 8,.int .i64 eq.user,.int .i64 eq.n,.int .i64 eq.kind,.int .i64 eq.ticket,.int .i64 eq.who,.int .i64 eq.Al,.int .i64 ea,.int .i64 et,.int .i64 ew]] w fun E w'=>IB g lo τ0 w0 w' E 0 x:=by
 have k9:=hS.BS
 have k7:=hS.lines
 have k8:=hS.AV
 have LM:=hS.at_.lt
 have VK:=hS.at_.free
 have hlo:=hS.lo_le
 obtain⟨rows,hmo⟩:=Sw.BU.1 (Sw.Am.1 hok).Dt
 have HK:=Lib.hid hmo
 have GY:A7≤300:=by have h1:=(Sw.Am.1 hok).lines;have h2:=hS.ow.lines.ow.1;omega
 have TL:Ao≤6:=by have h1:=(Sw.Am.1 hok).Ir;have h2:=hS.ow.BS.rx.len.1;omega
 have hG2:Az=2:=by have h1:=(Sw.Am.1 hok).GU;have h2:=hS.ow.AV.rg.len.1;omega
 have L4:=Lib.hid hG2
 have wb:IntKind.i64.wrap ((Ao:Int)-1)=(Ao:Int)-1:=IntWalk.i64_in _ (by omega)
 have HS:=Lib.hid hS
 have Li:=Lib.hid hok
 clear hS hok hmo hG2
 go_enter Tryz.func41,Tryz.ntmps41
 go_wp2_with fail
 (go_quiet ((go_at_call 61;exact Calls.AR (Cm _ _ _ _)));all_goals (generalize CE:World.drewN _ nq=W0;have hb0:=Ex.Iz CE;clear CE;obtain⟨hc0,hf0,hz0⟩:=xy hb0))
 go_wp2_with (go_at_call 63;refine (BQ _ _).mono ?_;rintro E w' ⟨rfl,rfl⟩)
 go_ret
 exact⟨aF,BD,A_,aL,Ae,AU,aP,Ag,AY,aD,Ac,AQ,aN,Ad,Aa,aS,Af,Ab,aI,BF,A7,aG,BA,Az,aB,aBc,Ao,τ,rfl,HS.out.ex AA⟩
theorem Vs (hS:WS g lo τ0 w0 aF BD A_ aL Ae AU aP Ag AY aD Ac AQ aN Ad Aa aS Af Ab aI BF A7 aG BA Az aB aBc Ao x τ w) (hok:Sw.Cc x=true) (h:Sw.Br ea 0 1=false):Calls Tryz.prog 41 #[.pointer (some ⟨g,0,none⟩),.agg #[.int .i64 9,.int .i64 eq.user,.int .i64 eq.n,.int .i64 eq.kind,.int .i64 eq.ticket,.int .i64 eq.who,.int .i64 eq.Al,.int .i64 ea,.int .i64 et,.int .i64 ew]] w fun E w'=>IB g lo τ0 w0 w' E 0 x:=by
 have k9:=hS.BS
 have k7:=hS.lines
 have k8:=hS.AV
 have LM:=hS.at_.lt
 have VK:=hS.at_.free
 have hlo:=hS.lo_le
 obtain⟨rows,hmo⟩:=Sw.BU.1 (Sw.Am.1 hok).Dt
 have HK:=Lib.hid hmo
 have GY:A7≤300:=by have h1:=(Sw.Am.1 hok).lines;have h2:=hS.ow.lines.ow.1;omega
 have TL:Ao≤6:=by have h1:=(Sw.Am.1 hok).Ir;have h2:=hS.ow.BS.rx.len.1;omega
 have hG2:Az=2:=by have h1:=(Sw.Am.1 hok).GU;have h2:=hS.ow.AV.rg.len.1;omega
 have L4:=Lib.hid hG2
 have wb:IntKind.i64.wrap ((Ao:Int)-1)=(Ao:Int)-1:=IntWalk.i64_in _ (by omega)
 have HS:=Lib.hid hS
 have Li:=Lib.hid hok
 clear hS hok hmo hG2
 go_enter Tryz.func41,Tryz.ntmps41
 go_wp2_with fail
 (go_quiet ((go_at_call 61;exact Calls.AR (Cm _ _ _ _)));all_goals (generalize CE:World.drewN _ nq=W0;have hb0:=Ex.Iz CE;clear CE;obtain⟨hc0,hf0,hz0⟩:=xy hb0))
 go_wp2_with (go_at_call 63;refine (BQ _ _).mono ?_;rintro E w' ⟨rfl,rfl⟩)
 go_ret
 exact⟨aF,BD,A_,aL,Ae,AU,aP,Ag,AY,aD,Ac,AQ,aN,Ad,Aa,aS,Af,Ab,aI,BF,A7,aG,BA,Az,aB,aBc,Ao,τ,rfl,HS.out.ex AA⟩
theorem Xx (hS:WS g lo τ0 w0 aF BD A_ aL Ae AU aP Ag AY aD Ac AQ aN Ad Aa aS Af Ab aI BF A7 aG BA Az aB aBc Ao x τ w) (hok:Sw.Cc x=true) {ek:Int} (h1:ek≠1) (h2:ek≠2) (h3:ek≠3) (h4:ek≠4) (h5:ek≠5) (h6:ek≠6) (h7:ek≠7) (h8:ek≠8) (h9:ek≠9):Calls Tryz.prog 41 #[.pointer (some ⟨g,0,none⟩),.agg #[.int .i64 ek,.int .i64 eq.user,.int .i64 eq.n,.int .i64 eq.kind,.int .i64 eq.ticket,.int .i64 eq.who,.int .i64 eq.Al,.int .i64 ea,.int .i64 et,.int .i64 ew]] w fun E w'=>IB g lo τ0 w0 w' E 0 x:=by
 have k9:=hS.BS
 have k7:=hS.lines
 have k8:=hS.AV
 have LM:=hS.at_.lt
 have VK:=hS.at_.free
 have hlo:=hS.lo_le
 obtain⟨rows,hmo⟩:=Sw.BU.1 (Sw.Am.1 hok).Dt
 have HK:=Lib.hid hmo
 have GY:A7≤300:=by have h1:=(Sw.Am.1 hok).lines;have h2:=hS.ow.lines.ow.1;omega
 have TL:Ao≤6:=by have h1:=(Sw.Am.1 hok).Ir;have h2:=hS.ow.BS.rx.len.1;omega
 have hG2:Az=2:=by have h1:=(Sw.Am.1 hok).GU;have h2:=hS.ow.AV.rg.len.1;omega
 have L4:=Lib.hid hG2
 have wb:IntKind.i64.wrap ((Ao:Int)-1)=(Ao:Int)-1:=IntWalk.i64_in _ (by omega)
 have HS:=Lib.hid hS
 have Li:=Lib.hid hok
 clear hS hok hmo hG2
 have q1:(ek==1)=false:=by simpa using h1
 have q2:(ek==2)=false:=by simpa using h2
 have q3:(ek==3)=false:=by simpa using h3
 have q4:(ek==4)=false:=by simpa using h4
 have q5:(ek==5)=false:=by simpa using h5
 have q6:(ek==6)=false:=by simpa using h6
 have q7:(ek==7)=false:=by simpa using h7
 have q8:(ek==8)=false:=by simpa using h8
 have q9:(ek==9)=false:=by simpa using h9
 clear h1 h2 h3 h4 h5 h6 h7 h8 h9
 go_enter Tryz.func41,Tryz.ntmps41
 go_wp2_with fail
 (go_quiet ((go_at_call 61;exact Calls.AR (Cm _ _ _ _)));all_goals (generalize CE:World.drewN _ nq=W0;have hb0:=Ex.Iz CE;clear CE;obtain⟨hc0,hf0,hz0⟩:=xy hb0))
 go_wp2_with (go_at_call 63;refine (BQ _ _).mono ?_;rintro E w' ⟨rfl,rfl⟩)
 go_ret
 exact⟨aF,BD,A_,aL,Ae,AU,aP,Ag,AY,aD,Ac,AQ,aN,Ad,Aa,aS,Af,Ab,aI,BF,A7,aG,BA,Az,aB,aBc,Ao,τ,rfl,HS.out.ex AA⟩
end
end Go.Proofs.YtgaflnpmilikcaaGreat
