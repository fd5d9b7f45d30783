/- Texts joined: WldI. -/
import Derived.Test.YtgaflnpmilikcaaGreatPx42
import Derived.Test.YtgaflnpmilikcaaGreatPx38
import Derived.Test.YtgaflnpmilikcaaGreatPx23
set_option maxRecDepth 100000
set_option linter.unusedSimpArgs false
set_option linter.unusedVariables false
namespace Go.Proofs.YtgaflnpmilikcaaGreat
open Go.RowKit Go
set_option maxHeartbeats 20000000
theorem Ch.bT {lo k B:Nat} {τ:Nat→Nat} {w w':World} (h:Ch (SA lo (glue τ k (fun _=>0))) w w') (hB:w.heap.size=B) :
  (∀ b o,((⟨b,0,none⟩:Addr)=⟨b-k+k,0,none⟩)→¬((⟨b,0,none⟩:Addr)=⟨b-B+B,0,none⟩)→w'.cell? ⟨b,o,none⟩=w.cell? ⟨b,o,none⟩) ∧
  (∀ b o,((⟨b,0,none⟩:Addr)=⟨b-k+k,0,none⟩)→¬((⟨b,0,none⟩:Addr)=⟨b-B+B,0,none⟩)→w'.frozen? ⟨b,o,none⟩=w.frozen? ⟨b,o,none⟩)∧B≤w'.heap.size:=by
 subst hB
 have l2:∀ b,((⟨b,0,none⟩:Addr)=⟨b-k+k,0,none⟩)→¬((⟨b,0,none⟩:Addr)=⟨b-w.heap.size+w.heap.size,0,none⟩)→w'.heap[b]?=w.heap[b]?:=fun b h1 h2=>by
  have h1:b=b-k+k:=congrArg Addr.block h1
  refine h.block b (A9 h2) fun ⟨_,h3,_⟩=>?_
  rw[glue,if_neg (by omega)] at h3
  exact absurd h3 (by decide)
 exact⟨fun b o h1 h2=>World.cell?_of_block (w:=w) (a:=⟨b,o,none⟩) (l2 b h1 h2),fun b o h1 h2=>World.frozen?_of_block (w:=w) (a:=⟨b,o,none⟩) (l2 b h1 h2),h.size⟩
theorem Ch.XD {lo g:Nat} {τ:Nat→Nat} {w w':World} (h:Ch (SA lo τ) w w') (hg:g<w.heap.size) (h0:τ g=0):(∀ o,w'.cell? ⟨g,o,none⟩=w.cell? ⟨g,o,none⟩)∧(∀ o,w'.frozen? ⟨g,o,none⟩=w.frozen? ⟨g,o,none⟩):=
 ⟨fun o=>h.cell (p:=⟨g,o,none⟩) hg (fun ⟨_,h1,_⟩=>by have h1:1≤τ g:=h1;omega),fun o=>h.frozen (p:=⟨g,o,none⟩) hg (fun ⟨_,h1,_⟩=>by have h1:1≤τ g:=h1;omega)⟩
abbrev Gb (g:Nat) (W w:World):Prop:=(∀ o,w.cell? ⟨g,o,none⟩=W.cell? ⟨g,o,none⟩)∧g<w.heap.size
theorem Gb.start {g:Nat} {W:World} (h:g<W.heap.size):Gb g W W.drew:=⟨fun _=>rfl,h⟩
theorem Gb.refl {g:Nat} {W:World} (h:g<W.heap.size):Gb g W W:=⟨fun _=>rfl,h⟩
theorem Gb.drew {g:Nat} {W w:World} (h:Gb g W w):Gb g W w.drew:=h
theorem Gb.alloc {g:Nat} {W w:World} {o:Obj} (h:Gb g W w):Gb g W (w.alloc o):=⟨fun i=>(World.cell?_alloc_lt _ _ _ h.2).trans (h.1 i),by simp;have:=h.2;omega⟩
theorem Gb.set {g:Nat} {W w:World} {p:Addr} {u:Value} (h:Gb g W w) (hp:p.block≠g):Gb g W (w.setCell p u):=
 ⟨fun i=>(World.cell?_setCell_other _ _ _ _ (fun e=>hp (by rw[e]))).trans (h.1 i),by simpa [World.setCell] using h.2⟩
theorem Gb.on {g:Nat} {W w w':World} (h:Gb g W w) (hc:∀ o,w'.cell? ⟨g,o,none⟩=w.cell? ⟨g,o,none⟩) (hz:w.heap.size≤w'.heap.size):Gb g W w':=⟨fun o=>(hc o).trans (h.1 o),by have:=h.2;omega⟩
theorem yo {p:Prop} (h:p:=by ((try dsimp only);(repeat (first|with_reducible assumption|with_reducible exact Gb.start Aq|with_reducible exact Gb.refl Aq|with_reducible refine Gb.alloc ?_|with_reducible refine Gb.drew ?_|(refine Gb.set ?_ (by first|omega|(simp only[BO];omega))))))):p:=h
theorem mr {τ6 τ':Nat→Nat} {B l k1 k2:Nat} (h:∀ b,b<B→τ6 b=τ' b) (h9:∀ b,l≤b→(b<k1∨k2≤b)→τ' b=0):∀ b,(l≤b∧(b<k1∨k2≤b)∧b<B)→τ6 b=0:=
 fun b hb=>(h b hb.2.2).trans (h9 b hb.1 hb.2.1)
theorem cY {l k1 k2 B:Nat} {τ:Nat→Nat} {a w:World} {p:Addr} {u:Value} (hτ:∀ b,(l≤b∧(b<k1∨k2≤b)∧b<B)→τ b=0) (h:Ch (fun b=>τ b=0) a w) (h1:l≤p.block) (h2:p.block<k1∨k2≤p.block) (h3:p.block<B):Ch (fun b=>τ b=0) a (w.setCell p u):=
 h.setCell (.inl (hτ _ ⟨h1,h2,h3⟩)) u
def I7 (x:Sw.World) (ds:List Int) (j:Nat):Sw.World:=(ds.take j).foldl Sw.Bp x
theorem VG (x:Sw.World) (r:Sw.Ee):(Sw.ask x r).1.first=x.first∧(Sw.ask x r).1.AV=x.AV∧(Sw.ask x r).1.BS=x.BS:=by
 unfold Sw.ask;split <;> exact⟨rfl,rfl,rfl⟩
theorem Sk (x:Sw.World) (t:Int):(Sw.Bp x t).first=x.first∧(Sw.Bp x t).AV=x.AV∧(Sw.Bp x t).BS=x.BS:=by
 unfold Sw.Bp
 split
 ·exact VG _ _
 ·exact⟨rfl,rfl,rfl⟩
theorem Qg:∀ (ts:List Int) (x:Sw.World),(ts.foldl Sw.Bp x).first=x.first∧(ts.foldl Sw.Bp x).AV=x.AV∧(ts.foldl Sw.Bp x).BS=x.BS
 | [],x=>⟨rfl,rfl,rfl⟩
 | t::ts,x=>by
  obtain⟨a,b,c⟩:=Qg ts (Sw.Bp x t)
  obtain⟨d,e,f⟩:=Sk x t
  exact⟨a.trans d,b.trans e,c.trans f⟩
theorem Pz {x:Sw.World} {ds:List Int} {j:Nat} {t:Int} (h:ds[j]?=some t):I7 x ds (j+1)=Sw.Bp (I7 x ds j) t:=by
 unfold I7;rw[List.take_add_one,h];simp
structure XX (w:World) (lo:Nat) (τ:Nat→Nat) (F:Option Addr) (Fc Fn:Nat) (G:Option Addr) (Gc Gn:Nat) (X:Option Addr) (Xc Xn:Nat) (z:Sw.World) (wr:World) (bL:Option Addr) (Bg BR:Nat) (bP:Option Addr) (Bf BV:Nat) (bD:Option Addr) (Bh Ba:Nat) (bN:Option Addr) (Bd Bb:Nat) (bS:Option Addr) (Bc BZ:Nat) (I:Option Addr) (Ic In:Nat) (τr:Nat→Nat):Prop where
 c0:wr.cell? ⟨w.heap.size,0,none⟩=some (.slice F Fn Fc)
 Dt:Cs wr w.heap.size 1 bL Bg BR bP Bf BV bD Bh Ba bN Bd Bb bS Bc BZ z.AB.clock
 c7:wr.cell? ⟨w.heap.size,7,none⟩=some (.slice I In Ic)
 c8:wr.cell? ⟨w.heap.size,8,none⟩=some (.slice G Gn Gc)
 c9:wr.cell? ⟨w.heap.size,9,none⟩=some (.slice X Xn Xc)
 lr:Lb wr (w.heap.size+1) 10
 ow:Cn τr wr lo bL Bg BR bP Bf BV bD Bh Ba bN Bd Bb bS Bc BZ z.AB
 li:TT τr 7 wr lo I Ic In z.lines
 tag:∀ b,b<w.heap.size→τr b=τ b
 zero:∀ b,w.heap.size≤b→b<w.heap.size+2→τr b=0
 kp:∀ t,t=6∨8≤t→KT τ t lo w wr
 ch:Ch (JD lo τ) w wr
 sz:w.heap.size+2≤wr.heap.size
section
variable {w wr w1:World} {lo:Nat} {τ τr:Nat→Nat} {F G X I:Option Addr} {Fc Fn Gc Gn Xc Xn Ic In:Nat} {bL bP bD bN bS:Option Addr} {Bg BR Bf BV Bh Ba Bd Bb Bc BZ:Nat} {z:Sw.World}
theorem XX.ex (h:XX w lo τ F Fc Fn G Gc Gn X Xc Xn z wr bL Bg BR bP Bf BV bD Bh Ba bN Bd Bb bS Bc BZ I Ic In τr) (hb:Ex wr w1):XX w lo τ F Fc Fn G Gc Gn X Xc Xn z w1 bL Bg BR bP Bf BV bD Bh Ba bN Bd Bb bS Bc BZ I Ic In τr:=by
 have hlt:w.heap.size<wr.heap.size:=by have:=h.sz;omega
 have hk:∀ i,w1.cell? ⟨w.heap.size,i,none⟩=wr.cell? ⟨w.heap.size,i,none⟩:=fun i=>World.cell?_of_block (w:=wr) (a:=⟨w.heap.size,i,none⟩) (hb.block _ hlt (fun h=>h))
 exact⟨(hk _).trans h.c0,h.Dt.keep (kE hb (kR _ _)),(hk _).trans h.c7,(hk _).trans h.c8,(hk _).trans h.c9,h.lr.ex hb,h.ow.Av (kE hb (kR _ _)),h.li.Av (kE hb (kR _ _)),h.tag,h.zero,fun t ht=>KT.ex hb (h.kp t ht),cE hb h.ch,Nat.le_trans h.sz hb.size⟩
end
theorem bU (aF:Option Addr) (BD A_:Nat) (aL:Option Addr) (Ae AU:Nat) (aP:Option Addr) (Ag AY:Nat) (aD:Option Addr) (Ac AQ:Nat) (aN:Option Addr) (Ad Aa:Nat) (aS:Option Addr) (Af Ab:Nat) (aI:Option Addr) (BF A7:Nat) (aG:Option Addr) (BA Az:Nat) (aB:Option Addr) (aBc Ao:Nat) (x:Sw.World) (k:Int) (lo:Nat) (τ:Nat→Nat) (w:World) (hW:Eh Jk I4 τ w lo aF BD A_ aL Ae AU aP Ag AY aD Ac AQ aN Ad Aa aS Af Ab aI BF A7 aG BA Az aB aBc Ao x) (hok:Sw.Cc x=true) (hlo:lo≤w.heap.size):Calls Tryz.prog 104 #[.agg #[.slice aF A_ BD,.slice aL AU Ae,.slice aP AY Ag,.slice aD AQ Ac,.int .i64 x.AB.clock,.slice aN Aa Ad,.slice aS Ab Af,.slice aI A7 BF,.slice aG Az BA,.slice aB Ao aBc],.int .i64 k] w fun E w'=>Sd lo τ w w' (fun u=>u) E (Sw.tell x k):=by
 obtain⟨-,-,hG2,-,-,RS⟩:=IP hok
 have hl4:=hW.AV.rg.len.1
 have L4:=Lib.hid (show Az=2 by omega)
 clear hl4 hG2
 cases g1:Sw.Br k 0 1
 case false=>
  have e:Sw.tell x k=x:=by simp[Sw.tell,g1]
  rw[e];clear e
  go_enter Tryz.func104,Tryz.ntmps104
  go_wp2_with (go_at_call 48;refine (Aw _ _ _ _).mono ?_;rintro E w' ⟨rfl,rfl⟩)
  refine bodyPost_ret (v:=.agg #[.slice aF A_ BD,.slice aL AU Ae,.slice aP AY Ag,.slice aD AQ Ac,.int .i64 x.AB.clock,.slice aN Aa Ad,.slice aS Ab Af,.slice aI A7 BF,.slice aG Az BA,.slice aB Ao aBc]) (by simp[results,Tryz.results104,go_sem, *]) rfl ?_
  exact⟨aF,BD,A_,aL,Ae,AU,aP,Ag,AY,aD,Ac,AQ,aN,Ad,Aa,aS,Af,Ab,aI,BF,A7,aG,BA,Az,aB,aBc,Ao,rfl,fun w'' hz=>((hW.Av AO).zeros hz).JU,AA⟩
 have Zb:=Sw.BB.1 g1
 obtain⟨kk,rfl⟩:∃ kk:Nat,k=kk:=⟨k.toNat,by omega⟩
 obtain⟨vg,Jj,Pf,Kz⟩:=hW.AV.ex
 obtain⟨gG,xg,rfl,Ut,WH,hxg,c0,c1',c2',c3',eO⟩:=Lc Jj.ow (show kk<Az by have:=L4.out;omega)
 obtain⟨y,hy2⟩:∃ y,x.AV[kk]?=some y:=⟨_,List.getElem?_eq_getElem (by have:=L4.out;omega)⟩
 obtain⟨e1,hdone⟩:=Kz kk xg y hxg hy2
 obtain⟨xh,xA,xc,xn⟩:=xg
 dsimp only at e1 hdone c0 c1' c2' c3'
 subst e1
 have Ji:=RS y (List.mem_of_getElem? hy2)
 have htk:∀ t∈y.done,0≤t∧t≤7:=by
  have h1:=Ji
  simp only[Sw.DF,Bool.and_eq_true] at h1
  exact fun t ht=>((Sw.Js _ _).1 h1.2).1 t ht |>.1
 have hga:Sw.Cb x kk=y:=by unfold Sw.Cb;rw[Int.toNat_natCast];exact Sw.CP hy2
 have HE:=Lib.hid (show Sw.tell x kk=y.done.foldl Sw.Bp x from by unfold Sw.tell;rw[g1,if_pos rfl,hga])
 have xY:=Lib.hid htk
 have HL:=Lib.hid hdone.ow.1
 have Li:=Lib.hid hok
 have hxb:=hdone.ow.rs.big
 have u1:(0:Int)≤(kk:Int):=by omega
 have u2:(kk:Int)<(Az:Int):=by have:=L4.out;omega
 have tG:τ gG=8:=Jj.tag _ rfl
 clear hga Ji hy2 hxg RS Zb Jj Pf Kz htk hok c0 c1' c2'
 go_enter Tryz.func104,Tryz.ntmps104
 go_wp2_with (go_at_call 48;refine (Aw _ _ _ _).mono ?_;rintro E w' ⟨rfl,rfl⟩)
 go_loopw [5] (fun i wr=>∃ (j:Nat) (bL:Option Addr) (Bg BR:Nat) (bP:Option Addr) (Bf BV:Nat) (bD:Option Addr) (Bh Ba:Nat) (bN:Option Addr) (Bd Bb:Nat) (bS:Option Addr) (Bc BZ:Nat) (I:Option Addr) (Ic In:Nat) (τr:Nat→Nat),j≤xn∧i=.int .i64 j∧XX w lo τ aF BD A_ (some ⟨gG,0,none⟩) BA Az aB aBc Ao (I7 x y.done j) wr bL Bg BR bP Bf BV bD Bh Ba bN Bd Bb bS Bc BZ I Ic In τr) (fun i _=>xn-(intOf i).toNat)
 case atStart=>
  have hG:=hW.CX (τ':=fun _=>0) (Nat.le_refl _)
  refine⟨0,aL,Ae,AU,aP,Ag,AY,aD,Ac,AQ,aN,Ad,Aa,aS,Af,Ab,aI,BF,A7,glue τ w.heap.size (fun _=>0),Nat.zero_le _,rfl,?_⟩
  rw[show I7 x y.done 0=x from rfl]
  exact⟨Ak,⟨Aq,Ak,Ak,Ak,Ak,Ak,Ak,fun i=>Ak⟩,Ak,Ak,Ak,Dw,hG.Dt.Av AO,hG.lines.Av AO,fun b hb=>if_pos hb,Qh,fun t _=>.of AO,AA,Aq⟩
 case round=>
  obtain⟨j,bL,Bg,BR,bP,Bf,BV,bD,Bh,Ba,bN,Bd,Bb,bS,Bc,BZ,I,Ic,In,τr,hj,rfl,hS⟩:=hrel
  obtain⟨z,hz⟩:∃ z,z=I7 x y.done j:=⟨_,rfl⟩
  rw[← hz] at hS
  have nT:Sw.Iu z:=by rw[hz];exact Sw.Kk _ (Sw.Am.1 Li.out)
  have hsame:z.first=x.first∧z.AV=x.AV∧z.BS=x.BS:=by rw[hz];exact Qg _ _
  have HS:=Lib.hid hS
  obtain⟨c0,⟨m0,m1,m2,m3,m4,m5,m6,mf⟩,c7,c8,c9,lr,ow,li,tag,zero,kp,ch,sz⟩:=hS
  simp only[Nat.reduceAdd] at m2 m3 m4 m5 m6
  have yZ:wr.heap[gG]?=w.heap[gG]?:=(kp 8 (.inr (Nat.le_refl _))).block gG Ut WH tG
  have c3r:wr.cell? ⟨gG,kk*4+3,none⟩=some (.slice xA xn xc):=(World.cell?_of_block (w:=w) (a:=⟨gG,kk*4+3,none⟩) yZ).trans c3'
  obtain⟨hcz,hfz⟩:=Lb.rules lr
  have HZ:=Lib.hid hz
  have iU:=Lib.hid nT
  have xZ:=Lib.hid hsame
  have KP:=Lib.hid kp
  have TAG:=Lib.hid tag
  have ZERO:=Lib.hid zero
  clear hz nT hsame kp tag zero c3' yZ
  by_cases hlt:j<xn
  ·have hdr:=hdone.keep (KP.out (Jk kk) (.inr (Wi kk)))
   obtain⟨gd,td,rfl,hd0,hd1,htd,cd,oQ⟩:=KC hdr.ow hlt
   have ZU:=xY.out td (List.mem_of_getElem? htd)
   obtain⟨tn,rfl⟩:∃ tn:Nat,td=tn:=⟨td.toNat,by omega⟩
   have htn:tn<8:=by omega
   have HT:=Lib.hid (show I7 x y.done (j+1)=Sw.Bp z tn from by rw[HZ.out];exact Pz htd)
   obtain⟨rows,hok⟩:=Sw.BU.1 iU.out.Dt
   have hrows:=(Ty hok).1
   have hro:=Sw.J4 (Sw.Bv hok.fold) (tn:Int)
   have HK:=Lib.hid hok
   have e1:Sw.Bp z tn=if decide (0<(Sw.rowAt rows tn).who) && !(Sw.rowAt rows tn).used&&decide (Sw.lastOf z.AB.nums (Sw.rowAt rows tn).who<99999) then (Sw.ask z ⟨(Sw.rowAt rows tn).who,Sw.lastOf z.AB.nums (Sw.rowAt rows tn).who+1,6,tn,0,0⟩).1 else z:=by
    unfold Sw.Bp;rw[hrows]
   obtain⟨row,hrw⟩:∃ row,row=Sw.rowAt rows (tn:Int):=⟨_,rfl⟩
   rw[← hrw] at e1 hro
   have HRW:=Lib.hid hrw
   have E1:=Lib.hid e1
   have v1:(0:Int)≤(j:Int):=by omega
   have v2:(j:Int)<(xn:Int):=by omega
   have v3:(0:Int)≤(tn:Int):=by omega
   have v4:(tn:Int)<8:=by omega
   have yS:0≤row.who∧row.who≤5:=by
    have h1:=hro
    rw[Sw.IQ] at h1
    omega
   clear hok hrows hro hrw e1 htd ZU
   by_cases w0:0<row.who
   case neg=>
    have E2:=Lib.hid (show Sw.Bp z tn=z from by rw[E1.out,if_neg (by simp;intro h;omega)])
    have w0':¬ 0<row.who:=w0
    go_wp2_with (go_at_call 121;apply Calls.mono;apply (Ca (m:=z.AB) (rows:=rows) (t:=tn));(apply CK.Es ow.log;(exact AO));exact HK.out.fold;exact htn;rintro E w1 ⟨gr,dr,rfl,⟨Gr,FY,hgR,q0,q1,q2⟩,hb⟩;rw[← HRW.out] at q0 q1 q2;obtain⟨hc,hf,hz⟩:=xy hb)
    go_roundw
    case rel=>
     refine⟨j+1,bL,Bg,BR,bP,Bf,BV,bD,Bh,Ba,bN,Bd,Bb,bS,Bc,BZ,I,Ic,In,τr,by omega,by go_num,?_⟩
     rw[HT.out,E2.out]
     exact HS.out.ex AA
    case measure=>simp[intOf];omega
   case pos=>
    obtain⟨v,hv⟩:∃ v:Nat,row.who=v+1:=⟨(row.who-1).toNat,by omega⟩
    have hv5:v<5:=by omega
    obtain rfl:Bb=5:=by rw[ow.nums.ow.1,HK.out.NL]
    obtain⟨gN,nv,rfl,d_,hgN,iC,cN,rX⟩:=KC ow.nums.ow hv5
    have hlast:Sw.lastOf z.AB.nums row.who=nv:=by unfold Sw.lastOf;rw[show (row.who-1).toNat=v from by omega];exact Sw.CP iC
    have lJ:=Lib.hid hlast
    have wv:IntKind.i64.wrap (row.who-1)=(v:Int):=by rw[IntWalk.i64_in _ (by omega)];omega
    have i0:(0:Int)≤(v:Int):=by omega
    have i1:(v:Int)<5:=by omega
    clear iC hlast hv
    by_cases n9:nv<99999
    case neg=>
     have E2:=Lib.hid (show Sw.Bp z tn=z from by rw[E1.out,lJ.out,if_neg (by simp;intro h1 h2;omega)])
     go_wp2_with (go_at_call 121;apply Calls.mono;apply (Ca (m:=z.AB) (rows:=rows) (t:=tn));(apply CK.Es ow.log;(exact AO));exact HK.out.fold;exact htn;rintro E w1 ⟨gr,dr,rfl,⟨Gr,FY,hgR,q0,q1,q2⟩,hb⟩;rw[← HRW.out] at q0 q1 q2;obtain⟨hc,hf,hz⟩:=xy hb)
     go_roundw
     case rel=>
      refine⟨j+1,bL,Bg,BR,bP,Bf,BV,bD,Bh,Ba,some ⟨gN,0,none⟩,Bd,5,bS,Bc,BZ,I,Ic,In,τr,by omega,by go_num,?_⟩
      rw[HT.out,E2.out]
      exact HS.out.ex AA
     case measure=>simp[intOf];omega
    case pos=>
     cases hu:row.used
     case true=>
      have E2:=Lib.hid (show Sw.Bp z tn=z from by rw[E1.out,hu,if_neg (by simp)])
      go_wp2_with (go_at_call 121;apply Calls.mono;apply (Ca (m:=z.AB) (rows:=rows) (t:=tn));(apply CK.Es ow.log;(exact AO));exact HK.out.fold;exact htn;rintro E w1 ⟨gr,dr,rfl,⟨Gr,FY,hgR,q0,q1,q2⟩,hb⟩;rw[← HRW.out] at q0 q1 q2;obtain⟨hc,hf,hz⟩:=xy hb)
      go_roundw
      case rel=>
       refine⟨j+1,bL,Bg,BR,bP,Bf,BV,bD,Bh,Ba,some ⟨gN,0,none⟩,Bd,5,bS,Bc,BZ,I,Ic,In,τr,by omega,by go_num,?_⟩
       rw[HT.out,E2.out]
       exact HS.out.ex AA
      case measure=>simp[intOf];omega
     case false=>
      have E2:=Lib.hid (show Sw.Bp z tn=(Sw.ask z ⟨row.who,nv+1,6,tn,0,0⟩).1 from by rw[E1.out,lJ.out,hu,if_pos (by simp;omega)])
      have hno:=Sw.Kr.1 (Sw.Sn HK.out (u:=row.who) (by omega))
      rw[lJ.out] at hno
      have wv2:IntKind.i64.wrap (nv+1)=nv+1:=IntWalk.i64_in _ (by omega)
      obtain⟨q,hq⟩:∃ q,q=Sw.ask z ⟨row.who,nv+1,6,tn,0,0⟩:=⟨_,rfl⟩
      have HQ:=Lib.hid hq
      have GY:In≤300:=by have h1:=iU.out.lines;have h2:=li.ow.1;omega
      clear hno hq
      go_upto_region 9 with (go_at_call 121;apply Calls.mono;apply (Ca (m:=z.AB) (rows:=rows) (t:=tn));(apply CK.Es ow.log;(exact AO));exact HK.out.fold;exact htn;rintro E w1 ⟨gr,dr,rfl,⟨Gr,FY,hgR,q0,q1,q2⟩,hb⟩;rw[← HRW.out] at q0 q1 q2;obtain⟨hc,hf,hz⟩:=xy hb)
      (refine CF fun W0 hb0 hc0 hf0 hz0=>?_)
      have p0:W0.cell? ⟨w.heap.size,0,none⟩=some (.slice aF A_ BD):=(Ak);have p1:W0.cell? ⟨w.heap.size,1,none⟩=some (.slice bL BR Bg):=(Ak);have p2:W0.cell? ⟨w.heap.size,2,none⟩=some (.slice bP BV Bf):=(Ak);have p3:W0.cell? ⟨w.heap.size,3,none⟩=some (.slice bD Ba Bh):=(Ak);have p4:W0.cell? ⟨w.heap.size,4,none⟩=some (.int .i64 z.AB.clock):=(Ak);have p5:W0.cell? ⟨w.heap.size,5,none⟩=some (.slice (some ⟨gN,0,none⟩) 5 Bd):=(Ak);have p6:W0.cell? ⟨w.heap.size,6,none⟩=some (.slice bS BZ Bc):=(Ak);have p7:W0.cell? ⟨w.heap.size,7,none⟩=some (.slice I In Ic):=(Ak);have p8:W0.cell? ⟨w.heap.size,8,none⟩=some (.slice (some ⟨gG,0,none⟩) Az BA):=(Ak);have p9:W0.cell? ⟨w.heap.size,9,none⟩=some (.slice aB Ao aBc):=(Ak)
      have pf:∀ i:Nat,W0.frozen? ⟨w.heap.size,i,none⟩=false:=fun i=>Ak
      have pN:W0.cell? ⟨gN,v,none⟩=some (.int .i64 nv):=Ak
      have mM:=HS.out.ex (show Ex wr W0 from AA)
      have eQ:Ex wr W0:=AA
      clear hb0 hc0 hf0
      obtain⟨Wq,CE⟩:∃ z,z=W0:=⟨_,rfl⟩
      subst CE
      have uQ:=mM.ow.CX (τ':=fun _=>0) (Nat.le_refl _)
      have uX:=mM.li.CX (τ':=fun _=>0) (Nat.le_refl _)
      have AAr:=mM.sz
      have z0:glue τr Wq.heap.size (fun _=>0) w.heap.size=0:=(if_pos (by omega)).trans (ZERO.out _ (Nat.le_refl _) (by omega))
      have z1:glue τr Wq.heap.size (fun _=>0) (w.heap.size+1)=0:=(if_pos (by omega)).trans (ZERO.out _ (by omega) (by omega))
      have zF:∀ b,w.heap.size≤b→(b<w.heap.size+2∨Wq.heap.size≤b)→glue τr Wq.heap.size (fun _=>0) b=0:=fun b h1 h2=>by
       rcases h2 with h2|h2
       ·exact (if_pos (by omega)).trans (ZERO.out _ h1 h2)
       ·exact if_neg (by omega)
      have za:=Lib.hid zF
      have uW:=mM.lr
      have yT:=Lib.hid mM.tag
      clear zF hcz hfz
      obtain⟨hcz,hfz⟩:=Lb.rules uW
      (focus (refine CF fun W0 hb0 hc0 hf0 hz0=>?_;refine Aj [] (S:=fun w'=>Gb (w.heap.size) W0 w') yo (fun hHeld=>?_);(repeat' (first|refine FQ [8] [] hHeld (h:=?_)|refine FW (fun K hK=>?_) ?_|refine FV ?_|exact Cf|refine FT (fun K hK=>?_) ?_|(revert hK;intro hK;go_simp;(try ((go_at_call 98;apply Calls.mono;apply (Yw (x:=z) (r:=⟨row.who,nv+1,6,tn,0,0⟩) (rows:=rows) (lo:=lo) (τ:=glue τr Wq.heap.size (fun _=>0)));(exact uQ.Av AO);(exact uX.Av AO);(exact HK.out);(exact GY);(exact Aq);rintro E w6 ⟨fL,Jo,Jc,fP,Jm,Ja,fD,Jp,Jd,fN,Jn,Jb,fS,Jl,JZ,I6,ky,kv,τ6,rfl,YZ,yY,RP,hb6⟩;rw[← HQ.out] at YZ yY;rw[← HQ.out];have hst:=Ch.bT hb6 rfl;(try simp only[BO] at hst RP);obtain⟨hcE,hfE,hzE⟩:=hst;obtain⟨hB0,Ta⟩:=Ch.XD hb6 (g:=w.heap.size) (by exact Aq) z0;have LP:=Gb.on (by assumption:Gb w.heap.size W0 _) hB0 hb6.size;obtain⟨hB1,hF1⟩:=Ch.XD hb6 (g:=w.heap.size+1) (by exact Aq) z1;have kz:=Lib.hid RP;clear RP);(try go_wp2_with fail)));refine CQ hK yo (h:=?_);clear hK K hHeld;intro hHeld)));all_goals (refine FR ?_)))
      all_goals go_wp2_with fail
      all_goals go_roundw
      repeat (case measure=>(simp[intOf];omega))
      all_goals (have zG:=mr kz.out za.out;have hKp:=fun (t:Nat) (ht:t=6∨8≤t)=>KT.ch hb6 (KT.ex (by exact AA) (KP.out t ht)) (fun i hi=>(by by_cases hiw:i<w.heap.size;(focus (right;have e9:glue τr Wq.heap.size (fun _=>0) i=τ i:=(if_pos (by omega)).trans (TAG.out i hiw);have h1:=hi.2;rw[e9] at h1;omega));(focus (left;omega))));have hC6:Ch (JD lo τ) w w6:=Ch.trans' (Ch.ex mM.ch (by exact AA)) hb6 (fun i hi h=>(by have e9:glue τr Wq.heap.size (fun _=>0) i=τ i:=(if_pos (by omega)).trans (TAG.out i hi);have h1:=h.2.1;rw[e9] at h1;exact⟨h.1,h1⟩));have hL6:=Lb.MB hb6 (by exact Dw:Lb _ (w.heap.size+1) 10) (fun h=>(by have h2:=h.2.1;rw[z1] at h2;omega));refine⟨j+1,fL,Jo,Jc,fP,Jm,Ja,fD,Jp,Jd,fN,Jn,Jb,fS,Jl,JZ,I6,ky,kv,τ6,by omega,by go_num,?_⟩;rw[HT.out,E2.out,← HQ.out];exact⟨Ak,⟨Aq,Ak,Ak,Ak,Ak,Ak,Ak,fun i=>Ak⟩,Ak,Ak,Ak,(by with_reducible repeat (first|exact hL6|apply Lb.set|apply Lb.drew|apply Lb.alloc)),YZ.zeros (by (with_reducible repeat (first|exact cR _ _|apply cA|apply cD|(refine cY zG ?_ (by first|omega|(simp only[BO];omega)) (by first|omega|(simp only[BO];omega)) (by first|omega|(simp only[BO];omega)))))),yY.zeros (by (with_reducible repeat (first|exact cR _ _|apply cA|apply cD|(refine cY zG ?_ (by first|omega|(simp only[BO];omega)) (by first|omega|(simp only[BO];omega)) (by first|omega|(simp only[BO];omega)))))) (by decide),fun b hb=>(kz.out b Aq).trans ((if_pos Aq).trans (TAG.out b hb)),fun b h1 h2=>(kz.out b Aq).trans (za.out b h1 (.inl h2)),fun t ht=>(by with_reducible repeat (first|exact hKp t ht|apply tA|apply tD|(refine tS ?_ (Or.inl (by first|omega|(simp only[BO];omega)))))),AA,Aq⟩)
  ·have Zc:j=xn:=by omega
   have nR:Sw.tell x kk=z:=by rw[HE.out,HZ.out];unfold I7;rw[List.take_of_length_le (by have:=HL.out;omega)]
   have xV:=Lib.hid nR
   clear nR Zc
   go_wp2_with fail
   refine bodyPost_ret (v:=.agg #[.slice aF A_ BD,.slice bL BR Bg,.slice bP BV Bf,.slice bD Ba Bh,.int .i64 z.AB.clock,.slice bN Bb Bd,.slice bS BZ Bc,.slice I In Ic,.slice (some ⟨gG,0,none⟩) Az BA,.slice aB Ao aBc]) (by simp[results,Tryz.results104,go_sem, *]) rfl ?_
   rw[xV.out]
   have key:∀ wf w'',Ch (BX w.heap.size (w.heap.size+2)) wr wf→Ch (Zr τ w.heap.size) wf w''→RW w'' lo aF BD A_ bL Bg BR bP Bf BV bD Bh Ba bN Bd Bb bS Bc BZ I Ic In (some ⟨gG,0,none⟩) BA Az aB aBc Ao z:=fun wf w'' hbx hzz=>by
    have K:∀ t,1≤t→(t=6∨8≤t)→KT τ t lo w w'':=fun t h1 ht=>(KT.ch hbx (KP.out t ht) (fun i hi=>.inl hi.1)).box hzz h1
    have zB:Ch (Zr τr wr.heap.size) wr w'':=(hbx.mono fun i _ hi=>⟨by have:=hi.2;omega,ZERO.out i hi.1 hi.2⟩).trans (hzz.mono fun i _ hi=>⟨by have:=hi.1;omega,(TAG.out i hi.1).trans hi.2⟩)
    exact⟨by rw[xZ.out.1];exact (hW.first.keep (K 6 (by decide) (.inl rfl))).rs,(ow.keep fun t h1 _=>(KT.refl _ _ _ _).box zB h1).rm,(li.keep ((KT.refl _ _ _ _).box zB (by decide))).rs,
     by rw[xZ.out.2.1];exact (hW.AV.keep (K 8 (by decide) (.inr (by decide))) fun j=>K _ (by unfold Jk;omega) (.inr (Wi j))).rg,by rw[xZ.out.2.2];exact (hW.BS.keep (K 9 (by decide) (.inr (by decide))) fun j=>K _ (by unfold I4;omega) (.inr (Zu j))).rx⟩
   exact⟨aF,BD,A_,bL,Bg,BR,bP,Bf,BV,bD,Bh,Ba,bN,Bd,Bb,bS,Bc,BZ,I,Ic,In,some ⟨gG,0,none⟩,BA,Az,aB,aBc,Ao,rfl,fun w'' hzz=>key _ w'' KA hzz,AA⟩
end Go.Proofs.YtgaflnpmilikcaaGreat
