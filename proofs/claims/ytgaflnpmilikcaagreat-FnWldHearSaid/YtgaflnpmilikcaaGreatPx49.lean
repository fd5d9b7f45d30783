/- Texts joined: WldNw. -/
import Derived.Test.YtgaflnpmilikcaaGreatPx21
import Derived.Test.YtgaflnpmilikcaaGreatPx20
import Derived.Test.YtgaflnpmilikcaaGreatPx14
set_option maxRecDepth 100000
set_option linter.unusedSimpArgs false
set_option linter.unusedVariables false
namespace Go.Proofs.YtgaflnpmilikcaaGreat
open Go.RowKit Go
set_option maxHeartbeats 8000000
theorem Fe {g i j:Nat} (h:i≠j):(⟨g,i,none⟩:Addr)≠⟨g,j,none⟩:=fun e=>h (congrArg Addr.off e)
theorem WN.zero {τ:Nat→Nat} {w:World} {lo:Nat}:WN τ w lo none 0 0 none 0 0 none 0 0 none 0 0 none 0 0 none 0 0 none 0 0 Sw.Cz:=⟨CK.nil ..,Cn.zero,CK.nil ..,by intro g hg;simp[Sw.Cz] at hg,rfl,rfl⟩
theorem Qz {S:Nat→Prop} {wr X w2:World} {lo g:Nat} (_:Ch S X w2) (hlow:∀ b,b<lo→w2.heap[b]?=X.heap[b]?) (k:KF 0 wr X) (hg:g<lo) (hl:g<wr.heap.size):∀ j,w2.cell? ⟨g,j,none⟩=wr.cell? ⟨g,j,none⟩:=
 fun j=>(World.cell?_of_block (w:=X) (a:=⟨g,j,none⟩) (hlow g hg)).trans (World.cell?_of_block (w:=wr) (a:=⟨g,j,none⟩) (k.block g (Nat.zero_le _) hl))
structure qm (A:Option Addr) (c:Nat) (xs:List Int) (g3:Nat) (bL:Option Addr) (Bg BR:Nat) (bP:Option Addr) (Bf BV:Nat) (bD:Option Addr) (Bh Ba:Nat) (bN:Option Addr) (Bd Bb:Nat) (bS:Option Addr) (Bc BZ:Nat) (K:Int) (w W0:World) (n:Nat) (l:Array Bool) (a:Act) (wx:World):Prop where
 keep:KF 0 w wx
 held:Au (w.heap.size) 10 W0 wx
 up:W0.heap.size≤wx.heap.size
 st:∃ (l0 r0 r1 r2:Bool) (v0 u0 u1 u2:Value) (τ:Nat→Nat),n=cb l0+cb r0+cb r1+cb r2∧l=#[l0,true,r0,true,r2,r1,false]∧a=⟨#[.slice A 5 c,undef,.pointer (some ⟨w.heap.size,0,none⟩),.pointer (some ⟨g3,0,none⟩),u1,undef,.slice A 5 c,.agg #[.slice bL BR Bg,.slice bP BV Bf,.slice bD Ba Bh,.int .i64 K,.slice bN Bb Bd,.slice bS BZ Bc],.pointer (some ⟨g3,1,none⟩),.slice bP BV Bf,.int .i64 5,.bool false,undef,v0,.slice A 5 c,u0,.agg #[.slice bL BR Bg,.slice bP BV Bf,.slice bD Ba Bh,.int .i64 K,.slice bN Bb Bd,.slice bS BZ Bc],u2,undef,undef,undef,undef,undef,undef,undef,undef,undef,undef,undef],[]⟩∧FD encI 1 3 τ 6 wx W0.heap.size 5 xs l0 r0 v0 u0∧G6 τ 7 wx W0.heap.size 10 r1 u1∧Lg (fun u=>.agg #[u,.slice bL BR Bg,.slice bP BV Bf,.slice bD Ba Bh,.int .i64 K,.slice bN Bb Bd,.slice bS BZ Bc,.slice none 0 0,.slice none 0 0,.slice none 0 0]) u0 r0 r2 u2
structure zY (A:Option Addr) (c:Nat) (xs:List Int) (g3:Nat) (bL:Option Addr) (Bg BR:Nat) (bP:Option Addr) (Bf BV:Nat) (bD:Option Addr) (Bh Ba:Nat) (bN:Option Addr) (Bd Bb:Nat) (bS:Option Addr) (Bc BZ:Nat) (K:Int) (w W0:World) (n:Nat) (l:Array Bool) (a:Act) (wx:World):Prop where
 keep:KF 0 w wx
 held:Au (w.heap.size) 10 W0 wx
 up:W0.heap.size≤wx.heap.size
 st:∃ (r0 r1 r2:Bool) (u0 u1 u2:Value) (τ:Nat→Nat),n=cb r0+cb r1+cb r2∧l=#[true,r0,true,r2,r1,false]∧a=⟨#[.slice A 5 c,undef,.pointer (some ⟨w.heap.size,0,none⟩),.pointer (some ⟨g3,0,none⟩),u1,.slice A 5 c,.agg #[.slice bL BR Bg,.slice bP BV Bf,.slice bD Ba Bh,.int .i64 K,.slice bN Bb Bd,.slice bS BZ Bc],.pointer (some ⟨g3,1,none⟩),.slice bP BV Bf,.int .i64 5,.bool false,undef,.slice A 5 c,u0,.agg #[.slice bL BR Bg,.slice bP BV Bf,.slice bD Ba Bh,.int .i64 K,.slice bN Bb Bd,.slice bS BZ Bc],u2,undef,undef,undef,undef,undef,undef,undef,undef,undef,undef],[]⟩∧Fh encI 1 3 τ 6 wx W0.heap.size 5 xs r0 u0∧G6 τ 7 wx W0.heap.size 10 r1 u1∧Lg (fun u=>.agg #[u,.slice bL BR Bg,.slice bP BV Bf,.slice bD Ba Bh,.int .i64 K,.slice bN Bb Bd,.slice bS BZ Bc,.slice none 0 0,.slice none 0 0,.slice none 0 0]) u0 r0 r2 u2
theorem Xp (A:Option Addr) (c n:Nat) (xs:List Int) (w:World) (hxs:RI w 0 A c n xs):Calls Tryz.prog 79 #[.slice A n c] w fun E w'=>∃ F Fc Fn bL Bg BR bP Bf BV bD Bh Ba bN Bd Bb bS Bc BZ G Gc Gn τ,E=.returned (.agg #[.slice F Fn Fc,.slice bL BR Bg,.slice bP BV Bf,.slice bD Ba Bh,.int .i64 (Sw.Jv xs).AB.clock,.slice bN Bb Bd,.slice bS BZ Bc,.slice none 0 0,.slice G Gn Gc,.slice none 0 0])∧WN τ w' w.heap.size F Fc Fn bL Bg BR bP Bf BV bD Bh Ba bN Bd Bb bS Bc BZ G Gc Gn (Sw.Jv xs)∧Ex w w':=by
 by_cases gv:(Sw.DR xs&&decide (Sw.DV xs≤100000))=true
 case neg=>
  have e:Sw.Jv xs=Sw.Cz:=by unfold Sw.Jv;rw[if_neg gv]
  have em:Sw.CY xs=Sw.Ku:=by unfold Sw.CY;rw[if_neg gv]
  have He:=Lib.hid e;have Hm:=Lib.hid em;clear e em gv
  go_enter Tryz.func79,Tryz.ntmps79
  go_wp2_with fail
  apply Calls.mono
  apply Kn
  ·apply Rs.A8 hxs;(exact AO)
  rintro E w1 ⟨bL,Bg,BR,bP,Bf,BV,bD,Bh,Ba,bN,Bd,Bb,bS,Bc,BZ,τm,rfl,Rq,hb⟩
  obtain rfl:BV=0:=by have:=Rq.Ai.ow.1;rw[Hm.out] at this;exact this
  obtain⟨hc,hf,hz⟩:=xy hb
  go_wp2_with fail
  refine bodyPost_ret (v:=.agg #[.slice none 0 0,.slice none 0 0,.slice none 0 0,.slice none 0 0,.int .i64 0,.slice none 0 0,.slice none 0 0,.slice none 0 0,.slice none 0 0,.slice none 0 0]) (by simp[results,Tryz.results79,go_sem, *]) rfl ?_
  refine⟨_,_,_,_,_,_,_,_,_,_,_,_,_,_,_,_,_,_,_,_,_,fun _=>0,by rw[He.out];rfl,?_,AA⟩
  rw[He.out]
  exact WN.zero
 have e:Sw.Jv xs=⟨xs,Sw.CY xs,[],[Sw.Kg,Sw.Kg],[]⟩:=by unfold Sw.Jv;rw[if_pos gv]
 have em:Sw.CY xs=⟨[],xs,[],0,[0,0,0,0,0],[0,0,0,0,0]⟩:=by unfold Sw.CY;rw[if_pos gv]
 have h5:xs.length=5:=I9 (Bool.and_eq_true_iff.1 gv).1
 have dw:n=5:=by rw[hxs.1,h5]
 subst dw
 have He:=Lib.hid e;have Hm:=Lib.hid em;have H5:=Lib.hid h5;clear e em gv h5
 go_enter Tryz.func79,Tryz.ntmps79
 go_wp2_with fail
 apply Calls.mono
 apply Kn
 ·apply Rs.A8 hxs;(exact AO)
 rintro E w1 ⟨bL,Bg,BR,bP,Bf,BV,bD,Bh,Ba,bN,Bd,Bb,bS,Bc,BZ,τm,rfl,Rq,hb⟩
 have YB:=hb
 obtain rfl:BV=5:=by have:=Rq.Ai.ow.1;rw[Hm.out] at this;exact this.trans H5.out
 obtain⟨hc,hf,hz⟩:=xy hb
 go_wp2_with fail
 (refine CF fun W0 hb0 hc0 hf0 hz0=>?_;have JR:Lb W0 (w.heap.size) 10:=Lb.ex (by exact Dw) hb0;refine wp_region_held_drew (S:=fun w'=>Au (w.heap.size) 10 W0 w') (by kernel_rfl) ?_ (fun hHeld=>?_);(focus ((try dsimp only);(exact EX)));refine F4 1 14 (v:=?_) rfl rfl (by kernel_rfl) (by kernel_rfl) (by kernel_rfl) (fun _ _ _ h=>h) (by rfl) ?_ (by assumption) ?_;rotate_left;(focus (intro w hSw;(try dsimp only at hSw);(try (have hst:=xc (Au.ch hSw);(try simp only[BO] at hst);obtain⟨WQ,TZ,WE⟩:=hst));go_simp;(try with_reducible rfl)));(try simp only[Act.put,DN]);refine F4 3 16 (v:=?_) rfl rfl (by kernel_rfl) (by kernel_rfl) (by kernel_rfl) (fun _ _ _ h=>h) (by rfl) ?_ (by assumption) ?_;rotate_left;(focus (intro w hSw;(try dsimp only at hSw);(try (have hst:=xc (Au.ch hSw);(try simp only[BO] at hst);obtain⟨WQ,TZ,WE⟩:=hst));go_simp;(try with_reducible rfl)));(try simp only[Act.put,DN]))
 have R3:w.heap.size<W0.heap.size:=JR.lt
 refine Ju (Inv:=qm A c xs w1.heap.size bL Bg BR bP Bf 5 bD Bh Ba bN Bd Bb bS Bc BZ (Sw.CY xs).clock w W0) (k:=1) ?_ ?_ ?_ 4 _ _ _ ?_
 case refine_4=>
  exact⟨by (exact AO),hHeld,Nat.le_refl _,false,false,false,false,undef,undef,undef,undef,fun _=>0,rfl,by kernel_rfl,rfl,.none _ _,.none _,.none _ _⟩
 case refine_1=>
  rintro l a wx ⟨hk,hHeld,hup,l0,r0,r1,r2,v0,u0,u1,u2,τ,hn0,rfl,rfl,C0,C1,C2⟩
  obtain rfl:l0=true:=by cases l0 <;> first|rfl|(exfalso;revert hn0;simp[cb];done)|(exfalso;revert hn0;simp[cb];omega)
  obtain rfl:r0=true:=by cases r0 <;> first|rfl|(exfalso;revert hn0;simp[cb];done)|(exfalso;revert hn0;simp[cb];omega)
  obtain rfl:r1=true:=by cases r1 <;> first|rfl|(exfalso;revert hn0;simp[cb];done)|(exfalso;revert hn0;simp[cb];omega)
  obtain rfl:r2=true:=by cases r2 <;> first|rfl|(exfalso;revert hn0;simp[cb];done)|(exfalso;revert hn0;simp[cb];omega)
  obtain rfl:u2=(fun u=>.agg #[u,.slice bL BR Bg,.slice bP 5 Bf,.slice bD Ba Bh,.int .i64 (Sw.CY xs).clock,.slice bN Bb Bd,.slice bS BZ Bc,.slice none 0 0,.slice none 0 0,.slice none 0 0]) u0:=by (cases C2;rfl)
  obtain⟨A0,c0,rfl,t0⟩:∃ A c,u0=.slice A 5 c∧CK encI 1 3 τ 6 wx W0.heap.size A c 5 xs:=by (cases C0;exact⟨_,_,rfl,by assumption⟩)
  obtain⟨g1,rfl,hg1,QR,ht1⟩:∃ g,u1=.pointer (some ⟨g,0,none⟩)∧W0.heap.size≤g∧Lb wx g 10∧τ g=7:=by (cases C1;exact⟨_,rfl,by assumption,by assumption,by assumption⟩)
  clear C0 C1 C2 hn0
  refine wpAnyH_ready (rs:=[6]) (by kernel_rfl) (by simp) ?_
  refine AllReadyH.cons rfl (fun K hK=>?_) ?_
  rotate_left
  focus exact AllReadyH.nil
  have JQ:=QR
  obtain⟨hcx,hfx⟩:=Lb.rules JQ
  go_simp
  refine hK.out _ _ ?_ (fun FZ=>?_)
  focus ((exact EX))
  have hb:=hHeld.ch
  clear hK K hHeld hcx hfx JQ
  (obtain⟨hc,hf,hz⟩:=xd hb)
  have CJ:=Au.lb FZ
  repeat (replace CJ:=Lb.G_ CJ)
  obtain⟨hcb,M6⟩:=Lb.rules QR
  have hbf:=Au.ch FZ
  clear FZ
  refine wpAnyH_done (by kernel_rfl) ?_ _
  go_wp2_with fail
  (refine CF fun W0 hb0 hc0 hf0 hz0=>?_)
  have JR:Lb W0 g1 10:=Lb.ex (by exact Dw) hb0
  have hgW:g1<W0.heap.size:=JR.lt
  have zL:Lb W0 w.heap.size 10:=Lb.ex (by exact Dw) hb0
  have q0:W0.cell? ⟨g1,0,none⟩=some (.slice A0 5 c0):=by ((refine (World.cell?_of_block (a:=⟨g1,0,none⟩) (hb0.block g1 (by simpa [World.setCell] using QR.lt) (fun h=>h))).trans ?_);(repeat (first|(refine (World.cell?_setCell_other _ _ _ _ (Fe ?_)).trans ?_;focus decide)|fail));refine World.cell?_setCell_same _ _ _ (u:=NJ wx ⟨g1,0,none⟩) ?_;(repeat (first|(refine (World.cell?_setCell_other _ _ _ _ (Fe ?_)).trans ?_;focus decide)|fail));exact hcb 0 (by decide))
  have q1:W0.cell? ⟨g1,1,none⟩=some (.slice bL BR Bg):=by ((refine (World.cell?_of_block (a:=⟨g1,1,none⟩) (hb0.block g1 (by simpa [World.setCell] using QR.lt) (fun h=>h))).trans ?_);(repeat (first|(refine (World.cell?_setCell_other _ _ _ _ (Fe ?_)).trans ?_;focus decide)|fail));refine World.cell?_setCell_same _ _ _ (u:=NJ wx ⟨g1,1,none⟩) ?_;(repeat (first|(refine (World.cell?_setCell_other _ _ _ _ (Fe ?_)).trans ?_;focus decide)|fail));exact hcb 1 (by decide))
  have q2:W0.cell? ⟨g1,2,none⟩=some (.slice bP 5 Bf):=by ((refine (World.cell?_of_block (a:=⟨g1,2,none⟩) (hb0.block g1 (by simpa [World.setCell] using QR.lt) (fun h=>h))).trans ?_);(repeat (first|(refine (World.cell?_setCell_other _ _ _ _ (Fe ?_)).trans ?_;focus decide)|fail));refine World.cell?_setCell_same _ _ _ (u:=NJ wx ⟨g1,2,none⟩) ?_;(repeat (first|(refine (World.cell?_setCell_other _ _ _ _ (Fe ?_)).trans ?_;focus decide)|fail));exact hcb 2 (by decide))
  have q3:W0.cell? ⟨g1,3,none⟩=some (.slice bD Ba Bh):=by ((refine (World.cell?_of_block (a:=⟨g1,3,none⟩) (hb0.block g1 (by simpa [World.setCell] using QR.lt) (fun h=>h))).trans ?_);(repeat (first|(refine (World.cell?_setCell_other _ _ _ _ (Fe ?_)).trans ?_;focus decide)|fail));refine World.cell?_setCell_same _ _ _ (u:=NJ wx ⟨g1,3,none⟩) ?_;(repeat (first|(refine (World.cell?_setCell_other _ _ _ _ (Fe ?_)).trans ?_;focus decide)|fail));exact hcb 3 (by decide))
  have q4:W0.cell? ⟨g1,4,none⟩=some (.int .i64 (Sw.CY xs).clock):=by ((refine (World.cell?_of_block (a:=⟨g1,4,none⟩) (hb0.block g1 (by simpa [World.setCell] using QR.lt) (fun h=>h))).trans ?_);(repeat (first|(refine (World.cell?_setCell_other _ _ _ _ (Fe ?_)).trans ?_;focus decide)|fail));refine World.cell?_setCell_same _ _ _ (u:=NJ wx ⟨g1,4,none⟩) ?_;(repeat (first|(refine (World.cell?_setCell_other _ _ _ _ (Fe ?_)).trans ?_;focus decide)|fail));exact hcb 4 (by decide))
  have q5:W0.cell? ⟨g1,5,none⟩=some (.slice bN Bb Bd):=by ((refine (World.cell?_of_block (a:=⟨g1,5,none⟩) (hb0.block g1 (by simpa [World.setCell] using QR.lt) (fun h=>h))).trans ?_);(repeat (first|(refine (World.cell?_setCell_other _ _ _ _ (Fe ?_)).trans ?_;focus decide)|fail));refine World.cell?_setCell_same _ _ _ (u:=NJ wx ⟨g1,5,none⟩) ?_;(repeat (first|(refine (World.cell?_setCell_other _ _ _ _ (Fe ?_)).trans ?_;focus decide)|fail));exact hcb 5 (by decide))
  have q6:W0.cell? ⟨g1,6,none⟩=some (.slice bS BZ Bc):=by ((refine (World.cell?_of_block (a:=⟨g1,6,none⟩) (hb0.block g1 (by simpa [World.setCell] using QR.lt) (fun h=>h))).trans ?_);(repeat (first|(refine (World.cell?_setCell_other _ _ _ _ (Fe ?_)).trans ?_;focus decide)|fail));refine World.cell?_setCell_same _ _ _ (u:=NJ wx ⟨g1,6,none⟩) ?_;(repeat (first|(refine (World.cell?_setCell_other _ _ _ _ (Fe ?_)).trans ?_;focus decide)|fail));exact hcb 6 (by decide))
  have q7:W0.cell? ⟨g1,7,none⟩=some (.slice none 0 0):=by ((refine (World.cell?_of_block (a:=⟨g1,7,none⟩) (hb0.block g1 (by simpa [World.setCell] using QR.lt) (fun h=>h))).trans ?_);(repeat (first|(refine (World.cell?_setCell_other _ _ _ _ (Fe ?_)).trans ?_;focus decide)|fail));refine World.cell?_setCell_same _ _ _ (u:=NJ wx ⟨g1,7,none⟩) ?_;(repeat (first|(refine (World.cell?_setCell_other _ _ _ _ (Fe ?_)).trans ?_;focus decide)|fail));exact hcb 7 (by decide))
  have q8:W0.cell? ⟨g1,8,none⟩=some (.slice none 0 0):=by ((refine (World.cell?_of_block (a:=⟨g1,8,none⟩) (hb0.block g1 (by simpa [World.setCell] using QR.lt) (fun h=>h))).trans ?_);(repeat (first|(refine (World.cell?_setCell_other _ _ _ _ (Fe ?_)).trans ?_;focus decide)|fail));refine World.cell?_setCell_same _ _ _ (u:=NJ wx ⟨g1,8,none⟩) ?_;(repeat (first|(refine (World.cell?_setCell_other _ _ _ _ (Fe ?_)).trans ?_;focus decide)|fail));exact hcb 8 (by decide))
  have q9:W0.cell? ⟨g1,9,none⟩=some (.slice none 0 0):=by ((refine (World.cell?_of_block (a:=⟨g1,9,none⟩) (hb0.block g1 (by simpa [World.setCell] using QR.lt) (fun h=>h))).trans ?_);(repeat (first|(refine (World.cell?_setCell_other _ _ _ _ (Fe ?_)).trans ?_;focus decide)|fail));refine World.cell?_setCell_same _ _ _ (u:=NJ wx ⟨g1,9,none⟩) ?_;(repeat (first|(refine (World.cell?_setCell_other _ _ _ _ (Fe ?_)).trans ?_;focus decide)|fail));exact hcb 9 (by decide))
  go_loopw [5] (fun i wr=>∃ (k:Nat) (A':Option Addr) (c':Nat),k≤2∧i=.int .i64 k∧Au g1 10 W0 wr∧wr.cell? ⟨g1,8,none⟩=some (.slice A' k c')∧Z_ wr W0.heap.size A' c' k (List.replicate k (mO ((Sw.Cw []).getD Sw.DX)))∧(∀ j,j≠8→wr.cell? ⟨g1,j,none⟩=W0.cell? ⟨g1,j,none⟩)) (fun i _=>2-(intOf i).toNat)
  case atStart=>exact⟨0,none,0,by omega,rfl,Au.refl JR,q8,Ow.nil _ _,fun _ _=>rfl⟩
  case round=>
   obtain⟨k,A',c',hk2,rfl,hB,hq,ho,hrest⟩:=hrel
   have hgl:g1<wr.heap.size:=hB.lb.lt
   have hszW:W0.heap.size≤wr.heap.size:=hB.ch.size
   by_cases hlt:k<2
   ·have Hr:=Lib.hid hrest;clear hrest
    go_wp2_with fail
    refine wp_region_held_drew (S:=fun w'=>Au g1 10 W0 w') (by kernel_rfl) ?_ (fun hHeld=>?_)
    focus ((try dsimp only);((exact EX)))
    refine F4 0 22 (v:=?_) rfl rfl (by kernel_rfl) (by kernel_rfl) (by kernel_rfl) (fun _ _ _ h=>h) (by rfl) ?_ (by assumption) ?_
    rotate_left
    focus (intro w hSw;(try dsimp only at hSw);go_simp;(try with_reducible rfl))
    (try simp only[Act.put,DN])
    refine wpAnyH_ready (rs:=[1,2]) (by kernel_rfl) (by simp) ?_
    refine AllReadyH.cons rfl (fun K hK=>?_) ?_
    ·replace hHeld:=Lib.hid hHeld
     replace hB:=Lib.hid hB
     go_simp
     replace hHeld:=hHeld.out
     replace hB:=hB.out
     refine hK.out _ _ ?_ (fun Dp=>?_)
     focus ((try dsimp only);((exact EX)))
     clear hK K hHeld
     have hHeld:=Dp
     clear Dp
     (try simp only[Act.put,DN])
     refine wpAnyH_ready (rs:=[2]) (by kernel_rfl) (by simp) ?_
     refine AllReadyH.cons rfl (fun K hK=>?_) AllReadyH.nil
     go_simp
     (go_at_call 83;refine (Mg _).mono ?_;rintro E w1 ⟨rfl,hb⟩;obtain⟨hc,hf,hz⟩:=xy hb)
     (try go_wp2_with fail)
     refine hK.out _ _ ?_ (fun Dp=>?_)
     focus ((try dsimp only);((exact EX)))
     clear hK K hHeld
     have hHeld:=Dp
     clear Dp
     (try simp only[Act.put,DN])
     refine wpAnyH_ready (rs:=[3]) (by kernel_rfl) (by simp) ?_
     refine AllReadyH.cons rfl (fun K hK=>?_) AllReadyH.nil
     go_simp
     refine hK.out _ _ ?_ (fun Dp=>?_)
     focus ((try dsimp only);((exact EX)))
     clear hK K hHeld
     have hHeld:=Dp
     clear Dp
     (try simp only[Act.put,DN])
     refine wpAnyH_ready (rs:=[4]) (by kernel_rfl) (by simp) ?_
     refine AllReadyH.cons rfl (fun K hK=>?_) AllReadyH.nil
     (apply BM (lo:=W0.heap.size) YM SB rfl rfl rfl rfl;(apply Ow.keep ho;(exact AO));(refine Rs.new [mO ((Sw.Cw []).getD Sw.DX)] (by (first|rfl|(simp only[BO];done)|omega)) rfl rfl (fun _=>rfl) (by omega));omega;exact Aq;intro A1 c1 w2 ho1 Ap Bo Ay Ah)
     have hbx:=Ay (· = g1) W0 (Au.ch (by assumption:Au g1 10 W0 _)) (Nat.le_refl _)
     have IY:=Lb.low Ah hgW (Au.lb (by assumption:Au g1 10 W0 _))
     have o8:=Qz (wr:=wr) Ap Ah (by (exact AO)) hgW hgl
     have hz1:=Ap.size
     (try simp only[BO] at hz1)
     obtain⟨mK,mH⟩:=BJ Ah
     clear Ay Ah
     (try simp only[Act.put,DN])
     refine hK.out _ _ ?_ (fun Dp=>?_)
     focus ((try dsimp only);((exact EX)))
     clear hK K hHeld
     have hHeld:=Dp
     clear Dp
     (try simp only[Act.put,DN])
     refine F4 5 27 (v:=?_) rfl rfl (by kernel_rfl) (by kernel_rfl) (by kernel_rfl) (fun _ _ _ h=>h) (by rfl) ?_ (by assumption) ?_
     rotate_left
     focus (intro w hSw;(try dsimp only at hSw);go_simp;(try with_reducible rfl))
     (try simp only[Act.put,DN])
     refine wpAnyH_ready (rs:=[6]) (by kernel_rfl) (by simp) ?_
     refine AllReadyH.cons rfl (fun K hK=>?_) AllReadyH.nil
     have JQ:=Au.lb hHeld
     obtain⟨hcx,hfx⟩:=Lb.rules JQ
     go_simp
     refine hK.out _ _ ?_ (fun FZ=>?_)
     focus ((try dsimp only);((exact EX)))
     clear hK K hHeld
     (try simp only[Act.put,DN])
     refine wpAnyH_done (by kernel_rfl) ?_ _
     go_wp2_with fail
     go_roundw
     case rel=>
      refine⟨k+1,A1,c1,by omega,by go_num,FZ,World.cell?_setCell_same _ _ _ (hcx 8 (by decide)),?_,?_⟩
      ·rw[List.replicate_succ'];exact Ow.keep ho1 (by (exact AO))
      ·intro j hj;rw[World.cell?_setCell_other _ _ _ _ (by intro e;exact hj (by injection e with _ e;exact e.symm))];exact (o8 j).trans (Hr.out j hj)
     case measure=>simp[intOf];omega
    refine AllReadyH.cons rfl (fun K hK=>?_) AllReadyH.nil
    go_simp
    (go_at_call 83;refine (Mg _).mono ?_;rintro E w1 ⟨rfl,hb⟩;obtain⟨hc,hf,hz⟩:=xy hb)
    (try go_wp2_with fail)
    refine hK.out _ _ ?_ (fun Dp=>?_)
    focus ((try dsimp only);((exact EX)))
    clear hK K hHeld
    have hHeld:=Dp
    clear Dp
    (try simp only[Act.put,DN])
    refine wpAnyH_ready (rs:=[1,3]) (by kernel_rfl) (by simp) ?_
    refine AllReadyH.cons rfl (fun K hK=>?_) ?_
    ·replace hHeld:=Lib.hid hHeld
     replace hB:=Lib.hid hB
     go_simp
     replace hHeld:=hHeld.out
     replace hB:=hB.out
     refine hK.out _ _ ?_ (fun Dp=>?_)
     focus ((try dsimp only);((exact EX)))
     clear hK K hHeld
     have hHeld:=Dp
     clear Dp
     (try simp only[Act.put,DN])
     refine wpAnyH_ready (rs:=[3]) (by kernel_rfl) (by simp) ?_
     refine AllReadyH.cons rfl (fun K hK=>?_) AllReadyH.nil
     go_simp
     refine hK.out _ _ ?_ (fun Dp=>?_)
     focus ((try dsimp only);((exact EX)))
     clear hK K hHeld
     have hHeld:=Dp
     clear Dp
     (try simp only[Act.put,DN])
     refine wpAnyH_ready (rs:=[4]) (by kernel_rfl) (by simp) ?_
     refine AllReadyH.cons rfl (fun K hK=>?_) AllReadyH.nil
     (apply BM (lo:=W0.heap.size) YM SB rfl rfl rfl rfl;(apply Ow.keep ho;(exact AO));(refine Rs.new [mO ((Sw.Cw []).getD Sw.DX)] (by (first|rfl|(simp only[BO];done)|omega)) rfl rfl (fun _=>rfl) (by omega));omega;exact Aq;intro A1 c1 w2 ho1 Ap Bo Ay Ah)
     have hbx:=Ay (· = g1) W0 (Au.ch (by assumption:Au g1 10 W0 _)) (Nat.le_refl _)
     have IY:=Lb.low Ah hgW (Au.lb (by assumption:Au g1 10 W0 _))
     have o8:=Qz (wr:=wr) Ap Ah (by (exact AO)) hgW hgl
     have hz1:=Ap.size
     (try simp only[BO] at hz1)
     obtain⟨mK,mH⟩:=BJ Ah
     clear Ay Ah
     (try simp only[Act.put,DN])
     refine hK.out _ _ ?_ (fun Dp=>?_)
     focus ((try dsimp only);((exact EX)))
     clear hK K hHeld
     have hHeld:=Dp
     clear Dp
     (try simp only[Act.put,DN])
     refine F4 5 27 (v:=?_) rfl rfl (by kernel_rfl) (by kernel_rfl) (by kernel_rfl) (fun _ _ _ h=>h) (by rfl) ?_ (by assumption) ?_
     rotate_left
     focus (intro w hSw;(try dsimp only at hSw);go_simp;(try with_reducible rfl))
     (try simp only[Act.put,DN])
     refine wpAnyH_ready (rs:=[6]) (by kernel_rfl) (by simp) ?_
     refine AllReadyH.cons rfl (fun K hK=>?_) AllReadyH.nil
     have JQ:=Au.lb hHeld
     obtain⟨hcx,hfx⟩:=Lb.rules JQ
     go_simp
     refine hK.out _ _ ?_ (fun FZ=>?_)
     focus ((try dsimp only);((exact EX)))
     clear hK K hHeld
     (try simp only[Act.put,DN])
     refine wpAnyH_done (by kernel_rfl) ?_ _
     go_wp2_with fail
     go_roundw
     case rel=>
      refine⟨k+1,A1,c1,by omega,by go_num,FZ,World.cell?_setCell_same _ _ _ (hcx 8 (by decide)),?_,?_⟩
      ·rw[List.replicate_succ'];exact Ow.keep ho1 (by (exact AO))
      ·intro j hj;rw[World.cell?_setCell_other _ _ _ _ (by intro e;exact hj (by injection e with _ e;exact e.symm))];exact (o8 j).trans (Hr.out j hj)
     case measure=>simp[intOf];omega
    refine AllReadyH.cons rfl (fun K hK=>?_) AllReadyH.nil
    go_simp
    refine hK.out _ _ ?_ (fun Dp=>?_)
    focus ((try dsimp only);((exact EX)))
    clear hK K hHeld
    have hHeld:=Dp
    clear Dp
    (try simp only[Act.put,DN])
    refine wpAnyH_ready (rs:=[1]) (by kernel_rfl) (by simp) ?_
    refine AllReadyH.cons rfl (fun K hK=>?_) AllReadyH.nil
    replace hHeld:=Lib.hid hHeld
    replace hB:=Lib.hid hB
    go_simp
    replace hHeld:=hHeld.out
    replace hB:=hB.out
    refine hK.out _ _ ?_ (fun Dp=>?_)
    focus ((try dsimp only);((exact EX)))
    clear hK K hHeld
    have hHeld:=Dp
    clear Dp
    (try simp only[Act.put,DN])
    refine wpAnyH_ready (rs:=[4]) (by kernel_rfl) (by simp) ?_
    refine AllReadyH.cons rfl (fun K hK=>?_) AllReadyH.nil
    (apply BM (lo:=W0.heap.size) YM SB rfl rfl rfl rfl;(apply Ow.keep ho;(exact AO));(refine Rs.new [mO ((Sw.Cw []).getD Sw.DX)] (by (first|rfl|(simp only[BO];done)|omega)) rfl rfl (fun _=>rfl) (by omega));omega;exact Aq;intro A1 c1 w2 ho1 Ap Bo Ay Ah)
    have hbx:=Ay (· = g1) W0 (Au.ch (by assumption:Au g1 10 W0 _)) (Nat.le_refl _)
    have IY:=Lb.low Ah hgW (Au.lb (by assumption:Au g1 10 W0 _))
    have o8:=Qz (wr:=wr) Ap Ah (by (exact AO)) hgW hgl
    have hz1:=Ap.size
    (try simp only[BO] at hz1)
    obtain⟨mK,mH⟩:=BJ Ah
    clear Ay Ah
    (try simp only[Act.put,DN])
    refine hK.out _ _ ?_ (fun Dp=>?_)
    focus ((try dsimp only);((exact EX)))
    clear hK K hHeld
    have hHeld:=Dp
    clear Dp
    (try simp only[Act.put,DN])
    refine F4 5 27 (v:=?_) rfl rfl (by kernel_rfl) (by kernel_rfl) (by kernel_rfl) (fun _ _ _ h=>h) (by rfl) ?_ (by assumption) ?_
    rotate_left
    focus (intro w hSw;(try dsimp only at hSw);go_simp;(try with_reducible rfl))
    (try simp only[Act.put,DN])
    refine wpAnyH_ready (rs:=[6]) (by kernel_rfl) (by simp) ?_
    refine AllReadyH.cons rfl (fun K hK=>?_) AllReadyH.nil
    have JQ:=Au.lb hHeld
    obtain⟨hcx,hfx⟩:=Lb.rules JQ
    go_simp
    refine hK.out _ _ ?_ (fun FZ=>?_)
    focus ((try dsimp only);((exact EX)))
    clear hK K hHeld
    (try simp only[Act.put,DN])
    refine wpAnyH_done (by kernel_rfl) ?_ _
    go_wp2_with fail
    go_roundw
    case rel=>
     refine⟨k+1,A1,c1,by omega,by go_num,FZ,World.cell?_setCell_same _ _ _ (hcx 8 (by decide)),?_,?_⟩
     ·rw[List.replicate_succ'];exact Ow.keep ho1 (by (exact AO))
     ·intro j hj;rw[World.cell?_setCell_other _ _ _ _ (by intro e;exact hj (by injection e with _ e;exact e.symm))];exact (o8 j).trans (Hr.out j hj)
    case measure=>simp[intOf];omega
   ·obtain rfl:k=2:=by omega
    have p0:=(hrest 0 (by decide)).trans q0
    have p1:=(hrest 1 (by decide)).trans q1
    have p2:=(hrest 2 (by decide)).trans q2
    have p3:=(hrest 3 (by decide)).trans q3
    have p4:=(hrest 4 (by decide)).trans q4
    have p5:=(hrest 5 (by decide)).trans q5
    have p6:=(hrest 6 (by decide)).trans q6
    have p7:=(hrest 7 (by decide)).trans q7
    have p9:=(hrest 9 (by decide)).trans q9
    clear hrest
    have hb:=hB.ch
    have hLz:=hB.lb.lt
    obtain⟨hcz,hfz⟩:=Lb.rules (Lb.MB hB.ch zL (fun e=>by omega))
    clear hB
    go_wp2_with fail
    refine bodyPost_ret (v:=.agg #[.slice A0 5 c0,.slice bL BR Bg,.slice bP 5 Bf,.slice bD Ba Bh,.int .i64 (Sw.CY xs).clock,.slice bN Bb Bd,.slice bS BZ Bc,.slice none 0 0,.slice A' 2 c',.slice none 0 0]) (by simp[results,Tryz.results79,go_sem, *]) rfl ?_
    refine⟨A0,c0,5,bL,Bg,BR,bP,Bf,5,bD,Bh,Ba,bN,Bd,Bb,bS,Bc,BZ,A',c',2,glue τm w1.heap.size (glue τ W0.heap.size (fun _=>8)),by rw[He.out],?_,AA⟩
    rw[He.out]
    refine⟨?_,?_,?_,by simp[Sw.Kg],rfl,rfl⟩
    ·have hT:glue τm w1.heap.size (glue τ W0.heap.size (fun _=>8)) g1=7:=by unfold glue;rw[if_neg (by omega),if_pos hgW];exact ht1
     have t1:=(t0.CX (τ':=fun _=>8) (k:=W0.heap.size) (by omega)).EM (k:=w1.heap.size) (τ':=τm) (by omega)
     have hcw:Ch (· = g1) wx W0:=Ch.ex (by repeat (first|with_reducible exact Ch.refl _ _|(with_reducible refine Ch.setCell ?_ ?_ _;rotate_left;(focus exact Or.inl rfl)))) hb0
     have t2:=CK.keep t1 (KT.ch (Ch.trans hcw hb) (KT.refl _ _ _ _) (fun i hi=>.inr (by rw[show i=g1 from hi,hT];decide)))
     exact (t2.Av (by (exact AO))).less (by omega)
    ·exact ((Rq.CX (Nat.le_refl _)).Av (by (exact AO))).less (by simp)
    ·exact ((CK.fresh (τ:=glue τm w1.heap.size (glue τ W0.heap.size (fun _=>8))) (t:=8) ho (fun b h1 h2=>by unfold glue;rw[if_neg (by omega),if_neg (by omega)])).Av (by (exact AO))).less (by omega)
 case refine_2=>
  rintro n l a wx ⟨hk,hHeld,hup,l0,r0,r1,r2,v0,u0,u1,u2,τ,hn0,rfl,rfl,C0,C1,C2⟩ he
  obtain rfl:l0=true:=by (cases l0 with|true=>rfl|false=>exact absurd he (Dk (i:=0) (by kernel_rfl)))
  obtain rfl:r0=true:=by (cases r0 with|true=>rfl|false=>exact absurd he (Dk (i:=2) (by kernel_rfl)))
  obtain rfl:r2=true:=by (cases r2 with|true=>rfl|false=>exact absurd he (Dk (i:=4) (by kernel_rfl)))
  obtain rfl:r1=true:=by (cases r1 with|true=>rfl|false=>exact absurd he (Dk (i:=5) (by kernel_rfl)))
  simp[cb] at hn0
 case refine_3=>
  rintro n l a wx ⟨hk,hHeld,hup,l0,r0,r1,r2,v0,u0,u1,u2,τ,hn0,rfl,rfl,C0,C1,C2⟩ i hi
  obtain⟨hi0,oi,ho,El⟩:=mem_ready.1 hi
  clear hi
  have hin:i<7:=(Array.getElem?_eq_some_iff.1 ho).1
  rcases (show i=0∨i=1∨i=2∨i=3∨i=4∨i=5∨i=6 by omega) with rfl|rfl|rfl|rfl|rfl|rfl|rfl
  ·-- 0
   obtain rfl:l0=false:=hi0
   cases C0
   clear ho El
   refine wpOp_step rfl fun K hK=>?_
   go_simp
   refine hK _ _ ⟨hHeld.alloc _,hk.alloc,hHeld.alloc _,(by simp;omega),true,false,r1,r2,.slice (some ⟨wx.heap.size,0,none⟩) 0 0,u0,u1,u2,glue τ wx.heap.size (fun _=>6),?_,rfl,rfl,.made _ _ _ (CK.begun (Ow.new [] rfl rfl rfl (fun _=>rfl) (by omega) (by omega))),C1.alloc,(C2.Wo _)⟩
   simp only[cb] at hn0 ⊢;simp at hn0 ⊢;omega
  ·-- 1
   exact Bool.noConfusion (show true=false from hi0)
  ·-- 2
   obtain rfl:r0=false:=hi0
   obtain rfl:=Option.some.inj (show some _=some oi from ho)
   have d:=El ⟨0,.data⟩ (by simp) rfl
   obtain rfl:l0=true:=d
   clear ho El
   obtain⟨Ax,cx,rfl,ht⟩:∃ A c,v0=.slice A 0 c∧CK encI 1 3 τ 6 wx W0.heap.size A c 0 []:=by (cases C0;exact⟨_,_,rfl,by assumption⟩)
   clear C0
   refine wpOp_step rfl fun K hK=>?_
   apply BM FO Dz rfl rfl rfl rfl ht.ow (Rs.A8 hxs hk) (by omega) hup
   intro A1 c1 w2 ho1 Ap Bo Ay Ah
   rw[List.nil_append] at ho1;simp only[Nat.zero_add] at ho1
   have hbx:=Ay (· = (w.heap.size)) W0 hHeld.ch (Nat.le_refl _)
   have IY:=Lb.low Ah R3 hHeld.lb
   simp only[Nat.zero_add]
   have YE:KF 0 w w2:=kL ⟨Ap.size,Ah⟩ hk (by omega)
   refine hK _ _ ⟨Au.of hbx IY,YE,Au.of hbx IY,Nat.le_trans hup Ap.size,true,true,r1,r2,.slice Ax 0 cx,.slice A1 5 c1,u1,u2,glue τ wx.heap.size (fun _=>6),?_,rfl,rfl,.done _ _ _ (CK.full ho1 ht Bo),C1.app Ap ht.tag (by decide),(C2.Wo _)⟩
   simp only[cb] at hn0 ⊢;simp at hn0 ⊢;omega
  ·-- 3
   exact Bool.noConfusion (show true=false from hi0)
  ·-- 4
   obtain rfl:r2=false:=hi0
   obtain rfl:=Option.some.inj (show some _=some oi from ho)
   obtain rfl:r0=true:=El ⟨2,.data⟩ (by simp) rfl
   clear ho El
   obtain⟨A1,c1,rfl,ht⟩:∃ A c,u0=.slice A 5 c∧CK encI 1 3 τ 6 wx W0.heap.size A c 5 xs:=by (cases C0;exact⟨_,_,rfl,by assumption⟩)
   cases C2
   refine wpOp_step rfl fun K hK=>?_
   go_simp
   refine hK _ _ ⟨hHeld,hk,hHeld,hup,l0,true,r1,true,v0,(.slice A1 5 c1),u1,(fun u=>.agg #[u,.slice bL BR Bg,.slice bP 5 Bf,.slice bD Ba Bh,.int .i64 (Sw.CY xs).clock,.slice bN Bb Bd,.slice bS BZ Bc,.slice none 0 0,.slice none 0 0,.slice none 0 0]) (.slice A1 5 c1),τ,?_,rfl,rfl,C0,C1,.done⟩
   simp only[cb] at hn0 ⊢;simp at hn0 ⊢;omega
  ·-- 5
   obtain rfl:r1=false:=hi0
   cases C1
   clear ho El
   refine wpOp_step rfl fun K hK=>?_
   go_simp
   refine hK _ _ ⟨hHeld.alloc _,hk.alloc,hHeld.alloc _,(by simp;omega),l0,r0,true,r2,v0,u0,.pointer (some ⟨wx.heap.size,0,none⟩),u2,glue τ wx.heap.size (fun _=>7),?_,rfl,rfl,C0.alloc,.done _ hup (Lb.new rfl (by kernel_rfl)) (by unfold glue;rw[if_neg (Nat.lt_irrefl _)]),C2⟩
   simp only[cb] at hn0 ⊢;simp at hn0 ⊢;omega
  ·-- 6
   obtain rfl:=Option.some.inj (show some _=some oi from ho)
   obtain rfl:r1=true:=El ⟨5,.data⟩ (by simp) rfl
   obtain rfl:r2=true:=El ⟨4,.data⟩ (by simp) rfl
   obtain rfl:r0=true:=by (cases C2;rfl)
   obtain rfl:l0=true:=by (cases C0;rfl)
   simp[cb] at hn0
end Go.Proofs.YtgaflnpmilikcaaGreat
