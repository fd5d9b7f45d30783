/- Texts joined: Mkt2. -/
import Derived.Test.YtgaflnpmilikcaaGreatPx13
import Derived.Test.YtgaflnpmilikcaaGreatPx2
set_option maxRecDepth 100000
set_option linter.unusedSimpArgs false
set_option linter.unusedVariables false
namespace Go.Proofs.YtgaflnpmilikcaaGreat
open Go.RowKit Go
set_option maxHeartbeats 1000000
theorem kL {lo l0:Nat} {w0 w w':World} (h:w.heap.size≤w'.heap.size∧∀ b,b<lo→w'.heap[b]?=w.heap[b]?) (k:KF l0 w0 w) (hl:w0.heap.size≤lo):KF l0 w0 w':=
 ⟨Nat.le_trans k.size h.1,fun b h1 h2=>(h.2 b (by omega)).trans (k.block b h1 h2)⟩
theorem Cn.build {w1 w2 w3 w4 w5 W:World} {lo l1 l2 l3 l4 l5:Nat} {aL aP aD aN aS:Option Addr} {Ae AU Ag AY Ac AQ Ad Aa Af Ab:Nat} {m:Sw.CV}
  (h1:sJ w1 l1 aL Ae AU m.log) (h2:Ga w2 l2 aP Ag AY m.Ai) (h3:Pw w3 l3 aD Ac AQ m.AJ) (h4:Ga w4 l4 aN Ad Aa m.nums) (h5:Ga w5 l5 aS Af Ab m.said)
  (g2:w1.heap.size≤l2) (g3:w2.heap.size≤l3) (g4:w3.heap.size≤l4) (g5:w4.heap.size≤l5) (b1:l1≤w1.heap.size) (b2:l2≤w2.heap.size) (b3:l3≤w3.heap.size) (b4:l4≤w4.heap.size) (hl:lo≤l1)
  (k1:KF l1 w1 W) (k2:KF l2 w2 W) (k3:KF l3 w3 W) (k4:KF l4 w4 W) (k5:KF l5 w5 W) :
  Cn (glue (fun _=>1) w1.heap.size (glue (fun _=>2) w2.heap.size (glue (fun _=>3) w3.heap.size (glue (fun _=>4) w4.heap.size (fun _=>5))))) W lo aL Ae AU aP Ag AY aD Ac AQ aN Ad Aa aS Af Ab m:=by
 have p1:qj (fun _=>1) 1 w1 l1 aL Ae AU m.log:=⟨h1,fun _ _=>rfl⟩
 have p2:JY (fun _=>2) 2 w2 l2 aP Ag AY m.Ai:=⟨h2,fun _ _=>rfl⟩
 have p3:ql (fun _=>3) 3 w3 l3 aD Ac AQ m.AJ:=⟨h3,fun _ _=>rfl⟩
 have p4:JY (fun _=>4) 4 w4 l4 aN Ad Aa m.nums:=⟨h4,fun _ _=>rfl⟩
 have p5:JY (fun _=>5) 5 w5 l5 aS Af Ab m.said:=⟨h5,fun _ _=>rfl⟩
 refine⟨((p1.CX (Nat.le_refl _)).Av k1).less (by omega),?_,?_,?_,?_⟩
 ·exact (((p2.CX (Nat.le_refl _)).EM g2).Av k2).less (by omega)
 ·exact ((((p3.CX (Nat.le_refl _)).EM g3).EM (by omega)).Av k3).less (by omega)
 ·exact (((((p4.CX (Nat.le_refl _)).EM g4).EM (by omega)).EM (by omega)).Av k4).less (by omega)
 ·exact (((((p5.EM g5).EM (by omega)).EM (by omega)).EM (by omega)).Av k5).less (by omega)
inductive FD {α:Type} (enc:α→List Value) (sz:Nat) (e:TypeId) (τ:Nat→Nat) (t:Nat) (w:World) (lo n:Nat) (xs:List α):Bool→Bool→Value→Value→Prop
 | none (v u:Value):FD enc sz e τ t w lo n xs false false v u
 | made (A:Option Addr) (c:Nat) (u:Value) (h:CK enc sz e τ t w lo A c 0 []):FD enc sz e τ t w lo n xs true false (.slice A 0 c) u
 | done (v:Value) (A:Option Addr) (c:Nat) (h:CK enc sz e τ t w lo A c n xs):FD enc sz e τ t w lo n xs true true v (.slice A n c)
section
variable {α:Type} {enc:α→List Value} {sz:Nat} {e:TypeId} {τ τ':Nat→Nat} {t s:Nat} {w w':World} {lo n c:Nat} {xs:List α} {l r:Bool} {v u:Value} {A A':Option Addr}
theorem FD.mv (h:FD enc sz e τ t w lo n xs l r v u) (f:∀ A c k ys,CK enc sz e τ t w lo A c k ys→CK enc sz e τ' t w' lo A c k ys):FD enc sz e τ' t w' lo n xs l r v u:=by
 cases h with
 | none=>exact .none _ _
 | made A c u h=>exact .made _ _ _ (f _ _ _ _ h)
 | done v A c h=>exact .done _ _ _ (f _ _ _ _ h)
theorem FD.alloc {o:Obj} (h:FD enc sz e τ t w lo n xs l r v u):FD enc sz e (glue τ w.heap.size (fun _=>s)) t (w.alloc o) lo n xs l r v u:=
 h.mv fun _ _ _ _ h=>(h.CX (Nat.le_refl _)).keep (KT.refl _ _ _ _).alloc
theorem Gs {b k:Nat} (h:τ b=s):glue τ k (fun _=>s) b=s:=by
 unfold glue
 split
 ·exact h
 ·rfl
theorem FD.app (h:FD enc sz e τ t w lo n xs l r v u) (hb:Ch (KW A) w w') (ht:∀ a,A=some a→τ a.block=s) (hne:t≠s):FD enc sz e (glue τ w.heap.size (fun _=>s)) t w' lo n xs l r v u:=
 h.mv fun _ _ _ _ h=>(h.CX (Nat.le_refl _)).keep (KT.ch hb (KT.refl _ _ _ _) fun i ⟨a,ha,hi⟩=>.inr (by rw[hi,Gs (ht a ha)];exact Ne.symm hne))
theorem CK.begun {T:TypeId} (h:Ow enc sz e (w.alloc (.cells #[] T)) lo (some ⟨w.heap.size,0,Option.none⟩) 0 0 []):CK enc sz e (glue τ w.heap.size (fun _=>t)) t (w.alloc (.cells #[] T)) lo (some ⟨w.heap.size,0,Option.none⟩) 0 0 []:=
 ⟨h,fun a ha=>by cases ha;simp[glue]⟩
theorem CK.full {ys:List α} {m d lo':Nat} (h:Ow enc sz e w' lo' A' c n xs) (k:CK enc sz e τ t w lo A d m ys) (hat:∀ b,A'=some b→A=some b∨w.heap.size≤b.block):CK enc sz e (glue τ w.heap.size (fun _=>t)) t w' lo' A' c n xs:=
 ⟨h,fun a ha=>by
  rcases hat a ha with h1|h1
  ·unfold glue;rw[if_pos (k.ow.blk h1).2];exact k.tag a h1
  ·unfold glue;rw[if_neg (by omega)]⟩
end
theorem Dk {md:Region.Mode} {ops:Array Oper} {l:Array Bool} {i:Nat} (h:(Region.ready md ops l).contains i=true):Region.ready md ops l≠[]:=by
 intro he;rw[he] at h;simp at h
def cb (b:Bool):Nat:=if b then 0 else 1
structure qz (aL:Option Addr) (Ae AU:Nat) (aP:Option Addr) (Ag AY:Nat) (aD:Option Addr) (Ac AQ:Nat) (aN:Option Addr) (Ad Aa:Nat) (aS:Option Addr) (Af Ab:Nat) (m:Sw.CV) (w W0:World) (n:Nat) (l:Array Bool) (a:Act) (wx:World):Prop where
 keep:KF 0 w wx
 held:Au (w.heap.size+1) 6 W0 wx
 up:W0.heap.size≤wx.heap.size
 st:∃ (l0 l1 l2 l3 l4 r0 r1 r2 r3 r4:Bool) (v0 v1 v2 v3 v4 u0 u1 u2 u3 u4:Value) (τ:Nat→Nat),n=cb l0+cb l1+cb l2+cb l3+cb l4+cb r0+cb r1+cb r2+cb r3+cb r4∧l=#[l0,true,true,r0,l1,true,true,r1,l2,true,true,r2,true,true,l3,true,true,r3,l4,true,true,r4,false,false]∧a=⟨#[.agg #[.slice aL AU Ae,.slice aP AY Ag,.slice aD AQ Ac,.int .i64 m.clock,.slice aN Aa Ad,.slice aS Ab Af],.pointer (some ⟨w.heap.size,0,none⟩),.pointer (some ⟨w.heap.size+1,0,none⟩),v0,.pointer (some ⟨w.heap.size,0,none⟩),.slice aL AU Ae,u0,v1,.pointer (some ⟨w.heap.size,1,none⟩),.slice aP AY Ag,u1,v2,.pointer (some ⟨w.heap.size,2,none⟩),.slice aD AQ Ac,u2,.pointer (some ⟨w.heap.size,3,none⟩),.int .i64 m.clock,v3,.pointer (some ⟨w.heap.size,4,none⟩),.slice aN Aa Ad,u3,v4,.pointer (some ⟨w.heap.size,5,none⟩),.slice aS Ab Af,u4,undef],[]⟩∧FD Sw.FC.enc 4 140 τ 1 wx W0.heap.size AU m.log l0 r0 v0 u0∧FD encI 1 3 τ 2 wx W0.heap.size AY m.Ai l1 r1 v1 u1∧FD Sw.BC.enc 5 71 τ 3 wx W0.heap.size AQ m.AJ l2 r2 v2 u2∧FD encI 1 3 τ 4 wx W0.heap.size Aa m.nums l3 r3 v3 u3∧FD encI 1 3 τ 5 wx W0.heap.size Ab m.said l4 r4 v4 u4
theorem Cn.of5 {W:World} {lo l0:Nat} {τ:Nat→Nat} {aL aP aD aN aS:Option Addr} {Ae AU Ag AY Ac AQ Ad Aa Af Ab:Nat} {m:Sw.CV} (h1:CK Sw.FC.enc 4 140 τ 1 W l0 aL Ae AU m.log) (h2:CK encI 1 3 τ 2 W l0 aP Ag AY m.Ai) (h3:CK Sw.BC.enc 5 71 τ 3 W l0 aD Ac AQ m.AJ) (h4:CK encI 1 3 τ 4 W l0 aN Ad Aa m.nums) (h5:CK encI 1 3 τ 5 W l0 aS Af Ab m.said) (hl:lo≤l0):Cn τ W lo aL Ae AU aP Ag AY aD Ac AQ aN Ad Aa aS Af Ab m:=
 ⟨h1.less hl,h2.less hl,h3.less hl,h4.less hl,h5.less hl⟩
theorem J3 (aL:Option Addr) (Ae AU:Nat) (aP:Option Addr) (Ag AY:Nat) (aD:Option Addr) (Ac AQ:Nat) (aN:Option Addr) (Ad Aa:Nat) (aS:Option Addr) (Af Ab:Nat) (m:Sw.CV) (w:World) (hm:RM w 0 aL Ae AU aP Ag AY aD Ac AQ aN Ad Aa aS Af Ab m) (hn:AU+AY+AQ+Aa+Ab≤1048576):Calls Tryz.prog 95 #[.agg #[.slice aL AU Ae,.slice aP AY Ag,.slice aD AQ Ac,.int .i64 m.clock,.slice aN Aa Ad,.slice aS Ab Af]] w fun E w'=>∃ bL Bg BR bP Bf BV bD Bh Ba bN Bd Bb bS Bc BZ τ,E=.returned (.agg #[.slice bL BR Bg,.slice bP BV Bf,.slice bD Ba Bh,.int .i64 m.clock,.slice bN Bb Bd,.slice bS BZ Bc])∧Cn τ w' w.heap.size bL Bg BR bP Bf BV bD Bh Ba bN Bd Bb bS Bc BZ m∧Ex w w':=by
 obtain⟨m1,m2,m3,m4,m5⟩:=hm
 go_enter Tryz.func95,Tryz.ntmps95
 go_wp2_with fail
 (refine CF fun W0 hb0 hc0 hf0 hz0=>?_;have JR:Lb W0 (w.heap.size+1) 6:=Lb.ex (by exact Dw) hb0;refine wp_region_held_drew (S:=fun w'=>Au (w.heap.size+1) 6 W0 w') (by kernel_rfl) ?_ (fun hHeld=>?_);(focus ((try dsimp only);(exact EX)));refine F4 1 4 (v:=?_) rfl rfl (by kernel_rfl) (by kernel_rfl) (by kernel_rfl) (fun _ _ _ h=>h) (by rfl) ?_ (by assumption) ?_;rotate_left;(focus (intro w hSw;(try dsimp only at hSw);(try (have hst:=xc (Au.ch hSw);(try simp only[BO] at hst);obtain⟨WQ,TZ,WE⟩:=hst));go_simp;(try with_reducible rfl)));(try simp only[Act.put,DN]);refine F4 2 5 (v:=?_) rfl rfl (by kernel_rfl) (by kernel_rfl) (by kernel_rfl) (fun _ _ _ h=>h) (by rfl) ?_ (by assumption) ?_;rotate_left;(focus (intro w hSw;(try dsimp only at hSw);(try (have hst:=xc (Au.ch hSw);(try simp only[BO] at hst);obtain⟨WQ,TZ,WE⟩:=hst));go_simp;(try with_reducible rfl)));(try simp only[Act.put,DN]);refine F4 5 8 (v:=?_) rfl rfl (by kernel_rfl) (by kernel_rfl) (by kernel_rfl) (fun _ _ _ h=>h) (by rfl) ?_ (by assumption) ?_;rotate_left;(focus (intro w hSw;(try dsimp only at hSw);(try (have hst:=xc (Au.ch hSw);(try simp only[BO] at hst);obtain⟨WQ,TZ,WE⟩:=hst));go_simp;(try with_reducible rfl)));(try simp only[Act.put,DN]);refine F4 6 9 (v:=?_) rfl rfl (by kernel_rfl) (by kernel_rfl) (by kernel_rfl) (fun _ _ _ h=>h) (by rfl) ?_ (by assumption) ?_;rotate_left;(focus (intro w hSw;(try dsimp only at hSw);(try (have hst:=xc (Au.ch hSw);(try simp only[BO] at hst);obtain⟨WQ,TZ,WE⟩:=hst));go_simp;(try with_reducible rfl)));(try simp only[Act.put,DN]);refine F4 9 12 (v:=?_) rfl rfl (by kernel_rfl) (by kernel_rfl) (by kernel_rfl) (fun _ _ _ h=>h) (by rfl) ?_ (by assumption) ?_;rotate_left;(focus (intro w hSw;(try dsimp only at hSw);(try (have hst:=xc (Au.ch hSw);(try simp only[BO] at hst);obtain⟨WQ,TZ,WE⟩:=hst));go_simp;(try with_reducible rfl)));(try simp only[Act.put,DN]);refine F4 10 13 (v:=?_) rfl rfl (by kernel_rfl) (by kernel_rfl) (by kernel_rfl) (fun _ _ _ h=>h) (by rfl) ?_ (by assumption) ?_;rotate_left;(focus (intro w hSw;(try dsimp only at hSw);(try (have hst:=xc (Au.ch hSw);(try simp only[BO] at hst);obtain⟨WQ,TZ,WE⟩:=hst));go_simp;(try with_reducible rfl)));(try simp only[Act.put,DN]);refine F4 12 15 (v:=?_) rfl rfl (by kernel_rfl) (by kernel_rfl) (by kernel_rfl) (fun _ _ _ h=>h) (by rfl) ?_ (by assumption) ?_;rotate_left;(focus (intro w hSw;(try dsimp only at hSw);(try (have hst:=xc (Au.ch hSw);(try simp only[BO] at hst);obtain⟨WQ,TZ,WE⟩:=hst));go_simp;(try with_reducible rfl)));(try simp only[Act.put,DN]);refine F4 13 16 (v:=?_) rfl rfl (by kernel_rfl) (by kernel_rfl) (by kernel_rfl) (fun _ _ _ h=>h) (by rfl) ?_ (by assumption) ?_;rotate_left;(focus (intro w hSw;(try dsimp only at hSw);(try (have hst:=xc (Au.ch hSw);(try simp only[BO] at hst);obtain⟨WQ,TZ,WE⟩:=hst));go_simp;(try with_reducible rfl)));(try simp only[Act.put,DN]);refine F4 15 18 (v:=?_) rfl rfl (by kernel_rfl) (by kernel_rfl) (by kernel_rfl) (fun _ _ _ h=>h) (by rfl) ?_ (by assumption) ?_;rotate_left;(focus (intro w hSw;(try dsimp only at hSw);(try (have hst:=xc (Au.ch hSw);(try simp only[BO] at hst);obtain⟨WQ,TZ,WE⟩:=hst));go_simp;(try with_reducible rfl)));(try simp only[Act.put,DN]);refine F4 16 19 (v:=?_) rfl rfl (by kernel_rfl) (by kernel_rfl) (by kernel_rfl) (fun _ _ _ h=>h) (by rfl) ?_ (by assumption) ?_;rotate_left;(focus (intro w hSw;(try dsimp only at hSw);(try (have hst:=xc (Au.ch hSw);(try simp only[BO] at hst);obtain⟨WQ,TZ,WE⟩:=hst));go_simp;(try with_reducible rfl)));(try simp only[Act.put,DN]);refine F4 19 22 (v:=?_) rfl rfl (by kernel_rfl) (by kernel_rfl) (by kernel_rfl) (fun _ _ _ h=>h) (by rfl) ?_ (by assumption) ?_;rotate_left;(focus (intro w hSw;(try dsimp only at hSw);(try (have hst:=xc (Au.ch hSw);(try simp only[BO] at hst);obtain⟨WQ,TZ,WE⟩:=hst));go_simp;(try with_reducible rfl)));(try simp only[Act.put,DN]);refine F4 20 23 (v:=?_) rfl rfl (by kernel_rfl) (by kernel_rfl) (by kernel_rfl) (fun _ _ _ h=>h) (by rfl) ?_ (by assumption) ?_;rotate_left;(focus (intro w hSw;(try dsimp only at hSw);(try (have hst:=xc (Au.ch hSw);(try simp only[BO] at hst);obtain⟨WQ,TZ,WE⟩:=hst));go_simp;(try with_reducible rfl)));(try simp only[Act.put,DN]))
 have R3:w.heap.size+1<W0.heap.size:=JR.lt
 refine Ju (Inv:=qz aL Ae AU aP Ag AY aD Ac AQ aN Ad Aa aS Af Ab m w W0) (k:=2) ?_ ?_ ?_ 10 _ _ _ ?_
 case refine_4=>
  exact⟨by (exact AO),hHeld,Nat.le_refl _,false,false,false,false,false,false,false,false,false,false,undef,undef,undef,undef,undef,undef,undef,undef,undef,undef,fun _=>0,rfl,by kernel_rfl,rfl,.none _ _,.none _ _,.none _ _,.none _ _,.none _ _⟩
 case refine_1=>
  rintro l a wx ⟨hk,hHeld,hup,l0,l1,l2,l3,l4,r0,r1,r2,r3,r4,v0,v1,v2,v3,v4,u0,u1,u2,u3,u4,τ,hn0,rfl,rfl,C0,C1,C2,C3,C4⟩
  obtain rfl:l0=true:=by cases l0 <;> first|rfl|(exfalso;revert hn0;simp[cb];done)|(exfalso;revert hn0;simp[cb];omega)
  obtain rfl:l1=true:=by cases l1 <;> first|rfl|(exfalso;revert hn0;simp[cb];done)|(exfalso;revert hn0;simp[cb];omega)
  obtain rfl:l2=true:=by cases l2 <;> first|rfl|(exfalso;revert hn0;simp[cb];done)|(exfalso;revert hn0;simp[cb];omega)
  obtain rfl:l3=true:=by cases l3 <;> first|rfl|(exfalso;revert hn0;simp[cb];done)|(exfalso;revert hn0;simp[cb];omega)
  obtain rfl:l4=true:=by cases l4 <;> first|rfl|(exfalso;revert hn0;simp[cb];done)|(exfalso;revert hn0;simp[cb];omega)
  obtain rfl:r0=true:=by cases r0 <;> first|rfl|(exfalso;revert hn0;simp[cb];done)|(exfalso;revert hn0;simp[cb];omega)
  obtain rfl:r1=true:=by cases r1 <;> first|rfl|(exfalso;revert hn0;simp[cb];done)|(exfalso;revert hn0;simp[cb];omega)
  obtain rfl:r2=true:=by cases r2 <;> first|rfl|(exfalso;revert hn0;simp[cb];done)|(exfalso;revert hn0;simp[cb];omega)
  obtain rfl:r3=true:=by cases r3 <;> first|rfl|(exfalso;revert hn0;simp[cb];done)|(exfalso;revert hn0;simp[cb];omega)
  obtain rfl:r4=true:=by cases r4 <;> first|rfl|(exfalso;revert hn0;simp[cb];done)|(exfalso;revert hn0;simp[cb];omega)
  obtain⟨A0,c0,rfl,t0⟩:∃ A c,u0=.slice A AU c∧CK Sw.FC.enc 4 140 τ 1 wx W0.heap.size A c AU m.log:=by (cases C0;exact⟨_,_,rfl,by assumption⟩)
  obtain⟨A1,c1,rfl,t1⟩:∃ A c,u1=.slice A AY c∧CK encI 1 3 τ 2 wx W0.heap.size A c AY m.Ai:=by (cases C1;exact⟨_,_,rfl,by assumption⟩)
  obtain⟨A2,c2,rfl,t2⟩:∃ A c,u2=.slice A AQ c∧CK Sw.BC.enc 5 71 τ 3 wx W0.heap.size A c AQ m.AJ:=by (cases C2;exact⟨_,_,rfl,by assumption⟩)
  obtain⟨A3,c3,rfl,t3⟩:∃ A c,u3=.slice A Aa c∧CK encI 1 3 τ 4 wx W0.heap.size A c Aa m.nums:=by (cases C3;exact⟨_,_,rfl,by assumption⟩)
  obtain⟨A4,c4,rfl,t4⟩:∃ A c,u4=.slice A Ab c∧CK encI 1 3 τ 5 wx W0.heap.size A c Ab m.said:=by (cases C4;exact⟨_,_,rfl,by assumption⟩)
  clear C0 C1 C2 C3 C4 hn0
  refine F4 22 25 (v:=?_) rfl rfl (by kernel_rfl) (by kernel_rfl) (by kernel_rfl) (fun _ _ _ h=>h) (by rfl) ?_ (by assumption) ?_
  rotate_left
  focus (intro w hSw;(try dsimp only at hSw);go_simp;(try with_reducible rfl))
  try simp only[Act.put,List.setIfInBounds_toArray,List.set_cons_zero,List.set_cons_succ]
  refine wpAnyH_ready (rs:=[23]) (by kernel_rfl) (by simp) ?_
  refine AllReadyH.cons rfl (fun K hK=>?_) ?_
  rotate_left
  focus exact AllReadyH.nil
  have JQ:=hHeld.lb
  obtain⟨hcx,hfx⟩:=Lb.rules JQ
  go_simp
  refine hK.out _ _ ?_ (fun FZ=>?_)
  focus ((exact EX))
  have hb:=hHeld.ch
  clear hK K hHeld hcx hfx JQ
  (obtain⟨hc,hf,hz⟩:=xd hb)
  have CJ:=Au.lb FZ
  repeat (replace CJ:=Lb.G_ CJ)
  obtain⟨hcb,M6⟩:=Lb.rules CJ
  clear FZ
  refine wpAnyH_done (by kernel_rfl) ?_ _
  go_wp2
  refine bodyPost_ret (v:=.agg #[.slice A0 AU c0,.slice A1 AY c1,.slice A2 AQ c2,.int .i64 m.clock,.slice A3 Aa c3,.slice A4 Ab c4]) (by simp[results,Tryz.results95,go_sem, *]) rfl ?_
  refine⟨_,_,_,_,_,_,_,_,_,_,_,_,_,_,_,τ,rfl,Cn.of5 (t0.Av (by (exact AO))) (t1.Av (by (exact AO))) (t2.Av (by (exact AO))) (t3.Av (by (exact AO))) (t4.Av (by (exact AO))) (by omega),AA⟩
 case refine_2=>
  rintro n l a wx ⟨hk,hHeld,hup,l0,l1,l2,l3,l4,r0,r1,r2,r3,r4,v0,v1,v2,v3,v4,u0,u1,u2,u3,u4,τ,hn0,rfl,rfl,C0,C1,C2,C3,C4⟩ he
  obtain rfl:l0=true:=by (cases l0 with|true=>rfl|false=>exact absurd he (Dk (i:=0) (by kernel_rfl)))
  obtain rfl:r0=true:=by (cases r0 with|true=>rfl|false=>exact absurd he (Dk (i:=3) (by kernel_rfl)))
  obtain rfl:l1=true:=by (cases l1 with|true=>rfl|false=>exact absurd he (Dk (i:=4) (by kernel_rfl)))
  obtain rfl:r1=true:=by (cases r1 with|true=>rfl|false=>exact absurd he (Dk (i:=7) (by kernel_rfl)))
  obtain rfl:l2=true:=by (cases l2 with|true=>rfl|false=>exact absurd he (Dk (i:=8) (by kernel_rfl)))
  obtain rfl:r2=true:=by (cases r2 with|true=>rfl|false=>exact absurd he (Dk (i:=11) (by kernel_rfl)))
  obtain rfl:l3=true:=by (cases l3 with|true=>rfl|false=>exact absurd he (Dk (i:=14) (by kernel_rfl)))
  obtain rfl:r3=true:=by (cases r3 with|true=>rfl|false=>exact absurd he (Dk (i:=17) (by kernel_rfl)))
  obtain rfl:l4=true:=by (cases l4 with|true=>rfl|false=>exact absurd he (Dk (i:=18) (by kernel_rfl)))
  obtain rfl:r4=true:=by (cases r4 with|true=>rfl|false=>exact absurd he (Dk (i:=21) (by kernel_rfl)))
  simp[cb] at hn0
 case refine_3=>
  rintro n l a wx ⟨hk,hHeld,hup,l0,l1,l2,l3,l4,r0,r1,r2,r3,r4,v0,v1,v2,v3,v4,u0,u1,u2,u3,u4,τ,hn0,rfl,rfl,C0,C1,C2,C3,C4⟩ i hi
  obtain⟨hi0,oi,ho,El⟩:=mem_ready.1 hi
  clear hi
  have ABB:i<24:=(Array.getElem?_eq_some_iff.1 ho).1
  rcases (show i=0∨i=1∨i=2∨i=3∨i=4∨i=5∨i=6∨i=7∨i=8∨i=9∨i=10∨i=11∨i=12∨i=13∨i=14∨i=15∨i=16∨i=17∨i=18∨i=19∨i=20∨i=21∨i=22∨i=23 by omega) with rfl|rfl|rfl|rfl|rfl|rfl|rfl|rfl|rfl|rfl|rfl|rfl|rfl|rfl|rfl|rfl|rfl|rfl|rfl|rfl|rfl|rfl|rfl|rfl
  ·-- 0
   obtain rfl:l0=false:=hi0
   cases C0
   clear ho El
   refine wpOp_step rfl fun K hK=>?_
   go_simp
   refine hK _ _ ⟨hHeld.alloc _,hk.alloc,hHeld.alloc _,(by simp;omega),true,l1,l2,l3,l4,false,r1,r2,r3,r4,.slice (some ⟨wx.heap.size,0,none⟩) 0 0,v1,v2,v3,v4,u0,u1,u2,u3,u4,glue τ wx.heap.size (fun _=>1),?_,rfl,rfl,.made _ _ _ (CK.begun (Ow.new [] rfl rfl rfl (fun _=>rfl) (by omega) (by omega))),C1.alloc,C2.alloc,C3.alloc,C4.alloc⟩
   simp only[cb] at hn0 ⊢;simp at hn0 ⊢;omega
  ·-- 1
   exact Bool.noConfusion (show true=false from hi0)
  ·-- 2
   exact Bool.noConfusion (show true=false from hi0)
  ·-- 3
   obtain rfl:r0=false:=hi0
   obtain rfl:=Option.some.inj (show some _=some oi from ho)
   have d:=El ⟨0,.data⟩ (by simp) rfl
   obtain rfl:l0=true:=d
   clear ho El
   obtain⟨A,c,rfl,ht⟩:∃ A c,v0=.slice A 0 c∧CK Sw.FC.enc 4 140 τ 1 wx W0.heap.size A c 0 []:=by (cases C0;exact⟨_,_,rfl,by assumption⟩)
   clear C0
   refine wpOp_step rfl fun K hK=>?_
   apply BM Wl Qw rfl rfl rfl rfl ht.ow (Rs.A8 m1 hk) (by omega) hup
   intro A1 c1 w2 ho1 Ap Bo Ay Ah
   rw[List.nil_append] at ho1;simp only[Nat.zero_add] at ho1
   have hbx:=Ay (· = (w.heap.size+1)) W0 hHeld.ch (Nat.le_refl _)
   have IY:=Lb.low Ah R3 hHeld.lb
   simp only[Nat.zero_add]
   have YE:KF 0 w w2:=kL ⟨Ap.size,Ah⟩ hk (by omega)
   refine hK _ _ ⟨Au.of hbx IY,YE,Au.of hbx IY,Nat.le_trans hup Ap.size,true,l1,l2,l3,l4,true,r1,r2,r3,r4,.slice A 0 c,v1,v2,v3,v4,.slice A1 AU c1,u1,u2,u3,u4,glue τ wx.heap.size (fun _=>1),?_,rfl,rfl,.done _ _ _ (CK.full ho1 ht Bo),C1.app Ap ht.tag (by decide),C2.app Ap ht.tag (by decide),C3.app Ap ht.tag (by decide),C4.app Ap ht.tag (by decide)⟩
   simp only[cb] at hn0 ⊢;simp at hn0 ⊢;omega
  ·-- 4
   obtain rfl:l1=false:=hi0
   cases C1
   clear ho El
   refine wpOp_step rfl fun K hK=>?_
   go_simp
   refine hK _ _ ⟨hHeld.alloc _,hk.alloc,hHeld.alloc _,(by simp;omega),l0,true,l2,l3,l4,r0,false,r2,r3,r4,v0,.slice (some ⟨wx.heap.size,0,none⟩) 0 0,v2,v3,v4,u0,u1,u2,u3,u4,glue τ wx.heap.size (fun _=>2),?_,rfl,rfl,C0.alloc,.made _ _ _ (CK.begun (Ow.new [] rfl rfl rfl (fun _=>rfl) (by omega) (by omega))),C2.alloc,C3.alloc,C4.alloc⟩
   simp only[cb] at hn0 ⊢;simp at hn0 ⊢;omega
  ·-- 5
   exact Bool.noConfusion (show true=false from hi0)
  ·-- 6
   exact Bool.noConfusion (show true=false from hi0)
  ·-- 7
   obtain rfl:r1=false:=hi0
   obtain rfl:=Option.some.inj (show some _=some oi from ho)
   have d:=El ⟨4,.data⟩ (by simp) rfl
   obtain rfl:l1=true:=d
   clear ho El
   obtain⟨A,c,rfl,ht⟩:∃ A c,v1=.slice A 0 c∧CK encI 1 3 τ 2 wx W0.heap.size A c 0 []:=by (cases C1;exact⟨_,_,rfl,by assumption⟩)
   clear C1
   refine wpOp_step rfl fun K hK=>?_
   apply BM FO Dz rfl rfl rfl rfl ht.ow (Rs.A8 m2 hk) (by omega) hup
   intro A1 c1 w2 ho1 Ap Bo Ay Ah
   rw[List.nil_append] at ho1;simp only[Nat.zero_add] at ho1
   have hbx:=Ay (· = (w.heap.size+1)) W0 hHeld.ch (Nat.le_refl _)
   have IY:=Lb.low Ah R3 hHeld.lb
   simp only[Nat.zero_add]
   have YE:KF 0 w w2:=kL ⟨Ap.size,Ah⟩ hk (by omega)
   refine hK _ _ ⟨Au.of hbx IY,YE,Au.of hbx IY,Nat.le_trans hup Ap.size,l0,true,l2,l3,l4,r0,true,r2,r3,r4,v0,.slice A 0 c,v2,v3,v4,u0,.slice A1 AY c1,u2,u3,u4,glue τ wx.heap.size (fun _=>2),?_,rfl,rfl,C0.app Ap ht.tag (by decide),.done _ _ _ (CK.full ho1 ht Bo),C2.app Ap ht.tag (by decide),C3.app Ap ht.tag (by decide),C4.app Ap ht.tag (by decide)⟩
   simp only[cb] at hn0 ⊢;simp at hn0 ⊢;omega
  ·-- 8
   obtain rfl:l2=false:=hi0
   cases C2
   clear ho El
   refine wpOp_step rfl fun K hK=>?_
   go_simp
   refine hK _ _ ⟨hHeld.alloc _,hk.alloc,hHeld.alloc _,(by simp;omega),l0,l1,true,l3,l4,r0,r1,false,r3,r4,v0,v1,.slice (some ⟨wx.heap.size,0,none⟩) 0 0,v3,v4,u0,u1,u2,u3,u4,glue τ wx.heap.size (fun _=>3),?_,rfl,rfl,C0.alloc,C1.alloc,.made _ _ _ (CK.begun (Ow.new [] rfl rfl rfl (fun _=>rfl) (by omega) (by omega))),C3.alloc,C4.alloc⟩
   simp only[cb] at hn0 ⊢;simp at hn0 ⊢;omega
  ·-- 9
   exact Bool.noConfusion (show true=false from hi0)
  ·-- 10
   exact Bool.noConfusion (show true=false from hi0)
  ·-- 11
   obtain rfl:r2=false:=hi0
   obtain rfl:=Option.some.inj (show some _=some oi from ho)
   have d:=El ⟨8,.data⟩ (by simp) rfl
   obtain rfl:l2=true:=d
   clear ho El
   obtain⟨A,c,rfl,ht⟩:∃ A c,v2=.slice A 0 c∧CK Sw.BC.enc 5 71 τ 3 wx W0.heap.size A c 0 []:=by (cases C2;exact⟨_,_,rfl,by assumption⟩)
   clear C2
   refine wpOp_step rfl fun K hK=>?_
   apply BM IZ FX rfl rfl rfl rfl ht.ow (Rs.A8 m3 hk) (by omega) hup
   intro A1 c1 w2 ho1 Ap Bo Ay Ah
   rw[List.nil_append] at ho1;simp only[Nat.zero_add] at ho1
   have hbx:=Ay (· = (w.heap.size+1)) W0 hHeld.ch (Nat.le_refl _)
   have IY:=Lb.low Ah R3 hHeld.lb
   simp only[Nat.zero_add]
   have YE:KF 0 w w2:=kL ⟨Ap.size,Ah⟩ hk (by omega)
   refine hK _ _ ⟨Au.of hbx IY,YE,Au.of hbx IY,Nat.le_trans hup Ap.size,l0,l1,true,l3,l4,r0,r1,true,r3,r4,v0,v1,.slice A 0 c,v3,v4,u0,u1,.slice A1 AQ c1,u3,u4,glue τ wx.heap.size (fun _=>3),?_,rfl,rfl,C0.app Ap ht.tag (by decide),C1.app Ap ht.tag (by decide),.done _ _ _ (CK.full ho1 ht Bo),C3.app Ap ht.tag (by decide),C4.app Ap ht.tag (by decide)⟩
   simp only[cb] at hn0 ⊢;simp at hn0 ⊢;omega
  ·-- 12
   exact Bool.noConfusion (show true=false from hi0)
  ·-- 13
   exact Bool.noConfusion (show true=false from hi0)
  ·-- 14
   obtain rfl:l3=false:=hi0
   cases C3
   clear ho El
   refine wpOp_step rfl fun K hK=>?_
   go_simp
   refine hK _ _ ⟨hHeld.alloc _,hk.alloc,hHeld.alloc _,(by simp;omega),l0,l1,l2,true,l4,r0,r1,r2,false,r4,v0,v1,v2,.slice (some ⟨wx.heap.size,0,none⟩) 0 0,v4,u0,u1,u2,u3,u4,glue τ wx.heap.size (fun _=>4),?_,rfl,rfl,C0.alloc,C1.alloc,C2.alloc,.made _ _ _ (CK.begun (Ow.new [] rfl rfl rfl (fun _=>rfl) (by omega) (by omega))),C4.alloc⟩
   simp only[cb] at hn0 ⊢;simp at hn0 ⊢;omega
  ·-- 15
   exact Bool.noConfusion (show true=false from hi0)
  ·-- 16
   exact Bool.noConfusion (show true=false from hi0)
  ·-- 17
   obtain rfl:r3=false:=hi0
   obtain rfl:=Option.some.inj (show some _=some oi from ho)
   have d:=El ⟨14,.data⟩ (by simp) rfl
   obtain rfl:l3=true:=d
   clear ho El
   obtain⟨A,c,rfl,ht⟩:∃ A c,v3=.slice A 0 c∧CK encI 1 3 τ 4 wx W0.heap.size A c 0 []:=by (cases C3;exact⟨_,_,rfl,by assumption⟩)
   clear C3
   refine wpOp_step rfl fun K hK=>?_
   apply BM FO Dz rfl rfl rfl rfl ht.ow (Rs.A8 m4 hk) (by omega) hup
   intro A1 c1 w2 ho1 Ap Bo Ay Ah
   rw[List.nil_append] at ho1;simp only[Nat.zero_add] at ho1
   have hbx:=Ay (· = (w.heap.size+1)) W0 hHeld.ch (Nat.le_refl _)
   have IY:=Lb.low Ah R3 hHeld.lb
   simp only[Nat.zero_add]
   have YE:KF 0 w w2:=kL ⟨Ap.size,Ah⟩ hk (by omega)
   refine hK _ _ ⟨Au.of hbx IY,YE,Au.of hbx IY,Nat.le_trans hup Ap.size,l0,l1,l2,true,l4,r0,r1,r2,true,r4,v0,v1,v2,.slice A 0 c,v4,u0,u1,u2,.slice A1 Aa c1,u4,glue τ wx.heap.size (fun _=>4),?_,rfl,rfl,C0.app Ap ht.tag (by decide),C1.app Ap ht.tag (by decide),C2.app Ap ht.tag (by decide),.done _ _ _ (CK.full ho1 ht Bo),C4.app Ap ht.tag (by decide)⟩
   simp only[cb] at hn0 ⊢;simp at hn0 ⊢;omega
  ·-- 18
   obtain rfl:l4=false:=hi0
   cases C4
   clear ho El
   refine wpOp_step rfl fun K hK=>?_
   go_simp
   refine hK _ _ ⟨hHeld.alloc _,hk.alloc,hHeld.alloc _,(by simp;omega),l0,l1,l2,l3,true,r0,r1,r2,r3,false,v0,v1,v2,v3,.slice (some ⟨wx.heap.size,0,none⟩) 0 0,u0,u1,u2,u3,u4,glue τ wx.heap.size (fun _=>5),?_,rfl,rfl,C0.alloc,C1.alloc,C2.alloc,C3.alloc,.made _ _ _ (CK.begun (Ow.new [] rfl rfl rfl (fun _=>rfl) (by omega) (by omega)))⟩
   simp only[cb] at hn0 ⊢;simp at hn0 ⊢;omega
  ·-- 19
   exact Bool.noConfusion (show true=false from hi0)
  ·-- 20
   exact Bool.noConfusion (show true=false from hi0)
  ·-- 21
   obtain rfl:r4=false:=hi0
   obtain rfl:=Option.some.inj (show some _=some oi from ho)
   have d:=El ⟨18,.data⟩ (by simp) rfl
   obtain rfl:l4=true:=d
   clear ho El
   obtain⟨A,c,rfl,ht⟩:∃ A c,v4=.slice A 0 c∧CK encI 1 3 τ 5 wx W0.heap.size A c 0 []:=by (cases C4;exact⟨_,_,rfl,by assumption⟩)
   clear C4
   refine wpOp_step rfl fun K hK=>?_
   apply BM FO Dz rfl rfl rfl rfl ht.ow (Rs.A8 m5 hk) (by omega) hup
   intro A1 c1 w2 ho1 Ap Bo Ay Ah
   rw[List.nil_append] at ho1;simp only[Nat.zero_add] at ho1
   have hbx:=Ay (· = (w.heap.size+1)) W0 hHeld.ch (Nat.le_refl _)
   have IY:=Lb.low Ah R3 hHeld.lb
   simp only[Nat.zero_add]
   have YE:KF 0 w w2:=kL ⟨Ap.size,Ah⟩ hk (by omega)
   refine hK _ _ ⟨Au.of hbx IY,YE,Au.of hbx IY,Nat.le_trans hup Ap.size,l0,l1,l2,l3,true,r0,r1,r2,r3,true,v0,v1,v2,v3,.slice A 0 c,u0,u1,u2,u3,.slice A1 Ab c1,glue τ wx.heap.size (fun _=>5),?_,rfl,rfl,C0.app Ap ht.tag (by decide),C1.app Ap ht.tag (by decide),C2.app Ap ht.tag (by decide),C3.app Ap ht.tag (by decide),.done _ _ _ (CK.full ho1 ht Bo)⟩
   simp only[cb] at hn0 ⊢;simp at hn0 ⊢;omega
  ·-- 22
   obtain rfl:=Option.some.inj (show some _=some oi from ho)
   obtain rfl:r0=true:=El ⟨3,.data⟩ (by simp) rfl
   obtain rfl:l0=true:=by (cases C0;rfl)
   obtain rfl:r1=true:=El ⟨7,.data⟩ (by simp) rfl
   obtain rfl:l1=true:=by (cases C1;rfl)
   obtain rfl:r2=true:=El ⟨11,.data⟩ (by simp) rfl
   obtain rfl:l2=true:=by (cases C2;rfl)
   obtain rfl:r3=true:=El ⟨17,.data⟩ (by simp) rfl
   obtain rfl:l3=true:=by (cases C3;rfl)
   obtain rfl:r4=true:=El ⟨21,.data⟩ (by simp) rfl
   obtain rfl:l4=true:=by (cases C4;rfl)
   simp[cb] at hn0
  ·-- 23
   obtain rfl:=Option.some.inj (show some _=some oi from ho)
   exact Bool.noConfusion (show false=true from El ⟨22,.data⟩ (by simp) rfl)
end Go.Proofs.YtgaflnpmilikcaaGreat
