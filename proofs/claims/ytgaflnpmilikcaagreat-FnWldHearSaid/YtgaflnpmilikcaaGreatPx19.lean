/- Texts joined: DoA, ImpE. -/
import Derived.Test.YtgaflnpmilikcaaGreatPx18
import Derived.Test.YtgaflnpmilikcaaGreatPx16
import Derived.Test.YtgaflnpmilikcaaGreatPx5
import Derived.Test.YtgaflnpmilikcaaGreatPx8
import Derived.Test.YtgaflnpmilikcaaGreatPx12
import Derived.Test.YtgaflnpmilikcaaGreatPx2
set_option maxRecDepth 100000
set_option linter.unusedSimpArgs false
set_option linter.unusedVariables false
namespace Go.Proofs.YtgaflnpmilikcaaGreat
open Go.RowKit Go
set_option maxHeartbeats 1000000
def Jh (t:Int) (d:Sw.BC):Bool:=decide (d.ticket=t)
theorem Rk (ds:List Sw.BC) (t:Int):Sw.FB ds t=KU (Jh t) ds:=by
 unfold Sw.FB Sw.BH KU
 rfl
theorem Cx (A:Option Addr) (c n:Nat) (ds:List Sw.BC) (t:Int) (w:World) (hxs:VJ w 0 A c n ds):Calls Tryz.prog 210 #[.slice A n c,.int .i64 t] w fun E w'=>E=.returned (.int .i64 (Sw.FB ds t))∧w=w':=by
 have hl:=Lib.hid hxs.1
 have hbig:=Rs.big hxs
 rw[Rk]
 go_enter Tryz.func210,Tryz.ntmps210
 go_wp2_with fail
 go_loop [5] (fun i=>∃ k:Nat,k≤n∧i=.int .i64 k∧∀ j,j<k→∀ z,ds[j]?=some z→Jh t z=false) (fun i=>n-(intOf i).toNat)
 case atStart=>exact⟨0,Nat.zero_le _,rfl,by omega⟩
 case round=>
  obtain⟨k,hk,rfl,hrel⟩:=hrel
  have BI:=Lib.hid hrel;clear hrel
  by_cases hlt:k<n
  ·obtain⟨g,off,y,rfl,hg0,hg,hd,hy,hc0,hc1,hc2,hc3,hc4⟩:=OQ hxs hlt
   have Hy:=Lib.hid hy;clear hd hy
   cases hmx:(y.ticket==t)
   case true=>
    go_wp2_with fail
    go_ret
    exact⟨Cv (IJ Hy.out BI.out (by simpa [Jh] using hmx)).symm,rfl⟩
   case false=>
    go_wp2_with fail
    go_round
    case rel=>exact⟨k+1,by omega,by go_num,Gi Hy.out BI.out (by simpa [Jh] using hmx)⟩
    case measure=>simp[intOf];omega
  ·go_wp2_with fail
   go_ret
   exact⟨Cv (II (by have:=hl.out;omega) BI.out).symm,rfl⟩
theorem LC (aL:Option Addr) (Ae AU:Nat) (aP:Option Addr) (Ag AY:Nat) (aD:Option Addr) (Ac AQ:Nat) (aN:Option Addr) (Ad Aa:Nat) (aS:Option Addr) (Af Ab:Nat) (m:Sw.CV) (w:World) (hL:RE w 0 aL Ae AU m.log):Calls Tryz.prog 121 #[.agg #[.slice aL AU Ae,.slice aP AY Ag,.slice aD AQ Ac,.int .i64 m.clock,.slice aN Aa Ad,.slice aS Ab Af]] w fun E w'=>∃ A' c' n',E=.returned (.slice A' n' c')∧PQ w' w.heap.size A' c' n' (Sw.CS m)∧Ex w w':=by
 go_enter Tryz.func121,Tryz.ntmps121
 go_wp2_with (go_at_call 105;apply Calls.mono;apply EO;(exact Bt);rintro E w1 ⟨A',c',n',rfl,ho,hb⟩;obtain⟨hc,hf,hz⟩:=xy hb)
 go_ret
 exact⟨_,_,_,rfl,(ho.keep (by (exact AO))).less (by exact Aq),AA⟩
theorem Va (aL:Option Addr) (Ae AU:Nat) (aP:Option Addr) (Ag AY:Nat) (aD:Option Addr) (Ac AQ:Nat) (aN:Option Addr) (Ad Aa:Nat) (aS:Option Addr) (Af Ab:Nat) (m:Sw.CV) (t:Int) (k:Nat) (d:Sw.BC) (w:World) (hD:VJ w 0 aD Ac AQ m.AJ) (ht:Sw.FB m.AJ t=k) (hd:m.AJ[k]?=some d):Calls Tryz.prog 187 #[.agg #[.slice aL AU Ae,.slice aP AY Ag,.slice aD AQ Ac,.int .i64 m.clock,.slice aN Aa Ad,.slice aS Ab Af],.int .i64 t] w fun E w'=>E=.returned (.tuple #[.agg #[.int .i64 d.ticket,.int .i64 d.BP,.int .i64 d.Al,.int .i64 d.BN,.int .i64 d.due],.bool true])∧Ex w w':=by
 have hlt:k<AQ:=by rw[hD.1];exact (List.getElem?_eq_some_iff.1 hd).1
 obtain⟨g,off,y,rfl,hg0,hg,hd',hy,hc0,hc1,hc2,hc3,hc4⟩:=OQ hD hlt
 obtain rfl:y=d:=Option.some.inj (hy.symm.trans hd)
 have HT:=Lib.hid ht
 clear hd hd' hy ht
 go_enter Tryz.func187,Tryz.ntmps187
 go_wp2_with (go_at_call 210;apply Calls.mono;apply Cx;(apply Rs.A8 hD;(exact AO));rintro E w' ⟨rfl,rfl⟩;rw[HT.out])
 refine bodyPost_ret (v:=.tuple #[.agg #[.int .i64 y.ticket,.int .i64 y.BP,.int .i64 y.Al,.int .i64 y.BN,.int .i64 y.due],.bool true]) (by simp[results,Tryz.results187,go_sem, *]) rfl ?_
 exact⟨rfl,AA⟩
theorem Vb (aL:Option Addr) (Ae AU:Nat) (aP:Option Addr) (Ag AY:Nat) (aD:Option Addr) (Ac AQ:Nat) (aN:Option Addr) (Ad Aa:Nat) (aS:Option Addr) (Af Ab:Nat) (m:Sw.CV) (t:Int) (w:World) (hD:VJ w 0 aD Ac AQ m.AJ) (ht:Sw.FB m.AJ t = -1):Calls Tryz.prog 187 #[.agg #[.slice aL AU Ae,.slice aP AY Ag,.slice aD AQ Ac,.int .i64 m.clock,.slice aN Aa Ad,.slice aS Ab Af],.int .i64 t] w fun E w'=>E=.returned (.tuple #[.agg #[.int .i64 0,.int .i64 0,.int .i64 0,.int .i64 0,.int .i64 0],.bool false])∧Ex w w':=by
 have HT:=Lib.hid ht
 clear ht
 go_enter Tryz.func187,Tryz.ntmps187
 go_wp2_with (go_at_call 210;apply Calls.mono;apply Cx;(apply Rs.A8 hD;(exact AO));rintro E w' ⟨rfl,rfl⟩;rw[HT.out])
 refine bodyPost_ret (v:=.tuple #[.agg #[.int .i64 0,.int .i64 0,.int .i64 0,.int .i64 0,.int .i64 0],.bool false]) (by simp[results,Tryz.results187,go_sem, *]) rfl ?_
 exact⟨rfl,AA⟩
theorem Yn (A:Option Addr) (c n:Nat) (ds:List Sw.BC) (k:Nat) (w:World) (hxs:VJ w 0 A c n ds) (hk:k<n) (hn:n≤4194304):Calls Tryz.prog 226 #[.slice A n c,.int .i64 k] w fun E w'=>∃ A' c',E=.returned (.slice A' (n-1) c')∧Pw w' w.heap.size A' c' (n-1) (ds.eraseIdx k)∧Ex w w':=by
 have hle:=hxs.2.le
 have hcb:=hxs.2.cap
 have s1:=hxs.take (fun _=>rfl) (k:=k) (by omega)
 have s2:=hxs.drop (fun _=>rfl) (k:=k+1) (by omega)
 obtain⟨g,off,y,rfl,hg0,hg,hd,hy,hc0,hc1,hc2,hc3,hc4⟩:=OQ hxs hk
 clear hd hy hc0 hc1 hc2 hc3 hc4
 unfold maxLen at hcb
 have wk:IntKind.i64.wrap ((k:Int)+1)=(k:Int)+1:=IntWalk.i64_in _ (by omega)
 have z0:(0:Int)≤(k:Int):=by omega
 have z1:(k:Int)≤(n:Int):=by omega
 have z2:(k:Int)+1≤(n:Int):=by omega
 have z3:(0:Int)≤(k:Int)+1:=by omega
 have z4:(k:Int)≤(c:Int):=by omega
 have z5:(n:Int)≤(c:Int):=by omega
 have z6:((k:Int)+1).toNat=k+1:=by omega
 by_cases hck:c=k+1
 ·rw[if_pos hck] at s2
  subst hck
  obtain rfl:n=k+1:=by omega
  have z7:(k:Int)≤(k:Int)+1:=by omega
  have s2:Rs Sw.BC.enc 5 w 0 (some ⟨g,off,none⟩) 0 0 []:=by
   rw[List.drop_of_length_le (by have:=hxs.1;omega),Nat.sub_self] at s2
   exact s2
  clear z1 z2 z4 z5
  have z8:(k:Int)+1≤(k:Int)+1:=by omega
  go_enter Tryz.func226,Tryz.ntmps226
  go_wp2_with fail
  (refine CF fun W0 hb0 hc0 hf0 hz0=>?_;refine wp_region_held_drew (S:=fun w'=>Held W0 w') (by kernel_rfl) ?_ (fun hHeld=>?_);(focus ((try dsimp only);(exact FU)));refine rT 1 6 (h:=?_);refine rT 2 7 (h:=?_);refine rT 3 8 (h:=?_);refine rT 5 10 (h:=?_);refine rT 6 11 (h:=?_);refine rT 7 12 (h:=?_);refine rT 8 13 (h:=?_);refine wpAnyH_ready (rs:=[0]) (by kernel_rfl) (by simp) ?_;refine AllReadyH.cons rfl (fun K hK=>?_) ?_;rotate_left;(focus exact AllReadyH.nil);go_simp;refine hK.out _ _ ?_ (fun hHeld=>?_);(focus ((try dsimp only);(exact FU)));clear hK K;(try simp only[Act.put,List.getElem_toArray,List.getElem_cons_succ,List.getElem_cons_zero,DN]);refine wpAnyH_ready (rs:=[4]) (by kernel_rfl) (by simp) ?_;refine AllReadyH.cons rfl (fun K hK=>?_) ?_;rotate_left;(focus exact AllReadyH.nil);(first|(apply BM (lo:=W0.heap.size) IZ FX rfl rfl rfl rfl;(exact Iy);(apply Rs.A8 s1;exact AO);omega;(first|exact Nat.le_refl _|exact Aq);intro A1 c1 w2 ho1 Ap Bo Ay Ah;have hbx:=Ay (fun _=>False) W0 (And.right (by assumption:Held W0 _)) (Nat.le_refl _);have hz1:=hbx.size;clear Ay Ah)|(apply BM (lo:=W0.heap.size) IZ FX rfl rfl rfl rfl;(exact Iy);(apply Rs.A8 s2;exact AO);omega;(first|exact Nat.le_refl _|exact Aq);intro A1 c1 w2 ho1 Ap Bo Ay Ah;have hbx:=Ay (fun _=>False) W0 (And.right (by assumption:Held W0 _)) (Nat.le_refl _);have hz1:=hbx.size;clear Ay Ah));(try simp only[Act.put,List.getElem_toArray,List.getElem_cons_succ,List.getElem_cons_zero,DN]);refine hK.out _ _ ?_ (fun hHeld=>?_);(focus ((try dsimp only);(exact FU)));clear hK K;(try simp only[Act.put,List.getElem_toArray,List.getElem_cons_succ,List.getElem_cons_zero,DN]);refine wpAnyH_ready (rs:=[9]) (by kernel_rfl) (by simp) ?_;refine AllReadyH.cons rfl (fun K hK=>?_) ?_;rotate_left;(focus exact AllReadyH.nil);(first|(apply BM (lo:=W0.heap.size) IZ FX rfl rfl rfl rfl;(exact Iy);(apply Rs.A8 s1;exact AO);omega;(first|exact Nat.le_refl _|exact Aq);intro A1 c1 w2 ho1 Ap Bo Ay Ah;have hbx:=Ay (fun _=>False) W0 (And.right (by assumption:Held W0 _)) (Nat.le_refl _);have hz1:=hbx.size;clear Ay Ah)|(apply BM (lo:=W0.heap.size) IZ FX rfl rfl rfl rfl;(exact Iy);(apply Rs.A8 s2;exact AO);omega;(first|exact Nat.le_refl _|exact Aq);intro A1 c1 w2 ho1 Ap Bo Ay Ah;have hbx:=Ay (fun _=>False) W0 (And.right (by assumption:Held W0 _)) (Nat.le_refl _);have hz1:=hbx.size;clear Ay Ah));(try simp only[Act.put,List.getElem_toArray,List.getElem_cons_succ,List.getElem_cons_zero,DN]);refine hK.out _ _ ?_ (fun hHeld=>?_);(focus ((try dsimp only);(exact FU)));clear hK K;(try simp only[Act.put,List.getElem_toArray,List.getElem_cons_succ,List.getElem_cons_zero,DN]);refine rT 10 4 (h:=?_);refine wpAnyH_done (by kernel_rfl) ?_ _;all_goals (obtain⟨hb,hc,hf,hz⟩:=xh (by assumption:Held W0 _)))
  go_wp2_with fail
  go_ret
  rw[List.nil_append,List.append_nil,Nat.zero_add,Nat.add_zero] at ho1
  refine⟨_,_,by rfl,?_,AA⟩
  rw[List.eraseIdx_eq_take_drop_succ,List.drop_of_length_le (by have:=hxs.1;omega),List.append_nil]
  exact ho1.less hz0
 ·rw[if_neg hck] at s2
  go_enter Tryz.func226,Tryz.ntmps226
  go_wp2_with fail
  (refine CF fun W0 hb0 hc0 hf0 hz0=>?_;refine wp_region_held_drew (S:=fun w'=>Held W0 w') (by kernel_rfl) ?_ (fun hHeld=>?_);(focus ((try dsimp only);(exact FU)));refine rT 1 6 (h:=?_);refine rT 2 7 (h:=?_);refine rT 3 8 (h:=?_);refine rT 5 10 (h:=?_);refine rT 6 11 (h:=?_);refine rT 7 12 (h:=?_);refine rT 8 13 (h:=?_);refine wpAnyH_ready (rs:=[0]) (by kernel_rfl) (by simp) ?_;refine AllReadyH.cons rfl (fun K hK=>?_) ?_;rotate_left;(focus exact AllReadyH.nil);go_simp;refine hK.out _ _ ?_ (fun hHeld=>?_);(focus ((try dsimp only);(exact FU)));clear hK K;(try simp only[Act.put,List.getElem_toArray,List.getElem_cons_succ,List.getElem_cons_zero,DN]);refine wpAnyH_ready (rs:=[4]) (by kernel_rfl) (by simp) ?_;refine AllReadyH.cons rfl (fun K hK=>?_) ?_;rotate_left;(focus exact AllReadyH.nil);(first|(apply BM (lo:=W0.heap.size) IZ FX rfl rfl rfl rfl;(exact Iy);(apply Rs.A8 s1;exact AO);omega;(first|exact Nat.le_refl _|exact Aq);intro A1 c1 w2 ho1 Ap Bo Ay Ah;have hbx:=Ay (fun _=>False) W0 (And.right (by assumption:Held W0 _)) (Nat.le_refl _);have hz1:=hbx.size;clear Ay Ah)|(apply BM (lo:=W0.heap.size) IZ FX rfl rfl rfl rfl;(exact Iy);(apply Rs.A8 s2;exact AO);omega;(first|exact Nat.le_refl _|exact Aq);intro A1 c1 w2 ho1 Ap Bo Ay Ah;have hbx:=Ay (fun _=>False) W0 (And.right (by assumption:Held W0 _)) (Nat.le_refl _);have hz1:=hbx.size;clear Ay Ah));(try simp only[Act.put,List.getElem_toArray,List.getElem_cons_succ,List.getElem_cons_zero,DN]);refine hK.out _ _ ?_ (fun hHeld=>?_);(focus ((try dsimp only);(exact FU)));clear hK K;(try simp only[Act.put,List.getElem_toArray,List.getElem_cons_succ,List.getElem_cons_zero,DN]);refine wpAnyH_ready (rs:=[9]) (by kernel_rfl) (by simp) ?_;refine AllReadyH.cons rfl (fun K hK=>?_) ?_;rotate_left;(focus exact AllReadyH.nil);(first|(apply BM (lo:=W0.heap.size) IZ FX rfl rfl rfl rfl;(exact Iy);(apply Rs.A8 s1;exact AO);omega;(first|exact Nat.le_refl _|exact Aq);intro A1 c1 w2 ho1 Ap Bo Ay Ah;have hbx:=Ay (fun _=>False) W0 (And.right (by assumption:Held W0 _)) (Nat.le_refl _);have hz1:=hbx.size;clear Ay Ah)|(apply BM (lo:=W0.heap.size) IZ FX rfl rfl rfl rfl;(exact Iy);(apply Rs.A8 s2;exact AO);omega;(first|exact Nat.le_refl _|exact Aq);intro A1 c1 w2 ho1 Ap Bo Ay Ah;have hbx:=Ay (fun _=>False) W0 (And.right (by assumption:Held W0 _)) (Nat.le_refl _);have hz1:=hbx.size;clear Ay Ah));(try simp only[Act.put,List.getElem_toArray,List.getElem_cons_succ,List.getElem_cons_zero,DN]);refine hK.out _ _ ?_ (fun hHeld=>?_);(focus ((try dsimp only);(exact FU)));clear hK K;(try simp only[Act.put,List.getElem_toArray,List.getElem_cons_succ,List.getElem_cons_zero,DN]);refine rT 10 4 (h:=?_);refine wpAnyH_done (by kernel_rfl) ?_ _;all_goals (obtain⟨hb,hc,hf,hz⟩:=xh (by assumption:Held W0 _)))
  go_wp2_with fail
  go_ret
  rw[List.nil_append,← List.eraseIdx_eq_take_drop_succ,Nat.zero_add,show k+(n-(k+1))=n-1 from by omega] at ho1
  refine⟨A1,c1,?_,ho1.less hz0,AA⟩
  rw[show k+(n-(k+1))=n-1 from by omega]
  rfl
theorem QP (d y:Sw.BC) (r:List Sw.BC):Sw.CL d (y::r)=if d.ticket<y.ticket then d::y::r else y::Sw.CL d r:=by rw[Sw.CL]
theorem iy (A:Option Addr) (c n:Nat) (ds:List Sw.BC) (d:Sw.BC) (w:World) (hxs:VJ w 0 A c n ds) (hn:n≤4194304):Calls Tryz.prog 227 #[.slice A n c,.agg #[.int .i64 d.ticket,.int .i64 d.BP,.int .i64 d.Al,.int .i64 d.BN,.int .i64 d.due]] w fun E w'=>∃ A' c',E=.returned (.slice A' (n+1) c')∧Pw w' w.heap.size A' c' (n+1) (Sw.CL d ds)∧Ex w w':=by
 have hl:=Lib.hid hxs.1
 go_enter Tryz.func227,Tryz.ntmps227
 go_wp2_with fail
 go_loopw [5,6,7] (fun o f i wr=>∃ (k:Nat) (dn:Bool) (B:Option Addr) (e:Nat) (m:Nat) (es:List Sw.BC),k≤n∧i=.int .i64 k∧f=.bool dn∧o=.slice B m e∧(m=k+if dn then 1 else 0)∧Ex (w.alloc (.cells #[.int .i64 d.ticket,.int .i64 d.BP,.int .i64 d.Al,.int .i64 d.BN,.int .i64 d.due] 71)) wr∧Pw wr (w.heap.size+1) B e m es ∧
  Sw.CL d ds=(if dn then es ++ ds.drop k else es ++ Sw.CL d (ds.drop k))) (fun _ _ i _=>n-(intOf i).toNat)
 case atStart=>
  exact⟨0,false,some ⟨w.heap.size+1,0,none⟩,0,0,[],Nat.zero_le _,rfl,rfl,rfl,rfl,AA,Ow.new [] (by simp) rfl rfl (fun _=>rfl) (Nat.le_refl _) (by omega),by simp⟩
 case round=>
  obtain⟨k,dn,B,e,m,es,hk,rfl,rfl,rfl,hm,hb,ho,heq⟩:=hrel
  have hst:=Ex.rules hb rfl
  (try simp only[zA,zC,zD] at hst)
  obtain⟨hc,hf,hz⟩:=hst
  have HE:=Lib.hid heq;clear heq
  have HM:=Lib.hid hm
  have hmn:m≤n+1:=by rw[hm];split <;> omega
  clear hm
  by_cases hlt:k<n
  ·obtain⟨g,off,y,rfl,hg0,hg,hd,hy,hc0,hc1,hc2,hc3,hc4⟩:=OQ hxs hlt
   have HD:=Lib.hid hd;clear hd hy
   cases dn
   case true=>
    go_wp2_with fail
    (go_quiet ((first|fail));all_goals (generalize CE:World.drewN _ nq=W0;have hb0:=Ex.Iz CE;clear CE;obtain⟨hc0,hf0,hz0⟩:=xy hb0))
    go_wp2_with (at_builtin;apply BL (lo:=w.heap.size+1) IZ FX rfl rfl rfl rfl;(exact Iy);(first|(refine Rs.new [y] (by (first|rfl|(simp only[BO];done)|omega)) rfl rfl (fun _=>rfl) (by omega)));omega;exact Aq;intro A1 c1 w2 ho1 Ap Bo Ay Ah;have hb:=Ay (fun _=>False) (w.alloc (.cells #[.int .i64 d.ticket,.int .i64 d.BP,.int .i64 d.Al,.int .i64 d.BN,.int .i64 d.due] 71)) (by exact AA) (by exact Aq);have hz:=Ap.size;(try simp only[BO] at hz);obtain⟨hc,hf⟩:=BJ Ah;clear Ah Ay)
    go_roundw
    case rel=>exact⟨k+1,true,A1,c1,m+1,es ++ [y],by omega,by go_num,rfl,rfl,by have:=HM.out;simp at this ⊢;omega,hb,ho1,by rw[HE.out,HD.out];simp⟩
    case measure=>simp[intOf];omega
   case false=>
    have HI:=Lib.hid (QP d y (ds.drop (k+1)))
    by_cases hcmp:d.ticket<y.ticket
    ·go_wp2_with fail
     (go_quiet ((first|fail));all_goals (generalize CE:World.drewN _ nq=W0;have hb0:=Ex.Iz CE;clear CE;obtain⟨hc0,hf0,hz0⟩:=xy hb0))
     go_wp2_with (first|(at_builtin;apply BL (lo:=w.heap.size+1) IZ FX rfl rfl rfl rfl;(exact Iy);(first|(refine Rs.new [d] (by (first|rfl|(simp only[BO];done)|omega)) rfl rfl (fun _=>rfl) (by omega)));omega;exact Aq;intro A1 c1 w2 ho1 Ap Bo Ay Ah;have hb:=Ay (fun _=>False) (w.alloc (.cells #[.int .i64 d.ticket,.int .i64 d.BP,.int .i64 d.Al,.int .i64 d.BN,.int .i64 d.due] 71)) (by exact AA) (by exact Aq);have hz:=Ap.size;(try simp only[BO] at hz);obtain⟨hc,hf⟩:=BJ Ah;clear Ah Ay)|(at_builtin;apply BL (lo:=w.heap.size+1) IZ FX rfl rfl rfl rfl;(exact Iy);(first|(refine Rs.new [y] (by (first|rfl|(simp only[BO];done)|omega)) rfl rfl (fun _=>rfl) (by omega)));omega;exact Aq;intro A1 c1 w2 ho1 Ap Bo Ay Ah;have hb:=Ay (fun _=>False) (w.alloc (.cells #[.int .i64 d.ticket,.int .i64 d.BP,.int .i64 d.Al,.int .i64 d.BN,.int .i64 d.due] 71)) (by exact AA) (by exact Aq);have hz:=Ap.size;(try simp only[BO] at hz);obtain⟨hc,hf⟩:=BJ Ah;clear Ah Ay))
     go_roundw
     case rel=>exact⟨k+1,true,A1,c1,m+1+1,es ++ [d] ++ [y],by omega,by go_num,rfl,rfl,by have:=HM.out;simp at this ⊢;omega,hb,ho1,by rw[HE.out,HD.out,HI.out];simp[hcmp]⟩
     case measure=>simp[intOf];omega
    ·have HC:=Lib.hid hcmp
     go_wp2_with fail
     (go_quiet ((first|fail));all_goals (generalize CE:World.drewN _ nq=W0;have hb0:=Ex.Iz CE;clear CE;obtain⟨hc0,hf0,hz0⟩:=xy hb0))
     go_wp2_with (at_builtin;apply BL (lo:=w.heap.size+1) IZ FX rfl rfl rfl rfl;(exact Iy);(first|(refine Rs.new [y] (by (first|rfl|(simp only[BO];done)|omega)) rfl rfl (fun _=>rfl) (by omega)));omega;exact Aq;intro A1 c1 w2 ho1 Ap Bo Ay Ah;have hb:=Ay (fun _=>False) (w.alloc (.cells #[.int .i64 d.ticket,.int .i64 d.BP,.int .i64 d.Al,.int .i64 d.BN,.int .i64 d.due] 71)) (by exact AA) (by exact Aq);have hz:=Ap.size;(try simp only[BO] at hz);obtain⟨hc,hf⟩:=BJ Ah;clear Ah Ay)
     go_roundw
     case rel=>exact⟨k+1,false,A1,c1,m+1,es ++ [y],by omega,by go_num,rfl,rfl,by have:=HM.out;simp at this ⊢;omega,hb,ho1,by rw[HE.out,HD.out,HI.out];have:=HC.out;simp[show ¬d.ticket<y.ticket from by omega]⟩
     case measure=>simp[intOf];omega
  ·obtain rfl:k=n:=by omega
   cases dn
   all_goals go_wp2_with (at_builtin;apply BL (lo:=w.heap.size+1) IZ FX rfl rfl rfl rfl;(exact Iy);(first|(refine Rs.new [d] (by (first|rfl|(simp only[BO];done)|omega)) rfl rfl (fun _=>rfl) (by omega)));omega;exact Aq;intro A1 c1 w2 ho1 Ap Bo Ay Ah;have hb:=Ay (fun _=>False) (w.alloc (.cells #[.int .i64 d.ticket,.int .i64 d.BP,.int .i64 d.Al,.int .i64 d.BN,.int .i64 d.due] 71)) (by exact AA) (by exact Aq);have hz:=Ap.size;(try simp only[BO] at hz);obtain⟨hc,hf⟩:=BJ Ah;clear Ah Ay)
   all_goals go_ret
   ·have hmk:m+1=k+1:=by have:=HM.out;simp at this;omega
    rw[hmk] at ho1 ⊢
    refine⟨A1,c1,rfl,?_,AA⟩
    rw[HE.out,List.drop_of_length_le (by have:=hl.out;omega)]
    exact ho1.less (by omega)
   ·have hmk:m=k+1:=by have:=HM.out;simp at this;omega
    rw[hmk] at ho ⊢
    refine⟨B,e,rfl,?_,AA⟩
    rw[HE.out,List.drop_of_length_le (by have:=hl.out;omega)]
    simp
    exact ho.less (by omega)
set_option maxHeartbeats 8000000
theorem GD (aL:Option Addr) (Ae AU:Nat) (aP:Option Addr) (Ag AY:Nat) (aD:Option Addr) (Ac AQ:Nat) (aN:Option Addr) (Ad Aa:Nat) (aS:Option Addr) (Af Ab:Nat) (m:Sw.CV) (w:World) (hm:RM w 0 aL Ae AU aP Ag AY aD Ac AQ aN Ad Aa aS Af Ab m):Calls Tryz.prog 23 #[.agg #[.slice aL AU Ae,.slice aP AY Ag,.slice aD AQ Ac,.int .i64 m.clock,.slice aN Aa Ad,.slice aS Ab Af]] w fun E w'=>E=.returned (.bool (Sw.GX m))∧Ex w w':=by
 obtain⟨m1,m2,m3,m4,m5⟩:=hm
 have hm':RM w 0 aL Ae AU aP Ag AY aD Ac AQ aN Ad Aa aS Af Ab m:=⟨m1,m2,m3,m4,m5⟩
 have b3:=Rs.big m3
 have b4:=Rs.big m4
 have b5:=Rs.big m5
 have l3:=Lib.hid m3.1
 have l4:=Lib.hid m4.1
 have l5:=Lib.hid m5.1
 have e:=P6 m
 have He:=Lib.hid e;clear e
 cases hfs:(Sw.Bq m.log).isSome
 case false=>
  go_enter Tryz.func23,Tryz.ntmps23
  go_wp2_with (go_at_call 64;apply Calls.mono;apply ES;(exact Bt);rintro E w1 ⟨A',c',n',rfl,hr,hb⟩;obtain⟨hc,hf,hz⟩:=xy hb)
  go_ret
  exact⟨Ar (by rw[He.out];simp[Ez,hfs]),AA⟩
 cases g1:Sw.DR m.Ai
 case false=>
  go_enter Tryz.func23,Tryz.ntmps23
  go_wp2_with (first|(go_at_call 64;apply Calls.mono;apply ES;(exact Bt);rintro E w1 ⟨A',c',n',rfl,hr,hb⟩;obtain⟨hc,hf,hz⟩:=xy hb)|(go_at_call 53;apply Calls.mono;apply Dm;(exact Bt);rintro E w1 ⟨rfl,hb⟩;obtain⟨hc,hf,hz⟩:=xy hb))
  go_ret
  exact⟨Ar (by rw[He.out];simp[Ez,g1]),AA⟩
 by_cases g2:AQ≤8
 case neg=>
  go_enter Tryz.func23,Tryz.ntmps23
  go_wp2_with (first|(go_at_call 64;apply Calls.mono;apply ES;(exact Bt);rintro E w1 ⟨A',c',n',rfl,hr,hb⟩;obtain⟨hc,hf,hz⟩:=xy hb)|(go_at_call 53;apply Calls.mono;apply Dm;(exact Bt);rintro E w1 ⟨rfl,hb⟩;obtain⟨hc,hf,hz⟩:=xy hb))
  go_ret
  exact⟨Ar (by rw[He.out,Ez,← l3.out];simp[g2]),AA⟩
 cases g3:Sw.Br m.clock 0 99999
 case false=>
  go_enter Tryz.func23,Tryz.ntmps23
  go_wp2_with (first|(go_at_call 64;apply Calls.mono;apply ES;(exact Bt);rintro E w1 ⟨A',c',n',rfl,hr,hb⟩;obtain⟨hc,hf,hz⟩:=xy hb)|(go_at_call 53;apply Calls.mono;apply Dm;(exact Bt);rintro E w1 ⟨rfl,hb⟩;obtain⟨hc,hf,hz⟩:=xy hb)|(go_at_call 61;refine (Cm _ _ _ _).mono ?_;rintro E w' ⟨rfl,rfl⟩))
  go_ret
  exact⟨Ar (by rw[He.out,Ez,g3];simp),AA⟩
 by_cases g4:Aa=5
 case neg=>
  have q4:((Aa:Int) != 5)=true:=by rw[bne_iff_ne];omega
  go_enter Tryz.func23,Tryz.ntmps23
  go_wp2_with (first|(go_at_call 64;apply Calls.mono;apply ES;(exact Bt);rintro E w1 ⟨A',c',n',rfl,hr,hb⟩;obtain⟨hc,hf,hz⟩:=xy hb)|(go_at_call 53;apply Calls.mono;apply Dm;(exact Bt);rintro E w1 ⟨rfl,hb⟩;obtain⟨hc,hf,hz⟩:=xy hb)|(go_at_call 61;refine (Cm _ _ _ _).mono ?_;rintro E w' ⟨rfl,rfl⟩))
  go_ret
  exact⟨Ar (by rw[He.out,Ez,← l4.out];simp[g4]),AA⟩
 subst g4
 by_cases g5:Ab=5
 case neg=>
  have q5:((Ab:Int) != 5)=true:=by rw[bne_iff_ne];omega
  go_enter Tryz.func23,Tryz.ntmps23
  go_wp2_with (first|(go_at_call 64;apply Calls.mono;apply ES;(exact Bt);rintro E w1 ⟨A',c',n',rfl,hr,hb⟩;obtain⟨hc,hf,hz⟩:=xy hb)|(go_at_call 53;apply Calls.mono;apply Dm;(exact Bt);rintro E w1 ⟨rfl,hb⟩;obtain⟨hc,hf,hz⟩:=xy hb)|(go_at_call 61;refine (Cm _ _ _ _).mono ?_;rintro E w' ⟨rfl,rfl⟩))
  go_ret
  exact⟨Ar (by rw[He.out,Ez,← l5.out];simp[g5]),AA⟩
 subst g5
 have hgate:Ez m=true:=by simp[Ez,hfs,g1,g3,← l3.out,← l4.out,← l5.out,g2]
 obtain⟨rows,hrows⟩:=Option.isSome_iff_exists.1 hfs
 have hro:=Sw.Bv hrows
 have h8:=Sw.Ct hro
 have hg:(Sw.Bq m.log).getD []=rows:=by rw[hrows];rfl
 have e2:=He.out
 rw[hgate,Sw.Cu hrows,Bool.true_and] at e2
 have HE:=Lib.hid e2
 have HG:=Lib.hid hg
 have H8:=Lib.hid h8
 have HR:=Lib.hid hrows
 have HO:=Lib.hid hro
 obtain⟨xE,ck1⟩:=Sw.BB.1 g3
 clear e2 hg h8 He hgate hrows hro
 go_enter Tryz.func23,Tryz.ntmps23
 go_wp2_with (first|(go_at_call 64;apply Calls.mono;apply ES;(exact Bt);rintro E w1 ⟨A1,c1,n1,rfl,ho1,hb⟩;rw[HG.out] at ho1;have hst:=xr hb;(try simp only[zA,zC,zD] at hst);obtain⟨hc,hf,hz⟩:=hst;obtain rfl:n1=8:=by rw[ho1.1,H8.out])|(go_at_call 53;apply Calls.mono;apply Dm;(exact Bt);rintro E w2 ⟨rfl,hb⟩;obtain⟨hc,hf,hz⟩:=xy hb)|(go_at_call 61;refine (Cm _ _ _ _).mono ?_;rintro E w' ⟨rfl,rfl⟩))
 have hrr:=Ow.Es ho1 (w:=w2) (by (exact AO))
 go_loopw [50,63] (fun i s wr=>∃ (k:Nat) (p:Int),k≤AQ∧i=.int .i64 k∧(k=0∧s=.tuple #[]∨k=1∧s=.bool false∨2≤k∧s=.bool true)∧Ex w2 wr∧Rn m.AJ k p∧Sw.FP m.clock rows (-1) m.AJ=Sw.FP m.clock rows p (m.AJ.drop k)) (fun i _ _=>AQ-(intOf i).toNat)
 case atStart=>exact⟨0,-1,Nat.zero_le _,rfl,.inl ⟨rfl,rfl⟩,Ch.refl _ _,.inl ⟨rfl,rfl⟩,rfl⟩
 case round=>
  obtain⟨k,p,hk,rfl,hs,hb2,hp,hrel⟩:=hrel
  have hst:=xr hb2
  obtain⟨hc2,hf2,hz2⟩:=hst
  by_cases hlt:k<AQ
  ·obtain⟨g,off,y,rfl,hg0,hg,hd,hy,q0,q1,q2,q3,q4⟩:=OQ m3 hlt
   rw[hd,O9] at hrel
   have BI:=Lib.hid hrel
   have Hy:=Lib.hid hy
   clear hd hy hrel
   rcases hp with⟨rfl,rfl⟩ | ⟨j,yj,rfl,hj,rfl,hj0⟩
   ·rcases hs with⟨hz,rfl⟩ | ⟨h,_⟩ | ⟨h,_⟩
    case inr.inl=>omega
    case inr.inr=>omega
    clear hz
    simp only[Nat.zero_mul,Nat.add_zero] at q0 q1 q2 q3 q4
    cases c1:Sw.Ew m.clock rows y
    case false=>
     go_wp2_with fail
     (refine CF fun W0 hb0 hc0 hf0 hz0=>?_;refine wp_region_held_drew (S:=fun w'=>Held W0 w') (by kernel_rfl) ?_ (fun hHeld=>?_);(focus ((try dsimp only);(exact FU)));refine rT 0 55 (h:=?_);refine rT 1 56 (h:=?_);refine rT 2 57 (h:=?_);refine wpAnyH_ready (rs:=[3]) (by kernel_rfl) (by simp) ?_;refine AllReadyH.cons rfl (fun K hK=>?_) ?_;rotate_left;(focus exact AllReadyH.nil);go_simp;(go_at_call 65;apply Calls.mono;apply Ky;(exact Bt);(exact Bu);(exact Bu);rintro E w1 ⟨rfl,hb⟩;obtain⟨hc,hf,hz⟩:=xy hb);(try go_wp2_with fail);refine hK.out _ _ ?_ (fun hHeld=>?_);(focus ((try dsimp only);(exact FU)));clear hK K;(try simp only[Act.put,DN]);refine rT 4 59 (h:=?_);refine rT 5 60 (h:=?_);refine EP 6 61 rfl rfl (by kernel_rfl) (by kernel_rfl) (by kernel_rfl) (fun _ _ _ h=>h) (by rfl) (by assumption) ?_;(try simp only[Act.put,DN]);refine EP 7 62 rfl rfl (by kernel_rfl) (by kernel_rfl) (by kernel_rfl) (fun _ _ _ h=>h) (by rfl) (by assumption) ?_;(try simp only[Act.put,DN]);refine EP 8 63 rfl rfl (by kernel_rfl) (by kernel_rfl) (by kernel_rfl) (fun _ _ _ h=>h) (by rfl) (by assumption) ?_;(try simp only[Act.put,DN]);refine EP 9 64 rfl rfl (by kernel_rfl) (by kernel_rfl) (by kernel_rfl) (fun _ _ _ h=>h) (by rfl) (by assumption) ?_;(try simp only[Act.put,DN]);refine EP 10 65 rfl rfl (by kernel_rfl) (by kernel_rfl) (by kernel_rfl) (fun _ _ _ h=>h) (by rfl) (by assumption) ?_;(try simp only[Act.put,DN]);refine EP 11 66 rfl rfl (by kernel_rfl) (by kernel_rfl) (by kernel_rfl) (fun _ _ _ h=>h) (by rfl) (by assumption) ?_;(try simp only[Act.put,DN]);refine EP 12 67 rfl rfl (by kernel_rfl) (by kernel_rfl) (by kernel_rfl) (fun _ _ _ h=>h) (by rfl) (by assumption) ?_;(try simp only[Act.put,DN]);refine EP 13 68 rfl rfl (by kernel_rfl) (by kernel_rfl) (by kernel_rfl) (fun _ _ _ h=>h) (by rfl) (by assumption) ?_;(try simp only[Act.put,DN]);refine EP 14 69 rfl rfl (by kernel_rfl) (by kernel_rfl) (by kernel_rfl) (fun _ _ _ h=>h) (by rfl) (by assumption) ?_;(try simp only[Act.put,DN]);refine EP 15 70 rfl rfl (by kernel_rfl) (by kernel_rfl) (by kernel_rfl) (fun _ _ _ h=>h) (by rfl) (by assumption) ?_;(try simp only[Act.put,DN]);refine EP 16 71 rfl rfl (by kernel_rfl) (by kernel_rfl) (by kernel_rfl) (fun _ _ _ h=>h) (by rfl) (by assumption) ?_;(try simp only[Act.put,DN]);refine EP 17 72 rfl rfl (by kernel_rfl) (by kernel_rfl) (by kernel_rfl) (fun _ _ _ h=>h) (by rfl) (by assumption) ?_;(try simp only[Act.put,DN]);refine EP 18 73 rfl rfl (by kernel_rfl) (by kernel_rfl) (by kernel_rfl) (fun _ _ _ h=>h) (by rfl) (by assumption) ?_;(try simp only[Act.put,DN]);refine EP 19 74 rfl rfl (by kernel_rfl) (by kernel_rfl) (by kernel_rfl) (fun _ _ _ h=>h) (by rfl) (by assumption) ?_;(try simp only[Act.put,DN]);refine rT 20 75 (h:=?_);refine wpAnyH_done (by kernel_rfl) ?_ _;all_goals (obtain⟨hb,hc,hf,hz⟩:=xh (by assumption:Held W0 _)))
     all_goals go_wp2
     go_ret
     exact⟨Ar (by rw[HE.out,BI.out,c1];simp),AA⟩
    case true=>
     have lQ:0≤y.ticket:=(Sw.CZ.1 c1).1.1
     have Xd:Rn m.AJ (0+1) y.ticket:=.inr ⟨0,_,rfl,Hy.out,rfl,lQ⟩
     have Xd:=Lib.hid Xd
     have Yt:=Lib.hid lQ;clear lQ
     go_wp2_with fail
     (refine CF fun W0 hb0 hc0 hf0 hz0=>?_;refine wp_region_held_drew (S:=fun w'=>Held W0 w') (by kernel_rfl) ?_ (fun hHeld=>?_);(focus ((try dsimp only);(exact FU)));refine rT 0 55 (h:=?_);refine rT 1 56 (h:=?_);refine rT 2 57 (h:=?_);refine wpAnyH_ready (rs:=[3]) (by kernel_rfl) (by simp) ?_;refine AllReadyH.cons rfl (fun K hK=>?_) ?_;rotate_left;(focus exact AllReadyH.nil);go_simp;(go_at_call 65;apply Calls.mono;apply Ky;(exact Bt);(exact Bu);(exact Bu);rintro E w1 ⟨rfl,hb⟩;obtain⟨hc,hf,hz⟩:=xy hb);(try go_wp2_with fail);refine hK.out _ _ ?_ (fun hHeld=>?_);(focus ((try dsimp only);(exact FU)));clear hK K;(try simp only[Act.put,DN]);refine rT 4 59 (h:=?_);refine rT 5 60 (h:=?_);refine rT 6 61 (h:=?_);refine rT 7 62 (h:=?_);refine rT 8 63 (h:=?_);refine EP 9 64 rfl rfl (by kernel_rfl) (by kernel_rfl) (by kernel_rfl) (fun _ _ _ h=>h) (by rfl) (by assumption) ?_;(try simp only[Act.put,DN]);refine EP 10 65 rfl rfl (by kernel_rfl) (by kernel_rfl) (by kernel_rfl) (fun _ _ _ h=>h) (by rfl) (by assumption) ?_;(try simp only[Act.put,DN]);refine EP 11 66 rfl rfl (by kernel_rfl) (by kernel_rfl) (by kernel_rfl) (fun _ _ _ h=>h) (by rfl) (by assumption) ?_;(try simp only[Act.put,DN]);refine EP 12 67 rfl rfl (by kernel_rfl) (by kernel_rfl) (by kernel_rfl) (fun _ _ _ h=>h) (by rfl) (by assumption) ?_;(try simp only[Act.put,DN]);refine EP 13 68 rfl rfl (by kernel_rfl) (by kernel_rfl) (by kernel_rfl) (fun _ _ _ h=>h) (by rfl) (by assumption) ?_;(try simp only[Act.put,DN]);refine EP 14 69 rfl rfl (by kernel_rfl) (by kernel_rfl) (by kernel_rfl) (fun _ _ _ h=>h) (by rfl) (by assumption) ?_;(try simp only[Act.put,DN]);refine EP 15 70 rfl rfl (by kernel_rfl) (by kernel_rfl) (by kernel_rfl) (fun _ _ _ h=>h) (by rfl) (by assumption) ?_;(try simp only[Act.put,DN]);refine EP 16 71 rfl rfl (by kernel_rfl) (by kernel_rfl) (by kernel_rfl) (fun _ _ _ h=>h) (by rfl) (by assumption) ?_;(try simp only[Act.put,DN]);refine EP 17 72 rfl rfl (by kernel_rfl) (by kernel_rfl) (by kernel_rfl) (fun _ _ _ h=>h) (by rfl) (by assumption) ?_;(try simp only[Act.put,DN]);refine EP 18 73 rfl rfl (by kernel_rfl) (by kernel_rfl) (by kernel_rfl) (fun _ _ _ h=>h) (by rfl) (by assumption) ?_;(try simp only[Act.put,DN]);refine rT 19 74 (h:=?_);refine rT 20 75 (h:=?_);refine wpAnyH_done (by kernel_rfl) ?_ _;all_goals (obtain⟨hb,hc,hf,hz⟩:=xh (by assumption:Held W0 _)))
     all_goals go_wp2
     go_roundw
     case rel=>exact⟨0+1,y.ticket,by omega,by go_num,.inr (.inl ⟨rfl,by first|rfl|simp⟩),AA,Xd.out,by have:=Yt.out;rw[BI.out,c1];simp;omega⟩
     case measure=>simp[intOf];omega
   ·obtain⟨g',off',aO,hA',_,_,_,Ry,p0,_⟩:=OQ m3 (show j<AQ by omega)
    cases hA'
    obtain rfl:aO=yj:=by rw[hj] at Ry;exact (Option.some.inj Ry).symm
    clear hj Ry
    have t1:((j:Int)+1).toNat=j+1:=by omega
    have t2:IntKind.i64.wrap ((j:Int)+1-1)=j:=by rw[IntWalk.i64_in _ (by omega)];omega
    have t2':IntKind.i64.wrap (j:Int)=j:=IntWalk.i64_in _ (by omega)
    have t3:(0:Int)≤(j:Int)+1:=by omega
    have t4:(j:Int)+1<(AQ:Int):=by omega
    have t5:(j:Int)<(AQ:Int):=by omega
    have t6:(0:Int)<(j:Int)+1:=by omega
    cases c1:Sw.Ew m.clock rows y
    case false=>
     rcases hs with⟨h,_⟩ | ⟨hz,rfl⟩ | ⟨hz,rfl⟩
     case inl=>omega
     all_goals
      clear hz
      go_wp2_with fail
      (refine CF fun W0 hb0 hc0 hf0 hz0=>?_;refine wp_region_held_drew (S:=fun w'=>Held W0 w') (by kernel_rfl) ?_ (fun hHeld=>?_);(focus ((try dsimp only);(exact FU)));refine rT 0 55 (h:=?_);refine rT 1 56 (h:=?_);refine rT 2 57 (h:=?_);refine wpAnyH_ready (rs:=[3]) (by kernel_rfl) (by simp) ?_;refine AllReadyH.cons rfl (fun K hK=>?_) ?_;rotate_left;(focus exact AllReadyH.nil);go_simp;(go_at_call 65;apply Calls.mono;apply Ky;(exact Bt);(exact Bu);(exact Bu);rintro E w1 ⟨rfl,hb⟩;obtain⟨hc,hf,hz⟩:=xy hb);(try go_wp2_with fail);refine hK.out _ _ ?_ (fun hHeld=>?_);(focus ((try dsimp only);(exact FU)));clear hK K;(try simp only[Act.put,DN]);refine rT 4 59 (h:=?_);refine rT 5 60 (h:=?_);refine EP 6 61 rfl rfl (by kernel_rfl) (by kernel_rfl) (by kernel_rfl) (fun _ _ _ h=>h) (by rfl) (by assumption) ?_;(try simp only[Act.put,DN]);refine EP 7 62 rfl rfl (by kernel_rfl) (by kernel_rfl) (by kernel_rfl) (fun _ _ _ h=>h) (by rfl) (by assumption) ?_;(try simp only[Act.put,DN]);refine EP 8 63 rfl rfl (by kernel_rfl) (by kernel_rfl) (by kernel_rfl) (fun _ _ _ h=>h) (by rfl) (by assumption) ?_;(try simp only[Act.put,DN]);refine EP 9 64 rfl rfl (by kernel_rfl) (by kernel_rfl) (by kernel_rfl) (fun _ _ _ h=>h) (by rfl) (by assumption) ?_;(try simp only[Act.put,DN]);refine EP 10 65 rfl rfl (by kernel_rfl) (by kernel_rfl) (by kernel_rfl) (fun _ _ _ h=>h) (by rfl) (by assumption) ?_;(try simp only[Act.put,DN]);refine EP 11 66 rfl rfl (by kernel_rfl) (by kernel_rfl) (by kernel_rfl) (fun _ _ _ h=>h) (by rfl) (by assumption) ?_;(try simp only[Act.put,DN]);refine EP 12 67 rfl rfl (by kernel_rfl) (by kernel_rfl) (by kernel_rfl) (fun _ _ _ h=>h) (by rfl) (by assumption) ?_;(try simp only[Act.put,DN]);refine EP 13 68 rfl rfl (by kernel_rfl) (by kernel_rfl) (by kernel_rfl) (fun _ _ _ h=>h) (by rfl) (by assumption) ?_;(try simp only[Act.put,DN]);refine EP 14 69 rfl rfl (by kernel_rfl) (by kernel_rfl) (by kernel_rfl) (fun _ _ _ h=>h) (by rfl) (by assumption) ?_;(try simp only[Act.put,DN]);refine EP 15 70 rfl rfl (by kernel_rfl) (by kernel_rfl) (by kernel_rfl) (fun _ _ _ h=>h) (by rfl) (by assumption) ?_;(try simp only[Act.put,DN]);refine EP 16 71 rfl rfl (by kernel_rfl) (by kernel_rfl) (by kernel_rfl) (fun _ _ _ h=>h) (by rfl) (by assumption) ?_;(try simp only[Act.put,DN]);refine EP 17 72 rfl rfl (by kernel_rfl) (by kernel_rfl) (by kernel_rfl) (fun _ _ _ h=>h) (by rfl) (by assumption) ?_;(try simp only[Act.put,DN]);refine EP 18 73 rfl rfl (by kernel_rfl) (by kernel_rfl) (by kernel_rfl) (fun _ _ _ h=>h) (by rfl) (by assumption) ?_;(try simp only[Act.put,DN]);refine EP 19 74 rfl rfl (by kernel_rfl) (by kernel_rfl) (by kernel_rfl) (fun _ _ _ h=>h) (by rfl) (by assumption) ?_;(try simp only[Act.put,DN]);refine rT 20 75 (h:=?_);refine wpAnyH_done (by kernel_rfl) ?_ _;all_goals (obtain⟨hb,hc,hf,hz⟩:=xh (by assumption:Held W0 _)))
      all_goals go_wp2
      go_ret
      exact⟨Ar (by rw[HE.out,BI.out,c1];simp),AA⟩
    case true=>
     have lQ:0≤y.ticket:=(Sw.CZ.1 c1).1.1
     have Xd:Rn m.AJ (j+1+1) y.ticket:=.inr ⟨j+1,_,rfl,Hy.out,rfl,lQ⟩
     have Xd:=Lib.hid Xd
     clear lQ hs
     by_cases hle:y.ticket≤aO.ticket
     ·have xU:=Lib.hid hle
      go_wp2_with fail
      (refine CF fun W0 hb0 hc0 hf0 hz0=>?_;refine wp_region_held_drew (S:=fun w'=>Held W0 w') (by kernel_rfl) ?_ (fun hHeld=>?_);(focus ((try dsimp only);(exact FU)));refine rT 0 55 (h:=?_);refine rT 1 56 (h:=?_);refine rT 2 57 (h:=?_);refine wpAnyH_ready (rs:=[3]) (by kernel_rfl) (by simp) ?_;refine AllReadyH.cons rfl (fun K hK=>?_) ?_;rotate_left;(focus exact AllReadyH.nil);go_simp;(go_at_call 65;apply Calls.mono;apply Ky;(exact Bt);(exact Bu);(exact Bu);rintro E w1 ⟨rfl,hb⟩;obtain⟨hc,hf,hz⟩:=xy hb);(try go_wp2_with fail);refine hK.out _ _ ?_ (fun hHeld=>?_);(focus ((try dsimp only);(exact FU)));clear hK K;(try simp only[Act.put,DN]);refine rT 4 59 (h:=?_);refine rT 5 60 (h:=?_);refine rT 6 61 (h:=?_);refine rT 7 62 (h:=?_);refine rT 8 63 (h:=?_);refine rT 9 64 (h:=?_);refine rT 10 65 (h:=?_);refine rT 11 66 (h:=?_);refine rT 12 67 (h:=?_);refine rT 13 68 (h:=?_);refine rT 14 69 (h:=?_);refine rT 15 70 (h:=?_);refine rT 16 71 (h:=?_);refine rT 17 72 (h:=?_);refine rT 18 73 (h:=?_);refine rT 19 74 (h:=?_);refine rT 20 75 (h:=?_);refine wpAnyH_done (by kernel_rfl) ?_ _;all_goals (obtain⟨hb,hc,hf,hz⟩:=xh (by assumption:Held W0 _)))
      all_goals go_wp2
      go_ret
      exact⟨Ar (by have:=xU.out;rw[HE.out,BI.out,show decide (aO.ticket<y.ticket)=false from by simp;omega];simp),AA⟩
     ·have hle':decide (y.ticket≤aO.ticket)=false:=by simp;omega
      have xU:=Lib.hid hle
      go_wp2_with fail
      (refine CF fun W0 hb0 hc0 hf0 hz0=>?_;refine wp_region_held_drew (S:=fun w'=>Held W0 w') (by kernel_rfl) ?_ (fun hHeld=>?_);(focus ((try dsimp only);(exact FU)));refine rT 0 55 (h:=?_);refine rT 1 56 (h:=?_);refine rT 2 57 (h:=?_);refine wpAnyH_ready (rs:=[3]) (by kernel_rfl) (by simp) ?_;refine AllReadyH.cons rfl (fun K hK=>?_) ?_;rotate_left;(focus exact AllReadyH.nil);go_simp;(go_at_call 65;apply Calls.mono;apply Ky;(exact Bt);(exact Bu);(exact Bu);rintro E w1 ⟨rfl,hb⟩;obtain⟨hc,hf,hz⟩:=xy hb);(try go_wp2_with fail);refine hK.out _ _ ?_ (fun hHeld=>?_);(focus ((try dsimp only);(exact FU)));clear hK K;(try simp only[Act.put,DN]);refine rT 4 59 (h:=?_);refine rT 5 60 (h:=?_);refine rT 6 61 (h:=?_);refine rT 7 62 (h:=?_);refine rT 8 63 (h:=?_);refine rT 9 64 (h:=?_);refine rT 10 65 (h:=?_);refine rT 11 66 (h:=?_);refine rT 12 67 (h:=?_);refine rT 13 68 (h:=?_);refine rT 14 69 (h:=?_);refine rT 15 70 (h:=?_);refine rT 16 71 (h:=?_);refine rT 17 72 (h:=?_);refine rT 18 73 (h:=?_);refine rT 19 74 (h:=?_);refine rT 20 75 (h:=?_);refine wpAnyH_done (by kernel_rfl) ?_ _;all_goals (obtain⟨hb,hc,hf,hz⟩:=xh (by assumption:Held W0 _)))
      all_goals go_wp2
      go_roundw
      case rel=>exact⟨j+1+1,y.ticket,by omega,by go_num,.inr (.inr ⟨by omega,by first|rfl|(simp;done)|(simp;omega)⟩),AA,Xd.out,by have:=xU.out;rw[BI.out,c1];simp;omega⟩
      case measure=>simp[intOf];omega
  ·rw[List.drop_of_length_le (by have:=l3.out;omega)] at hrel
   have hdk:Sw.QM m.clock rows m.AJ:=Sw.LZ.1 hrel
   have hS:=Sw.SF g1
   have hH:=Sw.JB hdk.1
   rw[← Sw.K4 hdk (by have:=l3.out;omega),← l3.out] at hH
   have hsum:IntKind.i64.wrap (Sw.DV m.Ai+Sw.Ef m)=Sw.DV m.Ai+Sw.Ef m:=by
    rw[IntWalk.i64_in _ (by unfold Sw.Ef;omega)]
   have lC:=Lib.hid hsum
   have BI:=Lib.hid hrel;clear hrel hp hdk hS hH hsum
   go_wp2_with fail
   go_loopw [80] (fun i wx=>∃ (k:Nat),k≤5∧i=.int .i64 k∧Ex w2 wx∧Sw.GR m.nums m.said=Sw.GR (m.nums.drop k) (m.said.drop k)) (fun i _=>5-(intOf i).toNat)
   case atStart=>exact⟨0,Nat.zero_le _,rfl,AA,rfl⟩
   case round=>
    obtain⟨k',hk',rfl,hb3,hrel⟩:=hrel
    have hst:=xr hb3
    obtain⟨hc3,hf3,hz3⟩:=hst
    by_cases hlt':k'<5
    ·obtain⟨gn,tL,a,rfl,ui,hgn,hdn,hyn,hcn⟩:=G8 m4 hlt'
     obtain⟨gs,tJ,b,rfl,hgs0,hgs,hds,hys,hcs⟩:=G8 m5 hlt'
     rw[SC hdn hds] at hrel
     have HN:=Lib.hid hrel
     clear hdn hyn hds hys hrel
     cases c1:Sw.Br a 0 99999
     case false=>
      go_wp2_with (go_at_call 61;refine (Cm _ _ _ _).mono ?_;rintro E w' ⟨rfl,rfl⟩)
      go_ret
      exact⟨Ar (by rw[HE.out,HN.out,Sw.J6,c1];simp),AA⟩
     cases c2:Sw.Br b 0 6
     case false=>
      go_wp2_with (go_at_call 61;refine (Cm _ _ _ _).mono ?_;rintro E w' ⟨rfl,rfl⟩)
      go_ret
      exact⟨Ar (by rw[HE.out,HN.out,Sw.J6,c2];simp),AA⟩
     cases c3:(a==0)
     all_goals cases c4:(b==0)
     all_goals
      go_wp2_with (go_at_call 61;refine (Cm _ _ _ _).mono ?_;rintro E w' ⟨rfl,rfl⟩)
      first
       | exact⟨⟨k'+1,by omega,by go_num,AA,by rw[HN.out,Sw.J6,c1,c2,← Em,← Em,c3,c4];simp⟩,by simp[intOf];omega⟩|(go_ret;exact⟨Ar (by rw[HE.out,HN.out,Sw.J6,← Em,← Em,c3,c4];simp),AA⟩)
    ·have HN:=Lib.hid hrel;clear hrel
     go_wp2_with fail
     (refine CF fun W0 hb0 hc0 hf0 hz0=>?_;go_region_held3 (fun w'=>Held W0 w') ((exact FU)) ((first|(go_at_call 66;apply Calls.mono;apply PZ;(exact Bt);rintro E w' ⟨rfl,rfl⟩)|(go_at_call 67;apply Calls.mono;apply Vz;(exact Jg);rintro E w1 ⟨rfl,hb⟩;obtain⟨hc,hf,hz⟩:=xy hb)));all_goals (obtain⟨hb,hc,hf,hz⟩:=xh (by assumption:Held W0 _)))
     go_wp2
     go_ret
     refine⟨Ar ?_,AA⟩
     rw[HE.out,HN.out,BI.out,List.drop_of_length_le (by have:=l4.out;omega),lC.out]
     simp[Sw.FP,Sw.GR]
end Go.Proofs.YtgaflnpmilikcaaGreat
