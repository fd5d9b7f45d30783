/- Texts joined: PtrB, WldNew. -/
import Derived.Test.YtgaflnpmilikcaaGreatPx20
import Derived.Lib.AppendZerosOnto
import Derived.Lib.Overlaps
import Derived.Laws.Externs
import Derived.Test.YtgaflnpmilikcaaGreatPx18
import Derived.Test.YtgaflnpmilikcaaGreatPx5
import Derived.Test.YtgaflnpmilikcaaGreatPx7
set_option maxRecDepth 100000
set_option linter.unusedSimpArgs false
set_option linter.unusedVariables false
namespace Go.Proofs.YtgaflnpmilikcaaGreat
open Go.RowKit Go
set_option maxHeartbeats 4000000
theorem UL (d:Sw.BC):(Sw.BC.enc d).length=5:=rfl
theorem Tc (l:List Sw.BC):(l.flatMap Sw.BC.enc).length=l.length*5:=Rc (enc:=Sw.BC.enc) (sz:=5) UL l
theorem xB (l:List Sw.BC) (k:Nat):(l.flatMap Sw.BC.enc).take (k*5)=(l.take k).flatMap Sw.BC.enc:=Sa (enc:=Sw.BC.enc) (sz:=5) UL l k
theorem zP (l:List Sw.BC) (k:Nat):(l.flatMap Sw.BC.enc).drop (k*5)=(l.drop k).flatMap Sw.BC.enc:=Sb (enc:=Sw.BC.enc) (sz:=5) UL l k
theorem Ow.shifted {w:World} {lo c n k g:Nat} {ds:List Sw.BC} {d:Sw.BC} (h:Pw w lo (some ⟨g,0,none⟩) c n ds) (hk:k<n) (hroom:n+1≤c) :
  Pw ((w.setCells g ((k+1)*5) ((ds.drop k).flatMap Sw.BC.enc)).setCells g (k*5) (Sw.BC.enc d)) lo (some ⟨g,0,none⟩) c (n+1) (ds.take k ++ d::ds.drop k):=by
 have hl:=h.1
 have hdl:((ds.drop k).flatMap Sw.BC.enc).length=(n-k)*5:=by rw[Tc];simp;omega
 have h1:Pw (w.setCells g ((k+1)*5) ((ds.drop k).flatMap Sw.BC.enc)) lo (some ⟨g,0,none⟩) c (n+1) (ds.take (k+1) ++ ds.drop k):=by
  refine h.over (m:=n+1) (ys:=ds.take (k+1) ++ ds.drop k) hroom (by omega) (by simp;omega) (fun cur hc ht=>?_) (by rw[Tc];simp;omega)
  have e1:cur.take ((k+1)*5)=(ds.take (k+1)).flatMap Sw.BC.enc:=by
   rw[← xB,← ht,List.take_take,Nat.min_eq_left (by omega)]
  rw[e1,List.flatMap_append,List.take_append_of_le_length (by rw[List.length_append,hdl,Tc];simp;omega),List.take_of_length_le (by rw[List.length_append,hdl,Tc];simp;omega)]
 refine h1.over (m:=n+1) (ys:=ds.take k ++ d::ds.drop k) hroom (by rw[UL];omega) (by simp;omega) (fun cur hc ht=>?_) (by rw[Tc];simp;omega)
 have e1:cur.take (k*5)=(ds.take k).flatMap Sw.BC.enc:=by
  have:=congrArg (List.take (k*5)) ht
  rw[List.take_take,Nat.min_eq_left (by omega),xB,List.take_append_of_le_length (by simp;omega),List.take_take,Nat.min_eq_left (by omega)] at this
  exact this
 have e2:(cur.drop (k*5+5)).take ((n-k)*5)=(ds.drop k).flatMap Sw.BC.enc:=by
  have:=congrArg (List.drop ((k+1)*5)) ht
  rw[List.drop_take,zP,List.drop_append_of_le_length (by simp;omega),show List.drop (k+1) (ds.take (k+1))=[] from List.drop_of_length_le (by simp;omega),List.nil_append,show (k+1)*5=k*5+5 by omega,show (n+1)*5-(k*5+5)=(n-k)*5 by omega] at this
  exact this
 have e3:((ds.take k).flatMap Sw.BC.enc ++ Sw.BC.enc d).length=k*5+5:=by rw[List.length_append,UL,Tc];simp;omega
 rw[e1,List.flatMap_append,List.flatMap_cons,← e2,UL,List.take_append,List.take_of_length_le (by rw[e3];omega),e3,show (n+1)*5-(k*5+5)=(n-k)*5 by omega,List.append_assoc]
theorem Ow.splice {w:World} {lo c n j g:Nat} {xs:List Sw.BC} (h:Pw w lo (some ⟨g,0,none⟩) c n xs) (ys:List Sw.BC) (hj:j+ys.length≤n) :
  Pw (w.setCells g (j*5) (ys.flatMap Sw.BC.enc)) lo (some ⟨g,0,none⟩) c n (xs.take j ++ (ys ++ xs.drop (j+ys.length))):=by
 have hl:=h.1
 have hle:=h.rs.2.le
 have hF:=Tc ys
 refine h.over (m:=n) (ys:=xs.take j ++ (ys ++ xs.drop (j+ys.length))) hle (by omega) (by simp;omega) (fun cur hc ht=>?_) (by rw[Tc];simp;omega)
 have e1:cur.take (j*5)=(xs.take j).flatMap Sw.BC.enc:=by
  rw[← xB,← ht,List.take_take,Nat.min_eq_left (by omega)]
 have e2:(cur.drop (j*5+ys.length*5)).take ((n-(j+ys.length))*5)=(xs.drop (j+ys.length)).flatMap Sw.BC.enc:=by
  have:=congrArg (List.drop ((j+ys.length)*5)) ht
  rw[List.drop_take,zP,show (j+ys.length)*5=j*5+ys.length*5 by omega,show n*5-(j*5+ys.length*5)=(n-(j+ys.length))*5 by omega] at this
  exact this
 have e3:((xs.take j).flatMap Sw.BC.enc ++ ys.flatMap Sw.BC.enc).length=j*5+ys.length*5:=by rw[List.length_append,Tc,Tc];simp;omega
 rw[e1,List.flatMap_append,List.flatMap_append,← e2,hF,List.take_append,List.take_of_length_le (by rw[e3];omega),e3,show n*5-(j*5+ys.length*5)=(n-(j+ys.length))*5 by omega,List.append_assoc]
theorem gU (m:Nat):(Builtin.zeroCells #[.int .i64 0,.int .i64 0,.int .i64 0,.int .i64 0,.int .i64 0] m).toList=(List.replicate m Sw.EE).flatMap Sw.BC.enc:=MJ (enc:=Sw.BC.enc) (sz:=5) Sw.EE rfl (by omega) m
theorem Ow.kK (w:World) (olds:List Sw.BC) (m G:Nat) (hG:olds.length+m≤G) (hm:G≤maxLen) :
  Pw (w.alloc (.cells ((olds.flatMap Sw.BC.enc).toArray ++ Builtin.zeroCells #[.int .i64 0,.int .i64 0,.int .i64 0,.int .i64 0,.int .i64 0] m ++ Builtin.zeroCells #[.int .i64 0,.int .i64 0,.int .i64 0,.int .i64 0,.int .i64 0] (G-(olds.length+m))) 71)) w.heap.size (some ⟨w.heap.size,0,none⟩) G (olds.length+m) (olds ++ List.replicate m Sw.EE):=by
 have hz:∀ m,(Builtin.zeroCells #[.int .i64 0,.int .i64 0,.int .i64 0,.int .i64 0,.int .i64 0] m).size=m*5:=fun m=>by
  rw[← Array.length_toList,gU,Tc];simp
 have hl:((olds ++ List.replicate m Sw.EE).flatMap Sw.BC.enc).length=(olds.length+m)*5:=by rw[Tc];simp
 refine⟨by simp,hl,.inr ⟨w.heap.size,G,_,rfl,Nat.le_refl _,heap_alloc_new w _,hG,hm,?_,?_⟩⟩
 ·simp only[Array.size_append,List.size_toArray,hz,Tc];omega
 ·simp only[Array.toList_append,gU]
  rw[← List.flatMap_append,List.take_append_of_le_length (by rw[hl];exact Nat.le_refl _),List.take_of_length_le (by rw[hl];exact Nat.le_refl _)]
theorem YF {α:Type} {k n:Nat} (ds:List α) (d z:α) (hl:ds.length=n) (hk:k≤n) :
  ((ds.take k ++ List.replicate (n+1-k) z).take k ++ ([d] ++ (ds.take k ++ List.replicate (n+1-k) z).drop (k+[d].length))).take (k+1) ++ (ds.drop k ++ ((ds.take k ++ List.replicate (n+1-k) z).take k ++ ([d] ++ (ds.take k ++ List.replicate (n+1-k) z).drop (k+[d].length))).drop (k+1+(ds.drop k).length))=ds.take k ++ d::ds.drop k:=by
 have htl:(ds.take k).length=k:=by rw[List.length_take];omega
 have e1:(ds.take k ++ List.replicate (n+1-k) z).take k=ds.take k:=by
  rw[List.take_append_of_le_length (Nat.le_of_eq htl.symm),List.take_of_length_le (Nat.le_of_eq htl)]
 rw[e1]
 obtain⟨Y,hY⟩:∃ Y,Y=(ds.take k ++ List.replicate (n+1-k) z).drop (k+[d].length):=⟨_,rfl⟩
 have hYl:Y.length=n-k:=by rw[hY];simp;omega
 rw[← hY,← List.append_assoc (ds.take k) [d] Y]
 have wK:(ds.take k ++ [d]).length=k+1:=by rw[List.length_append,htl];rfl
 have e3:(ds.take k ++ [d] ++ Y).drop (k+1+(ds.drop k).length)=[]:=List.drop_of_length_le (by rw[List.length_append,wK,hYl,List.length_drop,hl];exact Nat.le_refl _)
 rw[e3,List.take_append_of_le_length (Nat.le_of_eq wK.symm),List.take_of_length_le (Nat.le_of_eq wK),List.append_nil,List.append_assoc]
 rfl
theorem SV (A:Option Addr) (c n k lo gv:Nat) (ds:List Sw.BC) (d:Sw.BC) (w:World) (h:Pw w lo A c n ds) (hk:k≤n) (hn:n≤4194303) (hv:VJ w 0 (some ⟨gv,0,none⟩) 1 1 [d]) (hvl:Lb w gv 5) (hne:∀ a,A=some a→a.block≠gv) (hlo:lo≤w.heap.size) :
  Calls Tryz.prog 156 #[.slice A n c,.int .i64 k,.slice (some ⟨gv,0,none⟩) 1 1] w fun E w'=>
  ∃ A' c',E=.returned (.slice A' (n+1) c')∧Pw w' lo A' c' (n+1) (ds.take k ++ d::ds.drop k)∧Ch (KW A) w w'∧(∀ b,A'=some b→A=some b∨w.heap.size≤b.block):=by
 have hle:=h.rs.2.le
 have hcb:=h.rs.2.cap
 have l3:=h.1
 unfold maxLen at hcb
 have z0:(0:Int)≤(k:Int):=by omega
 have z1:(k:Int)≤(n:Int):=by omega
 have z5:(n:Int)≤(c:Int):=by omega
 have z4:(k:Int)≤(c:Int):=by omega
 by_cases hkn:k=n
 ·subst hkn
  have hH:=Lib.hid h
  have hV:=Lib.hid hv
  have e:ds.take k ++ d::ds.drop k=ds ++ [d]:=by rw[List.take_of_length_le (by omega),List.drop_of_length_le (by omega)]
  rw[e]
  clear e h hv
  have l4:=Lib.hid l3
  clear l3 hvl
  rcases hH.out.form with⟨rfl,hn0,hc0⟩ | ⟨g,cur,rfl,-⟩
  ·subst hn0 hc0
   go_enter Tryz.func156,Tryz.ntmps156
   go_wp2_with (at_builtin;apply BL (lo:=lo) IZ FX rfl rfl rfl rfl;(exact hH.out.keep (by (exact AO)));(exact hV.out.keep (by (exact AO)));omega;(exact Aq);intro A1 c1 w2 ho1 Ap Bo Ay Ah)
   go_ret
   exact⟨A1,c1,rfl,ho1,Ap,Bo⟩
  ·go_enter Tryz.func156,Tryz.ntmps156
   go_wp2_with (at_builtin;apply BL (lo:=lo) IZ FX rfl rfl rfl rfl;(exact hH.out.keep (by (exact AO)));(exact hV.out.keep (by (exact AO)));omega;(exact Aq);intro A1 c1 w2 ho1 Ap Bo Ay Ah)
   all_goals (go_ret;exact⟨A1,c1,rfl,ho1,Ap,fun b hb=>by simpa using Bo b hb⟩)
 have hkn:k<n:=by omega
 rcases h.form with⟨_,h0,_⟩ | ⟨g,cur,rfl,oH,ny,rV,_,_,hsz,_⟩
 ·omega
 have hgv:gv≠g:=fun e=>hne _ rfl e.symm
 have hth:=h.there
 obtain⟨cv,tv,hcv,ja⟩:=hvl
 have hsa:w.shape? gv=some (tv,5):=by simp[World.shape?,hcv,ja]
 have hsb:w.shape? g=some (71,c*5):=by simp[World.shape?,rV,hsz]
 have hzz:¬((k:Int)==(n:Int))=true:=by simp;omega
 have hov:∀ lb cb,(callFunc 189 #[.slice (some ⟨gv,0,none⟩) 1 1,.slice (some ⟨g,(k+1)*5,none⟩) lb cb]).run Tryz.prog w=.ok (.value (.bool false)) w:=fun lb cb=>by
  rw[run_callFunc_extern Tryz.func189 (by kernel_rfl) (by kernel_rfl) (by kernel_rfl) (e:=Extern.SlicesOverlaps.overlaps #[25,25] #[4]) (by kernel_rfl),
   Lib.run_overlaps_apart w 25 4 71 IZ.sl 5 (fun w=>by simp[go_sem]) ⟨gv,0,none⟩ ⟨g,(k+1)*5,none⟩ 1 1 lb cb hgv tv 71 5 (c*5) hsa hsb (by omega) (by simp[World.frozen?,hcv]) (by simp[World.frozen?,hcv])]
  rfl
 have hs2:=h.rs.drop (fun _=>rfl) (k:=k) (by omega)
 have vQ:=hv.2.cells _ rfl (by omega)
 obtain⟨_,_,jU,rO⟩:=vQ
 replace jU:gv<w.heap.size:=jU
 by_cases hroom:n+1≤c
 ·rw[if_neg (by omega)] at hs2
  simp only[Option.map_some,Addr.add_lit,Nat.zero_add] at hs2
  have hdl:((ds.drop k).flatMap Sw.BC.enc).length=(n-k)*5:=by rw[Tc];simp;omega
  have hcp1:∀ ty dc sc,(Builtin.copy_ #[25,25] ty #[.slice (some ⟨g,(k+1)*5,none⟩) (n+1-(k+1)) dc,.slice (some ⟨g,k*5,none⟩) (n+1-k) sc]).run Tryz.prog w.drew=.ok (goInt (Nat.min (n+1-k) (n+1-(k+1)))) (w.drew.setCells g ((k+1)*5) ((ds.drop k).flatMap Sw.BC.enc)):=fun ty dc sc=>
   IC w.drew _ _ ty 71 5 g ((k+1)*5) (n+1-(k+1)) dc ⟨g,k*5,none⟩ (n+1-k) sc _ IZ.sl (by kernel_rfl) (by rw[hdl,show Nat.min (n+1-k) (n+1-(k+1))=n-k from by simp only[Nat.min_def];split <;> omega])
    (fun j v hj=>by rw[Addr.add_lit];exact (hs2.2.cells _ rfl (by omega)).2.2.2 j v hj) (fun j hj=>hth.1 _ (by omega)) (fun j hj=>hth.2 _) (fun v hv=>by
     obtain⟨y,_,hy⟩:=List.mem_flatMap.1 hv
     exact FX y v hy)
  obtain⟨cur',hc1,hc2,-⟩:=IK ((ds.drop k).flatMap Sw.BC.enc) ((k+1)*5) w.drew cur rV (by omega)
  have hcp2:∀ ty dc,(Builtin.copy_ #[25,25] ty #[.slice (some ⟨g,k*5,none⟩) (n+1-k) dc,.slice (some ⟨gv,0,none⟩) 1 1]).run Tryz.prog (w.drew.setCells g ((k+1)*5) ((ds.drop k).flatMap Sw.BC.enc))=.ok (goInt (Nat.min 1 (n+1-k))) ((w.drew.setCells g ((k+1)*5) ((ds.drop k).flatMap Sw.BC.enc)).setCells g (k*5) (Sw.BC.enc d)):=fun ty dc=>
   IC _ _ _ ty 71 5 g (k*5) (n+1-k) dc ⟨gv,0,none⟩ 1 1 _ IZ.sl (by kernel_rfl) (by rw[UL,show Nat.min 1 (n+1-k)=1 from by simp only[Nat.min_def];split <;> omega])
    (fun j v hj=>by
     rw[Addr.add_lit]
     exact (World.cell?_of_block (w:=w.drew) (a:=⟨gv,0+j,none⟩) (JC hgv _ _ w.drew)).trans (rO j v (by simpa using hj)))
    (fun j hj=>by rw[UL] at hj;simp[World.cell?,hc1,show k*5+j<cur'.size by omega]) (fun j hj=>by simp[World.frozen?,hc1]) (fun v hv=>FX d v hv)
  have HF:=Lib.hid (And.intro (Ow.shifted (d:=d) (h.keep (by (exact AO):KF lo w w.drew)) hkn hroom) (Ch.setCells (S:=KW (some ⟨g,0,none⟩)) (.inl ⟨_,rfl,rfl⟩) (Sw.BC.enc d) (k*5) _ (Ch.setCells (.inl ⟨_,rfl,rfl⟩) ((ds.drop k).flatMap Sw.BC.enc) ((k+1)*5) _ (cD (cR _ w)))))
  have HC2:=Lib.hid hcp2
  clear hcp2 hc1 hc2 cur'
  clear hs2 rV hsz hsa hsb hcv ja hth rO
  have hH:=Lib.hid h
  have hV:=Lib.hid hv
  have HOV:=Lib.hid hov
  have HC:=Lib.hid hcp1
  clear h hv hov hcp1 hdl l3
  have z6:(n:Int)+1≤(c:Int):=by omega
  have z7:((k:Int)==(n:Int))=false:=by simp;omega
  have z8:(0:Int)≤(n:Int)+1:=by omega
  have z9:(0:Int)≤(k:Int)+1:=by omega
  have z10:(k:Int)+1≤(n:Int)+1:=by omega
  have z11:(k:Int)≤(n:Int)+1:=by omega
  have z12:((n:Int)+1).toNat=n+1:=by omega
  have z13:((k:Int)+1).toNat=k+1:=by omega
  have z14:¬c=k+1:=by omega
  have z_:¬c=k:=by omega
  have zy:IntKind.i64.wrap ((k:Int)+1)=(k:Int)+1:=IntWalk.i64_in _ (by omega)
  have z17:IntKind.i64.wrap ((n:Int)+1)=(n:Int)+1:=IntWalk.i64_in _ (by omega)
  clear hzz
  go_enter Tryz.func156,Tryz.ntmps156
  go_wp2_with (simp only[HOV.out])
  go_region_law (refine Qj rfl rfl (by simp[Act.eval,Act.put];done) (by simp[Act.eval,Act.put];done) (HC.out _ (c-(k+1)) (c-k)) ?_)
  all_goals
   go_wp2_with (simp only[HC2.out])
   go_ret
   exact⟨_,_,rfl,HF.out.1,HF.out.2,fun b hb=>.inl (by simpa using hb)⟩
 ·obtain rfl:c=n:=by omega
  rw[if_neg (by omega)] at hs2
  simp only[Option.map_some,Addr.add_lit,Nat.zero_add] at hs2
  have hdl:((ds.drop k).flatMap Sw.BC.enc).length=(c-k)*5:=by rw[Tc];simp;omega
  have hfr:=(Ow.front h (fun _=>rfl) (k:=k) (by omega)).rs
  obtain⟨i0,hi0,hz0,hzs,hzb⟩:=info_parts (P:=Tryz.prog) (e:=71) (z:=.agg #[.int .i64 0,.int .i64 0,.int .i64 0,.int .i64 0,.int .i64 0]) (size:=5) (bytes:=40) (by kernel_rfl)
  have hold:(Builtin.firstCells i0.size k (.slice (some ⟨g,0,none⟩) k c)).run Tryz.prog w.drew=.ok ((ds.take k).flatMap Sw.BC.enc).toArray w.drew:=by
   rw[hzs]
   refine run_firstCells_some w.drew 5 k ⟨g,0,none⟩ k c _ (by rw[Tc];simp;omega) (fun j v hj=>?_)
   rw[Addr.add_lit]
   have hk0:0<k:=by
    rcases Nat.eq_zero_or_pos k with h0|h0
    ·subst h0;simp at hj
    ·exact h0
   exact (hfr.2.cells _ rfl hk0).2.2.2 j v hj
  obtain⟨G,hG⟩:∃ G,G=grownCap w (c+1) c 71:=⟨_,rfl⟩
  have hGn:c+1≤G:=by rw[hG];exact grownCap_ge w _ _ _
  have hGm:G≤maxLen:=by rw[hG];exact grownCap_le_maxLen w (c+1) c _ (by unfold maxLen;omega)
  have htl:(ds.take k).length=k:=by simp;omega
  have hkk:(c:Int)+1-(k:Int)=((c+1-k:Nat):Int):=by omega
  have hik:k+(c+1-k)=c+1:=by omega
  have hN:=Ow.kK w.drew (ds.take k) (c+1-k) G (by omega) hGm
  rw[htl,hik] at hN
  obtain⟨W1,hW1⟩:∃ W1,W1=w.drew.alloc (.cells (((ds.take k).flatMap Sw.BC.enc).toArray ++ Builtin.zeroCells #[.int .i64 0,.int .i64 0,.int .i64 0,.int .i64 0,.int .i64 0] (c+1-k) ++ Builtin.zeroCells #[.int .i64 0,.int .i64 0,.int .i64 0,.int .i64 0,.int .i64 0] (G-(c+1))) 71):=⟨_,rfl⟩
  have hrz:∀ ty,(Builtin.append_ #[25,3] ty #[.slice (some ⟨g,0,none⟩) k c,.int .i64 ((c:Int)+1-(k:Int))]).run Tryz.prog w=.ok (.slice (some ⟨w.heap.size,0,none⟩) (c+1) G) W1:=fun ty=>by
   have h:=Lib.run_append_grow_zeros w 25 3 ty 71 i0 _ .i64 .i64 IZ.sl (by kernel_rfl) hi0 hz0 (some ⟨g,0,none⟩) k c _ hold (c+1-k) (by omega) (by omega) (by omega) (by omega) (by rw[hzb];omega) (by rw[hzb,hik];exact growslice_fits (by omega) (by omega))
   rw[hik,← hG] at h
   rw[hkk,hW1]
   exact h
  rw[← hW1] at hN
  have hs1:W1.heap.size=w.heap.size+1:=by rw[hW1];simp
  have hb1:Ex w W1:=by rw[hW1];exact cA (cD (cR _ _))
  have hN':Pw W1 w.heap.size (some ⟨w.heap.size,0,none⟩) G (c+1) (ds.take k ++ List.replicate (c+1-k) Sw.EE):=hN
  have wX:=Ow.splice hN' (j:=k) [d] (by simp;omega)
  have hC2:Ch (KW (some ⟨g,0,none⟩)) w (W1.setCells w.heap.size (k*5) ([d].flatMap Sw.BC.enc)):=Ch.setCells (.inr (Nat.le_refl _)) _ _ _ (cE hb1 (cR _ _))
  have hn2:∀ b,b≠w.heap.size→(W1.setCells w.heap.size (k*5) ([d].flatMap Sw.BC.enc)).heap[b]?=W1.heap[b]?:=fun b hb=>JC hb _ _ _
  obtain⟨W2,hW2⟩:∃ W2,W2=W1.setCells w.heap.size (k*5) ([d].flatMap Sw.BC.enc):=⟨_,rfl⟩
  rw[← hW2] at wX hC2 hn2
  have fH:Pw W2.drew w.heap.size (some ⟨w.heap.size,0,none⟩) G (c+1) _:=wX.keep (kD (kR _ _))
  have wW:=Ow.splice fH (j:=k+1) (ds.drop k) (by simp;omega)
  have hlist:=YF ds d Sw.EE l3.symm hk
  rw[hlist] at wW
  have hgN:g≠w.heap.size:=by omega
  have ABC:gv≠w.heap.size:=by omega
  have hcpA:∀ ty dc,(Builtin.copy_ #[25,25] ty #[.slice (some ⟨w.heap.size,k*5,none⟩) (c+1-k) dc,.slice (some ⟨gv,0,none⟩) 1 1]).run Tryz.prog W1=.ok (goInt (Nat.min 1 (c+1-k))) W2:=fun ty dc=>by
   rw[hW2]
   exact IC _ _ _ ty 71 5 w.heap.size (k*5) (c+1-k) dc ⟨gv,0,none⟩ 1 1 _ IZ.sl (by kernel_rfl) (by rw[Tc,show Nat.min 1 (c+1-k)=1 from by simp only[Nat.min_def];split <;> omega];rfl)
    (fun j v hj=>by rw[Addr.add_lit];exact (hb1.cell (p:=⟨gv,0+j,none⟩) jU (fun h=>h)).trans (rO j v hj))
    (fun j hj=>by rw[Tc] at hj;exact hN'.there.1 _ (by simp at hj;omega)) (fun j hj=>hN'.there.2 _) (fun v hv=>by
     obtain⟨y,_,hy⟩:=List.mem_flatMap.1 hv
     exact FX y v hy)
  have hcpB:∀ ty dc sc,(Builtin.copy_ #[25,25] ty #[.slice (some ⟨w.heap.size,(k+1)*5,none⟩) (c+1-(k+1)) dc,.slice (some ⟨g,k*5,none⟩) (c-k) sc]).run Tryz.prog W2.drew=.ok (goInt (Nat.min (c-k) (c+1-(k+1)))) (W2.drew.setCells w.heap.size ((k+1)*5) ((ds.drop k).flatMap Sw.BC.enc)):=fun ty dc sc=>
   IC _ _ _ ty 71 5 w.heap.size ((k+1)*5) (c+1-(k+1)) dc ⟨g,k*5,none⟩ (c-k) sc _ IZ.sl (by kernel_rfl) (by rw[hdl,show Nat.min (c-k) (c+1-(k+1))=c-k from by simp only[Nat.min_def];split <;> omega])
    (fun j v hj=>by
     rw[Addr.add_lit]
     refine (World.cell?_of_block (w':=W2.drew) (w:=W1) (a:=⟨g,k*5+j,none⟩) (hn2 g hgN)).trans ?_
     exact (hb1.cell (p:=⟨g,k*5+j,none⟩) ny (fun h=>h)).trans ((hs2.2.cells _ rfl (by omega)).2.2.2 j v hj))
    (fun j hj=>fH.there.1 _ (by omega)) (fun j hj=>fH.there.2 _) (fun v hv=>by
     obtain⟨y,_,hy⟩:=List.mem_flatMap.1 hv
     exact FX y v hy)
  have zO:Ch (KW (some ⟨g,0,none⟩)) w (W2.drew.setCells w.heap.size ((k+1)*5) ((ds.drop k).flatMap Sw.BC.enc)):=
   Ch.setCells (.inr (Nat.le_refl _)) _ _ _ (cD hC2)
  have HA:=Lib.hid hcpA
  have HB:=Lib.hid hcpB
  have HZ:=Lib.hid hrz
  have HF:=Lib.hid (And.intro (wW.less hlo) zO)
  clear hcpA hcpB hrz wW zO fH wX hC2 hn2 hW2 hN' hN hlist hW1 hold hi0 hz0 hzs hzb hG hb1 hs1 hs2 hfr hdl hkk hik htl rO hth rV hsz hsa hsb hcv ja h hv hov hne
  have z6:(c:Int)<(c:Int)+1:=by omega
  have z7:((k:Int)==(c:Int))=false:=by simp;omega
  have z9:(0:Int)≤(k:Int)+1:=by omega
  have z10:(k:Int)+1≤(c:Int)+1:=by omega
  have z11:(k:Int)≤(c:Int)+1:=by omega
  have z13:((k:Int)+1).toNat=k+1:=by omega
  have z14:¬G=k+1:=by omega
  have z_:¬G=k:=by omega
  have z18:¬c=k:=by omega
  have zy:IntKind.i64.wrap ((k:Int)+1)=(k:Int)+1:=IntWalk.i64_in _ (by omega)
  clear hzz l3
  go_enter Tryz.func156,Tryz.ntmps156
  go_wp2_with (first|(at_builtin;refine Lib.wpList_append_run _ rfl _ _ _ _ rfl _ _ rfl rfl _ _ (HZ.out _) ?_)|(simp only[HA.out]))
  go_region_law (refine Qj rfl rfl (by simp[Act.eval,Act.put];done) (by simp[Act.eval,Act.put];done) (HB.out _ (G-(k+1)) (c-k)) ?_)
  all_goals
   go_wp2
   go_ret
   exact⟨_,_,rfl,HF.out.1,HF.out.2,fun b hb=>.inr (by injection hb with hb;rw[← hb];exact Nat.le_refl _)⟩
set_option maxHeartbeats 1000000
theorem Cn.zero {w:World} {lo:Nat} {τ:Nat→Nat}:Cn τ w lo none 0 0 none 0 0 none 0 0 none 0 0 none 0 0 Sw.Ku:=⟨CK.nil ..,CK.nil ..,CK.nil ..,CK.nil ..,CK.nil ..⟩
structure xQ (A:Option Addr) (c:Nat) (xs:List Int) (w W0:World) (n:Nat) (l:Array Bool) (a:Act) (wx:World):Prop where
 keep:KF 0 w wx
 held:Au (w.heap.size) 6 W0 wx
 up:W0.heap.size≤wx.heap.size
 st:∃ (l0 r0 r1 r2:Bool) (v0 u0 u1 u2:Value) (τ:Nat→Nat),n=cb l0+cb r0+cb r1+cb r2∧l=#[l0,true,r0,r1,r2,false,false]∧a=⟨#[.slice A 5 c,undef,.pointer (some ⟨w.heap.size,0,none⟩),.slice A 5 c,.bool true,.bool false,.bool false,.slice A 5 c,.int .i64 (Sw.DV xs),.bool false,.bool false,undef,v0,.slice A 5 c,u0,u1,u2,undef],[]⟩∧FD encI 1 3 τ 2 wx W0.heap.size 5 xs l0 r0 v0 u0∧Fh encI 1 3 τ 4 wx W0.heap.size 5 (List.replicate 5 (0:Int)) r1 u1∧Fh encI 1 3 τ 5 wx W0.heap.size 5 (List.replicate 5 (0:Int)) r2 u2
structure xR (A:Option Addr) (c:Nat) (xs:List Int) (w W0:World) (n:Nat) (l:Array Bool) (a:Act) (wx:World):Prop where
 keep:KF 0 w wx
 held:Au (w.heap.size) 6 W0 wx
 up:W0.heap.size≤wx.heap.size
 st:∃ (r0 r1 r2:Bool) (u0 u1 u2:Value) (τ:Nat→Nat),n=cb r0+cb r1+cb r2∧l=#[true,r0,r1,r2,false,false]∧a=⟨#[.slice A 5 c,undef,.pointer (some ⟨w.heap.size,0,none⟩),.slice A 5 c,.bool true,.bool false,.bool false,.slice A 5 c,.int .i64 (Sw.DV xs),.bool false,.bool false,undef,.slice A 5 c,u0,u1,u2,undef],[]⟩∧Fh encI 1 3 τ 2 wx W0.heap.size 5 xs r0 u0∧Fh encI 1 3 τ 4 wx W0.heap.size 5 (List.replicate 5 (0:Int)) r1 u1∧Fh encI 1 3 τ 5 wx W0.heap.size 5 (List.replicate 5 (0:Int)) r2 u2
theorem Kn (A:Option Addr) (c n:Nat) (xs:List Int) (w:World) (hxs:RI w 0 A c n xs):Calls Tryz.prog 132 #[.slice A n c] w fun E w'=>∃ bL Bg BR bP Bf BV bD Bh Ba bN Bd Bb bS Bc BZ τ,E=.returned (.agg #[.slice bL BR Bg,.slice bP BV Bf,.slice bD Ba Bh,.int .i64 (Sw.CY xs).clock,.slice bN Bb Bd,.slice bS BZ Bc])∧Cn τ w' w.heap.size bL Bg BR bP Bf BV bD Bh Ba bN Bd Bb bS Bc BZ (Sw.CY xs)∧Ex w w':=by
 cases g1:Sw.DR xs
 case false=>
  have e:Sw.CY xs=Sw.Ku:=by rw[Sw.CY,g1];rfl
  have He:=Lib.hid e;clear e
  go_enter Tryz.func132,Tryz.ntmps132
  go_wp2_with (go_at_call 46;apply Calls.mono;apply D5;(exact Bt);rintro E w' ⟨rfl,rfl⟩)
  refine bodyPost_ret (v:=.agg #[.slice none 0 0,.slice none 0 0,.slice none 0 0,.int .i64 0,.slice none 0 0,.slice none 0 0]) (by simp[results,Tryz.results132,go_sem, *]) rfl ?_
  refine⟨_,_,_,_,_,_,_,_,_,_,_,_,_,_,_,fun _=>0,by rw[He.out];rfl,?_,AA⟩
  rw[He.out]
  exact Cn.zero
 have h5:=I9 g1
 have dw:n=5:=by rw[hxs.1,h5]
 subst dw
 clear h5
 by_cases g2:Sw.DV xs≤100000
 case neg=>
  have e:Sw.CY xs=Sw.Ku:=by simp[Sw.CY,g1,g2]
  have He:=Lib.hid e;clear e
  have g2':decide (100000<Sw.DV xs)=true:=by simp;omega
  go_enter Tryz.func132,Tryz.ntmps132
  go_wp2_with (first|(go_at_call 46;apply Calls.mono;apply D5;(exact Bt);rintro E w' ⟨rfl,rfl⟩)|(go_at_call 107;apply Calls.mono;apply PT;(exact Bt);rintro E w' ⟨rfl,rfl⟩))
  refine bodyPost_ret (v:=.agg #[.slice none 0 0,.slice none 0 0,.slice none 0 0,.int .i64 0,.slice none 0 0,.slice none 0 0]) (by simp[results,Tryz.results132,go_sem, *]) rfl ?_
  refine⟨_,_,_,_,_,_,_,_,_,_,_,_,_,_,_,fun _=>0,by rw[He.out];rfl,?_,AA⟩
  rw[He.out]
  exact Cn.zero
 have e:Sw.CY xs=⟨[],xs,[],0,[0,0,0,0,0],[0,0,0,0,0]⟩:=by simp[Sw.CY,g1,g2]
 have He:=Lib.hid e;clear e
 have g2':decide (100000<Sw.DV xs)=false:=by simp;omega
 go_enter Tryz.func132,Tryz.ntmps132
 go_wp2_with (first|(go_at_call 46;apply Calls.mono;apply D5;(exact Bt);rintro E w' ⟨rfl,rfl⟩)|(go_at_call 107;apply Calls.mono;apply PT;(exact Bt);rintro E w' ⟨rfl,rfl⟩))
 (refine CF fun W0 hb0 hc0 hf0 hz0=>?_;have JR:Lb W0 (w.heap.size) 6:=Lb.ex (by exact Dw) hb0;refine wp_region_held_drew (S:=fun w'=>Au (w.heap.size) 6 W0 w') (by kernel_rfl) ?_ (fun hHeld=>?_);(focus ((try dsimp only);(exact EX)));refine F4 1 13 (v:=?_) rfl rfl (by kernel_rfl) (by kernel_rfl) (by kernel_rfl) (fun _ _ _ h=>h) (by rfl) ?_ (by assumption) ?_;rotate_left;(focus (intro w hSw;(try dsimp only at hSw);(try (have hst:=xc (Au.ch hSw);(try simp only[BO] at hst);obtain⟨WQ,TZ,WE⟩:=hst));go_simp;(try with_reducible rfl)));(try simp only[Act.put,DN]))
 have R3:w.heap.size<W0.heap.size:=JR.lt
 refine Ju (Inv:=xQ A c xs w W0) (k:=2) ?_ ?_ ?_ 4 _ _ _ ?_
 case refine_4=>
  exact⟨by (exact AO),hHeld,Nat.le_refl _,false,false,false,false,undef,undef,undef,undef,fun _=>0,rfl,by kernel_rfl,rfl,.none _ _,.none _,.none _⟩
 case refine_1=>
  rintro l a wx ⟨hk,hHeld,hup,l0,r0,r1,r2,v0,u0,u1,u2,τ,hn0,rfl,rfl,C0,C1,C2⟩
  obtain rfl:l0=true:=by cases l0 <;> first|rfl|(exfalso;revert hn0;simp[cb];done)|(exfalso;revert hn0;simp[cb];omega)
  obtain rfl:r0=true:=by cases r0 <;> first|rfl|(exfalso;revert hn0;simp[cb];done)|(exfalso;revert hn0;simp[cb];omega)
  obtain rfl:r1=true:=by cases r1 <;> first|rfl|(exfalso;revert hn0;simp[cb];done)|(exfalso;revert hn0;simp[cb];omega)
  obtain rfl:r2=true:=by cases r2 <;> first|rfl|(exfalso;revert hn0;simp[cb];done)|(exfalso;revert hn0;simp[cb];omega)
  obtain⟨A0,c0,rfl,t0⟩:∃ A c,u0=.slice A 5 c∧CK encI 1 3 τ 2 wx W0.heap.size A c 5 xs:=by (cases C0;exact⟨_,_,rfl,by assumption⟩)
  obtain⟨A1,c1,rfl,t1⟩:∃ A c,u1=.slice A 5 c∧CK encI 1 3 τ 4 wx W0.heap.size A c 5 (List.replicate 5 (0:Int)):=by (cases C1;exact⟨_,_,rfl,by assumption⟩)
  obtain⟨A2,c2,rfl,t2⟩:∃ A c,u2=.slice A 5 c∧CK encI 1 3 τ 5 wx W0.heap.size A c 5 (List.replicate 5 (0:Int)):=by (cases C2;exact⟨_,_,rfl,by assumption⟩)
  clear C0 C1 C2 hn0
  refine F4 5 17 (v:=?_) rfl rfl (by kernel_rfl) (by kernel_rfl) (by kernel_rfl) (fun _ _ _ h=>h) (by rfl) ?_ (by assumption) ?_
  rotate_left
  focus (intro w hSw;(try dsimp only at hSw);go_simp;(try with_reducible rfl))
  try simp only[Act.put,List.setIfInBounds_toArray,List.set_cons_zero,List.set_cons_succ]
  refine wpAnyH_ready (rs:=[6]) (by kernel_rfl) (by simp) ?_
  refine AllReadyH.cons rfl (fun K hK=>?_) ?_
  rotate_left
  focus exact AllReadyH.nil
  have JQ:=hHeld.lb
  obtain⟨hcx,hfx⟩:=Lb.rules JQ
  go_simp
  refine hK.out _ _ ?_ (fun FZ=>?_)
  focus ((exact EX))
  have hb:=hHeld.ch
  clear hK K hHeld hcx hfx JQ
  (obtain⟨hc,hf,hz⟩:=xd hb)
  have CJ:=Au.lb FZ
  repeat (replace CJ:=Lb.G_ CJ)
  obtain⟨hcb,M6⟩:=Lb.rules CJ
  have hbf:=Au.ch FZ
  clear FZ
  refine wpAnyH_done (by kernel_rfl) ?_ _
  go_wp2
  refine bodyPost_ret (v:=.agg #[.slice none 0 0,.slice A0 5 c0,.slice none 0 0,.int .i64 0,.slice A1 5 c1,.slice A2 5 c2]) (by simp[results,Tryz.results132,go_sem, *]) rfl ?_
  refine⟨_,_,_,_,_,_,_,_,_,_,_,_,_,_,_,τ,by rw[He.out],?_,AA⟩
  rw[He.out]
  exact⟨CK.nil ..,(t0.Av (by (exact AO))).less (by omega),CK.nil ..,(t1.Av (by (exact AO))).less (by omega),(t2.Av (by (exact AO))).less (by omega)⟩
 case refine_2=>
  rintro n l a wx ⟨hk,hHeld,hup,l0,r0,r1,r2,v0,u0,u1,u2,τ,hn0,rfl,rfl,C0,C1,C2⟩ he
  obtain rfl:l0=true:=by (cases l0 with|true=>rfl|false=>exact absurd he (Dk (i:=0) (by kernel_rfl)))
  obtain rfl:r0=true:=by (cases r0 with|true=>rfl|false=>exact absurd he (Dk (i:=2) (by kernel_rfl)))
  obtain rfl:r1=true:=by (cases r1 with|true=>rfl|false=>exact absurd he (Dk (i:=3) (by kernel_rfl)))
  obtain rfl:r2=true:=by (cases r2 with|true=>rfl|false=>exact absurd he (Dk (i:=4) (by kernel_rfl)))
  simp[cb] at hn0
 case refine_3=>
  rintro n l a wx ⟨hk,hHeld,hup,l0,r0,r1,r2,v0,u0,u1,u2,τ,hn0,rfl,rfl,C0,C1,C2⟩ i hi
  obtain⟨hi0,oi,ho,El⟩:=mem_ready.1 hi
  clear hi
  have hin:i<7:=(Array.getElem?_eq_some_iff.1 ho).1
  rcases (show i=0∨i=1∨i=2∨i=3∨i=4∨i=5∨i=6 by omega) with rfl|rfl|rfl|rfl|rfl|rfl|rfl
  ·-- 0
   obtain rfl:l0=false:=hi0
   cases C0
   clear ho El
   refine wpOp_step rfl fun K hK=>?_
   go_simp
   refine hK _ _ ⟨hHeld.alloc _,hk.alloc,hHeld.alloc _,(by simp;omega),true,false,r1,r2,.slice (some ⟨wx.heap.size,0,none⟩) 0 0,u0,u1,u2,glue τ wx.heap.size (fun _=>2),?_,rfl,rfl,.made _ _ _ (CK.begun (Ow.new [] rfl rfl rfl (fun _=>rfl) (by omega) (by omega))),C1.alloc,C2.alloc⟩
   simp only[cb] at hn0 ⊢;simp at hn0 ⊢;omega
  ·-- 1
   exact Bool.noConfusion (show true=false from hi0)
  ·-- 2
   obtain rfl:r0=false:=hi0
   obtain rfl:=Option.some.inj (show some _=some oi from ho)
   have d:=El ⟨0,.data⟩ (by simp) rfl
   obtain rfl:l0=true:=d
   clear ho El
   obtain⟨Ax,cx,rfl,ht⟩:∃ A c,v0=.slice A 0 c∧CK encI 1 3 τ 2 wx W0.heap.size A c 0 []:=by (cases C0;exact⟨_,_,rfl,by assumption⟩)
   clear C0
   refine wpOp_step rfl fun K hK=>?_
   apply BM FO Dz rfl rfl rfl rfl ht.ow (Rs.A8 hxs hk) (by omega) hup
   intro A1 c1 w2 ho1 Ap Bo Ay Ah
   rw[List.nil_append] at ho1;simp only[Nat.zero_add] at ho1
   have hbx:=Ay (· = (w.heap.size)) W0 hHeld.ch (Nat.le_refl _)
   have IY:=Lb.low Ah R3 hHeld.lb
   simp only[Nat.zero_add]
   have YE:KF 0 w w2:=kL ⟨Ap.size,Ah⟩ hk (by omega)
   refine hK _ _ ⟨Au.of hbx IY,YE,Au.of hbx IY,Nat.le_trans hup Ap.size,true,true,r1,r2,.slice Ax 0 cx,.slice A1 5 c1,u1,u2,glue τ wx.heap.size (fun _=>2),?_,rfl,rfl,.done _ _ _ (CK.full ho1 ht Bo),C1.app Ap ht.tag (by decide),C2.app Ap ht.tag (by decide)⟩
   simp only[cb] at hn0 ⊢;simp at hn0 ⊢;omega
  ·-- 3
   obtain rfl:r1=false:=hi0
   cases C1
   clear ho El
   refine wpOp_step rfl fun K hK=>?_
   apply step_mk (lo:=wx.heap.size) FO (0:Int) rA rfl rfl rfl rfl rfl (by first|decide|omega) (by first|decide|(unfold maxLen;omega)) (Nat.le_refl _)
   intro w2 ho1 hb1 hz1
   refine hK _ _ ⟨hHeld.ex hb1,kE hb1 hk,hHeld.ex hb1,(by omega),l0,r0,true,r2,v0,u0,.slice (some ⟨wx.heap.size,0,none⟩) 5 5,u2,glue τ wx.heap.size (fun _=>4),?_,rfl,rfl,C0.ex hb1,.done _ _ (CK.Vk ho1 (Nat.le_refl _) hup),C2.ex hb1⟩
   simp only[cb] at hn0 ⊢;simp at hn0 ⊢;omega
  ·-- 4
   obtain rfl:r2=false:=hi0
   cases C2
   clear ho El
   refine wpOp_step rfl fun K hK=>?_
   apply step_mk (lo:=wx.heap.size) FO (0:Int) rA rfl rfl rfl rfl rfl (by first|decide|omega) (by first|decide|(unfold maxLen;omega)) (Nat.le_refl _)
   intro w2 ho1 hb1 hz1
   refine hK _ _ ⟨hHeld.ex hb1,kE hb1 hk,hHeld.ex hb1,(by omega),l0,r0,r1,true,v0,u0,u1,.slice (some ⟨wx.heap.size,0,none⟩) 5 5,glue τ wx.heap.size (fun _=>5),?_,rfl,rfl,C0.ex hb1,C1.ex hb1,.done _ _ (CK.Vk ho1 (Nat.le_refl _) hup)⟩
   simp only[cb] at hn0 ⊢;simp at hn0 ⊢;omega
  ·-- 5
   obtain rfl:=Option.some.inj (show some _=some oi from ho)
   obtain rfl:r0=true:=El ⟨2,.data⟩ (by simp) rfl
   obtain rfl:l0=true:=by (cases C0;rfl)
   obtain rfl:r1=true:=El ⟨3,.data⟩ (by simp) rfl
   obtain rfl:r2=true:=El ⟨4,.data⟩ (by simp) rfl
   simp[cb] at hn0
  ·-- 6
   obtain rfl:=Option.some.inj (show some _=some oi from ho)
   exact Bool.noConfusion (show false=true from El ⟨5,.data⟩ (by simp) rfl)
theorem Pb (A:Option Addr) (c n:Nat) (xs:List Int) (w:World) (hxs:RI w 0 A c n xs):Calls Tryz.prog 138 #[.slice A n c] w fun E w'=>∃ bL Bg BR bP Bf BV bD Bh Ba bN Bd Bb bS Bc BZ τ,E=.returned (.agg #[.slice bL BR Bg,.slice bP BV Bf,.slice bD Ba Bh,.int .i64 (Sw.CY xs).clock,.slice bN Bb Bd,.slice bS BZ Bc])∧Cn τ w' w.heap.size bL Bg BR bP Bf BV bD Bh Ba bN Bd Bb bS Bc BZ (Sw.CY xs)∧Ex w w':=by
 cases g1:Sw.DR xs
 case false=>
  have e:Sw.CY xs=Sw.Ku:=by rw[Sw.CY,g1];rfl
  have He:=Lib.hid e;clear e
  go_enter Tryz.func138,Tryz.ntmps138
  go_wp2_with (go_at_call 53;apply Calls.mono;apply Dm;(exact Bt);rintro E w1 ⟨rfl,hb⟩;obtain⟨hc,hf,hz⟩:=xy hb)
  refine bodyPost_ret (v:=.agg #[.slice none 0 0,.slice none 0 0,.slice none 0 0,.int .i64 0,.slice none 0 0,.slice none 0 0]) (by simp[results,Tryz.results138,go_sem, *]) rfl ?_
  refine⟨_,_,_,_,_,_,_,_,_,_,_,_,_,_,_,fun _=>0,by rw[He.out];rfl,?_,AA⟩
  rw[He.out]
  exact Cn.zero
 have h5:=I9 g1
 have dw:n=5:=by rw[hxs.1,h5]
 subst dw
 clear h5
 by_cases g2:Sw.DV xs≤100000
 case neg=>
  have e:Sw.CY xs=Sw.Ku:=by simp[Sw.CY,g1,g2]
  have He:=Lib.hid e;clear e
  have g2':decide (100000<Sw.DV xs)=true:=by simp;omega
  go_enter Tryz.func138,Tryz.ntmps138
  go_wp2_with (first|(go_at_call 53;apply Calls.mono;apply Dm;(exact Bt);rintro E w1 ⟨rfl,hb⟩;obtain⟨hc,hf,hz⟩:=xy hb)|(go_at_call 66;apply Calls.mono;apply PZ;(exact Bt);rintro E w' ⟨rfl,rfl⟩))
  refine bodyPost_ret (v:=.agg #[.slice none 0 0,.slice none 0 0,.slice none 0 0,.int .i64 0,.slice none 0 0,.slice none 0 0]) (by simp[results,Tryz.results138,go_sem, *]) rfl ?_
  refine⟨_,_,_,_,_,_,_,_,_,_,_,_,_,_,_,fun _=>0,by rw[He.out];rfl,?_,AA⟩
  rw[He.out]
  exact Cn.zero
 have e:Sw.CY xs=⟨[],xs,[],0,[0,0,0,0,0],[0,0,0,0,0]⟩:=by simp[Sw.CY,g1,g2]
 have He:=Lib.hid e;clear e
 have g2':decide (100000<Sw.DV xs)=false:=by simp;omega
 go_enter Tryz.func138,Tryz.ntmps138
 go_wp2_with (first|(go_at_call 53;apply Calls.mono;apply Dm;(exact Bt);rintro E w1 ⟨rfl,hb⟩;obtain⟨hc,hf,hz⟩:=xy hb)|(go_at_call 66;apply Calls.mono;apply PZ;(exact Bt);rintro E w' ⟨rfl,rfl⟩))
 (refine CF fun W0 hb0 hc0 hf0 hz0=>?_;have JR:Lb W0 (w.heap.size) 6:=Lb.ex (by exact Dw) hb0;refine wp_region_held_drew (S:=fun w'=>Au (w.heap.size) 6 W0 w') (by kernel_rfl) ?_ (fun hHeld=>?_);(focus ((try dsimp only);(exact EX)));refine F4 0 12 (v:=?_) rfl rfl (by kernel_rfl) (by kernel_rfl) (by kernel_rfl) (fun _ _ _ h=>h) (by rfl) ?_ (by assumption) ?_;rotate_left;(focus (intro w hSw;(try dsimp only at hSw);(try (have hst:=xc (Au.ch hSw);(try simp only[BO] at hst);obtain⟨WQ,TZ,WE⟩:=hst));go_simp;(try with_reducible rfl)));(try simp only[Act.put,DN]))
 have R3:w.heap.size<W0.heap.size:=JR.lt
 refine Ju (Inv:=xR A c xs w W0) (k:=2) ?_ ?_ ?_ 3 _ _ _ ?_
 case refine_4=>
  exact⟨by (exact AO),hHeld,Nat.le_refl _,false,false,false,undef,undef,undef,fun _=>0,rfl,by kernel_rfl,rfl,.none _,.none _,.none _⟩
 case refine_1=>
  rintro l a wx ⟨hk,hHeld,hup,r0,r1,r2,u0,u1,u2,τ,hn0,rfl,rfl,C0,C1,C2⟩
  obtain rfl:r0=true:=by cases r0 <;> first|rfl|(exfalso;revert hn0;simp[cb];done)|(exfalso;revert hn0;simp[cb];omega)
  obtain rfl:r1=true:=by cases r1 <;> first|rfl|(exfalso;revert hn0;simp[cb];done)|(exfalso;revert hn0;simp[cb];omega)
  obtain rfl:r2=true:=by cases r2 <;> first|rfl|(exfalso;revert hn0;simp[cb];done)|(exfalso;revert hn0;simp[cb];omega)
  obtain⟨A0,c0,rfl,t0⟩:∃ A c,u0=.slice A 5 c∧CK encI 1 3 τ 2 wx W0.heap.size A c 5 xs:=by (cases C0;exact⟨_,_,rfl,by assumption⟩)
  obtain⟨A1,c1,rfl,t1⟩:∃ A c,u1=.slice A 5 c∧CK encI 1 3 τ 4 wx W0.heap.size A c 5 (List.replicate 5 (0:Int)):=by (cases C1;exact⟨_,_,rfl,by assumption⟩)
  obtain⟨A2,c2,rfl,t2⟩:∃ A c,u2=.slice A 5 c∧CK encI 1 3 τ 5 wx W0.heap.size A c 5 (List.replicate 5 (0:Int)):=by (cases C2;exact⟨_,_,rfl,by assumption⟩)
  clear C0 C1 C2 hn0
  refine F4 4 16 (v:=?_) rfl rfl (by kernel_rfl) (by kernel_rfl) (by kernel_rfl) (fun _ _ _ h=>h) (by rfl) ?_ (by assumption) ?_
  rotate_left
  focus (intro w hSw;(try dsimp only at hSw);go_simp;(try with_reducible rfl))
  try simp only[Act.put,List.setIfInBounds_toArray,List.set_cons_zero,List.set_cons_succ]
  refine wpAnyH_ready (rs:=[5]) (by kernel_rfl) (by simp) ?_
  refine AllReadyH.cons rfl (fun K hK=>?_) ?_
  rotate_left
  focus exact AllReadyH.nil
  have JQ:=hHeld.lb
  obtain⟨hcx,hfx⟩:=Lb.rules JQ
  go_simp
  refine hK.out _ _ ?_ (fun FZ=>?_)
  focus ((exact EX))
  have hb:=hHeld.ch
  clear hK K hHeld hcx hfx JQ
  (obtain⟨hc,hf,hz⟩:=xd hb)
  have CJ:=Au.lb FZ
  repeat (replace CJ:=Lb.G_ CJ)
  obtain⟨hcb,M6⟩:=Lb.rules CJ
  have hbf:=Au.ch FZ
  clear FZ
  refine wpAnyH_done (by kernel_rfl) ?_ _
  go_wp2
  refine bodyPost_ret (v:=.agg #[.slice none 0 0,.slice A0 5 c0,.slice none 0 0,.int .i64 0,.slice A1 5 c1,.slice A2 5 c2]) (by simp[results,Tryz.results138,go_sem, *]) rfl ?_
  refine⟨_,_,_,_,_,_,_,_,_,_,_,_,_,_,_,τ,by rw[He.out],?_,AA⟩
  rw[He.out]
  exact⟨CK.nil ..,(t0.Av (by (exact AO))).less (by omega),CK.nil ..,(t1.Av (by (exact AO))).less (by omega),(t2.Av (by (exact AO))).less (by omega)⟩
 case refine_2=>
  rintro n l a wx ⟨hk,hHeld,hup,r0,r1,r2,u0,u1,u2,τ,hn0,rfl,rfl,C0,C1,C2⟩ he
  obtain rfl:r0=true:=by (cases r0 with|true=>rfl|false=>exact absurd he (Dk (i:=1) (by kernel_rfl)))
  obtain rfl:r1=true:=by (cases r1 with|true=>rfl|false=>exact absurd he (Dk (i:=2) (by kernel_rfl)))
  obtain rfl:r2=true:=by (cases r2 with|true=>rfl|false=>exact absurd he (Dk (i:=3) (by kernel_rfl)))
  simp[cb] at hn0
 case refine_3=>
  rintro n l a wx ⟨hk,hHeld,hup,r0,r1,r2,u0,u1,u2,τ,hn0,rfl,rfl,C0,C1,C2⟩ i hi
  obtain⟨hi0,oi,ho,El⟩:=mem_ready.1 hi
  clear hi
  have hin:i<6:=(Array.getElem?_eq_some_iff.1 ho).1
  rcases (show i=0∨i=1∨i=2∨i=3∨i=4∨i=5 by omega) with rfl|rfl|rfl|rfl|rfl|rfl
  ·-- 0
   exact Bool.noConfusion (show true=false from hi0)
  ·-- 1
   obtain rfl:r0=false:=hi0
   cases C0
   clear ho El
   refine wpOp_step rfl fun K hK=>?_
   replace hK:=Lib.hid hK
   go_simp
   (go_at_call 86;apply Calls.mono;apply Bj;(exact Rs.A8 hxs hk);(try omega);rintro E w2 ⟨A1,c1,rfl,ho1,hb1⟩)
   try go_wp2_with fail
   refine hK.out _ _ ⟨hHeld.ex hb1,kE hb1 hk,hHeld.ex hb1,(by have:=hb1.size;omega),true,r1,r2,.slice A1 5 c1,u1,u2,glue τ wx.heap.size (fun _=>2),?_,rfl,rfl,.done _ _ (CK.Vk ho1 (Nat.le_refl _) hup),C1.ex hb1,C2.ex hb1⟩
   simp only[cb] at hn0 ⊢;simp at hn0 ⊢;omega
  ·-- 2
   obtain rfl:r1=false:=hi0
   cases C1
   clear ho El
   refine wpOp_step rfl fun K hK=>?_
   apply step_mk (lo:=wx.heap.size) FO (0:Int) rA rfl rfl rfl rfl rfl (by first|decide|omega) (by first|decide|(unfold maxLen;omega)) (Nat.le_refl _)
   intro w2 ho1 hb1 hz1
   refine hK _ _ ⟨hHeld.ex hb1,kE hb1 hk,hHeld.ex hb1,(by omega),r0,true,r2,u0,.slice (some ⟨wx.heap.size,0,none⟩) 5 5,u2,glue τ wx.heap.size (fun _=>4),?_,rfl,rfl,C0.ex hb1,.done _ _ (CK.Vk ho1 (Nat.le_refl _) hup),C2.ex hb1⟩
   simp only[cb] at hn0 ⊢;simp at hn0 ⊢;omega
  ·-- 3
   obtain rfl:r2=false:=hi0
   cases C2
   clear ho El
   refine wpOp_step rfl fun K hK=>?_
   apply step_mk (lo:=wx.heap.size) FO (0:Int) rA rfl rfl rfl rfl rfl (by first|decide|omega) (by first|decide|(unfold maxLen;omega)) (Nat.le_refl _)
   intro w2 ho1 hb1 hz1
   refine hK _ _ ⟨hHeld.ex hb1,kE hb1 hk,hHeld.ex hb1,(by omega),r0,r1,true,u0,u1,.slice (some ⟨wx.heap.size,0,none⟩) 5 5,glue τ wx.heap.size (fun _=>5),?_,rfl,rfl,C0.ex hb1,C1.ex hb1,.done _ _ (CK.Vk ho1 (Nat.le_refl _) hup)⟩
   simp only[cb] at hn0 ⊢;simp at hn0 ⊢;omega
  ·-- 4
   obtain rfl:=Option.some.inj (show some _=some oi from ho)
   obtain rfl:r0=true:=El ⟨1,.data⟩ (by simp) rfl
   obtain rfl:r1=true:=El ⟨2,.data⟩ (by simp) rfl
   obtain rfl:r2=true:=El ⟨3,.data⟩ (by simp) rfl
   simp[cb] at hn0
  ·-- 5
   obtain rfl:=Option.some.inj (show some _=some oi from ho)
   exact Bool.noConfusion (show false=true from El ⟨4,.data⟩ (by simp) rfl)
end Go.Proofs.YtgaflnpmilikcaaGreat
