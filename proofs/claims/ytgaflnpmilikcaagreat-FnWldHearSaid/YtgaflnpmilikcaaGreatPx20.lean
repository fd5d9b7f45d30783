/- Texts joined: Mak, PtrA, DelX, ImpN, LawMk2, Range, NewSt. -/
import Derived.Test.YtgaflnpmilikcaaGreatPx10
import Derived.Test.YtgaflnpmilikcaaGreatPx17
import Derived.Test.YtgaflnpmilikcaaGreatPx12
import Derived.Test.YtgaflnpmilikcaaGreatPx18
import Derived.Shelf.RegionOpenPlain
import Derived.Deep.RegionLaw
import Derived.Test.YtgaflnpmilikcaaGreatPx19
import Derived.Test.YtgaflnpmilikcaaGreatPx13
set_option maxRecDepth 100000
set_option linter.unusedSimpArgs false
set_option linter.unusedVariables false
namespace Go.Proofs.YtgaflnpmilikcaaGreat
open Go.RowKit Go
set_option maxHeartbeats 1000000
theorem step_mk {P:Program} {w:World} {ops:Array Oper} {o:Oper} {a:Act} {Kx:Act→World→Prop} {Q:Exit→Act→World→Prop} {E:Prop} {α:Type} {enc:α→List Value} {sz bytes:Nat} {t e:TypeId} {l c:Operand} {lo n:Nat}
  (hel:G9 P t e sz bytes) (zx:α) (hzx:∀ i z,P.info? e=some i→i.zero=some z→z.cells=(enc zx).toArray) (hsz:(enc zx).length=sz) (hgd:o.guard=none)
  (ho:o.op=.makeSlice t l c) (hl:a.eval l=.int .i64 n) (hc:a.eval c=.int .i64 n) (hb:bytes*n≤281474976710656) (hn:n≤maxLen) (hlo:lo≤w.heap.size)
  (K:∀ w',Ow enc sz e w' lo (some ⟨w.heap.size,0,none⟩) n n (List.replicate n zx)→Ex w w'→w.heap.size+1≤w'.heap.size→Kx (a.put o.dst (.slice (some ⟨w.heap.size,0,none⟩) n n)) w') :
  if Region.wanted o (yielded ops a.tmps)=true then o.wp P a w Kx Q else E:=by
 rw[if_pos (by simp[Region.wanted,hgd])]
 obtain⟨i,z,hi,hz,hsz',hby,hzs⟩:=hel.info
 obtain⟨w',hrun,h1,h2⟩:=run_make_full (P:=P) w lo t e i z sz hel.sl hi hz hsz' .i64 .i64 n (by rw[hby];exact hb) hn hlo
 unfold Oper.wp
 simp[execOp,ho,hl,hc,hrun,Result.andThen]
 rw[hzx i z hi hz,MJ zx hsz hel.pos] at h1
 refine K w' ⟨(List.length_replicate ..).symm,h1⟩ ⟨h2.os,h2.tape,h2.output,h2.size,fun k hk _=>h2.block k hk (by simp)⟩ ?_
 rcases h1.2 with⟨hv,h0⟩ | ⟨g,cap,cur,hv,hb,hh,_⟩
 ·cases hv
 ·injection hv with e1 e2 e3
  have e4:w.heap.size=g:=by injection e1 with e1;injection e1
  subst e4
  exact (Array.getElem?_eq_some_iff.1 hh).1
inductive Fh {α:Type} (enc:α→List Value) (sz:Nat) (e:TypeId) (τ:Nat→Nat) (t:Nat) (w:World) (lo n:Nat) (xs:List α):Bool→Value→Prop
 | none (v:Value):Fh enc sz e τ t w lo n xs false v
 | done (A:Option Addr) (c:Nat) (h:CK enc sz e τ t w lo A c n xs):Fh enc sz e τ t w lo n xs true (.slice A n c)
section
variable {α:Type} {enc:α→List Value} {sz:Nat} {e:TypeId} {τ τ':Nat→Nat} {t s:Nat} {w w':World} {lo n c:Nat} {xs:List α} {l r:Bool} {v u:Value} {A A':Option Addr}
theorem Fh.mv (h:Fh enc sz e τ t w lo n xs r u) (f:∀ A c k ys,CK enc sz e τ t w lo A c k ys→CK enc sz e τ' t w' lo A c k ys):Fh enc sz e τ' t w' lo n xs r u:=by
 cases h with
 | none=>exact .none _
 | done A c h=>exact .done _ _ (f _ _ _ _ h)
theorem Fh.alloc {o:Obj} (h:Fh enc sz e τ t w lo n xs r u):Fh enc sz e (glue τ w.heap.size (fun _=>s)) t (w.alloc o) lo n xs r u:=
 h.mv fun _ _ _ _ h=>(h.CX (Nat.le_refl _)).keep (KT.refl _ _ _ _).alloc
theorem Fh.app (h:Fh enc sz e τ t w lo n xs r u) (hb:Ch (KW A) w w') (ht:∀ a,A=some a→τ a.block=s) (hne:t≠s):Fh enc sz e (glue τ w.heap.size (fun _=>s)) t w' lo n xs r u:=
 h.mv fun _ _ _ _ h=>(h.CX (Nat.le_refl _)).keep (KT.ch hb (KT.refl _ _ _ _) fun i ⟨a,ha,hi⟩=>.inr (by rw[hi,Gs (ht a ha)];exact Ne.symm hne))
theorem Fh.ex (h:Fh enc sz e τ t w lo n xs r u) (hb:Ex w w'):Fh enc sz e (glue τ w.heap.size (fun _=>s)) t w' lo n xs r u:=
 h.mv fun _ _ _ _ h=>(h.CX (Nat.le_refl _)).keep (KT.ex hb (KT.refl _ _ _ _))
theorem FD.ex (h:FD enc sz e τ t w lo n xs l r v u) (hb:Ex w w'):FD enc sz e (glue τ w.heap.size (fun _=>s)) t w' lo n xs l r v u:=
 h.mv fun _ _ _ _ h=>(h.CX (Nat.le_refl _)).keep (KT.ex hb (KT.refl _ _ _ _))
theorem CK.Vk {ys:List α} {m lo':Nat} (h:Ow enc sz e w' lo' A c m ys) (hl:w.heap.size≤lo') (hlo:lo≤lo'):CK enc sz e (glue τ w.heap.size (fun _=>t)) t w' lo A c m ys:=
 ⟨h.less hlo,fun a ha=>by unfold glue;rw[if_neg (by have:=(h.blk ha).1;omega)]⟩
end
end Go.Proofs.YtgaflnpmilikcaaGreat
namespace Go.Proofs.YtgaflnpmilikcaaGreat
open Go.RowKit Go
set_option maxHeartbeats 4000000
theorem JS {α:Type}:∀ (l:List α) (k:Nat),l.take k ++ l.drop (k+1)=l.eraseIdx k
 | [],k=>by simp
 | x::l,0=>by simp
 | x::l,k+1=>by simp[JS l k]
theorem X3 (g c n k lo:Nat) (ds:List Sw.BC) (w:World) (h:Pw w lo (some ⟨g,0,none⟩) c n ds) (hk:k<n):Calls Tryz.prog 191 #[.slice (some ⟨g,0,none⟩) n c,.int .i64 k,.int .i64 ((k:Int)+1)] w fun E w'=>
  E=.returned (.slice (some ⟨g,0,none⟩) (n-1) c)∧Pw w' lo (some ⟨g,0,none⟩) c (n-1) (ds.eraseIdx k)∧Ch (· = g) w w':=by
 have hle:=h.rs.2.le
 have hcb:=h.rs.2.cap
 have RU:=Lib.hid (Ow.front h (fun _=>rfl) (k:=k) (by omega))
 have s2:=h.rs.drop (fun _=>rfl) (k:=k+1) (by omega)
 have l3:=Lib.hid h.1
 unfold maxLen at hcb
 have z0:(0:Int)≤(k:Int):=by omega
 have z1:(k:Int)≤(n:Int):=by omega
 have z2:(k:Int)+1≤(n:Int):=by omega
 have z3:(0:Int)≤(k:Int)+1:=by omega
 have z4:(k:Int)≤(c:Int):=by omega
 have z5:(n:Int)≤(c:Int):=by omega
 have z6:((k:Int)+1).toNat=k+1:=by omega
 have z7:(k:Int)≤(k:Int)+1:=by omega
 have z8:(k:Int)+1≤(c:Int):=by omega
 have z9:((k:Int)==(k:Int)+1)=false:=by simp;omega
 clear h
 obtain⟨q,hq⟩:∃ q,k+(n-(k+1))=q:=⟨_,rfl⟩
 have hq1:q+1=n:=by omega
 have fin:∀ w2:World,Pw w2 lo (some ⟨g,0,none⟩) c q (ds.take k ++ ds.drop (k+1))→Ch (· = g) w w2 →
   (∀ ty,(Builtin.clear_ #[25] ty #[.slice (some ⟨g,q*5,none⟩) (n-q) (c-q)]).run Tryz.prog w2=.ok (.tuple #[]) (w2.setCells g (q*5) (Sw.BC.enc Sw.EE))) ∧
   Pw (w2.setCells g (q*5) (Sw.BC.enc Sw.EE)) lo (some ⟨g,0,none⟩) c (n-1) (ds.eraseIdx k)∧Ch (· = g) w (w2.setCells g (q*5) (Sw.BC.enc Sw.EE)):=by
  intro w2 h3 hb
  rw[JS] at h3
  rw[show n-q=1 by omega,show n-1=q by omega]
  have hth:=h3.there
  refine⟨fun ty=>?_,?_,Ch.setCells (S:=(· = g)) (.inl rfl) _ _ _ hb⟩
  ·exact Ko w2 25 71 ty (.agg #[.int .i64 0,.int .i64 0,.int .i64 0,.int .i64 0,.int .i64 0]) (Sw.BC.enc Sw.EE) (by kernel_rfl) (fun w=>by simp[go_sem]) g (q*5) 1 _ (by omega) (by kernel_rfl) (by intro v hv;simp[Sw.BC.enc,Sw.EE] at hv;subst hv;rfl)
    (fun j hj=>hth.1 _ (by have:(Sw.BC.enc Sw.EE).length=5:=rfl;omega)) (fun j hj=>hth.2 _)
  ·exact h3.over (m:=q) (ys:=ds.eraseIdx k) (by omega) (by have:(Sw.BC.enc Sw.EE).length=5:=rfl;omega) h3.1 (fun cur hc ht=>by
    rw[List.append_assoc,List.take_append_of_le_length (by rw[List.length_take,hc];omega),List.take_take,Nat.min_self,ht]) h3.2.1
 have aJ:=Lib.hid fin
 have q0:(0:Int)≤(q:Int):=by omega
 have q1:(q:Int)≤(n:Int):=by omega
 have q2:¬c=q:=by omega
 have q3:(q:Int)≤(c:Int):=by omega
 clear fin
 by_cases hck:c=k+1
 ·rw[if_pos hck] at s2
  subst hck
  obtain rfl:n=k+1:=by omega
  obtain rfl:q=k:=by omega
  simp only[Nat.sub_self] at s2
  have hs2:=Lib.hid s2
  clear s2 hq
  go_enter Tryz.func191,Tryz.ntmps191
  go_wp2_with fail
  go_region_law (refine Me (lo:=lo) IZ FX (fun _=>rfl) rfl rfl (by simp[Act.eval,Act.put];done) (by simp[Act.eval,Act.put];done) (RU.out.keep (by (exact AO))) (hs2.out.keep (by (exact AO))) (by omega) (fun w2 ho1 Ap=>?_))
  all_goals
   simp only[Nat.add_zero] at ho1
   obtain⟨f1,f2,f3⟩:=aJ.out w2 ho1 ((cD (cR _ _)).trans' Ap (fun i _ hi=>hi))
   clear ho1 Ap
   simp only[Nat.add_sub_cancel_left] at f1
   go_wp2_with (at_builtin;refine KY rfl rfl rfl (f1 _) ?_)
   go_ret
   exact⟨rfl,f2,f3⟩
 ·rw[if_neg hck] at s2
  simp only[Option.map_some,Addr.add_lit,Nat.zero_add] at s2
  have hs2:=Lib.hid s2
  clear s2
  go_enter Tryz.func191,Tryz.ntmps191
  go_wp2_with fail
  go_region_law (refine Me (lo:=lo) IZ FX (fun _=>rfl) rfl rfl (by simp[Act.eval,Act.put];done) (by simp[Act.eval,Act.put];done) (RU.out.keep (by (exact AO))) (hs2.out.keep (by (exact AO))) (by omega) (fun w2 ho1 Ap=>?_))
  all_goals
   (try rw[hq] at ho1)
   (try rw[hq])
   obtain⟨f1,f2,f3⟩:=aJ.out w2 ho1 ((cD (cR _ _)).trans' Ap (fun i _ hi=>hi))
   clear ho1 Ap
   go_wp2_with (at_builtin;refine KY rfl rfl rfl (f1 _) ?_)
   go_ret
   exact⟨by rw[show n-1=q by omega];rfl,f2,f3⟩
set_option maxHeartbeats 4000000
theorem RN (g c n k lo:Nat) (ds:List XV) (w:World) (h:MZ w lo (some ⟨g,0,none⟩) c n ds) (hk:k<n):Calls Tryz.prog 92 #[.slice (some ⟨g,0,none⟩) n c,.int .i64 k,.int .i64 ((k:Int)+1)] w fun E w'=>
  E=.returned (.slice (some ⟨g,0,none⟩) (n-1) c)∧MZ w' lo (some ⟨g,0,none⟩) c (n-1) (ds.eraseIdx k)∧Ch (· = g) w w':=by
 have hle:=h.rs.2.le
 have hcb:=h.rs.2.cap
 have RU:=Lib.hid (Ow.front h (fun _=>rfl) (k:=k) (by omega))
 have s2:=h.rs.drop (fun _=>rfl) (k:=k+1) (by omega)
 have l3:=Lib.hid h.1
 unfold maxLen at hcb
 have z0:(0:Int)≤(k:Int):=by omega
 have z1:(k:Int)≤(n:Int):=by omega
 have z2:(k:Int)+1≤(n:Int):=by omega
 have z3:(0:Int)≤(k:Int)+1:=by omega
 have z4:(k:Int)≤(c:Int):=by omega
 have z5:(n:Int)≤(c:Int):=by omega
 have z6:((k:Int)+1).toNat=k+1:=by omega
 have z7:(k:Int)≤(k:Int)+1:=by omega
 have z8:(k:Int)+1≤(c:Int):=by omega
 have z9:((k:Int)==(k:Int)+1)=false:=by simp;omega
 clear h
 obtain⟨q,hq⟩:∃ q,k+(n-(k+1))=q:=⟨_,rfl⟩
 have hq1:q+1=n:=by omega
 have fin:∀ w2:World,MZ w2 lo (some ⟨g,0,none⟩) c q (ds.take k ++ ds.drop (k+1))→Ch (· = g) w w2 →
   (∀ ty,(Builtin.clear_ #[30] ty #[.slice (some ⟨g,q*5,none⟩) (n-q) (c-q)]).run Tryz.prog w2=.ok (.tuple #[]) (w2.setCells g (q*5) (XV.enc XV.zero))) ∧
   MZ (w2.setCells g (q*5) (XV.enc XV.zero)) lo (some ⟨g,0,none⟩) c (n-1) (ds.eraseIdx k)∧Ch (· = g) w (w2.setCells g (q*5) (XV.enc XV.zero)):=by
  intro w2 h3 hb
  rw[JS] at h3
  rw[show n-q=1 by omega,show n-1=q by omega]
  have hth:=h3.there
  refine⟨fun ty=>?_,?_,Ch.setCells (S:=(· = g)) (.inl rfl) _ _ _ hb⟩
  ·exact Ko w2 30 54 ty (.agg #[.int .i64 0,.int .i64 0,.int .i64 0,.int .i64 0,.slice none 0 0]) (XV.enc XV.zero) (by kernel_rfl) (fun w=>by simp[go_sem]) g (q*5) 1 _ (by omega) (by kernel_rfl) (by intro v hv;simp[XV.enc,XV.zero,Sw.DX] at hv;rcases hv with rfl|rfl <;> rfl)
    (fun j hj=>hth.1 _ (by have:(XV.enc XV.zero).length=5:=rfl;omega)) (fun j hj=>hth.2 _)
  ·exact h3.over (m:=q) (ys:=ds.eraseIdx k) (by omega) (by have:(XV.enc XV.zero).length=5:=rfl;omega) h3.1 (fun cur hc ht=>by
    rw[List.append_assoc,List.take_append_of_le_length (by rw[List.length_take,hc];omega),List.take_take,Nat.min_self,ht]) h3.2.1
 have aJ:=Lib.hid fin
 have q0:(0:Int)≤(q:Int):=by omega
 have q1:(q:Int)≤(n:Int):=by omega
 have q2:¬c=q:=by omega
 have q3:(q:Int)≤(c:Int):=by omega
 clear fin
 by_cases hck:c=k+1
 ·rw[if_pos hck] at s2
  subst hck
  obtain rfl:n=k+1:=by omega
  obtain rfl:q=k:=by omega
  simp only[Nat.sub_self] at s2
  have hs2:=Lib.hid s2
  clear s2 hq
  go_enter Tryz.func92,Tryz.ntmps92
  go_wp2_with fail
  go_region_law (refine Me (lo:=lo) Pv Kq (fun _=>rfl) rfl rfl (by simp[Act.eval,Act.put];done) (by simp[Act.eval,Act.put];done) (RU.out.keep (by (exact AO))) (hs2.out.keep (by (exact AO))) (by omega) (fun w2 ho1 Ap=>?_))
  all_goals
   simp only[Nat.add_zero] at ho1
   obtain⟨f1,f2,f3⟩:=aJ.out w2 ho1 ((cD (cR _ _)).trans' Ap (fun i _ hi=>hi))
   clear ho1 Ap
   simp only[Nat.add_sub_cancel_left] at f1
   go_wp2_with (at_builtin;refine KY rfl rfl rfl (f1 _) ?_)
   go_ret
   exact⟨rfl,f2,f3⟩
 ·rw[if_neg hck] at s2
  simp only[Option.map_some,Addr.add_lit,Nat.zero_add] at s2
  have hs2:=Lib.hid s2
  clear s2
  go_enter Tryz.func92,Tryz.ntmps92
  go_wp2_with fail
  go_region_law (refine Me (lo:=lo) Pv Kq (fun _=>rfl) rfl rfl (by simp[Act.eval,Act.put];done) (by simp[Act.eval,Act.put];done) (RU.out.keep (by (exact AO))) (hs2.out.keep (by (exact AO))) (by omega) (fun w2 ho1 Ap=>?_))
  all_goals
   (try rw[hq] at ho1)
   (try rw[hq])
   obtain⟨f1,f2,f3⟩:=aJ.out w2 ho1 ((cD (cR _ _)).trans' Ap (fun i _ hi=>hi))
   clear ho1 Ap
   go_wp2_with (at_builtin;refine KY rfl rfl rfl (f1 _) ?_)
   go_ret
   exact⟨by rw[show n-1=q by omega];rfl,f2,f3⟩
set_option maxHeartbeats 2000000
theorem Ul (gt:Nat) (t:Int) (d:Sw.BC) (w:World) (hgt:w.cell? ⟨gt,0,none⟩=some (.int .i64 t)):Calls Tryz.prog 131 #[.agg #[.int .i64 d.ticket,.int .i64 d.BP,.int .i64 d.Al,.int .i64 d.BN,.int .i64 d.due],.pointer (some ⟨gt,0,none⟩)] w fun E w'=>E=.returned (.bool (Jh t d))∧Ex w w':=by
 have hlt:gt<w.heap.size:=by
  rcases Nat.lt_or_ge gt w.heap.size with h|h
  ·exact h
  ·simp[World.cell?,Array.getElem?_eq_none h] at hgt
 obtain⟨p,q,r,s,u⟩:=d
 dsimp only
 go_enter Tryz.func131,Tryz.ntmps131
 go_wp2_with fail
 go_ret
 exact⟨Ar (by simp[Jh,Em]),AA⟩
theorem WC (gt:Nat) (t:Int) (A:Option Addr) (c n:Nat) (xs:List Sw.BC) (w:World) (hxs:VJ w 0 A c n xs) (hgt:w.cell? ⟨gt,0,none⟩=some (.int .i64 t)) (yX:gt<w.heap.size):Calls Tryz.prog 130 #[.slice A n c,.func (.func 131) #[] #[.pointer (some ⟨gt,0,none⟩)]] w fun E w'=>E=.returned (.int .i64 (KU (Jh t) xs))∧Ex w w':=by
 have hl:=Lib.hid hxs.1
 have hbig:=Rs.big hxs
 go_enter Tryz.func130,Tryz.ntmps130
 go_wp2_with fail
 go_loopw [8] (fun i wr=>∃ k:Nat,k≤n∧i=.int .i64 k∧Ex w wr∧∀ j,j<k→∀ z,xs[j]?=some z→Jh t z=false) (fun i _=>n-(intOf i).toNat)
 case atStart=>exact⟨0,Nat.zero_le _,rfl,(by exact AA),by omega⟩
 case round=>
  obtain⟨k,hk,rfl,hb2,hrel⟩:=hrel
  have BI:=Lib.hid hrel;clear hrel
  have hst:=xr hb2
  (try simp only[BO] at hst)
  obtain⟨hc2,hf2,hz2⟩:=hst
  by_cases hlt:k<n
  ·obtain⟨g,off,y,rfl,hg0,hg,hd,hy,YA,Zj,Zi,Zh,jc⟩:=OQ hxs hlt
   have Hy:=Lib.hid hy;clear hd hy
   cases hmx:Jh t y
   case true=>
    go_wp2_with (go_at_call 131;apply Calls.mono;apply (Ul (t:=t));(exact (hb2.cell (p:=⟨gt,0,none⟩) yX (fun h=>h)).trans hgt);rintro E w1 ⟨rfl,hb⟩;obtain⟨hc,hf,hz⟩:=xy hb)
    go_ret
    exact⟨Cv (IJ Hy.out BI.out hmx).symm,(by exact AA)⟩
   case false=>
    go_wp2_with (go_at_call 131;apply Calls.mono;apply (Ul (t:=t));(exact (hb2.cell (p:=⟨gt,0,none⟩) yX (fun h=>h)).trans hgt);rintro E w1 ⟨rfl,hb⟩;obtain⟨hc,hf,hz⟩:=xy hb)
    go_roundw
    case rel=>exact⟨k+1,by omega,by go_num,(by exact AA),Gi Hy.out BI.out hmx⟩
    case measure=>simp[intOf];omega
  ·go_wp2_with fail
   go_ret
   exact⟨Cv (II (by have:=hl.out;omega) BI.out).symm,(by exact AA)⟩
theorem KS (aL:Option Addr) (Ae AU:Nat) (aP:Option Addr) (Ag AY:Nat) (aD:Option Addr) (Ac AQ:Nat) (aN:Option Addr) (Ad Aa:Nat) (aS:Option Addr) (Af Ab:Nat) (m:Sw.CV) (t:Int) (w:World) (hD:VJ w 0 aD Ac AQ m.AJ):Calls Tryz.prog 78 #[.agg #[.slice aL AU Ae,.slice aP AY Ag,.slice aD AQ Ac,.int .i64 m.clock,.slice aN Aa Ad,.slice aS Ab Af],.int .i64 t] w fun E w'=>E=.returned (.int .i64 (Sw.FB m.AJ t))∧Ex w w':=by
 have He:=Lib.hid (Rk m.AJ t)
 go_enter Tryz.func78,Tryz.ntmps78
 go_wp2_with fail
 (go_at_call 130)
 (apply Calls.mono;apply (WC (t:=t));(apply Rs.A8 hD;(exact AO));(simp[go_sem]);exact Aq;rintro E w1 ⟨rfl,hb⟩;obtain⟨hc,hf,hz⟩:=xy hb)
 go_wp2
 go_ret
 exact⟨Cv He.out.symm,AA⟩
theorem XL (aL:Option Addr) (Ae AU:Nat) (aP:Option Addr) (Ag AY:Nat) (aD:Option Addr) (Ac AQ:Nat) (aN:Option Addr) (Ad Aa:Nat) (aS:Option Addr) (Af Ab:Nat) (m:Sw.CV) (w:World) (hL:RE w 0 aL Ae AU m.log):Calls Tryz.prog 32 #[.agg #[.slice aL AU Ae,.slice aP AY Ag,.slice aD AQ Ac,.int .i64 m.clock,.slice aN Aa Ad,.slice aS Ab Af]] w fun E w'=>∃ A' c' n',E=.returned (.slice A' n' c')∧PQ w' w.heap.size A' c' n' (Sw.CS m)∧Ex w w':=by
 go_enter Tryz.func32,Tryz.ntmps32
 go_wp2_with (go_at_call 64;apply Calls.mono;apply ES;(exact Bt);rintro E w1 ⟨A',c',n',rfl,ho,hb⟩;obtain⟨hc,hf,hz⟩:=xy hb)
 go_ret
 exact⟨_,_,_,rfl,(ho.keep (by (exact AO))).less (by exact Aq),AA⟩
theorem WA (aL:Option Addr) (Ae AU:Nat) (aP:Option Addr) (Ag AY:Nat) (aD:Option Addr) (Ac AQ:Nat) (aN:Option Addr) (Ad Aa:Nat) (aS:Option Addr) (Af Ab:Nat) (m:Sw.CV) (t:Int) (k:Nat) (d:Sw.BC) (w:World) (hD:VJ w 0 aD Ac AQ m.AJ) (ht:Sw.FB m.AJ t=k) (hd:m.AJ[k]?=some d):Calls Tryz.prog 33 #[.agg #[.slice aL AU Ae,.slice aP AY Ag,.slice aD AQ Ac,.int .i64 m.clock,.slice aN Aa Ad,.slice aS Ab Af],.int .i64 t] w fun E w'=>E=.returned (.tuple #[.agg #[.int .i64 d.ticket,.int .i64 d.BP,.int .i64 d.Al,.int .i64 d.BN,.int .i64 d.due],.bool true])∧Ex w w':=by
 have hlt:k<AQ:=by rw[hD.1];exact (List.getElem?_eq_some_iff.1 hd).1
 obtain⟨g,off,y,rfl,hg0,hg,hd',hy,hc0,hc1,hc2,hc3,hc4⟩:=OQ hD hlt
 obtain rfl:y=d:=Option.some.inj (hy.symm.trans hd)
 have HT:=Lib.hid ht
 clear hd hd' hy ht
 go_enter Tryz.func33,Tryz.ntmps33
 go_wp2_with (go_at_call 78;apply Calls.mono;apply KS;(apply Rs.A8 hD;(exact AO));rintro E w1 ⟨rfl,hb⟩;rw[HT.out];obtain⟨hc,hf,hz⟩:=xy hb)
 refine bodyPost_ret (v:=.tuple #[.agg #[.int .i64 y.ticket,.int .i64 y.BP,.int .i64 y.Al,.int .i64 y.BN,.int .i64 y.due],.bool true]) (by simp[results,Tryz.results33,go_sem, *]) rfl ?_
 exact⟨rfl,AA⟩
theorem WB (aL:Option Addr) (Ae AU:Nat) (aP:Option Addr) (Ag AY:Nat) (aD:Option Addr) (Ac AQ:Nat) (aN:Option Addr) (Ad Aa:Nat) (aS:Option Addr) (Af Ab:Nat) (m:Sw.CV) (t:Int) (w:World) (hD:VJ w 0 aD Ac AQ m.AJ) (ht:Sw.FB m.AJ t = -1):Calls Tryz.prog 33 #[.agg #[.slice aL AU Ae,.slice aP AY Ag,.slice aD AQ Ac,.int .i64 m.clock,.slice aN Aa Ad,.slice aS Ab Af],.int .i64 t] w fun E w'=>E=.returned (.tuple #[.agg #[.int .i64 0,.int .i64 0,.int .i64 0,.int .i64 0,.int .i64 0],.bool false])∧Ex w w':=by
 have HT:=Lib.hid ht
 clear ht
 go_enter Tryz.func33,Tryz.ntmps33
 go_wp2_with (go_at_call 78;apply Calls.mono;apply KS;(apply Rs.A8 hD;(exact AO));rintro E w1 ⟨rfl,hb⟩;rw[HT.out];obtain⟨hc,hf,hz⟩:=xy hb)
 refine bodyPost_ret (v:=.tuple #[.agg #[.int .i64 0,.int .i64 0,.int .i64 0,.int .i64 0,.int .i64 0],.bool false]) (by simp[results,Tryz.results33,go_sem, *]) rfl ?_
 exact⟨rfl,AA⟩
end Go.Proofs.YtgaflnpmilikcaaGreat
namespace Go.Proofs.YtgaflnpmilikcaaGreat
open Go.RowKit Go
set_option maxHeartbeats 1000000
structure mY (w:World) (lo:Nat) (aL:Option Addr) (Ae AU:Nat) (aP:Option Addr) (Ag AY:Nat) (aD:Option Addr) (Ac AQ:Nat) (aN:Option Addr) (Ad Aa:Nat) (aS:Option Addr) (Af Ab:Nat) (k:Int):Prop where
 log:Rd w lo aL Ae 4 AU (FI (marks k (AU*4)))
 Ai:RI w lo aP Ag AY (marks (k+(AU:Int)*4) AY)
 AJ:Rd w lo aD Ac 5 AQ (FI (marks (k+(AU:Int)*4+AY) (AQ*5)))
 nums:RI w lo aN Ad Aa (marks (k+(AU:Int)*4+AY+(AQ:Int)*5) Aa)
 said:RI w lo aS Af Ab (marks (k+(AU:Int)*4+AY+(AQ:Int)*5+Aa) Ab)
theorem mY.keep {w w':World} {lo:Nat} {aL aP aD aN aS:Option Addr} {Ae AU Ag AY Ac AQ Ad Aa Af Ab:Nat} {k:Int} (h:mY w lo aL Ae AU aP Ag AY aD Ac AQ aN Ad Aa aS Af Ab k) (hk:KF lo w w'):mY w' lo aL Ae AU aP Ag AY aD Ac AQ aN Ad Aa aS Af Ab k:=⟨h.1.keep hk,h.2.keep hk,h.3.keep hk,h.4.keep hk,h.5.keep hk⟩
theorem mY.less {w:World} {lo lo':Nat} {aL aP aD aN aS:Option Addr} {Ae AU Ag AY Ac AQ Ad Aa Af Ab:Nat} {k:Int} (h:mY w lo aL Ae AU aP Ag AY aD Ac AQ aN Ad Aa aS Af Ab k) (hl:lo'≤lo):mY w lo' aL Ae AU aP Ag AY aD Ac AQ aN Ad Aa aS Af Ab k:=⟨h.1.less hl,h.2.less hl,h.3.less hl,h.4.less hl,h.5.less hl⟩
section
variable {α:Type} {enc:α→List Value} {sz:Nat} {e:TypeId} {τ:Nat→Nat} {t u:Nat} {w w' w0:World} {lo c n:Nat} {A:Option Addr} {xs:List α}
end
end Go.Proofs.YtgaflnpmilikcaaGreat
namespace Go.Proofs.YtgaflnpmilikcaaGreat
open Go.RowKit Go
set_option maxHeartbeats 1000000
def Sw.CV.len (m:Sw.CV):Nat:=m.log.length+m.Ai.length+m.AJ.length+m.nums.length+m.said.length
section
variable {τ:Nat→Nat} {w w' w0:World} {lo lo' hi:Nat}
theorem RM.len {aL aP aD aN aS:Option Addr} {Ae AU Ag AY Ac AQ Ad Aa Af Ab:Nat} {m:Sw.CV} (h:RM w lo aL Ae AU aP Ag AY aD Ac AQ aN Ad Aa aS Af Ab m):AU+AY+AQ+Aa+Ab=m.len:=by
 have h1:=h.1.1;have h2:=h.2.1;have h3:=h.3.1;have h4:=h.4.1;have h5:=h.5.1
 unfold Sw.CV.len;omega
theorem KF.trans {a b c:World} (h:KF lo a b) (k:KF lo b c):KF lo a c:=
 ⟨Nat.le_trans h.size k.size,fun i h1 h2=>(k.block i h1 (Nat.lt_of_lt_of_le h2 h.size)).trans (h.block i h1 h2)⟩
def RG2 (l h:Nat):Nat→Prop:=fun b=>l≤b∧b<h
end
end Go.Proofs.YtgaflnpmilikcaaGreat
namespace Go.Proofs.YtgaflnpmilikcaaGreat
open Go.RowKit Go
set_option maxHeartbeats 1000000
inductive G6 (τ:Nat→Nat) (t:Nat) (w:World) (lo n:Nat):Bool→Value→Prop
 | none (v:Value):G6 τ t w lo n false v
 | done (g:Nat) (hg:lo≤g) (hl:Lb w g n) (ht:τ g=t):G6 τ t w lo n true (.pointer (some ⟨g,0,none⟩))
inductive Lg (f:Value→Value) (u:Value):Bool→Bool→Value→Prop
 | none (r:Bool) (v:Value):Lg f u r false v
 | done:Lg f u true true (f u)
section
variable {τ:Nat→Nat} {t s:Nat} {w w':World} {lo n:Nat} {r:Bool} {u:Value} {A:Option Addr}
theorem G6.alloc {o:Obj} (h:G6 τ t w lo n r u):G6 (glue τ w.heap.size (fun _=>s)) t (w.alloc o) lo n r u:=by
 cases h with
 | none=>exact .none _
 | done g hg hl ht=>exact .done g hg hl.alloc (by unfold glue;rw[if_pos hl.lt];exact ht)
theorem G6.ex (h:G6 τ t w lo n r u) (hb:Ex w w'):G6 (glue τ w.heap.size (fun _=>s)) t w' lo n r u:=by
 cases h with
 | none=>exact .none _
 | done g hg hl ht=>exact .done g hg (hl.ex hb) (by unfold glue;rw[if_pos hl.lt];exact ht)
theorem G6.app (h:G6 τ t w lo n r u) (hb:Ch (KW A) w w') (ht:∀ a,A=some a→τ a.block=s) (hne:t≠s):G6 (glue τ w.heap.size (fun _=>s)) t w' lo n r u:=by
 cases h with
 | none=>exact .none _
 | done g hg hl hτ=>
  refine .done g hg (Lb.MB hb hl ?_) (by unfold glue;rw[if_pos hl.lt];exact hτ)
  rintro⟨a,ha,hi⟩
  exact hne (by rw[← hτ,hi];exact ht a ha)
theorem Lg.Wo {f:Value→Value} {u u':Value} {m:Bool} {v:Value} (h:Lg f u false m v) (r:Bool):Lg f u' r m v:=by
 cases h with
 | none=>exact .none _ _
end
def mO (h:Sw.Head):GV:=⟨h,none,0,0⟩
structure WN (τ:Nat→Nat) (w:World) (lo:Nat) (F:Option Addr) (Fc Fn:Nat) (aL:Option Addr) (Ae AU:Nat) (aP:Option Addr) (Ag AY:Nat) (aD:Option Addr) (Ac AQ:Nat) (aN:Option Addr) (Ad Aa:Nat) (aS:Option Addr) (Af Ab:Nat) (G:Option Addr) (Gc Gn:Nat) (x:Sw.World):Prop where
 first:JY τ 6 w lo F Fc Fn x.first
 Dt:Cn τ w lo aL Ae AU aP Ag AY aD Ac AQ aN Ad Aa aS Af Ab x.AB
 AV:ku τ 8 w lo G Gc Gn (x.AV.map fun g=>mO g.head)
 gone:∀ g∈x.AV,g.done=[]
 lines:x.lines=[]
 BS:x.BS=[]
section
variable {τ τ':Nat→Nat} {w w':World} {lo lo' Fc Fn Gc Gn k:Nat} {F G:Option Addr}
theorem WN.JU {aL aP aD aN aS:Option Addr} {Ae AU Ag AY Ac AQ Ad Aa Af Ab:Nat} {x:Sw.World} (h:WN τ w lo F Fc Fn aL Ae AU aP Ag AY aD Ac AQ aN Ad Aa aS Af Ab G Gc Gn x):RW w lo F Fc Fn aL Ae AU aP Ag AY aD Ac AQ aN Ad Aa aS Af Ab none 0 0 G Gc Gn none 0 0 x:=by
 refine⟨h.first.rs,h.Dt.rm,?_,⟨_,h.AV.rs,?_,?_⟩,⟨[],?_,?_,?_⟩⟩
 ·rw[h.lines];exact (Ow.nil (enc:=Sw.Ee.enc) (sz:=6) (e:=88) _ lo).rs
 ·rw[h.AV.ow.1,List.length_map]
 ·intro j v g hv hg
  rw[List.getElem?_map,hg] at hv
  obtain rfl:mO g.head=v:=by simpa using hv
  refine⟨rfl,?_⟩
  rw[h.gone g (List.mem_of_getElem? hg)]
  exact (Ow.nil (enc:=encI) (sz:=1) (e:=3) _ lo).rs
 ·exact (Ow.nil (enc:=XV.enc) (sz:=5) (e:=54) _ lo).rs
 ·rw[h.BS];rfl
 ·intro j v m hv;simp at hv
theorem WN.Av {aL aP aD aN aS:Option Addr} {Ae AU Ag AY Ac AQ Ad Aa Af Ab:Nat} {x:Sw.World} (h:WN τ w lo F Fc Fn aL Ae AU aP Ag AY aD Ac AQ aN Ad Aa aS Af Ab G Gc Gn x) (hk:KF lo w w'):WN τ w' lo F Fc Fn aL Ae AU aP Ag AY aD Ac AQ aN Ad Aa aS Af Ab G Gc Gn x:=⟨h.1.Av hk,h.2.Av hk,h.3.Av hk,h.4,h.5,h.6⟩
theorem WN.less {aL aP aD aN aS:Option Addr} {Ae AU Ag AY Ac AQ Ad Aa Af Ab:Nat} {x:Sw.World} (h:WN τ w lo F Fc Fn aL Ae AU aP Ag AY aD Ac AQ aN Ad Aa aS Af Ab G Gc Gn x) (hl:lo'≤lo):WN τ w lo' F Fc Fn aL Ae AU aP Ag AY aD Ac AQ aN Ad Aa aS Af Ab G Gc Gn x:=⟨h.1.less hl,h.2.less hl,h.3.less hl,h.4,h.5,h.6⟩
end
end Go.Proofs.YtgaflnpmilikcaaGreat
