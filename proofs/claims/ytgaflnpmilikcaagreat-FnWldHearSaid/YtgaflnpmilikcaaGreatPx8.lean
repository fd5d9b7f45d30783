/- Texts joined: RowsW, Deep. -/
import Derived.Test.YtgaflnpmilikcaaGreatPx5
import Derived.Test.YtgaflnpmilikcaaGreatPx7
import Derived.Test.YtgaflnpmilikcaaGreatPx4
set_option maxRecDepth 100000
set_option linter.unusedSimpArgs false
set_option linter.unusedVariables false
namespace Go.Proofs.YtgaflnpmilikcaaGreat
open Go.RowKit Go
set_option maxHeartbeats 400000
theorem Kl {α:Type} {xs:List α} {k:Nat} {y:α} (h:xs[k]?=some y):xs.take (k+1)=xs.take k ++ [y]:=by rw[List.take_add_one,h];rfl
theorem OW (A:Option Addr) (c n:Nat) (xs:List Sw.FC) (w:World) (hxs:RE w 0 A c n xs) (hn:n≤4194304):Calls Tryz.prog 167 #[.slice A n c] w fun E w'=>∃ A' c',E=.returned (.slice A' n c')∧Ga w' w.heap.size A' c' n (xs.map Sw.EF)∧Ex w w':=by
 have hl:=Lib.hid hxs.1
 go_enter Tryz.func167,Tryz.ntmps167
 go_wp2_with fail
 go_loopw [3,4] (fun o i wr=>∃ (k:Nat) (B:Option Addr) (d:Nat),k≤n∧i=.int .i64 k∧o=.slice B k d∧Ex w wr∧Ga wr w.heap.size B d k ((xs.take k).map Sw.EF)) (fun _ i _=>n-(intOf i).toNat)
 case atStart=>exact⟨0,_,0,Nat.zero_le _,rfl,rfl,AA,Ow.new [] rfl rfl rfl (fun _=>rfl) (Nat.le_refl _) (by omega)⟩
 case round=>
  obtain⟨k,B,d,hk,rfl,rfl,hb,ho⟩:=hrel
  have hst:=Ex.rules hb rfl
  obtain⟨hc,hf,hz⟩:=hst
  by_cases hlt:k<n
  ·obtain⟨g,off,y,rfl,hg0,hg,hd,hy,hc0,hc1,hc2,hc3⟩:=YQ hxs hlt
   have Hd:=Lib.hid hd;have Hy:=Lib.hid hy;clear hd hy
   go_wp2_with (first|(go_at_call 194;refine (VZ _ _).mono ?_;rintro E w1 ⟨rfl,hb⟩;obtain⟨hc,hf,hz⟩:=xy hb)|(at_builtin;apply BL (lo:=w.heap.size) FO Dz rfl rfl rfl rfl;(exact Iy);(first|(refine Rs.new [Sw.EF y] (by (first|rfl|(simp only[BO];done)|omega)) rfl rfl (fun _=>rfl) (by omega)));omega;exact Aq;intro A1 c1 w2 ho1 Ap Bo Ay Ah;have hb:=Ay (fun _=>False) w (by exact AA) (by exact Aq);have hz:=Ap.size;(try simp only[BO] at hz);obtain⟨hc,hf⟩:=BJ Ah;clear Ah Ay))
   go_roundw
   case rel=>exact⟨k+1,A1,c1,by omega,by go_num,rfl,hb,by rw[Kl Hy.out,List.map_append];exact ho1⟩
   case measure=>simp[intOf];omega
  ·go_wp2_with fail
   go_ret
   obtain rfl:k=n:=by omega
   refine⟨_,_,rfl,?_,AA⟩
   rw[List.take_of_length_le (by have:=hl.out;omega)] at ho
   exact ho
theorem KO:∀ (rows:List Sw.Row) (t:Int),(Sw.D6 t rows).length=rows.length
 | [],_=>rfl
 | r::rs,t=>by simp[Sw.D6,KO rs]
theorem JW:∀ (rows:List Sw.Row) (t:Int) (r:Sw.Row),Sw.D6 t (rows ++ [r])=Sw.D6 t rows ++ [Sw.FM (t+rows.length) r]
 | [],t,r=>by simp[Sw.D6]
 | x::rs,t,r=>by
  simp only[List.cons_append,Sw.D6,JW rs,List.length_cons]
  rw[show t+1+(rs.length:Int)=t+((rs.length+1:Nat):Int) from by omega]
theorem R8 (A:Option Addr) (c n:Nat) (xs:List Sw.Row) (w:World) (hxs:RR w 0 A c n xs) (hn:n≤4194304):Calls Tryz.prog 183 #[.slice A n c] w fun E w'=>∃ A' c',E=.returned (.slice A' n c')∧Ga w' w.heap.size A' c' n (Sw.C_ xs)∧Ex w w':=by
 have hl:=Lib.hid hxs.1
 go_enter Tryz.func183,Tryz.ntmps183
 go_wp2_with fail
 go_loopw [3,4] (fun o i wr=>∃ (k:Nat) (B:Option Addr) (d:Nat),k≤n∧i=.int .i64 k∧o=.slice B k d∧Ex w wr∧Ga wr w.heap.size B d k (Sw.C_ (xs.take k))) (fun _ i _=>n-(intOf i).toNat)
 case atStart=>exact⟨0,_,0,Nat.zero_le _,rfl,rfl,AA,Ow.new [] rfl rfl rfl (fun _=>rfl) (Nat.le_refl _) (by omega)⟩
 case round=>
  obtain⟨k,B,d,hk,rfl,rfl,hb,ho⟩:=hrel
  have hst:=Ex.rules hb rfl
  obtain⟨hc,hf,hz⟩:=hst
  by_cases hlt:k<n
  ·obtain⟨g,off,y,rfl,hg0,hg,hd,hy,hc0,hc1,hc2⟩:=VF hxs hlt
   have Hy:=Lib.hid hy;clear hd hy
   go_wp2_with (first|(go_at_call 208;refine (Qn _ _ _).mono ?_;rintro E w1 ⟨rfl,hb⟩;obtain⟨hc,hf,hz⟩:=xy hb)|(at_builtin;apply BL (lo:=w.heap.size) FO Dz rfl rfl rfl rfl;(exact Iy);(first|(refine Rs.new [Sw.FM k y] (by (first|rfl|(simp only[BO];done)|omega)) rfl rfl (fun _=>rfl) (by omega)));omega;exact Aq;intro A1 c1 w2 ho1 Ap Bo Ay Ah;have hb:=Ay (fun _=>False) w (by exact AA) (by exact Aq);have hz:=Ap.size;(try simp only[BO] at hz);obtain⟨hc,hf⟩:=BJ Ah;clear Ah Ay))
   go_roundw
   case rel=>
    refine⟨k+1,A1,c1,by omega,by go_num,rfl,hb,?_⟩
    rw[Kl Hy.out]
    unfold Sw.C_ at ho1 ⊢
    rw[JW,List.length_take,Nat.min_eq_left (by have:=hl.out;omega),Int.zero_add]
    exact ho1
   case measure=>simp[intOf];omega
  ·go_wp2_with fail
   go_ret
   obtain rfl:k=n:=by omega
   refine⟨_,_,rfl,?_,AA⟩
   rw[List.take_of_length_le (by have:=hl.out;omega)] at ho
   exact ho
theorem FL (A:Option Addr) (c n:Nat) (xs:List Sw.Row) (w:World) (hxs:RR w 0 A c n xs):Calls Tryz.prog 181 #[.slice A n c] w fun E w'=>E=.returned (.bool (Sw.EH xs))∧Ex w w':=by
 have hl:=Lib.hid hxs.1
 by_cases hn:n=8
 ·subst hn
  go_enter Tryz.func181,Tryz.ntmps181
  go_wp2_with fail
  go_loopw [3] (fun i wr=>∃ (k:Nat),k≤8∧i=.int .i64 k∧Ex w wr∧xs.all Sw.rowOk=(xs.drop k).all Sw.rowOk) (fun i _=>8-(intOf i).toNat)
  case atStart=>exact⟨0,Nat.zero_le _,rfl,AA,rfl⟩
  case round=>
   obtain⟨k,hk,rfl,hb,hrel⟩:=hrel
   have hst:=Ex.rules hb rfl
   obtain⟨hc,hf,hz⟩:=hst
   by_cases hlt:k<8
   ·obtain⟨g,off,y,rfl,hg0,hg,hd,hy,hc0,hc1,hc2⟩:=VF hxs hlt
    rw[hd] at hrel
    have BI:=Lib.hid hrel;clear hd hy hrel
    go_wp2_with (go_at_call 48;refine (Aw _ _ _ _).mono ?_;rintro E w' ⟨rfl,rfl⟩)
    all_goals (first|(refine⟨⟨k+1,by omega,by go_num,(by exact AA),?_⟩,by simp[intOf];omega⟩;have hh:=BI.out;clear BI;rw[List.all_cons] at hh;rw[hh];clear hh;go_tidy;(try simp only[Bool.not_eq_true',Bool.not_eq_false',Bool.not_eq_true,Bool.not_eq_false,beq_iff_eq,bne_iff_ne,ne_eq,beq_eq_false_iff_ne,bne_eq_false_iff_eq] at *);have hp:Sw.rowOk y=true:=(by (first|(simp[Sw.rowOk,show Sw.Br 0 1 5=false from rfl, *];done)|(simp[Sw.rowOk,show Sw.Br 0 1 5=false from rfl, *];omega)|(simp[Sw.rowOk,show Sw.Br 0 1 5=false from rfl, *];intros;simp_all;done)|(simp_all [Sw.rowOk,show Sw.Br 0 1 5=false from rfl];done)));simp[hp])|(go_ret;refine⟨Ar ?_,(by first|rfl|exact AA)⟩;have hh:=BI.out;clear BI;rw[List.all_cons] at hh;unfold Sw.EH;rw[hh];clear hh;go_tidy;(try simp only[Bool.not_eq_true',Bool.not_eq_false',Bool.not_eq_true,Bool.not_eq_false,beq_iff_eq,bne_iff_ne,ne_eq,beq_eq_false_iff_ne,bne_eq_false_iff_eq] at *);have hp:Sw.rowOk y=false:=(by (first|(simp[Sw.rowOk,show Sw.Br 0 1 5=false from rfl, *];done)|(simp[Sw.rowOk,show Sw.Br 0 1 5=false from rfl, *];omega)|(simp[Sw.rowOk,show Sw.Br 0 1 5=false from rfl, *];intros;simp_all;done)|(simp_all [Sw.rowOk,show Sw.Br 0 1 5=false from rfl];done)));simp[hp]))
   ·have BI:=Lib.hid hrel;clear hrel
    go_wp2
    go_ret
    refine⟨Ar ?_,AA⟩
    have:=BI.out
    rw[List.drop_of_length_le (by have:=hl.out;omega)] at this
    rw[Sw.EH,this,← hl.out]
    simp
 ·have hb:decide (n=8)=false:=by simp[hn]
  go_enter Tryz.func181,Tryz.ntmps181
  go_wp2
  go_ret
  refine⟨Ar ?_,Ch.refl _ _⟩
  rw[Sw.EH,← hl.out]
  simp[hn]
theorem DJ (A:Option Addr) (c n:Nat) (xs:List Sw.Row) (e:Sw.FC) (w:World) (hxs:RR w 0 A c n xs):Calls Tryz.prog 184 #[.slice A n c,.agg #[.int .i64 e.kind,.int .i64 e.ticket,.int .i64 e.who,.int .i64 e.Al]] w fun E w'=>E=.returned (.bool (Sw.Bn xs e))∧Ex w w':=by
 have hl:=Lib.hid hxs.1
 by_cases h1:Sw.EH xs=true
 ·by_cases h2:Sw.GI e=true
  ·have ht:0≤e.ticket∧e.ticket≤7:=by simp[Sw.GI,Sw.Br] at h2;omega
   obtain⟨t,ht'⟩:=Int.eq_ofNat_of_zero_le ht.1
   have XO:n=8:=by have:=hl.out;simp[Sw.EH] at h1;omega
   subst XO
   have hlt:t<8:=by omega
   obtain⟨g,off,y,rfl,hg0,hg,hd,hy,hc0,hc1,hc2⟩:=VF hxs hlt
   have hrow:Sw.rowAt xs e.ticket=y:=by simp[Sw.rowAt,ht',hy]
   have hfit:Sw.Bn xs e=Sw.DI y e:=by simp[Sw.Bn,h1,h2,hrow]
   have Wx:=Lib.hid hfit
   clear hfit hrow hd hy ht
   have Ht:=Lib.hid ht'
   have ht2:(0:Int)≤e.ticket∧e.ticket<8:=by omega
   obtain⟨ht0,ht1⟩:=ht2
   have e0:e.ticket.toNat=t:=by omega
   clear ht'
   obtain⟨yw,yf,yu⟩:=y
   dsimp only at hc0 hc1 hc2
   by_cases k1:e.kind=1
   ·have hk1:(e.kind==1)=true:=by simp[k1]
    have K1:=Lib.hid k1;clear k1
    go_enter Tryz.func184,Tryz.ntmps184
    go_wp2_with (first|(go_at_call 181;apply Calls.mono;apply FL;(exact Co);rintro E w1 ⟨rfl,hb⟩;obtain⟨hc,hf,hz⟩:=xy hb)|(go_at_call 209;refine (Ii _ _).mono ?_;rintro E w1 ⟨rfl,hb⟩;obtain⟨hc,hf,hz⟩:=xy hb))
    go_ret
    refine⟨Ar ?_,AA⟩
    rw[Wx.out]
    simp[Sw.DI,K1.out,Em]
   have hk1:(e.kind==1)=false:=by simp[k1]
   by_cases k2:e.kind=2
   ·have hk2:(e.kind==2)=true:=by simp[k2]
    have K2:=Lib.hid k2;clear k2
    by_cases b1:yw=0
    ·have hb1:(yw != 0)=false:=by simp[b1]
     have B1:=Lib.hid b1;clear b1
     go_enter Tryz.func184,Tryz.ntmps184
     go_wp2_with (first|(go_at_call 181;apply Calls.mono;apply FL;(exact Co);rintro E w1 ⟨rfl,hb⟩;obtain⟨hc,hf,hz⟩:=xy hb)|(go_at_call 209;refine (Ii _ _).mono ?_;rintro E w1 ⟨rfl,hb⟩;obtain⟨hc,hf,hz⟩:=xy hb))
     go_quiet ((go_at_call 106;exact Calls.AR (Bw _ _)))
     go_wp2
     go_ret
     refine⟨Ar ?_,AA⟩
     rw[Wx.out]
     simp[Sw.DI,K2.out,B1.out]
    have hb1:(yw != 0)=true:=by simp[b1]
    cases yu with
    | true=>
     go_enter Tryz.func184,Tryz.ntmps184
     go_wp2_with (first|(go_at_call 181;apply Calls.mono;apply FL;(exact Co);rintro E w1 ⟨rfl,hb⟩;obtain⟨hc,hf,hz⟩:=xy hb)|(go_at_call 209;refine (Ii _ _).mono ?_;rintro E w1 ⟨rfl,hb⟩;obtain⟨hc,hf,hz⟩:=xy hb))
     go_quiet ((go_at_call 106;exact Calls.AR (Bw _ _)))
     go_wp2
     go_ret
     refine⟨Ar ?_,AA⟩
     rw[Wx.out]
     simp[Sw.DI,K2.out]
    | false=>
     by_cases b2:yw=e.who
     ·have hb2:(yw != e.who)=false:=by simp[b2]
      have B2:=Lib.hid b2;clear b2
      go_enter Tryz.func184,Tryz.ntmps184
      go_wp2_with (first|(go_at_call 181;apply Calls.mono;apply FL;(exact Co);rintro E w1 ⟨rfl,hb⟩;obtain⟨hc,hf,hz⟩:=xy hb)|(go_at_call 209;refine (Ii _ _).mono ?_;rintro E w1 ⟨rfl,hb⟩;obtain⟨hc,hf,hz⟩:=xy hb))
      go_quiet ((go_at_call 106;exact Calls.AR (Bw _ _)))
      go_wp2
      go_ret
      refine⟨Ar ?_,AA⟩
      rw[Wx.out]
      simp[Sw.DI,K2.out,B2.out]
     have hb2:(yw != e.who)=true:=by simp[b2]
     go_enter Tryz.func184,Tryz.ntmps184
     go_wp2_with (first|(go_at_call 181;apply Calls.mono;apply FL;(exact Co);rintro E w1 ⟨rfl,hb⟩;obtain⟨hc,hf,hz⟩:=xy hb)|(go_at_call 209;refine (Ii _ _).mono ?_;rintro E w1 ⟨rfl,hb⟩;obtain⟨hc,hf,hz⟩:=xy hb))
     go_quiet ((go_at_call 106;exact Calls.AR (Bw _ _)))
     go_wp2
     go_ret
     refine⟨Ar ?_,AA⟩
     rw[Wx.out]
     simp[Sw.DI,K2.out,b1,b2]
   have hk2:(e.kind==2)=false:=by simp[k2]
   by_cases b1:yw=e.who
   ·have hb1:(yw==e.who)=true:=by simp[b1]
    have B1:=Lib.hid b1;clear b1
    go_enter Tryz.func184,Tryz.ntmps184
    go_wp2_with (first|(go_at_call 181;apply Calls.mono;apply FL;(exact Co);rintro E w1 ⟨rfl,hb⟩;obtain⟨hc,hf,hz⟩:=xy hb)|(go_at_call 209;refine (Ii _ _).mono ?_;rintro E w1 ⟨rfl,hb⟩;obtain⟨hc,hf,hz⟩:=xy hb))
    go_ret
    refine⟨Ar ?_,AA⟩
    rw[Wx.out]
    simp[Sw.DI,k1,k2,B1.out]
   have hb1:(yw==e.who)=false:=by simp[b1]
   go_enter Tryz.func184,Tryz.ntmps184
   go_wp2_with (first|(go_at_call 181;apply Calls.mono;apply FL;(exact Co);rintro E w1 ⟨rfl,hb⟩;obtain⟨hc,hf,hz⟩:=xy hb)|(go_at_call 209;refine (Ii _ _).mono ?_;rintro E w1 ⟨rfl,hb⟩;obtain⟨hc,hf,hz⟩:=xy hb))
   go_ret
   refine⟨Ar ?_,AA⟩
   rw[Wx.out]
   simp[Sw.DI,k1,k2,b1]
  ·go_enter Tryz.func184,Tryz.ntmps184
   go_wp2_with (first|(go_at_call 181;apply Calls.mono;apply FL;(exact Co);rintro E w1 ⟨rfl,hb⟩;obtain⟨hc,hf,hz⟩:=xy hb)|(go_at_call 209;refine (Ii _ _).mono ?_;rintro E w1 ⟨rfl,hb⟩;obtain⟨hc,hf,hz⟩:=xy hb))
   all_goals (go_ret;refine⟨Ar ?_,(by first|rfl|exact AA)⟩;go_tidy;(try simp only[Bool.not_eq_true',Bool.not_eq_false',Bool.not_eq_true,Bool.not_eq_false,beq_iff_eq,bne_iff_ne,ne_eq,beq_eq_false_iff_ne,bne_eq_false_iff_eq] at *);(first|rfl|(simp[Sw.Bn, *];done)|(simp[Sw.Bn, *];omega)|(simp[Sw.Bn,Em, *];done)|(simp_all [Sw.Bn,Em];done)|(simp_all [Sw.Bn,Em] <;> omega)|simp_all [Sw.Bn,Em]))
 ·go_enter Tryz.func184,Tryz.ntmps184
  go_wp2_with (first|(go_at_call 181;apply Calls.mono;apply FL;(exact Co);rintro E w1 ⟨rfl,hb⟩;obtain⟨hc,hf,hz⟩:=xy hb)|(go_at_call 209;refine (Ii _ _).mono ?_;rintro E w1 ⟨rfl,hb⟩;obtain⟨hc,hf,hz⟩:=xy hb))
  all_goals (go_ret;refine⟨Ar ?_,(by first|rfl|exact AA)⟩;go_tidy;(try simp only[Bool.not_eq_true',Bool.not_eq_false',Bool.not_eq_true,Bool.not_eq_false,beq_iff_eq,bne_iff_ne,ne_eq,beq_eq_false_iff_ne,bne_eq_false_iff_eq] at *);(first|rfl|(simp[Sw.Bn, *];done)|(simp[Sw.Bn, *];omega)|(simp[Sw.Bn,Em, *];done)|(simp_all [Sw.Bn,Em];done)|(simp_all [Sw.Bn,Em] <;> omega)|simp_all [Sw.Bn,Em]))
end Go.Proofs.YtgaflnpmilikcaaGreat
namespace Go.Proofs.YtgaflnpmilikcaaGreat
open Go.RowKit Go
def Sw.BC.enc (d:Sw.BC):List Value:=[.int .i64 d.ticket,.int .i64 d.BP,.int .i64 d.Al,.int .i64 d.BN,.int .i64 d.due]
def Sw.Ee.enc (r:Sw.Ee):List Value:=[.int .i64 r.user,.int .i64 r.n,.int .i64 r.kind,.int .i64 r.ticket,.int .i64 r.who,.int .i64 r.Al]
def Sw.Ev.enc (e:Sw.Ev):List Value:=[.int .i64 e.kind,.int .i64 e.EK.user,.int .i64 e.EK.n,.int .i64 e.EK.kind,.int .i64 e.EK.ticket,.int .i64 e.EK.who,.int .i64 e.EK.Al,.int .i64 e.at_,.int .i64 e.ticket,.int .i64 e.who]
abbrev VJ:=Rs Sw.BC.enc 5
abbrev RQ:=Rs Sw.Ee.enc 6
abbrev YU:=Rs Sw.Ev.enc 10
structure GV where
 h:Sw.Head
 A:Option Addr
 c:Nat
 n:Nat
structure XV where
 g:Int
 h:Sw.Head
 A:Option Addr
 c:Nat
 n:Nat
def GV.enc (v:GV):List Value:=[.int .i64 v.h.size,.int .i64 v.h.log,.int .i64 v.h.own,.slice v.A v.n v.c]
def XV.enc (v:XV):List Value:=[.int .i64 v.g,.int .i64 v.h.size,.int .i64 v.h.log,.int .i64 v.h.own,.slice v.A v.n v.c]
structure RG (w:World) (lo:Nat) (A:Option Addr) (c n:Nat) (gs:List Sw.Gate):Prop where
 ex:∃ vs:List GV,Rs GV.enc 4 w lo A c n vs∧n=gs.length∧∀ (k:Nat) (v:GV) (g:Sw.Gate),vs[k]?=some v→gs[k]?=some g→v.h=g.head∧RI w lo v.A v.c v.n g.done
structure RX (w:World) (lo:Nat) (A:Option Addr) (c n:Nat) (xs:List Sw.IX):Prop where
 ex:∃ vs:List XV,Rs XV.enc 5 w lo A c n vs∧n=xs.length∧∀ (k:Nat) (v:XV) (x:Sw.IX),vs[k]?=some v→xs[k]?=some x→v.g=x.gate∧v.h=x.head∧RI w lo v.A v.c v.n x.proof
structure RM (w:World) (lo:Nat) (aL:Option Addr) (Ae AU:Nat) (aP:Option Addr) (Ag AY:Nat) (aD:Option Addr) (Ac AQ:Nat) (aN:Option Addr) (Ad Aa:Nat) (aS:Option Addr) (Af Ab:Nat) (m:Sw.CV):Prop where
 log:RE w lo aL Ae AU m.log
 Ai:RI w lo aP Ag AY m.Ai
 AJ:VJ w lo aD Ac AQ m.AJ
 nums:RI w lo aN Ad Aa m.nums
 said:RI w lo aS Af Ab m.said
structure RW (w:World) (lo:Nat) (aF:Option Addr) (BD A_:Nat) (aL:Option Addr) (Ae AU:Nat) (aP:Option Addr) (Ag AY:Nat) (aD:Option Addr) (Ac AQ:Nat) (aN:Option Addr) (Ad Aa:Nat) (aS:Option Addr) (Af Ab:Nat) (aI:Option Addr) (BF A7:Nat) (aG:Option Addr) (BA Az:Nat) (aB:Option Addr) (aBc Ao:Nat) (x:Sw.World):Prop where
 first:RI w lo aF BD A_ x.first
 Dt:RM w lo aL Ae AU aP Ag AY aD Ac AQ aN Ad Aa aS Af Ab x.AB
 lines:RQ w lo aI BF A7 x.lines
 AV:RG w lo aG BA Az x.AV
 BS:RX w lo aB aBc Ao x.BS
section
variable {w w0 W:World} {lo lo' c n k:Nat} {A:Option Addr}
theorem RG.keep {gs:List Sw.Gate} (h:RG w0 lo A c n gs) (hk:KF lo w0 W):RG W lo A c n gs:=by
 obtain⟨vs,h1,h2,h3⟩:=h.ex
 exact⟨vs,h1.keep hk,h2,fun k v g hv hg=>⟨(h3 k v g hv hg).1,(h3 k v g hv hg).2.keep hk⟩⟩
theorem RG.less {gs:List Sw.Gate} (h:RG w0 lo A c n gs) (hl:lo'≤lo):RG w0 lo' A c n gs:=by
 obtain⟨vs,h1,h2,h3⟩:=h.ex
 exact⟨vs,h1.less hl,h2,fun k v g hv hg=>⟨(h3 k v g hv hg).1,(h3 k v g hv hg).2.less hl⟩⟩
theorem RX.keep {xs:List Sw.IX} (h:RX w0 lo A c n xs) (hk:KF lo w0 W):RX W lo A c n xs:=by
 obtain⟨vs,h1,h2,h3⟩:=h.ex
 exact⟨vs,h1.keep hk,h2,fun k v g hv hg=>⟨(h3 k v g hv hg).1,(h3 k v g hv hg).2.1,(h3 k v g hv hg).2.2.keep hk⟩⟩
theorem RX.less {xs:List Sw.IX} (h:RX w0 lo A c n xs) (hl:lo'≤lo):RX w0 lo' A c n xs:=by
 obtain⟨vs,h1,h2,h3⟩:=h.ex
 exact⟨vs,h1.less hl,h2,fun k v g hv hg=>⟨(h3 k v g hv hg).1,(h3 k v g hv hg).2.1,(h3 k v g hv hg).2.2.less hl⟩⟩
theorem RG.A8 {gs:List Sw.Gate} (h:RG w0 lo A c n gs) (hk:KF lo w0 W):RG W 0 A c n gs:=(h.keep hk).less (Nat.zero_le _)
theorem RX.A8 {xs:List Sw.IX} (h:RX w0 lo A c n xs) (hk:KF lo w0 W):RX W 0 A c n xs:=(h.keep hk).less (Nat.zero_le _)
theorem RM.keep {aL aP aD aN aS:Option Addr} {Ae AU Ag AY Ac AQ Ad Aa Af Ab:Nat} {m:Sw.CV} (h:RM w0 lo aL Ae AU aP Ag AY aD Ac AQ aN Ad Aa aS Af Ab m) (hk:KF lo w0 W):RM W lo aL Ae AU aP Ag AY aD Ac AQ aN Ad Aa aS Af Ab m:=⟨h.1.keep hk,h.2.keep hk,h.3.keep hk,h.4.keep hk,h.5.keep hk⟩
theorem RM.less {aL aP aD aN aS:Option Addr} {Ae AU Ag AY Ac AQ Ad Aa Af Ab:Nat} {m:Sw.CV} (h:RM w0 lo aL Ae AU aP Ag AY aD Ac AQ aN Ad Aa aS Af Ab m) (hl:lo'≤lo):RM w0 lo' aL Ae AU aP Ag AY aD Ac AQ aN Ad Aa aS Af Ab m:=⟨h.1.less hl,h.2.less hl,h.3.less hl,h.4.less hl,h.5.less hl⟩
theorem RM.A8 {aL aP aD aN aS:Option Addr} {Ae AU Ag AY Ac AQ Ad Aa Af Ab:Nat} {m:Sw.CV} (h:RM w0 lo aL Ae AU aP Ag AY aD Ac AQ aN Ad Aa aS Af Ab m) (hk:KF lo w0 W):RM W 0 aL Ae AU aP Ag AY aD Ac AQ aN Ad Aa aS Af Ab m:=(h.keep hk).less (Nat.zero_le _)
theorem RW.keep {aF aL aP aD aN aS aI aG aB:Option Addr} {BD A_ Ae AU Ag AY Ac AQ Ad Aa Af Ab BF A7 BA Az aBc Ao:Nat} {x:Sw.World} (h:RW w0 lo aF BD A_ aL Ae AU aP Ag AY aD Ac AQ aN Ad Aa aS Af Ab aI BF A7 aG BA Az aB aBc Ao x) (hk:KF lo w0 W):RW W lo aF BD A_ aL Ae AU aP Ag AY aD Ac AQ aN Ad Aa aS Af Ab aI BF A7 aG BA Az aB aBc Ao x:=⟨h.1.keep hk,h.2.keep hk,h.3.keep hk,h.4.keep hk,h.5.keep hk⟩
theorem RW.less {aF aL aP aD aN aS aI aG aB:Option Addr} {BD A_ Ae AU Ag AY Ac AQ Ad Aa Af Ab BF A7 BA Az aBc Ao:Nat} {x:Sw.World} (h:RW w0 lo aF BD A_ aL Ae AU aP Ag AY aD Ac AQ aN Ad Aa aS Af Ab aI BF A7 aG BA Az aB aBc Ao x) (hl:lo'≤lo):RW w0 lo' aF BD A_ aL Ae AU aP Ag AY aD Ac AQ aN Ad Aa aS Af Ab aI BF A7 aG BA Az aB aBc Ao x:=⟨h.1.less hl,h.2.less hl,h.3.less hl,h.4.less hl,h.5.less hl⟩
theorem RW.A8 {aF aL aP aD aN aS aI aG aB:Option Addr} {BD A_ Ae AU Ag AY Ac AQ Ad Aa Af Ab BF A7 BA Az aBc Ao:Nat} {x:Sw.World} (h:RW w0 lo aF BD A_ aL Ae AU aP Ag AY aD Ac AQ aN Ad Aa aS Af Ab aI BF A7 aG BA Az aB aBc Ao x) (hk:KF lo w0 W):RW W 0 aF BD A_ aL Ae AU aP Ag AY aD Ac AQ aN Ad Aa aS Af Ab aI BF A7 aG BA Az aB aBc Ao x:=(h.keep hk).less (Nat.zero_le _)
theorem OQ {xs:List Sw.BC} (h:VJ w lo A c n xs) (hk:k<n) :
  ∃ g off x,A=some ⟨g,off,none⟩∧lo≤g∧g<w.heap.size∧xs.drop k=x::xs.drop (k+1)∧xs[k]?=some x ∧
   w.cell? ⟨g,off+k*5,none⟩=some (.int .i64 x.ticket)∧w.cell? ⟨g,off+k*5+1,none⟩=some (.int .i64 x.BP) ∧
   w.cell? ⟨g,off+k*5+2,none⟩=some (.int .i64 x.Al)∧w.cell? ⟨g,off+k*5+3,none⟩=some (.int .i64 x.BN)∧w.cell? ⟨g,off+k*5+4,none⟩=some (.int .i64 x.due):=by
 obtain⟨g,off,x,h1,h2,h3,h4,h5,h6⟩:=Rs.at_ h (fun _=>rfl) hk
 exact⟨g,off,x,h1,h2,h3,h4,h5,by simpa using h6 0 _ (by omega) rfl,h6 1 _ (by omega) rfl,h6 2 _ (by omega) rfl,h6 3 _ (by omega) rfl,h6 4 _ (by omega) rfl⟩
theorem YP {xs:List Sw.Ee} (h:RQ w lo A c n xs) (hk:k<n) :
  ∃ g off x,A=some ⟨g,off,none⟩∧lo≤g∧g<w.heap.size∧xs.drop k=x::xs.drop (k+1)∧xs[k]?=some x ∧
   w.cell? ⟨g,off+k*6,none⟩=some (.int .i64 x.user)∧w.cell? ⟨g,off+k*6+1,none⟩=some (.int .i64 x.n) ∧
   w.cell? ⟨g,off+k*6+2,none⟩=some (.int .i64 x.kind)∧w.cell? ⟨g,off+k*6+3,none⟩=some (.int .i64 x.ticket) ∧
   w.cell? ⟨g,off+k*6+4,none⟩=some (.int .i64 x.who)∧w.cell? ⟨g,off+k*6+5,none⟩=some (.int .i64 x.Al):=by
 obtain⟨g,off,x,h1,h2,h3,h4,h5,h6⟩:=Rs.at_ h (fun _=>rfl) hk
 exact⟨g,off,x,h1,h2,h3,h4,h5,by simpa using h6 0 _ (by omega) rfl,h6 1 _ (by omega) rfl,h6 2 _ (by omega) rfl,h6 3 _ (by omega) rfl,h6 4 _ (by omega) rfl,h6 5 _ (by omega) rfl⟩
theorem Z7 {xs:List Sw.Ev} (h:YU w lo A c n xs) (hk:k<n) :
  ∃ g off x,A=some ⟨g,off,none⟩∧lo≤g∧g<w.heap.size∧xs.drop k=x::xs.drop (k+1)∧xs[k]?=some x ∧
   w.cell? ⟨g,off+k*10,none⟩=some (.int .i64 x.kind)∧w.cell? ⟨g,off+k*10+1,none⟩=some (.int .i64 x.EK.user)∧w.cell? ⟨g,off+k*10+2,none⟩=some (.int .i64 x.EK.n) ∧
   w.cell? ⟨g,off+k*10+3,none⟩=some (.int .i64 x.EK.kind)∧w.cell? ⟨g,off+k*10+4,none⟩=some (.int .i64 x.EK.ticket) ∧
   w.cell? ⟨g,off+k*10+5,none⟩=some (.int .i64 x.EK.who)∧w.cell? ⟨g,off+k*10+6,none⟩=some (.int .i64 x.EK.Al) ∧
   w.cell? ⟨g,off+k*10+7,none⟩=some (.int .i64 x.at_)∧w.cell? ⟨g,off+k*10+8,none⟩=some (.int .i64 x.ticket)∧w.cell? ⟨g,off+k*10+9,none⟩=some (.int .i64 x.who):=by
 obtain⟨g,off,x,h1,h2,h3,h4,h5,h6⟩:=Rs.at_ h (fun _=>rfl) hk
 exact⟨g,off,x,h1,h2,h3,h4,h5,by simpa using h6 0 _ (by omega) rfl,h6 1 _ (by omega) rfl,h6 2 _ (by omega) rfl,h6 3 _ (by omega) rfl,h6 4 _ (by omega) rfl,h6 5 _ (by omega) rfl,h6 6 _ (by omega) rfl,h6 7 _ (by omega) rfl,h6 8 _ (by omega) rfl,h6 9 _ (by omega) rfl⟩
theorem Ld {gs:List Sw.Gate} (h:RG w lo A c n gs) (hk:k<n) :
  ∃ g off x B d m,A=some ⟨g,off,none⟩∧lo≤g∧g<w.heap.size∧gs.drop k=x::gs.drop (k+1)∧gs[k]?=some x ∧
   w.cell? ⟨g,off+k*4,none⟩=some (.int .i64 x.head.size)∧w.cell? ⟨g,off+k*4+1,none⟩=some (.int .i64 x.head.log) ∧
   w.cell? ⟨g,off+k*4+2,none⟩=some (.int .i64 x.head.own)∧w.cell? ⟨g,off+k*4+3,none⟩=some (.slice B m d)∧RI w lo B d m x.done:=by
 obtain⟨vs,h1,h2,h3⟩:=h.ex
 obtain⟨g,off,v,h4,h5,h6,h7,h8,h9⟩:=Rs.at_ h1 (fun _=>rfl) hk
 have hg:gs[k]?=some gs[k]:=List.getElem?_eq_getElem (by omega)
 obtain⟨e,hr⟩:=h3 k v _ h8 hg
 refine⟨g,off,gs[k],v.A,v.c,v.n,h4,h5,h6,List.drop_eq_getElem_cons (by omega),hg,?_,?_,?_,h9 3 _ (by omega) rfl,hr⟩
 ·rw[← e];simpa using h9 0 _ (by omega) rfl
 ·rw[← e];exact h9 1 _ (by omega) rfl
 ·rw[← e];exact h9 2 _ (by omega) rfl
theorem QU {xs:List Sw.IX} (h:RX w lo A c n xs) (hk:k<n) :
  ∃ g off x B d m,A=some ⟨g,off,none⟩∧lo≤g∧g<w.heap.size∧xs.drop k=x::xs.drop (k+1)∧xs[k]?=some x ∧
   w.cell? ⟨g,off+k*5,none⟩=some (.int .i64 x.gate)∧w.cell? ⟨g,off+k*5+1,none⟩=some (.int .i64 x.head.size)∧w.cell? ⟨g,off+k*5+2,none⟩=some (.int .i64 x.head.log) ∧
   w.cell? ⟨g,off+k*5+3,none⟩=some (.int .i64 x.head.own)∧w.cell? ⟨g,off+k*5+4,none⟩=some (.slice B m d)∧RI w lo B d m x.proof:=by
 obtain⟨vs,h1,h2,h3⟩:=h.ex
 obtain⟨g,off,v,h4,h5,h6,h7,h8,h9⟩:=Rs.at_ h1 (fun _=>rfl) hk
 have hg:xs[k]?=some xs[k]:=List.getElem?_eq_getElem (by omega)
 obtain⟨e1,e,hr⟩:=h3 k v _ h8 hg
 refine⟨g,off,xs[k],v.A,v.c,v.n,h4,h5,h6,List.drop_eq_getElem_cons (by omega),hg,?_,?_,?_,?_,h9 4 _ (by omega) rfl,hr⟩
 ·rw[← e1];simpa using h9 0 _ (by omega) rfl
 ·rw[← e];exact h9 1 _ (by omega) rfl
 ·rw[← e];exact h9 2 _ (by omega) rfl
 ·rw[← e];exact h9 3 _ (by omega) rfl
theorem Rs.big {α:Type} {enc:α→List Value} {sz:Nat} {xs:List α} (h:Rs enc sz w lo A c n xs):n≤9223372036854775807:=by
 have:=h.2.le;have:=h.2.cap;unfold maxLen at this;omega
theorem RG.len {gs:List Sw.Gate} (h:RG w lo A c n gs):n=gs.length∧n≤9223372036854775807:=by
 obtain⟨vs,h1,h2,_⟩:=h.ex
 exact⟨h2,h1.big⟩
theorem RX.len {xs:List Sw.IX} (h:RX w lo A c n xs):n=xs.length∧n≤9223372036854775807:=by
 obtain⟨vs,h1,h2,_⟩:=h.ex
 exact⟨h2,h1.big⟩
end
end Go.Proofs.YtgaflnpmilikcaaGreat
