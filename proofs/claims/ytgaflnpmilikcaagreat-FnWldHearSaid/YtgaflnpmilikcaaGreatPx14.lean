/- Texts joined: Impl3, Impl4, ImpA, Gate2, Gate3. -/
import Derived.Test.YtgaflnpmilikcaaGreatPx13
import Derived.Test.YtgaflnpmilikcaaGreatPx7
import Derived.Test.YtgaflnpmilikcaaGreatPx10
import Derived.Test.YtgaflnpmilikcaaGreatPx8
import Derived.Test.YtgaflnpmilikcaaGreatPx4
set_option maxRecDepth 100000
set_option linter.unusedSimpArgs false
set_option linter.unusedVariables false
namespace Go.Proofs.YtgaflnpmilikcaaGreat
open Go.RowKit Go
set_option maxHeartbeats 400000
theorem Uk (m old nn r:Int) (A:Option Addr) (c n:Nat) (xs:List Int) (w:World) (hxs:RI w 0 A c n xs):Calls Tryz.prog 129 #[.int .i64 m,.int .i64 old,.int .i64 nn,.int .i64 r,.slice A n c] w fun E w'=>E=.returned (.bool (Sw.Fg m old nn r xs))∧Ex w w':=by
 have hl:=Lib.hid hxs.1
 by_cases hg:(Sw.Br nn 1 40&&Sw.Br m 1 nn&&Sw.BK old&&Sw.BK r&&Sw.DW xs)=true
 ·have hg':=hg
  simp only[Bool.and_eq_true] at hg'
  obtain⟨⟨⟨⟨g1,g2⟩,g3⟩,g4⟩,g5⟩:=hg'
  have b1:1≤nn∧nn≤40:=by simpa [Sw.Br] using g1
  have b2:1≤m∧m≤nn:=by simpa [Sw.Br] using g2
  have QF:n≤40:=by have:=hl.out;simp[Sw.DW] at g5;omega
  have hall:xs.all Sw.BK=true:=by simp only[Sw.DW,Bool.and_eq_true] at g5;exact g5.2
  obtain⟨k,rfl⟩:=Int.eq_ofNat_of_zero_le (show 0≤nn by omega)
  obtain⟨j,rfl⟩:=Int.eq_ofNat_of_zero_le (show 0≤m by omega)
  have e:Sw.Fg j old k r xs=(Sw.Ke j k old xs.reverse true==some (old,r)):=by
   rw[Sw.Fg,hg];rfl
  have He:=Lib.hid e
  clear e hg
  go_enter Tryz.func129,Tryz.ntmps129
  go_wp2_with (first|(go_at_call 61;refine (Cm _ _ _ _).mono ?_;rintro E w' ⟨rfl,rfl⟩)|(go_at_call 51;refine (H7 _ _).mono ?_;rintro E w' ⟨rfl,rfl⟩)|(go_at_call 62;apply Calls.mono;apply Ff;(exact Co);rintro E w' ⟨rfl,rfl⟩)|(go_at_call 165;apply Calls.mono;apply (ZO 40);omega;(exact Co);omega;exact hall;exact g3;omega;omega;omega;rintro E w1 ⟨a,b,rfl,hr,ha,hb',hb⟩;have Hr:=Lib.hid hr;clear hr;cases hs:Sw.Ke j k old xs.reverse true))
  all_goals (go_ret;refine⟨Ar ?_,AA⟩;rw[He.out,hs])
  ·rfl
  all_goals
   obtain rfl:=Hr.out _ hs
   rw[Bool.eq_iff_iff]
   simp[*]
 ·have hg':(Sw.Br nn 1 40&&Sw.Br m 1 nn&&Sw.BK old&&Sw.BK r&&Sw.DW xs)=false:=by simpa using hg
  have e:Sw.Fg m old nn r xs=false:=by rw[Sw.Fg,hg'];rfl
  rw[e]
  have Hg:=Lib.hid hg'
  clear e hg hg'
  cases g1:Sw.Br nn 1 40
  case false=>go_enter Tryz.func129,Tryz.ntmps129;go_wp2_with (go_at_call 61;refine (Cm _ _ _ _).mono ?_;rintro E w' ⟨rfl,rfl⟩);go_ret;exact⟨rfl,AA⟩
  cases g2:Sw.Br m 1 nn
  case false=>go_enter Tryz.func129,Tryz.ntmps129;go_wp2_with (go_at_call 61;refine (Cm _ _ _ _).mono ?_;rintro E w' ⟨rfl,rfl⟩);go_ret;exact⟨rfl,AA⟩
  cases g3:Sw.BK old
  case false=>go_enter Tryz.func129,Tryz.ntmps129;go_wp2_with (first|(go_at_call 61;refine (Cm _ _ _ _).mono ?_;rintro E w' ⟨rfl,rfl⟩)|(go_at_call 51;refine (H7 _ _).mono ?_;rintro E w' ⟨rfl,rfl⟩));go_ret;exact⟨rfl,AA⟩
  cases g4:Sw.BK r
  case false=>go_enter Tryz.func129,Tryz.ntmps129;go_wp2_with (first|(go_at_call 61;refine (Cm _ _ _ _).mono ?_;rintro E w' ⟨rfl,rfl⟩)|(go_at_call 51;refine (H7 _ _).mono ?_;rintro E w' ⟨rfl,rfl⟩));go_ret;exact⟨rfl,AA⟩
  cases g5:Sw.DW xs
  case false=>go_enter Tryz.func129,Tryz.ntmps129;go_wp2_with (first|(go_at_call 61;refine (Cm _ _ _ _).mono ?_;rintro E w' ⟨rfl,rfl⟩)|(go_at_call 51;refine (H7 _ _).mono ?_;rintro E w' ⟨rfl,rfl⟩)|(go_at_call 62;apply Calls.mono;apply Ff;(exact Co);rintro E w' ⟨rfl,rfl⟩));go_ret;exact⟨rfl,AA⟩
  have:=Hg.out
  rw[g1,g2,g3,g4,g5] at this
  cases this
theorem Bj (A:Option Addr) (c n:Nat) (xs:List Int) (w:World) (hxs:RI w 0 A c n xs) (hn:n≤4194304):Calls Tryz.prog 86 #[.slice A n c] w fun E w'=>∃ A' c',E=.returned (.slice A' n c')∧Ga w' w.heap.size A' c' n xs∧Ex w w':=by
 go_enter Tryz.func86,Tryz.ntmps86
 go_wp2_with (at_builtin;apply BL (lo:=w.heap.size) FO Dz rfl rfl rfl rfl;(exact Iy);(exact Co);omega;exact Aq;intro A1 c1 w2 ho1 Ap Bo Ay Ah;have hb:=Ay (fun _=>False) w (by exact AA) (by exact Aq);have hz:=Ap.size;(try simp only[BO] at hz);obtain⟨hc,hf⟩:=BJ Ah;clear Ah Ay)
 go_ret
 rw[Nat.zero_add,List.nil_append] at ho1
 exact⟨A1,c1,rfl,ho1,AA⟩
set_option maxHeartbeats 400000
theorem M5 (o t:Sw.Head) (A:Option Addr) (c n:Nat) (xs:List Int) (w:World) (hxs:RI w 0 A c n xs):Calls Tryz.prog 77 #[.agg #[.int .i64 o.size,.int .i64 o.log,.int .i64 o.own],.agg #[.int .i64 t.size,.int .i64 t.log,.int .i64 t.own],.slice A n c] w fun E w'=>E=.returned (.bool (Sw.CU o t xs))∧Ex w w':=by
 have hl:=Lib.hid hxs.1
 cases g1:Sw.E9 o
 case false=>
  go_enter Tryz.func77,Tryz.ntmps77;go_wp2_with (go_at_call 22;refine (Ip _ _).mono ?_;rintro E w1 ⟨rfl,hb⟩;obtain⟨hc,hf,hz⟩:=xy hb);go_ret;exact⟨Ar (by simp[Sw.CU,g1]),AA⟩
 cases g2:Sw.E9 t
 case false=>
  go_enter Tryz.func77,Tryz.ntmps77;go_wp2_with (go_at_call 22;refine (Ip _ _).mono ?_;rintro E w1 ⟨rfl,hb⟩;obtain⟨hc,hf,hz⟩:=xy hb);go_ret;exact⟨Ar (by simp[Sw.CU,g2]),AA⟩
 by_cases g3:o.size≤t.size
 case neg=>
  have e:Sw.CU o t xs=false:=by simp[Sw.CU,g3]
  rw[e];clear e
  have g3':t.size<o.size:=by omega
  go_enter Tryz.func77,Tryz.ntmps77;go_wp2_with (go_at_call 22;refine (Ip _ _).mono ?_;rintro E w1 ⟨rfl,hb⟩;obtain⟨hc,hf,hz⟩:=xy hb);go_ret;exact⟨rfl,AA⟩
 have n1:=g1;have n2:=g2
 simp only[Sw.E9,Sw.Br,Bool.and_eq_true,decide_eq_true_eq] at n1 n2
 obtain⟨⟨⟨o0,_⟩,_⟩,_⟩:=n1
 obtain⟨⟨⟨t0,_⟩,_⟩,_⟩:=n2
 have g3':decide (t.size<o.size)=false:=by simp;omega
 by_cases g4:o.size=0
 ·have z0:(o.size==0)=true:=by simp[g4]
  have hle:decide (o.size≤t.size)=true:=by simp[g3]
  have e:Sw.CU o t xs=((decide (o.size≠t.size)||decide (o=t))&&xs.isEmpty):=by rw[Sw.CU,g1,g2,hle,if_pos g4];simp
  have He:=Lib.hid e
  have G4:=Lib.hid g4
  clear e g4
  by_cases hn:n=0
  ·have hx:xs=[]:=List.eq_nil_of_length_eq_zero (by have:=hl.out;omega)
   subst hx
   subst hn
   clear hl
   go_enter Tryz.func77,Tryz.ntmps77
   go_wp2_with (go_at_call 22;refine (Ip _ _).mono ?_;rintro E w1 ⟨rfl,hb⟩;obtain⟨hc,hf,hz⟩:=xy hb)
   all_goals (go_ret;refine⟨Ar ?_,AA⟩;rw[He.out];have g4:=G4.out;clear He G4;go_tidy;simp only[MP])
   all_goals (first|(simp[*];done)|(simp[*];omega)|(simp_all;done)|(simp_all;omega))
  ·have hb:((n:Int)==0)=false:=by simp;omega
   have hx:xs.isEmpty=false:=by
    cases xs with
    | nil=>exact absurd hl.out hn
    | cons _ _=>rfl
   go_enter Tryz.func77,Tryz.ntmps77
   go_wp2_with (go_at_call 22;refine (Ip _ _).mono ?_;rintro E w1 ⟨rfl,hb⟩;obtain⟨hc,hf,hz⟩:=xy hb)
   all_goals (go_ret;exact⟨Ar (by rw[He.out,hx];simp),AA⟩)
 ·have z0:(o.size==0)=false:=by simp[g4]
  have hle:decide (o.size≤t.size)=true:=by simp[g3]
  have e:Sw.CU o t xs=((decide (o.size≠t.size)||decide (o=t))&&Sw.Fg o.size o.log t.size t.log xs):=by rw[Sw.CU,g1,g2,hle,if_neg g4];simp
  have He:=Lib.hid e
  clear e g4
  go_enter Tryz.func77,Tryz.ntmps77
  go_wp2_with (first|(go_at_call 22;refine (Ip _ _).mono ?_;rintro E w1 ⟨rfl,hb⟩;obtain⟨hc,hf,hz⟩:=xy hb)|(go_at_call 129;apply Calls.mono;apply Uk;(exact Co);rintro E w1 ⟨rfl,hb⟩;obtain⟨hc,hf,hz⟩:=xy hb))
  all_goals (go_ret;refine⟨Ar ?_,AA⟩;rw[He.out];clear He;go_tidy;simp only[MP])
  all_goals (first|(simp[*];done)|(simp[*];omega)|(simp_all;done)|(simp_all;omega))
set_option maxHeartbeats 400000
theorem CG (n:Int) (w:World):Calls Tryz.prog 113 #[.int .i64 n] w fun E w'=>E=.returned (.bool (Sw.Br n 1 5))∧w=w':=by
 go_enter Tryz.func113,Tryz.ntmps113
 go_wp2_with (go_at_call 61;refine (Cm _ _ _ _).mono ?_;rintro E w' ⟨rfl,rfl⟩)
 all_goals (go_ret;exact⟨rfl,rfl⟩)
theorem GA (n:Int) (w:World):Calls Tryz.prog 114 #[.int .i64 n] w fun E w'=>E=.returned (.bool (Sw.Br n 1 50))∧w=w':=by
 go_enter Tryz.func114,Tryz.ntmps114
 go_wp2_with (go_at_call 61;refine (Cm _ _ _ _).mono ?_;rintro E w' ⟨rfl,rfl⟩)
 all_goals (go_ret;exact⟨rfl,rfl⟩)
theorem D7 (f:Int) (w:World):Calls Tryz.prog 119 #[.int .i64 f] w fun E w'=>E=.returned (.int .i64 (Sw.C9 f))∧w=w':=by
 by_cases h:Sw.Br f 1 50=true
 ·have h':1≤f∧f≤50:=by simpa [Sw.Br] using h
  obtain⟨a,b⟩:=h'
  go_enter Tryz.func119,Tryz.ntmps119
  go_wp2_with (go_at_call 114;refine (GA _ _).mono ?_;rintro E w' ⟨rfl,rfl⟩)
  all_goals (go_ret;refine⟨Cv (by simp[Sw.C9,h]),rfl⟩)
 ·go_enter Tryz.func119,Tryz.ntmps119
  go_wp2_with (go_at_call 114;refine (GA _ _).mono ?_;rintro E w' ⟨rfl,rfl⟩)
  all_goals (go_ret;refine⟨Cv (by simp[Sw.C9,h]),rfl⟩)
theorem RL (e:Sw.FC) (w:World):Calls Tryz.prog 185 #[.agg #[.int .i64 e.kind,.int .i64 e.ticket,.int .i64 e.who,.int .i64 e.Al]] w fun E w'=>E=.returned (.bool (Sw.GI e))∧Ex w w':=by
 go_enter Tryz.func185,Tryz.ntmps185
 go_wp2_with (first|(go_at_call 63;refine (BQ _ _).mono ?_;rintro E w' ⟨rfl,rfl⟩)|(go_at_call 113;refine (CG _ _).mono ?_;rintro E w' ⟨rfl,rfl⟩)|(go_at_call 114;refine (GA _ _).mono ?_;rintro E w' ⟨rfl,rfl⟩)|(go_at_call 61;refine (Cm _ _ _ _).mono ?_;rintro E w' ⟨rfl,rfl⟩)|(go_at_call 119;refine (D7 _ _).mono ?_;rintro E w' ⟨rfl,rfl⟩))
 all_goals (try (refine CF fun W0 hb0 hc0 hf0 hz0=>?_;go_region_held3 (fun w'=>Held W0 w') ((exact FU)) ((first|(go_at_call 63;refine (BQ _ _).mono ?_;rintro E w' ⟨rfl,rfl⟩)|(go_at_call 113;refine (CG _ _).mono ?_;rintro E w' ⟨rfl,rfl⟩)|(go_at_call 114;refine (GA _ _).mono ?_;rintro E w' ⟨rfl,rfl⟩)|(go_at_call 61;refine (Cm _ _ _ _).mono ?_;rintro E w' ⟨rfl,rfl⟩)|(go_at_call 119;refine (D7 _ _).mono ?_;rintro E w' ⟨rfl,rfl⟩)));all_goals (obtain⟨hb,hc,hf,hz⟩:=xh (by assumption:Held W0 _))))
 all_goals go_wp2
 all_goals (go_ret;refine⟨Ar ?_,(by first|rfl|exact AA)⟩;go_tidy;(try simp only[Bool.not_eq_true',Bool.not_eq_false',Bool.not_eq_true,Bool.not_eq_false,beq_iff_eq,bne_iff_ne,ne_eq,beq_eq_false_iff_ne,bne_eq_false_iff_eq] at *);(first|rfl|(simp[Sw.GI,Sw.C9,show Sw.Br 50 1 50=true from by decide, *];done)|(simp[Sw.GI,Sw.C9,show Sw.Br 50 1 50=true from by decide, *];omega)|(simp[Sw.GI,Sw.C9,show Sw.Br 50 1 50=true from by decide,Em, *];done)|(simp_all [Sw.GI,Sw.C9,show Sw.Br 50 1 50=true from by decide,Em];done)|(simp_all [Sw.GI,Sw.C9,show Sw.Br 50 1 50=true from by decide,Em] <;> omega)|simp_all [Sw.GI,Sw.C9,show Sw.Br 50 1 50=true from by decide,Em]))
theorem NR (A:Option Addr) (c n:Nat) (xs:List Int) (w:World) (h:RI w 0 A c n xs) (hn:n≤4194304):Calls Tryz.prog 163 #[.slice A n c] w fun E w'=>E=.returned (.int .i64 (Sw.JH xs))∧w=w':=by
 have hl:=Lib.hid h.1
 go_enter Tryz.func163,Tryz.ntmps163
 go_wp2
 go_loop [3,8] (fun m i=>∃ (k:Nat) (x:Int),k≤n∧i=.int .i64 k∧m=.int .i64 x∧0≤x∧x≤65520∧Sw.Gl 7 xs=Sw.Gl x (xs.drop k)) (fun _ i=>n-(intOf i).toNat)
 case atStart=>exact⟨0,7,Nat.zero_le _,rfl,rfl,by omega,by omega,rfl⟩
 case round=>
  obtain⟨k,x,hk,rfl,rfl,x0,x1,hrel⟩:=hrel
  by_cases hlt:k<n
  ·obtain⟨g,off,y,rfl,hg0,hg,hd,hy,hc⟩:=G8 h hlt
   rw[hd] at hrel
   clear hd hy
   have BI:=Lib.hid hrel;clear hrel
   obtain⟨y0,y1⟩:=W_ y
   have hbd:=P8 x y
   by_cases hneg:y.tmod 65521<0
   ·go_wp2
    go_round
    case rel=>exact⟨k+1,Sw.Gm x y,by omega,by go_num,ZG (by unfold Sw.Gm;rw[Int.tmod_eq_emod] at *;split <;> omega),hbd.1,hbd.2,BI.out⟩
    case measure=>simp[intOf];omega
   ·go_wp2
    go_round
    case rel=>exact⟨k+1,Sw.Gm x y,by omega,by go_num,ZG (by unfold Sw.Gm;rw[Int.tmod_eq_emod] at *;split <;> omega),hbd.1,hbd.2,BI.out⟩
    case measure=>simp[intOf];omega
  ·have BI:=Lib.hid hrel;clear hrel
   go_wp2
   go_ret
   refine⟨Cv ?_,rfl⟩
   have:=BI.out
   rw[List.drop_of_length_le (by have:=hl.out;omega)] at this
   unfold Sw.JH
   rw[this,hl.out]
   rfl
theorem V4 (e:Sw.FC) (w:World):Calls Tryz.prog 126 #[.agg #[.int .i64 e.kind,.int .i64 e.ticket,.int .i64 e.who,.int .i64 e.Al]] w fun E w'=>E=.returned (.int .i64 (Sw.EF e))∧Ex w w':=by
 go_enter Tryz.func126,Tryz.ntmps126
 go_wp2_with (go_at_call 163;apply Calls.mono;apply (NR (xs:=[e.kind,e.ticket,e.who,e.Al]));(refine Rs.new _ (by simp only[BO]) rfl rfl (fun _=>rfl) (by omega));omega;rintro E w' ⟨rfl,rfl⟩)
 go_ret
 exact⟨rfl,AA⟩
theorem Q8 (t:Int) (r:Sw.Row) (w:World):Calls Tryz.prog 164 #[.int .i64 t,.agg #[.int .i64 r.who,.int .i64 r.EY,.bool r.used]] w fun E w'=>E=.returned (.int .i64 (Sw.FM t r))∧Ex w w':=by
 by_cases h:Sw.Br t 0 7=true
 ·have h':0≤t∧t≤7:=by simpa [Sw.Br] using h
  obtain⟨t0,t1⟩:=h'
  cases hu:r.used
  ·go_enter Tryz.func164,Tryz.ntmps164
   go_wp2_with (first|(go_at_call 63;refine (BQ _ _).mono ?_;rintro E w' ⟨rfl,rfl⟩)|(go_at_call 163;apply Calls.mono;apply (NR (xs:=[1000+t,r.who,r.EY,0]));(refine Rs.new _ (by simp only[BO]) rfl rfl (fun _=>rfl) (by omega));omega;rintro E w' ⟨rfl,rfl⟩))
   go_ret
   exact⟨Cv (by simp[Sw.FM,h,hu]),AA⟩
  ·go_enter Tryz.func164,Tryz.ntmps164
   go_wp2_with (first|(go_at_call 63;refine (BQ _ _).mono ?_;rintro E w' ⟨rfl,rfl⟩)|(go_at_call 163;apply Calls.mono;apply (NR (xs:=[1000+t,r.who,r.EY,1]));(refine Rs.new _ (by simp only[BO]) rfl rfl (fun _=>rfl) (by omega));omega;rintro E w' ⟨rfl,rfl⟩))
   go_ret
   exact⟨Cv (by simp[Sw.FM,h,hu]),AA⟩
 ·go_enter Tryz.func164,Tryz.ntmps164
  go_wp2_with (go_at_call 63;refine (BQ _ _).mono ?_;rintro E w' ⟨rfl,rfl⟩)
  go_ret
  exact⟨Cv (by simp[Sw.FM,h]),AA⟩
theorem JO (A:Option Addr) (c n:Nat) (xs:List Sw.Row) (w:World) (hxs:RR w 0 A c n xs):Calls Tryz.prog 127 #[.slice A n c] w fun E w'=>E=.returned (.bool (Sw.EH xs))∧Ex w w':=by
 have hl:=Lib.hid hxs.1
 have hbig:=Rs.big hxs
 go_enter Tryz.func127,Tryz.ntmps127
 go_wp2_with fail
 go_loopw [7] (fun i wr=>∃ (k:Nat),k≤n∧i=.int .i64 k∧Ex w wr∧xs.all Sw.rowOk=(xs.drop k).all Sw.rowOk) (fun i _=>n-(intOf i).toNat)
 case atStart=>exact⟨0,Nat.zero_le _,rfl,AA,rfl⟩
 case round=>
  obtain⟨k,hk,rfl,hb,hrel⟩:=hrel
  have hst:=Ex.rules hb rfl
  obtain⟨hc,hf,hz⟩:=hst
  by_cases hlt:k<n
  ·obtain⟨g,off,y,rfl,hg0,hg,hd,hy,hc0,hc1,hc2⟩:=VF hxs hlt
   rw[hd] at hrel
   have BI:=Lib.hid hrel;clear hd hy hrel
   go_wp2_with (first|(go_at_call 113;refine (CG _ _).mono ?_;rintro E w' ⟨rfl,rfl⟩)|(go_at_call 114;refine (GA _ _).mono ?_;rintro E w' ⟨rfl,rfl⟩))
   all_goals (first|(refine⟨⟨k+1,by omega,by go_num,(by exact AA),?_⟩,by simp[intOf];omega⟩;have hh:=BI.out;clear BI;rw[List.all_cons] at hh;rw[hh];clear hh;go_tidy;(try simp only[Bool.not_eq_true',Bool.not_eq_false',Bool.not_eq_true,Bool.not_eq_false,beq_iff_eq,bne_iff_ne,ne_eq,beq_eq_false_iff_ne,bne_eq_false_iff_eq] at *);have hp:Sw.rowOk y=true:=(by (first|(simp[Sw.rowOk,show Sw.Br 0 1 5=false from rfl, *];done)|(simp[Sw.rowOk,show Sw.Br 0 1 5=false from rfl, *];omega)|(simp[Sw.rowOk,show Sw.Br 0 1 5=false from rfl, *];intros;simp_all;done)|(simp_all [Sw.rowOk,show Sw.Br 0 1 5=false from rfl];done)));simp[hp])|(go_ret;refine⟨Ar ?_,(by first|rfl|exact AA)⟩;have hh:=BI.out;clear BI;rw[List.all_cons] at hh;unfold Sw.EH;rw[hh];clear hh;go_tidy;(try simp only[Bool.not_eq_true',Bool.not_eq_false',Bool.not_eq_true,Bool.not_eq_false,beq_iff_eq,bne_iff_ne,ne_eq,beq_eq_false_iff_ne,bne_eq_false_iff_eq] at *);have hp:Sw.rowOk y=false:=(by (first|(simp[Sw.rowOk,show Sw.Br 0 1 5=false from rfl, *];done)|(simp[Sw.rowOk,show Sw.Br 0 1 5=false from rfl, *];omega)|(simp[Sw.rowOk,show Sw.Br 0 1 5=false from rfl, *];intros;simp_all;done)|(simp_all [Sw.rowOk,show Sw.Br 0 1 5=false from rfl];done)));simp[hp]))
  ·have BI:=Lib.hid hrel;clear hrel
   go_wp2
   go_ret
   refine⟨Ar ?_,AA⟩
   have:=BI.out
   rw[List.drop_of_length_le (by have:=hl.out;omega)] at this
   rw[Sw.EH,this,← hl.out,show ((n:Int)==8)=decide (n=8) from by rw[Em,decide_eq_decide];omega]
   simp
theorem dX (A:Option Addr) (c:Nat) (xs:List Sw.Row) (e:Sw.FC) (w:World) (hxs:RR w 0 A c 8 xs) (ht0:0≤e.ticket) (ht1:e.ticket≤7):Calls Tryz.prog 186 #[.slice A 8 c,.agg #[.int .i64 e.kind,.int .i64 e.ticket,.int .i64 e.who,.int .i64 e.Al]] w fun E w'=>E=.returned (.bool (Sw.DI (Sw.rowAt xs e.ticket) e))∧Ex w w':=by
 have hl:=Lib.hid hxs.1
 obtain⟨t,ht'⟩:=Int.eq_ofNat_of_zero_le ht0
 have hlt:t<8:=by omega
 obtain⟨g,off,y,rfl,hg0,hg,hd,hy,hc0,hc1,hc2⟩:=VF hxs hlt
 have hrow:Sw.rowAt xs e.ticket=y:=by simp[Sw.rowAt,ht',hy]
 rw[hrow]
 clear hrow hd hy
 have Ht:=Lib.hid ht'
 have ht2:e.ticket<8:=by omega
 have e0:e.ticket.toNat=t:=by omega
 clear ht'
 obtain⟨yw,yf,yu⟩:=y
 dsimp only at hc0 hc1 hc2
 by_cases k1:e.kind=1
 ·have hk1:(e.kind==1)=true:=by simp[k1]
  have K1:=Lib.hid k1;clear k1
  go_enter Tryz.func186,Tryz.ntmps186
  go_wp2_with (go_at_call 119;refine (D7 _ _).mono ?_;rintro E w' ⟨rfl,rfl⟩)
  go_ret
  exact⟨Ar (by simp[Sw.DI,K1.out,Em]),AA⟩
 have hk1:(e.kind==1)=false:=by simp[k1]
 by_cases k2:e.kind=2
 ·have hk2:(e.kind==2)=true:=by simp[k2]
  have K2:=Lib.hid k2;clear k2
  cases b1:(yw==0)
  case true=>
   have b1':(yw != 0)=false:=by rw[bne,b1];rfl
   go_enter Tryz.func186,Tryz.ntmps186
   go_wp2_with fail
   go_quiet ((go_at_call 119;exact Calls.AR (D7 _ _)))
   go_wp2
   go_ret
   exact⟨Ar (by simp only[Sw.DI,K2.out];simp only[← Em,decide_not,ne_eq,b1];simp),AA⟩
  have b1':(yw != 0)=true:=by rw[bne,b1];rfl
  cases b2:(yw==e.who)
  case true=>
   have b2':(yw != e.who)=false:=by rw[bne,b2];rfl
   go_enter Tryz.func186,Tryz.ntmps186
   go_wp2_with fail
   go_quiet ((go_at_call 119;exact Calls.AR (D7 _ _)))
   go_wp2
   go_ret
   exact⟨Ar (by simp only[Sw.DI,K2.out];simp only[← Em,decide_not,ne_eq,b2];simp),AA⟩
  have b2':(yw != e.who)=true:=by rw[bne,b2];rfl
  cases yu
  all_goals
   go_enter Tryz.func186,Tryz.ntmps186
   go_wp2_with fail
   go_quiet ((go_at_call 119;exact Calls.AR (D7 _ _)))
   go_wp2
   go_ret
   exact⟨Ar (by simp only[Sw.DI,K2.out];simp only[← Em,decide_not,ne_eq,b1,b2];simp),AA⟩
 have hk2:(e.kind==2)=false:=by simp[k2]
 go_enter Tryz.func186,Tryz.ntmps186
 go_wp2_with (go_at_call 119;refine (D7 _ _).mono ?_;rintro E w' ⟨rfl,rfl⟩)
 all_goals (go_ret;refine⟨Ar ?_,(by first|rfl|exact AA)⟩;go_tidy;(try simp only[Bool.not_eq_true',Bool.not_eq_false',Bool.not_eq_true,Bool.not_eq_false,beq_iff_eq,bne_iff_ne,ne_eq,beq_eq_false_iff_ne,bne_eq_false_iff_eq] at *);(first|rfl|(simp[Sw.DI,k1,k2, *];done)|(simp[Sw.DI,k1,k2, *];omega)|(simp[Sw.DI,k1,k2,Em, *];done)|(simp_all [Sw.DI,k1,k2,Em];done)|(simp_all [Sw.DI,k1,k2,Em] <;> omega)|simp_all [Sw.DI,k1,k2,Em]))
theorem Q9 (A:Option Addr) (c n:Nat) (xs:List Sw.Row) (e:Sw.FC) (w:World) (hxs:RR w 0 A c n xs):Calls Tryz.prog 153 #[.slice A n c,.agg #[.int .i64 e.kind,.int .i64 e.ticket,.int .i64 e.who,.int .i64 e.Al]] w fun E w'=>E=.returned (.bool (Sw.Bn xs e))∧Ex w w':=by
 have hl:=Lib.hid hxs.1
 cases h1:Sw.EH xs
 case false=>
  go_enter Tryz.func153,Tryz.ntmps153;go_wp2_with (first|(go_at_call 127;apply Calls.mono;apply JO;(exact Co);rintro E w1 ⟨rfl,hb⟩;obtain⟨hc,hf,hz⟩:=xy hb)|(go_at_call 185;refine (RL _ _).mono ?_;rintro E w1 ⟨rfl,hb⟩;obtain⟨hc,hf,hz⟩:=xy hb));go_ret;exact⟨Ar (by simp[Sw.Bn,h1]),AA⟩
 cases h2:Sw.GI e
 case false=>
  go_enter Tryz.func153,Tryz.ntmps153;go_wp2_with (first|(go_at_call 127;apply Calls.mono;apply JO;(exact Co);rintro E w1 ⟨rfl,hb⟩;obtain⟨hc,hf,hz⟩:=xy hb)|(go_at_call 185;refine (RL _ _).mono ?_;rintro E w1 ⟨rfl,hb⟩;obtain⟨hc,hf,hz⟩:=xy hb));go_ret;exact⟨Ar (by simp[Sw.Bn,h2]),AA⟩
 obtain⟨⟨t0,t7⟩,_⟩:=Sw.FH.1 h2
 have XO:n=8:=by have:=hl.out;have:=Sw.Ct h1;omega
 subst XO
 go_enter Tryz.func153,Tryz.ntmps153
 go_wp2_with (first|(go_at_call 127;apply Calls.mono;apply JO;(exact Co);rintro E w1 ⟨rfl,hb⟩;obtain⟨hc,hf,hz⟩:=xy hb)|(go_at_call 185;refine (RL _ _).mono ?_;rintro E w1 ⟨rfl,hb⟩;obtain⟨hc,hf,hz⟩:=xy hb)|(go_at_call 186;apply Calls.mono;apply dX;(exact Co);(exact Bu);(exact Bu);rintro E w1 ⟨rfl,hb⟩;obtain⟨hc,hf,hz⟩:=xy hb))
 go_ret
 exact⟨Ar (by simp[Sw.Bn,h1,h2]),AA⟩
theorem Od (A:Option Addr) (c n:Nat) (xs:List Sw.Row) (w:World) (hxs:RR w 0 A c n xs) (hn:n≤4194304):Calls Tryz.prog 152 #[.slice A n c] w fun E w'=>∃ A' c',E=.returned (.slice A' n c')∧PQ w' w.heap.size A' c' n xs∧Ex w w':=by
 go_enter Tryz.func152,Tryz.ntmps152
 go_wp2_with (at_builtin;apply BL (lo:=w.heap.size) kW Y5 rfl rfl rfl rfl;(exact Iy);(exact Co);omega;exact Aq;intro A1 c1 w2 ho1 Ap Bo Ay Ah;have hb:=Ay (fun _=>False) w (by exact AA) (by exact Aq);have hz:=Ap.size;(try simp only[BO] at hz);obtain⟨hc,hf⟩:=BJ Ah;clear Ah Ay)
 go_ret
 rw[Nat.zero_add,List.nil_append] at ho1
 exact⟨A1,c1,rfl,ho1,AA⟩
set_option maxHeartbeats 400000
theorem F_ (t:Sw.Head) (A:Option Addr) (c n:Nat) (xs:List Int) (w:World) (hxs:RI w 0 A c n xs):Calls Tryz.prog 47 #[.agg #[.int .i64 t.size,.int .i64 t.log,.int .i64 t.own,.slice A n c]] w fun E w'=>E=.returned (.bool (Sw.DF ⟨t,xs⟩))∧Ex w w':=by
 have hl:=Lib.hid hxs.1
 have hcap:=hxs.2.le
 have hbig:n≤9223372036854775807:=by have:=hxs.2.cap;unfold maxLen at this;omega
 cases g1:Sw.E9 t
 case false=>
  go_enter Tryz.func47,Tryz.ntmps47;go_wp2_with (go_at_call 49;refine (F9 _ _).mono ?_;rintro E w1 ⟨rfl,hb⟩;obtain⟨hc,hf,hz⟩:=xy hb);go_ret;exact⟨Ar (by simp[Sw.DF,g1]),AA⟩
 by_cases hn:n≤8
 case neg=>
  have hb8:decide (8<n)=true:=by simp;omega
  have e:Sw.DF ⟨t,xs⟩=false:=by
   cases hr:Sw.DT (-1) xs with
   | true=>have:=PV xs (-1) hr (by omega) (by omega);have:=hl.out;omega
   | false=>simp[Sw.DF,hr]
  rw[e];clear e
  go_enter Tryz.func47,Tryz.ntmps47;go_wp2_with (go_at_call 49;refine (F9 _ _).mono ?_;rintro E w1 ⟨rfl,hb⟩;obtain⟨hc,hf,hz⟩:=xy hb);go_ret;exact⟨rfl,AA⟩
 have hb8:decide (8<n)=false:=by simp;omega
 have e:Sw.DF ⟨t,xs⟩=Sw.DT (-1) xs:=by simp[Sw.DF,g1]
 rw[e];clear e
 go_enter Tryz.func47,Tryz.ntmps47
 go_wp2_with (go_at_call 49;refine (F9 _ _).mono ?_;rintro E w1 ⟨rfl,hb⟩;obtain⟨hc,hf,hz⟩:=xy hb)
 go_loopw [3] (fun i wr=>∃ (k:Nat) (p:Int),k≤n∧i=.int .i64 k∧Ex w1 wr∧(k=0∧p = -1∨∃ j,k=j+1∧xs[j]?=some p∧0≤p)∧Sw.DT (-1) xs=Sw.DT p (xs.drop k)) (fun i _=>n-(intOf i).toNat)
 case atStart=>exact⟨0,-1,Nat.zero_le _,rfl,Ch.refl _ _,.inl ⟨rfl,rfl⟩,rfl⟩
 case round=>
  obtain⟨k,p,hk,rfl,hb2,hp,hrel⟩:=hrel
  have hst:=Ex.rules hb2 rfl
  obtain⟨hc2,hf2,hz2⟩:=hst
  by_cases hlt:k<n
  ·obtain⟨g,off,y,rfl,hg0,hg,hd,hy,hcy⟩:=G8 hxs hlt
   rw[hd,Sw.DT] at hrel
   have BI:=Lib.hid hrel
   have Hy:=Lib.hid hy
   clear hd hy hrel
   cases hin:Sw.Br y 0 7
   case false=>
    go_wp2_with fail
    go_quiet ((go_at_call 48;exact Calls.AR (Aw _ _ _ _)))
    go_wp2
    go_ret
    exact⟨Ar (by rw[BI.out,hin];rfl),AA⟩
   have tu:0≤y∧y≤7:=by simpa [Sw.Br] using hin
   obtain⟨y0,y7⟩:=tu
   rcases hp with⟨rfl,rfl⟩ | ⟨j,rfl,hj,hj0⟩
   ·simp only[Nat.add_zero] at hcy
    go_wp2_with fail
    go_quiet ((go_at_call 48;exact Calls.AR (Aw _ _ _ _)))
    go_wp2
    go_roundw
    case rel=>exact⟨0+1,y,by omega,by go_num,AA,.inr ⟨0,rfl,Hy.out,y0⟩,by rw[BI.out,hin];simp;omega⟩
    case measure=>simp[intOf];omega
   ·obtain⟨g',off',p',hA',_,_,_,hp',hcp⟩:=G8 hxs (show j<n by omega)
    cases hA'
    obtain rfl:p'=p:=by rw[hj] at hp';exact (Option.some.inj hp').symm
    clear hj hp'
    have t1:((j:Int)+1).toNat=j+1:=by omega
    have t2:IntKind.i64.wrap ((j:Int)+1-1)=j:=by rw[IntWalk.i64_in _ (by omega)];omega
    have t3:(0:Int)≤(j:Int)+1:=by omega
    have t4:(j:Int)+1<(n:Int):=by omega
    have t5:(j:Int)<(n:Int):=by omega
    by_cases hpy:p'<y
    ·go_wp2_with fail
     go_quiet ((go_at_call 48;exact Calls.AR (Aw _ _ _ _)))
     go_wp2
     go_roundw
     case rel=>exact⟨j+1+1,y,by omega,by go_num,AA,.inr ⟨j+1,rfl,Hy.out,y0⟩,by rw[BI.out,hin];simp[hpy]⟩
     case measure=>simp[intOf];omega
    ·have nY:y≤p':=by omega
     go_wp2_with fail
     go_quiet ((go_at_call 48;exact Calls.AR (Aw _ _ _ _)))
     go_wp2
     go_ret
     have hlt':decide (p'<y)=false:=by rw[decide_eq_false_iff_not];omega
     exact⟨Ar (by rw[BI.out,hin,hlt'];rfl),AA⟩
  ·have BI:=Lib.hid hrel;clear hrel hp
   go_wp2_with fail
   go_ret
   refine⟨Ar ?_,AA⟩
   have hh:=BI.out
   rw[List.drop_of_length_le (by have:=hl.out;omega)] at hh
   rw[hh];rfl
set_option maxHeartbeats 400000
theorem Jf (t:Sw.Head) (A:Option Addr) (c n:Nat) (xs:List Int) (w:World) (hxs:RI w 0 A c n xs) (hn:n≤4194304):Calls Tryz.prog 96 #[.agg #[.int .i64 t.size,.int .i64 t.log,.int .i64 t.own,.slice A n c]] w fun E w'=>∃ A' c',E=.returned (.agg #[.int .i64 t.size,.int .i64 t.log,.int .i64 t.own,.slice A' n c'])∧Ga w' w.heap.size A' c' n xs∧Ex w w':=by
 go_enter Tryz.func96,Tryz.ntmps96
 go_wp2_with fail
 (refine CF fun W0 hb0 hc0 hf0 hz0=>?_;have JR:Lb W0 (w.heap.size+1) 4:=Lb.ex (by exact Dw) hb0;go_region_held3 (fun w'=>Au (w.heap.size+1) 4 W0 w') ((exact EX)) ((apply BM (lo:=W0.heap.size) FO Dz rfl rfl rfl rfl;(exact Iy);(exact Co);omega;exact Aq;intro A1 c1 w2 ho1 Ap Bo Ay Ah;have hbx:=Ay (· = (w.heap.size+1)) W0 (Au.ch (by assumption:Au (w.heap.size+1) 4 W0 _)) (by exact Aq);have IY:=Lb.low Ah (by have:=JR.lt;omega) (Au.lb (by assumption:Au (w.heap.size+1) 4 W0 _));clear Ay Ah));all_goals (rename Au (w.heap.size+1) 4 W0 _=>FZ;have hb:=Au.ch FZ;obtain⟨hc,hf,hz⟩:=xd hb;have CJ:=Au.lb FZ;(repeat (first|with_reducible replace CJ:=Lb.G_ CJ|with_reducible replace CJ:=Lb.Fy CJ));obtain⟨hcb,M6⟩:=Lb.rules CJ;clear FZ))
 go_wp2
 refine bodyPost_ret (v:=.agg #[.int .i64 t.size,.int .i64 t.log,.int .i64 t.own,.slice A1 n c1]) (by simp[results,Tryz.results96,go_sem, *]) rfl ?_
 refine⟨A1,c1,rfl,?_,?_⟩
 ·rw[List.nil_append,Nat.zero_add] at ho1
  exact (ho1.keep (by (exact AO))).less (by omega)
 ·exact AA
theorem Mg (w:World):Calls Tryz.prog 83 #[] w fun E w'=>E=.returned (.agg #[.int .i64 ((Sw.Cw []).getD Sw.DX).size,.int .i64 ((Sw.Cw []).getD Sw.DX).log,.int .i64 ((Sw.Cw []).getD Sw.DX).own,.slice none 0 0])∧Ex w w':=by
 go_enter Tryz.func83,Tryz.ntmps83
 go_wp2_with (first|(go_at_call 134;apply Calls.mono;apply (Qq (xs:=[]));(refine Rs.new [] (by simp only[World.size_alloc]) rfl rfl (fun _=>rfl) (by omega));rintro E w1 ⟨rfl,hb⟩;obtain⟨hc,hf,hz⟩:=xy hb))
 refine bodyPost_ret (v:=.agg #[.int .i64 ((Sw.Cw []).getD Sw.DX).size,.int .i64 ((Sw.Cw []).getD Sw.DX).log,.int .i64 ((Sw.Cw []).getD Sw.DX).own,.slice none 0 0]) (by simp[results,Tryz.results83,go_sem, *]) rfl ?_
 exact⟨rfl,AA⟩
end Go.Proofs.YtgaflnpmilikcaaGreat
