/- Texts joined: Leaf, Small, Tree, Plain4, Plain5, Plain6, Plain7, RegY, Plain8, Frame, End, Plain9. -/
import Derived.Test.YtgaflnpmilikcaaGreatProg
import Derived.Test.YtgaflnpmilikcaaGreatPx3
import Derived.Test.YtgaflnpmilikcaaGreatPx4
import Derived.Test.YtgaflnpmilikcaaGreatPx1
import Derived.Carry
import Derived.WalkKit
import Derived.ProofKit
import Derived.ChangeSame
import Derived.OpenShut
import Derived.ChangeSlices
import Derived.Deep.Slices
import Derived.Test.YtgaflnpmilikcaaGreatRows
import Derived.Handed
import Derived.JoinedOf
set_option maxRecDepth 100000
set_option linter.unusedSimpArgs false
set_option linter.unusedVariables false
namespace Go.Proofs.YtgaflnpmilikcaaGreat
open Go.RowKit Go
theorem Em (a b:Int):(a==b)=decide (a=b):=rfl
theorem Ar {a b:Bool} (h:a=b):Ending.returned (.bool a)=.returned (.bool b):=by rw[h]
theorem Cv {k:IntKind} {a b:Int} (h:a=b):Ending.returned (.int k a)=.returned (.int k b):=by rw[h]
theorem ZG {k:IntKind} {a b:Int} (h:a=b):Value.int k a=.int k b:=by rw[h]
set_option maxHeartbeats 400000
theorem Cm (n lo top:Int) (w:World):Calls Tryz.prog 61 #[.int .i64 n,.int .i64 lo,.int .i64 top] w fun E w'=>E=.returned (.bool (Sw.Br n lo top))∧w=w':=by
 go_enter Tryz.func61,Tryz.ntmps61
 go_wp2
 all_goals (go_ret;refine⟨Ar (by simp[Sw.Br];omega),rfl⟩)
theorem Aw (n lo top:Int) (w:World):Calls Tryz.prog 48 #[.int .i64 n,.int .i64 lo,.int .i64 top] w fun E w'=>E=.returned (.bool (Sw.Br n lo top))∧w=w':=by
 go_enter Tryz.func48,Tryz.ntmps48
 go_wp2
 all_goals (go_ret;refine⟨Ar (by simp[Sw.Br];omega),rfl⟩)
theorem H7 (n:Int) (w:World):Calls Tryz.prog 51 #[.int .i64 n] w fun E w'=>E=.returned (.bool (Sw.BK n))∧w=w':=by
 go_enter Tryz.func51,Tryz.ntmps51
 go_wp2_with (go_at_call 61;refine (Cm _ _ _ _).mono ?_;rintro E w' ⟨rfl,rfl⟩)
 all_goals (go_ret;refine⟨Ar (by simp[Sw.BK]),rfl⟩)
theorem Gh (n:Int) (w:World):Calls Tryz.prog 109 #[.int .i64 n] w fun E w'=>E=.returned (.bool (Sw.BK n))∧w=w':=by
 go_enter Tryz.func109,Tryz.ntmps109
 go_wp2_with (go_at_call 48;refine (Aw _ _ _ _).mono ?_;rintro E w' ⟨rfl,rfl⟩)
 all_goals (go_ret;refine⟨Ar (by simp[Sw.BK]),rfl⟩)
theorem BQ (n:Int) (w:World):Calls Tryz.prog 63 #[.int .i64 n] w fun E w'=>E=.returned (.bool (Sw.Br n 0 7))∧w=w':=by
 go_enter Tryz.func63,Tryz.ntmps63
 go_wp2_with (go_at_call 61;refine (Cm _ _ _ _).mono ?_;rintro E w' ⟨rfl,rfl⟩)
 all_goals (go_ret;exact⟨rfl,rfl⟩)
theorem Y8 {a b:Int} (ha:0≤a∧a≤65520) (hb:0≤b∧b≤65520):0≤a*b∧a*b≤4292870400:=
 ⟨Int.mul_nonneg ha.1 hb.1,Int.le_trans (Int.mul_le_mul ha.2 hb.2 hb.1 (by omega)) (by decide)⟩
theorem MI {a:Int}:Sw.BK a=true↔0≤a∧a≤65520:=by simp[Sw.BK,Sw.Br]
theorem NK (a b:Int) (w:World) (ha:Sw.BK a=true) (hb:Sw.BK b=true):Calls Tryz.prog 162 #[.int .i64 a,.int .i64 b] w fun E w'=>E=.returned (.int .i64 (Sw.pair a b))∧w=w':=by
 rw[MI] at ha hb
 obtain⟨a0,a1⟩:=ha
 obtain⟨b0,b1⟩:=hb
 obtain⟨c0,c1⟩:=Y8 ⟨a0,a1⟩ ⟨b0,b1⟩
 go_enter Tryz.func162,Tryz.ntmps162
 go_wp2
 all_goals (go_ret;refine⟨Cv (by simp[Sw.pair]),rfl⟩)
theorem IG (a b:Int) (w:World):Calls Tryz.prog 193 #[.int .i64 a,.int .i64 b] w fun E w'=>E=.returned (.int .i64 (Sw.Oa a b))∧w=w':=by
 by_cases ha:Sw.BK a=true <;> by_cases hb:Sw.BK b=true
 ·have ha':=MI.1 ha
  have hb':=MI.1 hb
  obtain⟨a0,a1⟩:=ha'
  obtain⟨b0,b1⟩:=hb'
  obtain⟨c0,c1⟩:=Y8 ⟨a0,a1⟩ ⟨b0,b1⟩
  go_enter Tryz.func193,Tryz.ntmps193
  go_wp2_with (go_at_call 109;refine (Gh _ _).mono ?_;rintro E w' ⟨rfl,rfl⟩)
  all_goals (go_ret;refine⟨Cv (by simp[Sw.Oa,Sw.pair,ha,hb];omega),rfl⟩)
 all_goals
  go_enter Tryz.func193,Tryz.ntmps193
  go_wp2_with (go_at_call 109;refine (Gh _ _).mono ?_;rintro E w' ⟨rfl,rfl⟩)
  all_goals (go_ret;refine⟨Cv (by simp[Sw.Oa, *]),rfl⟩)
theorem Bw (f:Int) (w:World):Calls Tryz.prog 106 #[.int .i64 f] w fun E w'=>E=.returned (.int .i64 (Sw.C9 f))∧w=w':=by
 by_cases h:Sw.Br f 1 50=true
 ·have h':1≤f∧f≤50:=by simpa [Sw.Br] using h
  obtain⟨a,b⟩:=h'
  go_enter Tryz.func106,Tryz.ntmps106
  go_wp2_with (go_at_call 48;refine (Aw _ _ _ _).mono ?_;rintro E w' ⟨rfl,rfl⟩)
  all_goals (go_ret;refine⟨Cv (by simp[Sw.C9,h]),rfl⟩)
 ·go_enter Tryz.func106,Tryz.ntmps106
  go_wp2_with (go_at_call 48;refine (Aw _ _ _ _).mono ?_;rintro E w' ⟨rfl,rfl⟩)
  all_goals (go_ret;refine⟨Cv (by simp[Sw.C9,h]),rfl⟩)
theorem P8 (x n:Int):0≤Sw.Gm x n∧Sw.Gm x n≤65520:=by unfold Sw.Gm;omega
theorem W_ (y:Int):-65520≤y.tmod 65521∧y.tmod 65521≤65520:=by
 rw[Int.tmod_eq_emod];split <;> omega
theorem UM (x y:Int):(x*4099+y.tmod 65521%65521+11)%65521=Sw.Gm x y:=by
 unfold Sw.Gm
 rw[Int.tmod_eq_emod];split <;> omega
theorem NH (A:Option Addr) (c n:Nat) (xs:List Int) (w:World) (h:RI w 0 A c n xs) (hn:n≤4194304):Calls Tryz.prog 212 #[.slice A n c] w fun E w'=>E=.returned (.int .i64 (Sw.JH xs))∧w=w':=by
 have hl:=Lib.hid h.1
 go_enter Tryz.func212,Tryz.ntmps212
 go_wp2
 go_loop [3,4] (fun m i=>∃ (k:Nat) (x:Int),k≤n∧i=.int .i64 k∧m=.int .i64 x∧0≤x∧x≤65520∧Sw.Gl 7 xs=Sw.Gl x (xs.drop k)) (fun _ i=>n-(intOf i).toNat)
 case atStart=>exact⟨0,7,Nat.zero_le _,rfl,rfl,by omega,by omega,rfl⟩
 case round=>
  obtain⟨k,x,hk,rfl,rfl,x0,x1,hrel⟩:=hrel
  by_cases hlt:k<n
  ·obtain⟨g,off,y,rfl,hg0,hg,hd,hy,hc⟩:=G8 h hlt
   rw[hd] at hrel
   clear hd hy
   have BI:=Lib.hid hrel;clear hrel
   obtain⟨y0,y1⟩:=W_ y
   have hbd:=P8 x y
   go_wp2
   go_round
   case rel=>exact⟨k+1,Sw.Gm x y,by omega,by go_num,ZG (UM x y),hbd.1,hbd.2,BI.out⟩
   case measure=>simp[intOf];omega
  ·have BI:=Lib.hid hrel;clear hrel
   go_wp2
   go_ret
   refine⟨Cv ?_,rfl⟩
   have:=BI.out
   rw[List.drop_of_length_le (by have:=hl.out;omega)] at this
   unfold Sw.JH
   rw[this,hl.out]
   rfl
set_option maxHeartbeats 400000
theorem VZ (e:Sw.FC) (w:World):Calls Tryz.prog 194 #[.agg #[.int .i64 e.kind,.int .i64 e.ticket,.int .i64 e.who,.int .i64 e.Al]] w fun E w'=>E=.returned (.int .i64 (Sw.EF e))∧Ex w w':=by
 go_enter Tryz.func194,Tryz.ntmps194
 go_wp2_with (go_at_call 212;apply Calls.mono;apply (NH (xs:=[e.kind,e.ticket,e.who,e.Al]));(refine Rs.new _ (by simp only[BO]) rfl rfl (fun _=>rfl) (by omega));omega;rintro E w' ⟨rfl,rfl⟩)
 go_ret
 exact⟨rfl,((Ch.refl _ _).alloc _).alloc _⟩
theorem Qn (t:Int) (r:Sw.Row) (w:World):Calls Tryz.prog 208 #[.int .i64 t,.agg #[.int .i64 r.who,.int .i64 r.EY,.bool r.used]] w fun E w'=>E=.returned (.int .i64 (Sw.FM t r))∧Ex w w':=by
 by_cases h:Sw.Br t 0 7=true
 ·have h':0≤t∧t≤7:=by simpa [Sw.Br] using h
  obtain⟨t0,t1⟩:=h'
  cases hu:r.used
  ·go_enter Tryz.func208,Tryz.ntmps208
   go_wp2_with (first|(go_at_call 48;refine (Aw _ _ _ _).mono ?_;rintro E w' ⟨rfl,rfl⟩)|(go_at_call 212;apply Calls.mono;apply (NH (xs:=[1000+t,r.who,r.EY,0]));(refine Rs.new _ (by simp only[BO]) rfl rfl (fun _=>rfl) (by omega));omega;rintro E w' ⟨rfl,rfl⟩))
   go_ret
   exact⟨Cv (by simp[Sw.FM,h,hu]),((Ch.refl _ _).alloc _).alloc _⟩
  ·go_enter Tryz.func208,Tryz.ntmps208
   go_wp2_with (first|(go_at_call 48;refine (Aw _ _ _ _).mono ?_;rintro E w' ⟨rfl,rfl⟩)|(go_at_call 212;apply Calls.mono;apply (NH (xs:=[1000+t,r.who,r.EY,1]));(refine Rs.new _ (by simp only[BO]) rfl rfl (fun _=>rfl) (by omega));omega;rintro E w' ⟨rfl,rfl⟩))
   go_ret
   exact⟨Cv (by simp[Sw.FM,h,hu]),((Ch.refl _ _).alloc _).alloc _⟩
 ·go_enter Tryz.func208,Tryz.ntmps208
  go_wp2_with (go_at_call 48;refine (Aw _ _ _ _).mono ?_;rintro E w' ⟨rfl,rfl⟩)
  go_ret
  exact⟨Cv (by simp[Sw.FM,h]),(Ch.refl _ _).alloc _⟩
theorem Ii (e:Sw.FC) (w:World):Calls Tryz.prog 209 #[.agg #[.int .i64 e.kind,.int .i64 e.ticket,.int .i64 e.who,.int .i64 e.Al]] w fun E w'=>E=.returned (.bool (Sw.GI e))∧Ex w w':=by
 go_enter Tryz.func209,Tryz.ntmps209
 go_wp2_with (first|(go_at_call 48;refine (Aw _ _ _ _).mono ?_;rintro E w' ⟨rfl,rfl⟩)|(go_at_call 106;refine (Bw _ _).mono ?_;rintro E w' ⟨rfl,rfl⟩))
 all_goals (try (refine CF fun W0 hb0 hc0 hf0 hz0=>?_;go_region_held3 (fun w'=>Held W0 w') ((exact FU)) ((first|(go_at_call 48;refine (Aw _ _ _ _).mono ?_;rintro E w' ⟨rfl,rfl⟩)|(go_at_call 106;refine (Bw _ _).mono ?_;rintro E w' ⟨rfl,rfl⟩)));all_goals (obtain⟨hb,hc,hf,hz⟩:=xh (by assumption:Held W0 _))))
 go_wp2
 all_goals (go_ret;refine⟨Ar ?_,(by first|rfl|exact AA)⟩;go_tidy;(try simp only[Bool.not_eq_true',Bool.not_eq_false',Bool.not_eq_true,Bool.not_eq_false,beq_iff_eq,bne_iff_ne,ne_eq,beq_eq_false_iff_ne,bne_eq_false_iff_eq] at *);(first|rfl|(simp[Sw.GI,Sw.C9,show Sw.Br 50 1 50=true from by decide, *];done)|(simp[Sw.GI,Sw.C9,show Sw.Br 50 1 50=true from by decide, *];omega)|(simp[Sw.GI,Sw.C9,show Sw.Br 50 1 50=true from by decide,Em, *];done)|(simp_all [Sw.GI,Sw.C9,show Sw.Br 50 1 50=true from by decide,Em];done)|(simp_all [Sw.GI,Sw.C9,show Sw.Br 50 1 50=true from by decide,Em] <;> omega)|simp_all [Sw.GI,Sw.C9,show Sw.Br 50 1 50=true from by decide,Em]))
theorem F9 (t:Sw.Head) (w:World):Calls Tryz.prog 49 #[.agg #[.int .i64 t.size,.int .i64 t.log,.int .i64 t.own]] w fun E w'=>E=.returned (.bool (Sw.E9 t))∧Ex w w':=by
 go_enter Tryz.func49,Tryz.ntmps49
 go_wp2_with (first|(go_at_call 48;refine (Aw _ _ _ _).mono ?_;rintro E w' ⟨rfl,rfl⟩)|(go_at_call 109;refine (Gh _ _).mono ?_;rintro E w' ⟨rfl,rfl⟩))
 all_goals (go_ret;refine⟨Ar (by simp[Sw.E9, *]),(Ch.refl _ _).alloc _⟩)
theorem Ip (t:Sw.Head) (w:World):Calls Tryz.prog 22 #[.agg #[.int .i64 t.size,.int .i64 t.log,.int .i64 t.own]] w fun E w'=>E=.returned (.bool (Sw.E9 t))∧Ex w w':=by
 go_enter Tryz.func22,Tryz.ntmps22
 go_wp2_with (first|(go_at_call 61;refine (Cm _ _ _ _).mono ?_;rintro E w' ⟨rfl,rfl⟩)|(go_at_call 51;refine (H7 _ _).mono ?_;rintro E w' ⟨rfl,rfl⟩))
 all_goals (go_ret;refine⟨Ar (by simp[Sw.E9, *]),(Ch.refl _ _).alloc _⟩)
theorem Ig (A:Option Addr) (c n:Nat) (xs:List Int) (w:World) (h:RI w 0 A c n xs):Calls Tryz.prog 50 #[.slice A n c] w fun E w'=>E=.returned (.bool (Sw.DW xs))∧w=w':=by
 have hl:=Lib.hid h.1
 have hm:n≤9223372036854775807:=by have:=h.2.le;have:=h.2.cap;unfold maxLen at this;omega
 by_cases hn:n≤40
 ·have hb:decide (40<n)=false:=by simp;omega
  go_enter Tryz.func50,Tryz.ntmps50
  go_wp2
  go_loop [3] (fun i=>∃ k:Nat,k≤n∧i=.int .i64 k∧xs.all Sw.BK=(xs.drop k).all Sw.BK) (fun i=>n-(intOf i).toNat)
  case atStart=>exact⟨0,Nat.zero_le _,rfl,rfl⟩
  case round=>
   obtain⟨k,hk,rfl,hrel⟩:=hrel
   by_cases hlt:k<n
   ·obtain⟨g,off,y,rfl,hg0,hg,hd,hy,hc⟩:=G8 h hlt
    rw[hd] at hrel
    clear hd hy
    have BI:=Lib.hid hrel;clear hrel
    go_wp2_with (go_at_call 109;refine (Gh _ _).mono ?_;rintro E w' ⟨rfl,rfl⟩)
    all_goals (first|(refine⟨⟨k+1,by omega,by go_num,?_⟩,by simp[intOf];omega⟩;have hh:=BI.out;clear BI;rw[List.all_cons] at hh;rw[hh];clear hh;go_tidy;(try simp only[Bool.not_eq_true',Bool.not_eq_false',Bool.not_eq_true,Bool.not_eq_false,beq_iff_eq,bne_iff_ne,ne_eq,beq_eq_false_iff_ne,bne_eq_false_iff_eq] at *);have hp:Sw.BK y=true:=(by (first|(simp[Sw.BK, *];done)|(simp[Sw.BK, *];omega)|(simp[Sw.BK, *];intros;simp_all;done)|(simp_all [Sw.BK];done)));simp[hp])|(go_ret;refine⟨Ar ?_,rfl⟩;have hh:=BI.out;clear BI;rw[List.all_cons] at hh;unfold Sw.DW;rw[hh];clear hh;go_tidy;(try simp only[Bool.not_eq_true',Bool.not_eq_false',Bool.not_eq_true,Bool.not_eq_false,beq_iff_eq,bne_iff_ne,ne_eq,beq_eq_false_iff_ne,bne_eq_false_iff_eq] at *);have hp:Sw.BK y=false:=(by (first|(simp[Sw.BK, *];done)|(simp[Sw.BK, *];omega)|(simp[Sw.BK, *];intros;simp_all;done)|(simp_all [Sw.BK];done)));simp[hp]))
   ·have BI:=Lib.hid hrel;clear hrel
    go_wp2
    go_ret
    refine⟨Ar ?_,rfl⟩
    have:=BI.out
    rw[List.drop_of_length_le (by have:=hl.out;omega)] at this
    rw[Sw.DW,this,← hl.out]
    simp[hn]
 ·go_enter Tryz.func50,Tryz.ntmps50
  go_wp2
  go_ret
  refine⟨Ar ?_,rfl⟩
  rw[Sw.DW,← hl.out]
  simp[hn]
set_option maxHeartbeats 400000
theorem Tj {n j:Nat} (h1:2 ^ j<n) (h2:n≤2*2 ^ j):Sw.split n=2 ^ j:=by
 unfold Sw.split
 have:(n-1).log2=j:=(Nat.log2_eq_iff (by omega)).2 ⟨by omega,by rw[Nat.pow_succ];omega⟩
 rw[this]
theorem FK (n:Nat) (w:World) (h2:2≤n) (QF:n≤40):Calls Tryz.prog 192 #[.int .i64 n] w fun E w'=>E=.returned (.int .i64 (Sw.split n))∧w=w':=by
 have hin:Sw.Br n 2 40=true:=by simp[Sw.Br];omega
 go_enter Tryz.func192,Tryz.ntmps192
 go_wp2_with (go_at_call 48;refine (Aw _ _ _ _).mono ?_;rintro E w' ⟨rfl,rfl⟩)
 go_loop [3] (fun k=>∃ p:Nat,k=.int .i64 p∧(∃ j,p=2 ^ j)∧1≤p∧p<n) (fun k=>n-(intOf k).toNat)
 case atStart=>exact⟨1,rfl,⟨0,rfl⟩,by omega,by omega⟩
 case round=>
  obtain⟨p,rfl,hj,hp1,hpn⟩:=hrel
  have Hj:=Lib.hid hj;clear hj
  by_cases hlt:2*p<n
  ·go_wp2
   go_round
   case rel=>exact⟨2*p,by go_num,by obtain⟨j,rfl⟩:=Hj.out;exact⟨j+1,by rw[Nat.pow_succ];omega⟩,by omega,hlt⟩
   case measure=>simp[intOf];omega
  ·go_wp2
   go_ret
   obtain⟨j,rfl⟩:=Hj.out
   exact⟨Cv (by rw[Tj hpn (by omega)]),rfl⟩
theorem Io (n:Nat) (w:World) (h2:2≤n) (QF:n≤40):Calls Tryz.prog 161 #[.int .i64 n] w fun E w'=>E=.returned (.int .i64 (Sw.split n))∧w=w':=by
 go_enter Tryz.func161,Tryz.ntmps161
 go_wp2
 go_loop [3] (fun k=>∃ p:Nat,k=.int .i64 p∧(∃ j,p=2 ^ j)∧1≤p∧p<n) (fun k=>n-(intOf k).toNat)
 case atStart=>exact⟨1,rfl,⟨0,rfl⟩,by omega,by omega⟩
 case round=>
  obtain⟨p,rfl,hj,hp1,hpn⟩:=hrel
  have Hj:=Lib.hid hj;clear hj
  by_cases hlt:2*p<n
  ·go_wp2
   go_round
   case rel=>exact⟨2*p,by go_num,by obtain⟨j,rfl⟩:=Hj.out;exact⟨j+1,by rw[Nat.pow_succ];omega⟩,by omega,hlt⟩
   case measure=>simp[intOf];omega
  ·go_wp2
   go_ret
   obtain⟨j,rfl⟩:=Hj.out
   exact⟨Cv (by rw[Tj hpn (by omega)]),rfl⟩
theorem Rs.take {α:Type} {enc:α→List Value} {sz:Nat} {w:World} {lo c n:Nat} {A:Option Addr} {xs:List α} (h:Rs enc sz w lo A c n xs) (hsz:∀ x,(enc x).length=sz) {k:Nat} (hk:k≤n) :
  Rs enc sz w lo A c k (xs.take k):=by
 obtain⟨rfl,h⟩:=h
 have hf:∀ (xs:List α) (k:Nat),k≤xs.length→(xs.take k).flatMap enc=(xs.flatMap enc).take (k*sz):=by
  intro xs
  induction xs with
  | nil=>intro k hk;simp
  | cons x xs ih=>
   intro k hk
   cases k with
   | zero=>simp
   | succ k=>
    simp only[List.take_succ_cons,List.flatMap_cons]
    have hx:(enc x).length≤(k+1)*sz:=by rw[hsz,Nat.succ_mul];omega
    rw[ih k (by simpa using hk),List.take_append,List.take_of_length_le hx,hsz]
    rw[show (k+1)*sz-sz=k*sz from by rw[Nat.succ_mul];omega]
 have hl:((xs.take k).flatMap enc).length=k*sz:=by
  rw[hf xs k hk,List.length_take,h.len]
  exact Nat.min_eq_left (Nat.mul_le_mul_right _ hk)
 refine⟨by simp;omega,hl,Nat.le_trans hk h.le,h.cap,h.nil,fun a ha hk0=>?_⟩
 obtain⟨h1,h2,h3,h4⟩:=h.cells a ha (by omega)
 refine⟨h1,h2,h3,fun j u hu=>h4 j u ?_⟩
 rw[hf xs k hk,List.getElem?_take] at hu
 split at hu
 ·exact hu
 ·cases hu
theorem Rs.drop {α:Type} {enc:α→List Value} {sz:Nat} {w:World} {lo c n:Nat} {A:Option Addr} {xs:List α} (h:Rs enc sz w lo A c n xs) (hsz:∀ x,(enc x).length=sz) {k:Nat} (hk:k≤n) :
  Rs enc sz w lo (if c=k then A else A.map (·.add (k*sz))) (c-k) (n-k) (xs.drop k):=by
 obtain⟨rfl,h⟩:=h
 have hf:∀ (xs:List α) (k:Nat),k≤xs.length→(xs.drop k).flatMap enc=(xs.flatMap enc).drop (k*sz):=by
  intro xs
  induction xs with
  | nil=>intro k hk;simp
  | cons x xs ih=>
   intro k hk
   cases k with
   | zero=>simp
   | succ k=>
    simp only[List.drop_succ_cons,List.flatMap_cons]
    have hx:(enc x).length≤(k+1)*sz:=by rw[hsz,Nat.succ_mul];omega
    rw[ih k (by simpa using hk),List.drop_append,List.drop_of_length_le hx,hsz]
    rw[show (k+1)*sz-sz=k*sz from by rw[Nat.succ_mul];omega]
    simp
 have hl:((xs.drop k).flatMap enc).length=(xs.length-k)*sz:=by
  rw[hf xs k hk,List.length_drop,h.len,Nat.sub_mul]
 have hle:=h.le
 refine⟨by simp,hl,by omega,Nat.le_trans (Nat.sub_le _ _) h.cap,fun hA=>?_,fun a ha hn0=>?_⟩
 ·cases A with
  | none=>have:=h.nil rfl;omega
  | some a=>by_cases hck:c=k <;> simp[hck] at hA
 ·by_cases hc:c=k
  ·omega
  ·rw[if_neg hc] at ha
   cases A with
   | none=>simp at ha
   | some a0=>
    obtain⟨g,off,spot⟩:=a0
    obtain⟨h1,h2,h3,h4⟩:=h.cells _ rfl (by omega)
    dsimp only at h1 h2 h3 h4
    subst h1
    simp only[Option.map_some,Addr.add_lit] at ha
    obtain rfl:=Option.some.inj ha
    refine⟨rfl,h2,h3,fun j u hu=>?_⟩
    rw[hf xs k hk,List.getElem?_drop] at hu
    have:=h4 _ u hu
    rw[← Nat.add_assoc] at this
    exact this
theorem Iw {w:World} {lo c n k:Nat} {A:Option Addr} {xs:List Int} (h:RI w lo A c n xs) (hk:k<n):RI w lo (A.map (fun x=>x.add k)) (c-k) (n-k) (xs.drop k):=by
 have:=Rs.drop h (fun _=>rfl) (Nat.le_of_lt hk)
 rw[if_neg (by have:=h.2.le;omega)] at this
 simpa using this
theorem E8 {w:World} {lo c n k:Nat} {A:Option Addr} {xs:List Int} (h:RI w lo A c n xs) (hk:k≤n):RI w lo A c k (xs.take k):=Rs.take h (fun _=>rfl) hk
theorem Tz {xs:List Int} (h:2≤xs.length):Sw.root xs=Sw.pair (Sw.root (xs.take (Sw.split xs.length))) (Sw.root (xs.drop (Sw.split xs.length))):=by
 match xs,h with
 | x::y::r,_=>rw[Sw.root];rfl
theorem List.Dr {p:Int→Bool} {xs:List Int} {k:Nat} (h:xs.all p=true):(xs.take k).all p=true:=by
 rw[List.all_eq_true] at *;exact fun x hx=>h x (List.mem_of_mem_take hx)
theorem List.Ey {p:Int→Bool} {xs:List Int} {k:Nat} (h:xs.all p=true):(xs.drop k).all p=true:=by
 rw[List.all_eq_true] at *;exact fun x hx=>h x (List.mem_of_mem_drop hx)
theorem KL (a b:Int):Sw.BK (Sw.pair a b)=true:=by
 rw[MI];unfold Sw.pair
 exact⟨Int.emod_nonneg _ (by omega),by have:=Int.emod_lt_of_pos (a*8191+b*127+a*b+31) (show (0:Int)<65521 by omega);omega⟩
theorem QW:∀ (xs:List Int),xs.all Sw.BK=true→Sw.BK (Sw.root xs)=true
 | [],_=>by simp[Sw.root];decide
 | [x],h=>by simpa [Sw.root] using h
 | x::y::r,_=>by rw[Sw.root];exact KL _ _
theorem I_ {a b:Int} (ha:Sw.BK a=true) (hb:Sw.BK b=true):Sw.Oa a b=Sw.pair a b:=by simp[Sw.Oa,ha,hb]
theorem LF (N:Nat) (A:Option Addr) (c n:Nat) (xs:List Int) (w:World) (hN:n≤N) (hxs:RI w 0 A c n xs) (QF:n≤40) (hok:xs.all Sw.BK=true):Calls Tryz.prog 166 #[.slice A n c] w fun E w'=>E=.returned (.int .i64 (Sw.root xs))∧Ex w w':=by
 induction N generalizing A c n xs w with
 | zero=>
  have hl:=hxs.1
  obtain rfl:n=0:=by omega
  have hx:xs=[]:=List.eq_nil_of_length_eq_zero (by omega)
  subst hx
  clear hl
  go_enter Tryz.func166,Tryz.ntmps166
  go_wp2_with fail
  go_ret
  exact⟨Cv (by simp[Sw.root]),Ch.refl _ _⟩
 | succ N ih=>
  have hl:=Lib.hid hxs.1
  have hcap:=hxs.2.le
  by_cases h0:n=0
  ·subst h0
   have hx:xs=[]:=List.eq_nil_of_length_eq_zero (by have:=hl.out;omega)
   subst hx
   go_enter Tryz.func166,Tryz.ntmps166
   go_wp2_with fail
   go_ret
   exact⟨Cv (by simp[Sw.root]),Ch.refl _ _⟩
  by_cases h1:n=1
  ·subst h1
   obtain⟨g,off,y,rfl,hg0,hg,hd,hy,hc⟩:=G8 hxs (show 0<1 by omega)
   have hx:xs=[y]:=by
    have:=hl.out
    match xs,this,hy with
    | [z],_,hy=>simpa using hy
   subst hx
   clear hd hy
   simp only[Nat.add_zero] at hc
   go_enter Tryz.func166,Tryz.ntmps166
   go_wp2_with fail
   go_ret
   exact⟨Cv (by simp[Sw.root]),Ch.refl _ _⟩
  have h2:2≤n:=by omega
  have hb0:decide (n=0)=false:=by simp[h0]
  have hb1:decide (n=1)=false:=by simp[h1]
  have hs1:=Sw.FJ h2
  have hs0:=Sw.EL n
  have z3:¬(c=Sw.split n):=by omega
  have z0:(0:Int)≤↑(Sw.split n):=by omega
  have z1:(↑(Sw.split n):Int)≤↑n:=by omega
  have z2:(↑(Sw.split n):Int)≤↑c:=by omega
  go_enter Tryz.func166,Tryz.ntmps166
  go_wp2_with (go_at_call 192;apply Calls.mono;apply FK;(exact Bu);(exact Bu);rintro E w' ⟨rfl,rfl⟩)
  (refine CF fun W0 hb0 hc0 hf0 hz0=>?_;go_region_held3 (fun w'=>Held W0 w') ((exact FU)) ((first|(go_at_call 166;apply Calls.mono;apply ih;omega;(first|(apply Rs.A8;apply E8 hxs;omega;(exact AO))|(apply Rs.A8;apply Iw hxs;omega;(exact AO)));omega;(first|exact List.Dr hok|exact List.Ey hok);rintro E w1 ⟨rfl,hb⟩)|(go_at_call 193;refine (IG _ _ _).mono ?_;rintro E w' ⟨rfl,rfl⟩)));all_goals (obtain⟨hb,hc,hf,hz⟩:=xh (by assumption:Held W0 _)))
  go_wp2
  go_ret
  refine⟨Cv ?_,AA⟩
  have e:=Tz (xs:=xs) (by have:=hl.out;omega)
  rw[← hl.out] at e
  rw[I_ (QW _ (List.Dr hok)) (QW _ (List.Ey hok)),e]
end Go.Proofs.YtgaflnpmilikcaaGreat
namespace Go.Proofs.YtgaflnpmilikcaaGreat.Sw
open Go.RowKit (wrap64)
inductive Kh (m:CV) (rows:List Row) (r:Ee):CV→Prop
 | issue:r.kind=1→r.user=1→r.who≠1→(rowAt rows r.ticket).who=0→m.log.length<40→C8 m.Ai r.who 1 r.Al=true →
   Kh m rows r { m with Ai:=turned (turned m.Ai r.who (-r.Al)) 1 r.Al,log:=m.log ++ [⟨1,r.ticket,r.who,r.Al⟩] }
 | offer:r.kind=2→(rowAt rows r.ticket).who=r.user→BH m.AJ r.ticket=none→(rowAt rows r.ticket).used=false→r.Al≤C9 (rowAt rows r.ticket).EY →
   Kh m rows r { m with AJ:=CL ⟨r.ticket,r.user,r.Al,0,0⟩ m.AJ }
 | drop (k:Nat) (d:BC):r.kind=3→(rowAt rows r.ticket).who=r.user→BH m.AJ r.ticket=some k→m.AJ[k]?=some d→d.ticket=r.ticket→held d=false →
   Kh m rows r { m with AJ:=m.AJ.eraseIdx k }
 | Gf (k:Nat) (d:BC):r.kind=4→BH m.AJ r.ticket=some k→m.AJ[k]?=some d→d.ticket=r.ticket→held d=false→d.BP≠r.user→Bz m.Ai r.user (-d.Al)=true →
   Kh m rows r { m with Ai:=turned m.Ai r.user (-d.Al),AJ:=m.AJ.set k { d with BN:=r.user,due:=m.clock+5 } }
 | settle (k:Nat) (d:BC):r.kind=5→BH m.AJ r.ticket=some k→m.AJ[k]?=some d→d.ticket=r.ticket→held d=true→d.BP=r.user→m.log.length<40→Bz m.Ai d.BP d.Al=true →
   Kh m rows r { m with Ai:=turned m.Ai d.BP d.Al,log:=m.log ++ [⟨2,r.ticket,d.BN,d.Al⟩],AJ:=m.AJ.eraseIdx k }
 | enter:r.kind=6→(rowAt rows r.ticket).who=r.user→(rowAt rows r.ticket).used=false→BH m.AJ r.ticket=none→m.log.length<40 →
   Kh m rows r { m with log:=m.log ++ [⟨3,r.ticket,r.user,0⟩] }
theorem VT {m:CV} {rows:List Row} (h:IL m rows) {k:Nat} {d:BC} (hd:m.AJ[k]?=some d) (hh:held d=true):Bz m.Ai d.BP d.Al=true:=by
 have hdo:=CZ.1 (h.AJ.get hd)
 refine NF h.Rp hdo.2.1 (by have:=hdo.2.2.2.2.1;omega) ?_
 have h4:=h.sum
 have h5:=H_ hd
 have h6:=(JB (h.AJ.sub (List.eraseIdx_sublist m.AJ k)).1).1
 have:EC d=d.Al:=by simp[EC,hh]
 omega
theorem QI {m:CV} {rows:List Row} {r:Ee} (h:IL m rows) (hr:CR r=true):((effect m r).2≠1∧(effect m r).1=m)∨((effect m r).2=1∧Kh m rows r (effect m r).1):=by
 have hr:=EB.1 hr
 have X8:=(B_.1 h.fold).1
 unfold effect
 rw[Cu h.fold]
 by_cases k1:r.kind=1
 ·rw[if_pos k1]
  unfold issue
  split
  ·exact .inl ⟨by simp,rfl⟩
  split
  ·exact .inl ⟨by simp,rfl⟩
  split
  ·exact .inl ⟨by simp,rfl⟩
  split
  ·rename_i h1 h2 h3 h4
   exact .inr ⟨rfl,.issue k1 (by omega) (by omega) (by omega) (by omega) h4⟩
  ·exact .inl ⟨by simp,rfl⟩
 rw[if_neg k1]
 by_cases k2:r.kind=2
 ·rw[if_pos k2]
  unfold offer
  split
  ·exact .inl ⟨by simp,rfl⟩
  split
  ·exact .inl ⟨by simp,rfl⟩
  split
  ·exact .inl ⟨by simp,rfl⟩
  ·rename_i h1 h2 h3
   simp only[not_or,Bool.not_eq_true] at h2
   exact .inr ⟨rfl,.offer k2 (by simpa using h1) (QX h2.1) h2.2 (by omega)⟩
 rw[if_neg k2]
 by_cases k3:r.kind=3
 ·rw[if_pos k3]
  unfold ED
  split
  ·exact .inl ⟨by simp,rfl⟩
  rename_i h1
  split
  ·exact .inl ⟨by simp,rfl⟩
  rename_i k hk
  obtain⟨d,hd,ht⟩:=Dc hk
  rw[CP hd]
  split
  ·exact .inl ⟨by simp,rfl⟩
  ·exact .inr ⟨rfl,.drop k d k3 (by simpa using h1) hk hd ht (by simpa using ‹¬held d=true›)⟩
 rw[if_neg k3]
 by_cases k4:r.kind=4
 ·rw[if_pos k4]
  unfold Gf
  split
  ·exact .inl ⟨by simp,rfl⟩
  rename_i k hk
  obtain⟨d,hd,ht⟩:=Dc hk
  rw[CP hd]
  split
  ·exact .inl ⟨by simp,rfl⟩
  split
  ·exact .inl ⟨by simp,rfl⟩
  split
  ·exact .inr ⟨rfl,.Gf k d k4 hk hd ht (by simpa using ‹¬held d=true›) ‹_› ‹_›⟩
  ·exact .inl ⟨by simp,rfl⟩
 rw[if_neg k4]
 by_cases k5:r.kind=5
 ·rw[if_pos k5]
  unfold settle
  split
  ·exact .inl ⟨by simp,rfl⟩
  rename_i k hk
  obtain⟨d,hd,ht⟩:=Dc hk
  rw[CP hd]
  split
  ·exact .inl ⟨by simp,rfl⟩
  split
  ·exact .inl ⟨by simp,rfl⟩
  split
  ·exact .inl ⟨by simp,rfl⟩
  ·rename_i h1 h2 h3
   have hh:held d=true:=by simpa using h1
   have hm:=VT h hd hh
   refine .inr ⟨rfl,?_⟩
   rw[show Dy m.Ai d.BP d.Al=turned m.Ai d.BP d.Al from by simp[Dy,hm]]
   exact .settle k d k5 hk hd ht hh (by simpa using h2) (by omega) hm
 rw[if_neg k5]
 unfold enter
 split
 ·exact .inl ⟨by simp,rfl⟩
 split
 ·exact .inl ⟨by simp,rfl⟩
 split
 ·exact .inl ⟨by simp,rfl⟩
 ·rename_i h1 h2 h3
  simp only[not_or,Bool.not_eq_true] at h2
  exact .inr ⟨rfl,.enter (by omega) (by simpa using h1) h2.1 (QX h2.2) (by omega)⟩
theorem Vm {l:List Int} {u v x:Int} (h5:l.length=5) (hu:1≤u∧u≤5) (hv:1≤v):lastOf (l.set (u-1).toNat x) v=if v=u then x else lastOf l v:=by
 unfold lastOf
 rw[List.getD_eq_getElem?_getD,List.getElem?_set]
 by_cases h:v=u
 ·subst h
  rw[if_pos rfl,if_pos (by omega),if_pos rfl];rfl
 ·rw[if_neg (by omega),if_neg h,List.getD_eq_getElem?_getD]
theorem Sn {m:CV} {rows:List Row} (h:IL m rows) {u:Int} (hu:1≤u∧u≤5):J6 (lastOf m.nums u) (lastOf m.said u)=true:=by
 have hn:=h.NL
 have hs:=h.Rv
 obtain⟨a,ha⟩:∃ a,m.nums[(u-1).toNat]?=some a:=⟨_,List.getElem?_eq_getElem (by omega)⟩
 obtain⟨b,hb⟩:∃ b,m.said[(u-1).toNat]?=some b:=⟨_,List.getElem?_eq_getElem (by omega)⟩
 unfold lastOf
 rw[CP ha,CP hb]
 exact (J5 (by rw[hn,hs])).1 h.nums _ _ _ ha hb
theorem Zz {m:CV} {rows:List Row} {r:Ee} (h:IL m rows) (hr:CR r=true):(EZ m r).1.log=m.log∨∃ e,(EZ m r).1.log=m.log ++ [e]:=by
 unfold EZ
 split
 ·exact .inl rfl
 split
 ·exact .inl rfl
 ·show (effect m r).1.log=m.log∨∃ e,(effect m r).1.log=m.log ++ [e]
  rcases QI h hr with⟨_,e⟩ | ⟨_,d⟩
  ·exact .inl (by rw[e])
  ·generalize (effect m r).1=x at d
   cases d
   ·exact .inr ⟨_,rfl⟩
   ·exact .inl rfl
   ·exact .inl rfl
   ·exact .inl rfl
   ·exact .inr ⟨_,rfl⟩
   ·exact .inr ⟨_,rfl⟩
end Go.Proofs.YtgaflnpmilikcaaGreat.Sw
namespace Go.Proofs.YtgaflnpmilikcaaGreat.Sw
open Go.RowKit (wrap64)
theorem dA:CR Eu=false:=rfl
def Of (log:List FC) (h:Head):Prop:=J_ log h.size=some h
theorem WO {log:List FC} {s:Int} {h:Head}:J_ log s=some h↔(0≤s∧s≤log.length)∧Cw (log.take s.toNat)=some h:=by
 unfold J_
 split
 ·rename_i hc;rw[BB] at hc;simp[hc]
 ·rename_i hc
  have:¬(0≤s∧s≤log.length):=fun h=>hc (BB.2 h)
  simp[this]
theorem TH {log:List FC} {s:Int} (es:List FC) (h:0≤s∧s≤log.length):J_ (log ++ es) s=J_ log s:=by
 unfold J_
 rw[if_pos (BB.2 h),if_pos (BB.2 (by rw[List.length_append];omega)),List.take_append_of_le_length (by omega)]
theorem Of.append {log:List FC} {h:Head} (e:Of log h) (es:List FC):Of (log ++ es) h:=by
 unfold Of at *
 rw[TH es (WO.1 e).1,e]
structure Inv (first:List Int) (w:World):Prop where
 ok:Iu w
 isFirst:w.first=first
 fold:Cr first w.lines=some w.AB
 UH:total w.AB=first.sum
 AV:∀ g∈w.AV,Of w.AB.log g.head
 BS:∀ x∈w.BS,Of w.AB.log x.head
theorem Inv.rows {first:List Int} {w:World} (h:Inv first w):∃ rows,IL w.AB rows:=BU.1 h.ok.Dt
end Go.Proofs.YtgaflnpmilikcaaGreat.Sw
namespace Go.Proofs.YtgaflnpmilikcaaGreat.Sw
open Go.RowKit (wrap64)
theorem ML:∀ (rows:List Row) (t:Int),(D6 t rows).length=rows.length
 | [],_=>rfl
 | r::rs,t=>by simp[D6,ML rs]
theorem Ka (rows:List Row):(C_ rows).length=rows.length:=ML rows 0
end Go.Proofs.YtgaflnpmilikcaaGreat.Sw
namespace Go.Proofs.YtgaflnpmilikcaaGreat.Sw
open Go.RowKit (wrap64)
inductive mo (m:CV) (rows:List Row) (r:Ee):CV→Int→Prop
 | again:r.n=lastOf m.nums r.user→mo m rows r m (lastOf m.said r.user)
 | old:r.n<lastOf m.nums r.user→mo m rows r m 7
 | no (a:Int):lastOf m.nums r.user<r.n→2≤a→a≤6→mo m rows r (Il m r a) a
 | yes (x:CV):lastOf m.nums r.user<r.n→Kh m rows r x→Eff m x→mo m rows r (Il x r 1) 1
theorem did {m:CV} {rows:List Row} {r:Ee} (h:IL m rows) (hr:CR r=true):mo m rows r (EZ m r).1 (EZ m r).2:=by
 unfold EZ
 split
 ·exact .again ‹_›
 split
 ·exact .old ‹_›
 ·have ha:=Ri m r
  have he:=OO h hr
  show mo m rows r (Il (effect m r).1 r (effect m r).2) (effect m r).2
  rcases QI h hr with⟨h1,h2⟩ | ⟨h1,h2⟩
  ·rw[h2]
   exact .no _ (by omega) (by omega) (by omega)
  ·rw[h1]
   exact .yes _ (by omega) h2 he
theorem VC {ds:List BC} {t:Int}:La ds t=none↔∀ d∈ds,d.ticket≠t:=by
 unfold La
 rw[List.find?_eq_none]
 simp
theorem Kh.fold {m x:CV} {rows:List Row} {r:Ee} (h:IL m rows) (hr:CR r=true) (d:Kh m rows r x) :
  ∃ rows',Bq x.log=some rows'∧∀ t,0≤t→t≠r.ticket→rowAt rows' t=rowAt rows t:=by
 have hr:=EB.1 hr
 have ho:=Bv h.fold
 have put:∀ (e:FC),e.ticket=r.ticket→Bn rows e=true→m.log.length<40→∃ rows',Bq (m.log ++ [e])=some rows'∧∀ t,0≤t→t≠r.ticket→rowAt rows' t=rowAt rows t:=by
  intro e he hf hl
  refine⟨_,Ik h.fold hl hf,fun t h0 ht=>?_⟩
  rw[Jr (Ct ho) (by rw[he];exact hr.2.2.2.1) h0,if_neg (by rw[he];exact ht)]
 cases d with
 | issue k1 h1 h2 h3 hl h4=>
  refine put ⟨1,r.ticket,r.who,r.Al⟩ rfl (FN.2 ⟨ho,FH.2 ?_,(Gt (.inl rfl)).2 (.inl ⟨rfl,h3⟩)⟩) hl
  dsimp only
  omega
 | offer=>exact⟨rows,h.fold,fun _ _ _=>rfl⟩
 | drop=>exact⟨rows,h.fold,fun _ _ _=>rfl⟩
 | Gf=>exact⟨rows,h.fold,fun _ _ _=>rfl⟩
 | settle k d k5 hk hd ht hh hs hl hm=>
  have hdo:=CZ.1 (h.AJ.get hd)
  have hcap:=K9 (rowAt rows d.ticket).EY
  have hb:0<d.BN:=by simpa [held] using hh
  refine put ⟨2,r.ticket,d.BN,d.Al⟩ rfl (FN.2 ⟨ho,FH.2 ?_,(Gt (.inr (.inl rfl))).2 (.inr (.inl ⟨rfl,?_⟩))⟩) hl <;> dsimp only
  ·omega
  ·rw[← ht]
   refine⟨by omega,?_,hdo.2.2.2.1,hdo.2.2.2.2.1.2⟩
   rw[hdo.2.2.1];omega
 | enter k6 h1 h2 h3 hl=>
  refine put ⟨3,r.ticket,r.user,0⟩ rfl (FN.2 ⟨ho,FH.2 ?_,(Gt (.inr (.inr rfl))).2 (.inr (.inr ⟨rfl,h1,h2⟩))⟩) hl
  dsimp only
  omega
def nD:Nat→CV→Option CV
 | 0,m=>some m
 | n+1,m=>if m.clock=99999 then none else nD n (tick m)
end Go.Proofs.YtgaflnpmilikcaaGreat.Sw
namespace Go.Proofs.YtgaflnpmilikcaaGreat
open Go
def idx:List Nat:=[0,1,2,3,4,5,6,7,8,9,10,11,12,13,14,15,16,17,18,19,20,21,22,23,24,25,26,27,28,29,30,31,32,33,34,35,36,37,38,39,40,41,42,43,44,45,46,47,48,49,50,51,52,53,54,55,56,57,58,59,60]
def tF:Op→Bool
 | .move _ | .assign _ | .pick .. | .load .. | .nilCheck _ | .binOp .. | .unOp .. | .convert .. | .slice .. | .fieldAddr .. | .field .. | .indexAddr .. | .index .. | .extract ..=>true
 | .call c=>(match c.callee with | .builtin .len | .builtin .cap | .builtin .min | .builtin .max=>true | _=>false)
 | _=>false
def dH (ops:Array Oper) (l:Array Bool) (i:Nat):Bool:=
 !l.getD i true&&(match ops[i]? with|some o=>o.after.toList.all (fun e=>!Region.binds .any e||l.getD e.on false)|none=>false)
def Y2 (ops:Array Oper) (l:Array Bool) (LD U:List Nat):Option Nat:=
 idx.find? fun i=>dH ops l i&&(U.contains i||(!LD.contains i&&(match ops[i]? with|some o=>o.dst.isSome&&tF o.op|none=>false)))
def qg (ops:Array Oper) (l:Array Bool) (i:Nat):Nat→List Nat
 | 0=>[]
 | n+1=>let r:=qg ops l i n;idx.filter fun j=>j<ops.size&&j != i && !l.getD j true&&(match ops[j]? with|some o=>o.after.toList.any (fun e=>e.on==i||r.contains e.on)|none=>false)
def rB (X:List Nat) (ops:Array Oper) (l:Array Bool) (i:Nat):List Nat:=match X with|[]=>[] | _=>qg ops l i ops.size
def sH (p:Prop):Prop:=p
theorem FR {p:Prop} (h:p):sH p:=h
attribute [irreducible] sH
section
variable {P:Program} {ops:Array Oper} {Q:Exit→Act→World→Prop} {md:Region.Mode} {S:World→Prop} {X rs rest:List Nat} {i d n:Nat} {v:Value} {oi:Oper} {l:Array Bool} {a b:Act} {w:World}
theorem FQ (LD U:List Nat) (hS:S w) (hp:Y2 ops l LD U=some i:=by rfl) (hi:ops[i]?=some oi:=by rfl) (hd:oi.dst=some d:=by rfl)
  (hw:Region.wanted oi (yielded ops a.tmps)=true:=by rfl) (hs:Region.noSelect ops=true:=by kernel_rfl) (hf:Region.free md ops l i=true:=by kernel_rfl) (hr:(Region.ready md ops l).contains i=true:=by kernel_rfl)
  (hl:M3 md ops X (rB X ops l i) l i=true:=by kernel_rfl)
  (hy:∀ w,S w→(execOp a.eval oi).run P w=.ok (.value v) w:=by (intro w hSw;(try dsimp only at hSw);go_simp;(try with_reducible rfl)))
  (hQ:∀ c a w,Q (.panic c) (a.put (some d) v) w→Q (.panic c) a w:=by (exact (fun _ _ _ h=>h))) (hb:a.put (some d) v=b:=by (simp only[Act.put,List.setIfInBounds_toArray,List.set_cons_zero,List.set_cons_succ];rfl))
  (h:Cq P md ops Q S X n (l.setIfInBounds i true) b w):Cq P md ops Q S X (n+1) l a w:=
 Cq.take i d (rB X ops l i) hS hi hd hs hf hr hl hw hy hQ hb h
theorem Mc (LD U:List Nat) (hp:Y2 ops l LD U=some i:=by rfl) (hx:X.contains i=true:=by rfl) (hi:ops[i]?=some oi:=by rfl) (hd:oi.dst=some d:=by rfl)
  (hw:Region.wanted oi (yielded ops a.tmps)=true:=by rfl) (hs:Region.noSelect ops=true:=by kernel_rfl) (hf:Region.free md ops l i=true:=by kernel_rfl) (hr:(Region.ready md ops l).contains i=true:=by kernel_rfl)
  (hy:∀ w,(execOp a.eval oi).run P w=.ok (.value v) w:=by (intro w;go_simp;(try with_reducible rfl)))
  (hQ:∀ c a w,Q (.panic c) (a.put (some d) v) w→Q (.panic c) a w:=by (exact (fun _ _ _ h=>h))) (hb:a.put (some d) v=b:=by (simp only[Act.put,List.setIfInBounds_toArray,List.set_cons_zero,List.set_cons_succ];rfl))
  (h:Cq P md ops Q S X n (l.setIfInBounds i true) b w):Cq P md ops Q S X (n+1) l a w:=
 Cq.nG i d hi hd hs hf hr hx hw hy hQ hb h
theorem aQ (LD U:List Nat) (hS:S w) (hp:Y2 ops l LD U=some i:=by rfl) (hi:ops[i]?=some oi:=by rfl) (hd:oi.dst=some d:=by rfl)
  (hw:Region.wanted oi (yielded ops a.tmps)=false:=by rfl) (hs:Region.noSelect ops=true:=by kernel_rfl) (hf:Region.free md ops l i=true:=by kernel_rfl) (hr:(Region.ready md ops l).contains i=true:=by kernel_rfl)
  (hl:M3 md ops X (rB X ops l i) l i=true:=by kernel_rfl)
  (hQ:∀ c a w,Q (.panic c) (a.put (some d) undef) w→Q (.panic c) a w:=by (exact (fun _ _ _ h=>h))) (hb:a.put (some d) undef=b:=by (simp only[Act.put,List.setIfInBounds_toArray,List.set_cons_zero,List.set_cons_succ];rfl))
  (h:Cq P md ops Q S X n (l.setIfInBounds i true) b w):Cq P md ops Q S X (n+1) l a w:=
 Cq.skip i d (rB X ops l i) hS hi hd hs hf hr hl hw hQ hb h
theorem FV (h:sH (Q .normal a w)) (hp:idx.filter (dH ops l)=[]:=by rfl) (hr:Region.ready md ops l=[]:=by kernel_rfl):Cq P md ops Q S X n l a w:=
 Cq.done hr (by unfold sH at h;exact h) n
theorem FW (h:∀ K:Act→World→Prop,Shut (∀ b v,S v→(S v→Cq P md ops Q S X n (l.setIfInBounds i true) b v)→K b v)→if Region.wanted oi (yielded ops a.tmps)=true then Oper.wp P oi a w K Q else K (a.put oi.dst undef) w)
  (hs:Fx P md ops Q S X n l a w rest) (hp:idx.filter (dH ops l)=i::rest:=by rfl) (ho:ops[i]?=some oi:=by rfl) (hr:Region.ready md ops l=i::rest:=by kernel_rfl):Cq P md ops Q S X (n+1) l a w:=
 Cq.ready hr (by simp) (Fx.cons ho h hs)
theorem Mo (h:∀ K:Act→World→Prop,Shut (∀ b v,Cq P md ops Q S X n (l.setIfInBounds i true) b v→K b v)→if Region.wanted oi (yielded ops a.tmps)=true then Oper.wp P oi a w K Q else K (a.put oi.dst undef) w)
  (hs:Fx P md ops Q S X n l a w rest) (hp:idx.filter (dH ops l)=i::rest:=by rfl) (ho:ops[i]?=some oi:=by rfl) (hx:X.contains i=true:=by rfl) (hr:Region.ready md ops l=i::rest:=by kernel_rfl):Cq P md ops Q S X (n+1) l a w:=
 Cq.ready hr (by simp) (Fx.last ho hx h hs)
theorem Cf (hp:rs=[]:=by rfl):Fx P md ops Q S X n l a w rs:=hp▸Fx.nil
theorem FT (h:∀ K:Act→World→Prop,Shut (∀ b v,S v→(S v→Cq P md ops Q S X n (l.setIfInBounds i true) b v)→K b v)→if Region.wanted oi (yielded ops a.tmps)=true then Oper.wp P oi a w K Q else K (a.put oi.dst undef) w)
  (hs:Fx P md ops Q S X n l a w rest) (hp:rs=i::rest:=by rfl) (ho:ops[i]?=some oi:=by rfl):Fx P md ops Q S X n l a w rs:=
 hp▸Fx.cons ho h hs
theorem Mh (h:∀ K:Act→World→Prop,Shut (∀ b v,Cq P md ops Q S X n (l.setIfInBounds i true) b v→K b v)→if Region.wanted oi (yielded ops a.tmps)=true then Oper.wp P oi a w K Q else K (a.put oi.dst undef) w)
  (hs:Fx P md ops Q S X n l a w rest) (hp:rs=i::rest:=by rfl) (hx:X.contains i=true:=by rfl) (ho:ops[i]?=some oi:=by rfl):Fx P md ops Q S X n l a w rs:=
 hp▸Fx.last ho hx h hs
end
end Go.Proofs.YtgaflnpmilikcaaGreat
namespace Go.Proofs.YtgaflnpmilikcaaGreat.Sw
open Go.RowKit (wrap64)
def sF (a b:List Head):Bool:=a.any fun x=>b.any fun y=>TG x y
def Y7 (p:List Int):Bool:=DR p&&decide (DV p≤100000)
end Go.Proofs.YtgaflnpmilikcaaGreat.Sw
namespace Go.Proofs.YtgaflnpmilikcaaGreat
open Go.ChangeShapes Go.WideShapes Go.ChangeAt Go.RowKit Go
section
variable {H:Type} {enc:TypeId × Value→H} {P:Program}
theorem Mw (hl:laidOutB P=true) {W W':World} {sp:Nat→Bool} (hb:Below W.heap.size W W'):∀ {ts:List TypeId} {vs:List Value} {ds:List (DataW H)} {ps:List MemPlace},
  ts.all (fun t=>P.readableRec t&&decide (t<P.types.size))=true→DataW.TrodAll enc P W 0 (fun _=>true) true ts vs ds ps→(∀ x∈ps,x.block<W.heap.size)→(∀ x∈ps,sp x.block=true) →
  DataW.TrodAll enc P W' 0 sp true ts vs ds ps
 | [],[],[],_,_,h,_,_=>h
 | t::ts,v::vs,d::ds,_,hr,⟨p,q,h1,h2,e⟩,hlt,hs=>by
  simp only[List.all_cons,Bool.and_eq_true,decide_eq_true_eq] at hr
  subst e
  refine⟨p,q,?_,Mw hl hb hr.2 h2 (fun x hx=>hlt x (List.mem_append_right _ hx)) (fun x hx=>hs x (List.mem_append_right _ hx)),rfl⟩
  exact WideElems.Trod_stays hl hr.1.1 hr.1.2 h1 (fun x hx=>hb.same (hlt x (List.mem_append_left _ hx))) (fun x hx=>hs x (List.mem_append_left _ hx))
theorem JL {f:Func} {s:ChangeSpec} {apart fresh handsOn again:Bool} {W W':World} {args:Array Value} {ds gs:List (DataW H)} {before:List MemPlace} {tb:TypeId}
  (hl:laidOutB P=true) (hr:f.params.toList.all (fun t=>P.readableRec t&&decide (t<P.types.size))=true) (hres:f.resultTypes=#[tb]) (htb:P.underlying tb=some .bool) (hv:s.vars=[])
  (hfn:(s.fn H ds).results=[.lit (.bool true)]∧(s.fn H ds).args=ds∧(s.fn H ds).vars=[])
  (hW:DataW.Whole enc P f.params.toList s.vars apart W args.toList ds gs before) (hb:Ex W W'):s.post enc P f apart fresh handsOn again W args (.bool true) W':=by
 have hW0:=hW
 have hbl:=hb.below
 have hlt:∀ p∈before,p.block<W.heap.size:=fun p hp=>by simpa using hW.lt p hp
 obtain⟨p,q,hA,hV,he,hz,hn⟩:=hW
 rw[hv] at hV
 obtain⟨rfl,rfl⟩:=trodVars_none hV
 rw[List.append_nil] at he
 subst he
 obtain⟨f1,f2,f3⟩:=hfn
 have hargs:∀ sp:Nat→Bool,(∀ x∈before,sp x.block=true)→DataW.TrodAll enc P W' 0 sp true f.params.toList args.toList (s.fn H (ds ++ [])).args before:=fun sp hs=>by
  rw[List.append_nil,f2]
  exact Mw hl hbl hr hA hlt hs
 have hvars:∀ sp:Nat→Bool,DataW.TrodVars enc P W' sp s.vars (s.fn H (ds ++ [])).vars []:=fun sp=>by
  rw[List.append_nil,f3,hv]
  rfl
 have iB:∀ (b:Nat) (sp:Nat→Bool) (hd:Bool),DataW.TrodAll enc P W' b sp hd f.resultTypes.toList ((Value.bool true).resultList f.resultTypes.size) (s.fn H (ds ++ [])).results []:=fun b sp hd=>by
  rw[List.append_nil,f1,hres]
  exact trodAll_cons_mk (shut_bool htb _) trodAll_mk0
 have hold:∀ p∈before,(fun b=>decide (b<W.heap.size)) p.block=true:=fun p hp=>by simpa using hlt p hp
 refine⟨ds,[],before,[],before,[],hW0,iB _ _ _,hargs _ hold,hvars _,World.keptBut_mono (fun p hp=>⟨hp,Or.inr (by simpa using hp)⟩) (hbl.frame _),fun _=>?_⟩
 refine⟨ok_one (by rw[hres]) rfl (okWide_bool_mk htb _),_,_,([] ++ before) ++ [],⟨[] ++ before,[],trodAll_append (hargs _ (fun _ _=>rfl)) (iB _ _ _),hvars _,rfl,?_,?_⟩,?_⟩
 ·intro b off hp
  have hp':MemPlace.cell b off∈before:=by simpa using hp
  rw[hbl.frozen (by exact hlt _ hp')]
  exact hz b off (by simpa using hp)
 ·intro ha
  have:=hn ha
  simpa using this
 ·intro p hp _
  simpa using hp
theorem Sl {W:World} {a:Addr} {v:Value} (h:W.cell? a=some v):a.spot=none∧a.block<W.heap.size:=by
 unfold World.cell? at h
 split at h
 ·rename_i c T fz hh
  refine⟨?_,(Array.getElem?_eq_some_iff.1 hh).1⟩
  cases hs:a.spot with
  | none=>rfl
  | some _=>rw[hs] at h;simp at h
 ·cases h
theorem slice_form {W:World} {base:Nat} {t e:TypeId} {v:Value} {A:Option Addr} {n c:Nat} (ht:P.underlying t=some (.slice e)) (hv:Value.okWide P W .any base t v) (h:v.cells.toList=[.slice A n c]):v=.slice A n c:=by
 unfold Value.okWide at hv
 rw[ht] at hv
 unfold Cell.okWide Cell.ok at hv
 rw[ht] at hv
 cases v <;> simp_all [Value.cells]
end
end Go.Proofs.YtgaflnpmilikcaaGreat
namespace Go.Proofs.YtgaflnpmilikcaaGreat
open Go.ChangeShapes Go.WideShapes Go.ChangeAt Go.RowKit Go
theorem JK:ownKnob Tryz.prog.godebug=none:=by kernel_rfl
theorem JM:laidOutB Tryz.prog=true:=by kernel_rfl
end Go.Proofs.YtgaflnpmilikcaaGreat
namespace Go.Proofs.YtgaflnpmilikcaaGreat.Sw
open Go.RowKit (wrap64)
theorem Zy {m:CV} {r:Ee} (h:lastOf m.nums r.user<r.n):EZ m r=(Il (effect m r).1 r (effect m r).2,(effect m r).2):=by
 unfold EZ
 rw[if_neg (by omega),if_neg (by omega)]
def sG (m x:CV) (r:Ee) (e:FC) (d:BC):Prop:=
 x.log=m.log ++ [e]∧e.kind=2∧e.Al=d.Al∧r.kind=5∧La m.AJ r.ticket=some d∧La x.AJ r.ticket=none∧0<d.BN∧(rowAt (CS x) r.ticket).who=d.BN ∧
  Y9 x.Ai d.BP=Y9 m.Ai d.BP+d.Al∧Ef x=Ef m-d.Al
end Go.Proofs.YtgaflnpmilikcaaGreat.Sw
