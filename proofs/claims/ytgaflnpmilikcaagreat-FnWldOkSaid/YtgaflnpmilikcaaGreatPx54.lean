/- Texts joined: DrA, DrO. -/
import Derived.Test.YtgaflnpmilikcaaGreatPx51
set_option maxRecDepth 100000
set_option linter.unusedSimpArgs false
set_option linter.unusedVariables false
namespace Go.Proofs.YtgaflnpmilikcaaGreat
open Go.RowKit Go
set_option maxHeartbeats 20000000
theorem Rx (rb P:Nat) (n:Int) (w:World) (hr:Be w rb P) (hP:P≤80000) (h1:1≤n) (h2:n≤1000000):Calls Tryz.prog 52 #[.pointer (some ⟨rb,0,none⟩),.int .i64 n] w fun E w'=>∃ (bF:Option Addr) (Di DZ:Nat) (bL:Option Addr) (Bg BR:Nat) (bP:Option Addr) (Bf BV:Nat) (bD:Option Addr) (Bh Ba:Nat) (bN:Option Addr) (Bd Bb:Nat) (bS:Option Addr) (Bc BZ:Nat) (bI:Option Addr) (Dg bIn:Nat) (bG:Option Addr) (Dh DL:Nat) (bB:Option Addr) (Dj Cy:Nat) (z:Sw.World),E=.returned (.agg #[.slice bF DZ Di,.slice bL BR Bg,.slice bP BV Bf,.slice bD Ba Bh,.int .i64 z.AB.clock,.slice bN Bb Bd,.slice bS BZ Bc,.slice bI bIn Dg,.slice bG DL Dh,.slice bB Cy Dj])∧RW w' w.heap.size bF Di DZ bL Bg BR bP Bf BV bD Bh Ba bN Bd Bb bS Bc BZ bI Dg bIn bG Dh DL bB Dj Cy z∧DZ+(BR+BV+Ba+Bb+BZ)+bIn+(DL+QJ z.AV)+(Cy+Rw z.BS)≤1048576∧Be w' rb (P+13000)∧Ch (· = rb) w w':=by
 have hlt:=hr.lt
 go_enter Tryz.func52,Tryz.ntmps52
 go_upto_region 3 with (first|(go_at_call 35;apply Calls.mono;apply NN;(apply Be.keep;assumption;(exact Cj));omega;rintro E w2 ⟨dF,GL,F8,dL,Ep,Ec,dP,Eo,Eg,dD,Er,Ed,dN,Ej,Eb,dS,Ei,Ea,dI,GJ,Fj,dG,GK,Fv,dB,GN,Fq,z,rfl,hz1,Lm,hrd,hb⟩;(obtain⟨hc,hf,hz⟩:=xd hb))|(go_at_call 38;apply Calls.mono;apply MH;(apply Be.keep;assumption;(exact Cj));(exact Bu);(exact Bu);(exact Bu);rintro E w1 ⟨b,rfl,hrd,hb⟩;obtain⟨hc,hf,hz⟩:=xd hb))
 ·go_wp2_with (go_at_call 39;apply Calls.mono;apply (Kc (x:=z));(apply Be.keep;assumption;(exact Cj));exact Lm;(exact (hz1.keep AO).less Aq);omega;rintro E w3 ⟨fF,PM,PL,fL,Jo,Jc,fP,Jm,Ja,fD,Jp,Jd,fN,Jn,Jb,fS,Jl,JZ,fI,PH,PG,fG,PK,PI,fB,PO,PN,y,rfl,hy1,hyn,hrd,hb⟩;(obtain⟨hc,hf,hz⟩:=xd hb))
  refine bodyPost_ret (v:=.agg #[.slice fF PL PM,.slice fL Jc Jo,.slice fP Ja Jm,.slice fD Jd Jp,.int .i64 y.AB.clock,.slice fN Jb Jn,.slice fS JZ Jl,.slice fI PG PH,.slice fG PI PK,.slice fB PN PO]) (by simp[results,Tryz.results52,go_sem, *]) rfl ?_
  exact⟨fF,PM,PL,fL,Jo,Jc,fP,Jm,Ja,fD,Jp,Jd,fN,Jn,Jb,fS,Jl,JZ,fI,PH,PG,fG,PK,PI,fB,PO,PN,y,rfl,(hy1.keep AO).less Aq,hyn,(Be.keep hrd Cj).more (by omega),AA⟩
 ·have hn:=Fb hz1 Lm
  refine bodyPost_ret (v:=.agg #[.slice dF F8 GL,.slice dL Ec Ep,.slice dP Eg Eo,.slice dD Ed Er,.int .i64 z.AB.clock,.slice dN Eb Ej,.slice dS Ea Ei,.slice dI Fj GJ,.slice dG Fv GK,.slice dB Fq GN]) (by simp[results,Tryz.results52,go_sem, *]) rfl ?_
  exact⟨dF,GL,F8,dL,Ep,Ec,dP,Eo,Eg,dD,Er,Ed,dN,Ej,Eb,dS,Ei,Ea,dI,GJ,Fj,dG,GK,Fv,dB,GN,Fq,z,rfl,(hz1.keep AO).less Aq,hn,(Be.keep hrd Cj).more (by omega),AA⟩
set_option maxHeartbeats 20000000
theorem VA (A:Option Addr) (c n:Nat) (bs:List Int) (w:World) (hxs:RB w 0 A c n bs) (hq:∀ x∈bs,0≤x∧x≤255):Calls Tryz.prog 18 #[.slice A n c] w fun E w'=>∃ (bF:Option Addr) (Di DZ:Nat) (bL:Option Addr) (Bg BR:Nat) (bP:Option Addr) (Bf BV:Nat) (bD:Option Addr) (Bh Ba:Nat) (bN:Option Addr) (Bd Bb:Nat) (bS:Option Addr) (Bc BZ:Nat) (bI:Option Addr) (Dg bIn:Nat) (bG:Option Addr) (Dh DL:Nat) (bB:Option Addr) (Dj Cy:Nat) (z:Sw.World),E=.returned (.agg #[.slice bF DZ Di,.slice bL BR Bg,.slice bP BV Bf,.slice bD Ba Bh,.int .i64 z.AB.clock,.slice bN Bb Bd,.slice bS BZ Bc,.slice bI bIn Dg,.slice bG DL Dh,.slice bB Cy Dj])∧RW w' 0 bF Di DZ bL Bg BR bP Bf BV bD Bh Ba bN Bd Bb bS Bc BZ bI Dg bIn bG Dh DL bB Dj Cy z∧DZ+(BR+BV+Ba+Bb+BZ)+bIn+(DL+QJ z.AV)+(Cy+Rw z.BS)≤1048576∧Ex w w':=by
 go_enter Tryz.func18,Tryz.ntmps18
 go_wp2_with fail
 apply Calls.mono
 apply PY
 ·apply Rs.A8 hxs;(exact AO)
 ·exact hq
 rintro E w1 ⟨rb,rfl,hrd,hrb,hb⟩
 obtain⟨hc,hf,hz⟩:=xy hb
 have hlt:=hrd.lt
 have nX:w.heap.size+1≤rb:=Aq
 go_wp2_with (go_at_call 52;apply Calls.mono;apply Rx;(apply Be.keep;assumption;(exact Cj));omega;omega;omega;rintro E w2 ⟨dF,GL,F8,dL,Ep,Ec,dP,Eo,Eg,dD,Er,Ed,dN,Ej,Eb,dS,Ei,Ea,dI,GJ,Fj,dG,GK,Fv,dB,GN,Fq,z,rfl,hz1,hzn,hrd,hb⟩;(obtain⟨hc,hf,hz⟩:=xd hb))
 refine bodyPost_ret (v:=.agg #[.slice dF F8 GL,.slice dL Ec Ep,.slice dP Eg Eo,.slice dD Ed Er,.int .i64 z.AB.clock,.slice dN Eb Ej,.slice dS Ea Ei,.slice dI Fj GJ,.slice dG Fv GK,.slice dB Fq GN]) (by simp[results,Tryz.results18,go_sem, *]) rfl ?_
 exact⟨dF,GL,F8,dL,Ep,Ec,dP,Eo,Eg,dD,Er,Ed,dN,Ej,Eb,dS,Ei,Ea,dI,GJ,Fj,dG,GK,Fv,dB,GN,Fq,z,rfl,(hz1.keep AO).less (Nat.zero_le _),hzn,AA⟩
end Go.Proofs.YtgaflnpmilikcaaGreat
