/- Texts joined: DrA. -/
import Derived.Test.YtnnoiagommiapaaGreatPy51
set_option maxRecDepth 100000
set_option linter.unusedSimpArgs false
set_option linter.unusedVariables false
namespace Go.Proofs.YtnnoiagommiapaaGreat
open Go.RowKit Go
set_option maxHeartbeats 4000000
theorem l21AnyWorld_c (rb P : Nat) (n : Int) (w : World) (hr : Rdp w rb P) (hP : P ≤ 80000) (h1 : 1 ≤ n) (h2 : n ≤ 1000000) : Calls Tryz.prog 103 #[.pointer (some ⟨rb, 0, none⟩), .int .i64 n] w fun E w' => ∃ (bF : Option Addr) (bFc bFn : Nat) (bL : Option Addr) (bLc bLn : Nat) (bP : Option Addr) (bPc bPn : Nat) (bD : Option Addr) (bDc bDn : Nat) (bN : Option Addr) (bNc bNn : Nat) (bS : Option Addr) (bSc bSn : Nat) (bI : Option Addr) (bIc bIn : Nat) (bG : Option Addr) (bGc bGn : Nat) (bB : Option Addr) (bBc bBn : Nat) (z : Sw.World), E = .returned (.agg #[.slice bF bFn bFc, .slice bL bLn bLc, .slice bP bPn bPc, .slice bD bDn bDc, .int .i64 z.market.clock, .slice bN bNn bNc, .slice bS bSn bSc, .slice bI bIn bIc, .slice bG bGn bGc, .slice bB bBn bBc]) ∧ RW w' w.heap.size bF bFc bFn bL bLc bLn bP bPc bPn bD bDc bDn bN bNc bNn bS bSc bSn bI bIc bIn bG bGc bGn bB bBc bBn z ∧ bFn + (bLn + bPn + bDn + bNn + bSn) + bIn + (bGn + dsz z.gates) + (bBn + psz z.bag) ≤ 1048576 ∧ Rdp w' rb (P + 13000) ∧ Ch (· = rb) w w' := by
 have hlt := hr.lt
 go_enter Tryz.func103, Tryz.ntmps103
 go_upto_region 3 with (first | (go_at_call 90; apply Calls.mono; apply l21World_c; (apply Rdp.keep; assumption; (exact kb_)); omega; rintro E w2 ⟨dF, dFc, dFn, dL, dLc, dLn, dP, dPc, dPn, dD, dDc, dDn, dN, dNc, dNn, dS, dSc, dSn, dI, dIc, dIn, dG, dGc, dGn, dB, dBc, dBn, z, rfl, hz1, hzok, hrd, hb⟩; (obtain ⟨hc, hf, hz⟩ := xd hb)) | (go_at_call 93; apply Calls.mono; apply odd_c; (apply Rdp.keep; assumption; (exact kb_)); (first | assumption | omega); (first | assumption | omega); (first | assumption | omega); rintro E w1 ⟨b, rfl, hrd, hb⟩; obtain ⟨hc, hf, hz⟩ := xd hb))
 · go_wp2_with (go_at_call 94; apply Calls.mono; apply (l21BadWorld_c (x := z)); (apply Rdp.keep; assumption; (exact kb_)); exact hzok; (exact (hz1.keep kf_).less sz_); omega; rintro E w3 ⟨fF, fFc, fFn, fL, fLc, fLn, fP, fPc, fPn, fD, fDc, fDn, fN, fNc, fNn, fS, fSc, fSn, fI, fIc, fIn, fG, fGc, fGn, fB, fBc, fBn, y, rfl, hy1, hyn, hrd, hb⟩; (obtain ⟨hc, hf, hz⟩ := xd hb))
   refine bodyPost_ret (v := .agg #[.slice fF fFn fFc, .slice fL fLn fLc, .slice fP fPn fPc, .slice fD fDn fDc, .int .i64 y.market.clock, .slice fN fNn fNc, .slice fS fSn fSc, .slice fI fIn fIc, .slice fG fGn fGc, .slice fB fBn fBc]) (by simp [results, Tryz.results103, go_sem, *]) rfl ?_
   exact ⟨fF, fFc, fFn, fL, fLc, fLn, fP, fPc, fPn, fD, fDc, fDn, fN, fNc, fNn, fS, fSc, fSn, fI, fIc, fIn, fG, fGc, fGn, fB, fBc, fBn, y, rfl, (hy1.keep kf_).less sz_, hyn, (Rdp.keep hrd kb_).more (by omega), ext_⟩
 · have hn := wok_size hz1 hzok
   refine bodyPost_ret (v := .agg #[.slice dF dFn dFc, .slice dL dLn dLc, .slice dP dPn dPc, .slice dD dDn dDc, .int .i64 z.market.clock, .slice dN dNn dNc, .slice dS dSn dSc, .slice dI dIn dIc, .slice dG dGn dGc, .slice dB dBn dBc]) (by simp [results, Tryz.results103, go_sem, *]) rfl ?_
   exact ⟨dF, dFc, dFn, dL, dLc, dLn, dP, dPc, dPn, dD, dDc, dDn, dN, dNc, dNn, dS, dSc, dSn, dI, dIc, dIn, dG, dGc, dGn, dB, dBc, dBn, z, rfl, (hz1.keep kf_).less sz_, hn, (Rdp.keep hrd kb_).more (by omega), ext_⟩
theorem drawWldMoney_c (A : Option Addr) (c n : Nat) (bs : List Int) (w : World) (hxs : RB w 0 A c n bs) (hq : ∀ x ∈ bs, 0 ≤ x ∧ x ≤ 255) : Calls Tryz.prog 34 #[.slice A n c] w fun E w' => ∃ (bF : Option Addr) (bFc bFn : Nat) (bL : Option Addr) (bLc bLn : Nat) (bP : Option Addr) (bPc bPn : Nat) (bD : Option Addr) (bDc bDn : Nat) (bN : Option Addr) (bNc bNn : Nat) (bS : Option Addr) (bSc bSn : Nat) (bI : Option Addr) (bIc bIn : Nat) (bG : Option Addr) (bGc bGn : Nat) (bB : Option Addr) (bBc bBn : Nat) (z : Sw.World), E = .returned (.agg #[.slice bF bFn bFc, .slice bL bLn bLc, .slice bP bPn bPc, .slice bD bDn bDc, .int .i64 z.market.clock, .slice bN bNn bNc, .slice bS bSn bSc, .slice bI bIn bIc, .slice bG bGn bGc, .slice bB bBn bBc]) ∧ RW w' w.heap.size bF bFc bFn bL bLc bLn bP bPc bPn bD bDc bDn bN bNc bNn bS bSc bSn bI bIc bIn bG bGc bGn bB bBc bBn z ∧ bFn + (bLn + bPn + bDn + bNn + bSn) + bIn + (bGn + dsz z.gates) + (bBn + psz z.bag) ≤ 1048576 ∧ Ex w w' := by
 go_enter Tryz.func34, Tryz.ntmps34
 go_wp2_with fail
 apply Calls.mono
 apply l20Open_c
 · apply Rs.at0 hxs; (exact kf_)
 · exact hq
 rintro E w1 ⟨rb, rfl, hrd, hrb, hb⟩
 obtain ⟨hc, hf, hz⟩ := xy hb
 have hlt := hrd.lt
 have hrb0 : w.heap.size + 1 ≤ rb := sz_
 go_wp2_with (go_at_call 103; apply Calls.mono; apply l21AnyWorld_c; (apply Rdp.keep; assumption; (exact kb_)); omega; omega; omega; rintro E w2 ⟨dF, dFc, dFn, dL, dLc, dLn, dP, dPc, dPn, dD, dDc, dDn, dN, dNc, dNn, dS, dSc, dSn, dI, dIc, dIn, dG, dGc, dGn, dB, dBc, dBn, z, rfl, hz1, hzn, hrd, hb⟩; (obtain ⟨hc, hf, hz⟩ := xd hb))
 refine bodyPost_ret (v := .agg #[.slice dF dFn dFc, .slice dL dLn dLc, .slice dP dPn dPc, .slice dD dDn dDc, .int .i64 z.market.clock, .slice dN dNn dNc, .slice dS dSn dSc, .slice dI dIn dIc, .slice dG dGn dGc, .slice dB dBn dBc]) (by simp [results, Tryz.results34, go_sem, *]) rfl ?_
 exact ⟨dF, dFc, dFn, dL, dLc, dLn, dP, dPc, dPn, dD, dDc, dDn, dN, dNc, dNn, dS, dSc, dSn, dI, dIc, dIn, dG, dGc, dGn, dB, dBc, dBn, z, rfl, (hz1.keep kf_).less sz_, hzn, ext_⟩
end Go.Proofs.YtnnoiagommiapaaGreat
