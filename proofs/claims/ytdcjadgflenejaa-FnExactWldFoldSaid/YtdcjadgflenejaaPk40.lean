/-
  Texts joined: PtrJ, ImpE, Tick, PtrK, WldA.
-/
import Derived.Test.YtdcjadgflenejaaPk34
import Derived.Test.YtdcjadgflenejaaPk39
import Derived.Test.YtdcjadgflenejaaPk13
import Derived.Test.YtdcjadgflenejaaPk26
import Derived.Test.YtdcjadgflenejaaPk14
import Derived.Test.YtdcjadgflenejaaPk23
import Derived.Test.YtdcjadgflenejaaPk38
namespace Go.Proofs.Ytdcjadgflenejaa
set_option maxRecDepth 100000
set_option linter.unusedSimpArgs false
set_option linter.unusedVariables false
open Go.RowKit Go
set_option maxHeartbeats 8000000

section
variable {g o n lo : Nat} {τ0 τ : Nat → Nat} {w0 w : World} {aL : Option Addr} {aLc aLn : Nat} {aP : Option Addr} {aPc aPn : Nat} {aD : Option Addr} {aDc aDn : Nat} {aN : Option Addr} {aNc aNn : Nat} {aS : Option Addr} {aSc aSn : Nat} {m : Sw.Mkt}
theorem iEffect_c (hS : MS g o n lo τ0 w0 aL aLc aLn aP aPc aPn aD aDc aDn aN aNc aNn aS aSc aSn m τ w) (r : Sw.Req) {rows : List Sw.Row} (hok : Sw.MOk m rows) (hr : Sw.reqOk r = true) : Calls Try.prog 51 #[.pointer (some ⟨g, o, none⟩), .agg #[.int .i64 r.user, .int .i64 r.n, .int .i64 r.kind, .int .i64 r.ticket, .int .i64 r.who, .int .i64 r.price]] w fun E w' =>
    EffPost g o n lo τ0 w0 w' E (Sw.effect m r) := by
  have hr' := Sw.reqOk_iff.1 hr
  have hrow := (rows8 hok).1
  obtain ⟨ru, rn, rk, rt, rh, rp⟩ := r
  dsimp only at hr'
  obtain ⟨t, rfl⟩ := Int.eq_ofNat_of_zero_le (show 0 ≤ rt by omega)
  have ht : t < 8 := by omega
  obtain ⟨⟨u1, u5⟩, -, hk, -, -⟩ := hr'
  rcases (show rk = 1 ∨ rk = 2 ∨ rk = 3 ∨ rk = 4 ∨ rk = 5 ∨ rk = 6 by omega) with rfl | rfl | rfl | rfl | rfl | rfl
  · have e : Sw.effect m ⟨ru, rn, 1, t, rh, rp⟩ = Sw.issue m ⟨ru, rn, 1, t, rh, rp⟩ (Sw.rowAt rows t) := by unfold Sw.effect; rw [hrow]; rfl
    rw [e]; exact iEffect1_c hS ru rn t rh rp hok ht u1 u5
  · have e : Sw.effect m ⟨ru, rn, 2, t, rh, rp⟩ = Sw.offer m ⟨ru, rn, 2, t, rh, rp⟩ (Sw.rowAt rows t) (Sw.dealAt m.deals t) := by unfold Sw.effect; rw [hrow]; rfl
    rw [e]; exact iEffect2_c hS ru rn t rh rp hok ht u1 u5
  · have e : Sw.effect m ⟨ru, rn, 3, t, rh, rp⟩ = Sw.dropIt m ⟨ru, rn, 3, t, rh, rp⟩ (Sw.rowAt rows t) (Sw.dealAt m.deals t) := by unfold Sw.effect; rw [hrow]; rfl
    rw [e]; exact iEffect3_c hS ru rn t rh rp hok ht u1 u5
  · have e : Sw.effect m ⟨ru, rn, 4, t, rh, rp⟩ = Sw.fund m ⟨ru, rn, 4, t, rh, rp⟩ (Sw.dealAt m.deals t) := rfl
    rw [e]; exact iEffect4_c hS ru rn t rh rp hok ht u1 u5
  · have e : Sw.effect m ⟨ru, rn, 5, t, rh, rp⟩ = Sw.settle m ⟨ru, rn, 5, t, rh, rp⟩ (Sw.dealAt m.deals t) := rfl
    rw [e]; exact iEffect5_c hS ru rn t rh rp hok ht u1 u5
  · have e : Sw.effect m ⟨ru, rn, 6, t, rh, rp⟩ = Sw.enter m ⟨ru, rn, 6, t, rh, rp⟩ (Sw.rowAt rows t) (Sw.dealAt m.deals t) := by unfold Sw.effect; rw [hrow]; rfl
    rw [e]; exact iEffect6_c hS ru rn t rh rp hok ht u1 u5
end
section
variable {g o n lo k : Nat} {τ0 τ : Nat → Nat} {w0 w : World} {aL aP aD : Option Addr} {aLc aLn aPc aPn aDc aDn aNc aNn aSc aSn gN gS : Nat} {m : Sw.Mkt}
theorem MS.noted (h : MS g o n lo τ0 w0 aL aLc aLn aP aPc aPn aD aDc aDn (some ⟨gN, 0, none⟩) aNc aNn (some ⟨gS, 0, none⟩) aSc aSn m τ w) (hn : k < m.nums.length) (hs : k < m.said.length) (a b : Int) :
    MS g o n lo τ0 w0 aL aLc aLn aP aPc aPn aD aDc aDn (some ⟨gN, 0, none⟩) aNc aNn (some ⟨gS, 0, none⟩) aSc aSn { m with nums := m.nums.set k a, said := m.said.set k b } τ ((w.setCell ⟨gN, k, none⟩ (.int .i64 a)).setCell ⟨gS, k, none⟩ (.int .i64 b)) := by
  have tN := h.ow.nums.tag _ rfl
  have tS := h.ow.said.tag _ rfl
  have neN : gN ≠ g := h.ne tN (by decide)
  have neS : gS ≠ g := h.ne tS (by decide)
  have mN := h.may (h.ow.nums.ow.blk rfl).1 tN (by decide) (by decide)
  have mS := h.may (h.ow.said.ow.blk rfl).1 tS (by decide) (by decide)
  have gne : ∀ i j : Nat, (⟨gN, i, none⟩ : Addr) ≠ ⟨g, j, none⟩ := fun i j e => neN (by injection e)
  have sne : ∀ i j : Nat, (⟨gS, i, none⟩ : Addr) ≠ ⟨g, j, none⟩ := fun i j e => neS (by injection e)
  exact ⟨(h.at_.other _ neN).other _ neS, h.lb.set.set, h.ow.noted hn hs a b, h.tag, fun i hi => ((World.cell?_setCell_other _ _ _ _ (sne _ _)).trans (World.cell?_setCell_other _ _ _ _ (gne _ _))).trans (h.out i hi), cS (p := ⟨gS, k, none⟩) (cS (p := ⟨gN, k, none⟩) h.ch mN _) mS _, h.glt, h.gz, h.llo⟩
end
section
variable {g o n lo : Nat} {τ0 τ : Nat → Nat} {w0 w : World} {aL : Option Addr} {aLc aLn : Nat} {aP : Option Addr} {aPc aPn : Nat} {aD : Option Addr} {aDc aDn : Nat} {aN : Option Addr} {aNc aNn : Nat} {aS : Option Addr} {aSc aSn : Nat} {m : Sw.Mkt}
theorem iDo_c (hS : MS g o n lo τ0 w0 aL aLc aLn aP aPc aPn aD aDc aDn aN aNc aNn aS aSc aSn m τ w) (r : Sw.Req) {rows : List Sw.Row} (hok : Sw.MOk m rows) (hr : Sw.reqOk r = true) : Calls Try.prog 25 #[.pointer (some ⟨g, o, none⟩), .agg #[.int .i64 r.user, .int .i64 r.n, .int .i64 r.kind, .int .i64 r.ticket, .int .i64 r.who, .int .i64 r.price]] w fun E w' =>
    EffPost g o n lo τ0 w0 w' E (Sw.doIt m r) := by
  have hr' := Sw.reqOk_iff.1 hr
  obtain ⟨ru, rn, rk, rt, rh, rp⟩ := r
  dsimp only at hr'
  obtain ⟨u, rfl⟩ := Int.eq_ofNat_of_zero_le (show 0 ≤ ru by omega)
  obtain ⟨⟨u1, u5⟩, -, -, -, -⟩ := hr'
  obtain ⟨v, rfl⟩ : ∃ v, u = v + 1 := ⟨u - 1, by omega⟩
  have hv : v < 5 := by omega
  have hnl : aNn = 5 := by rw [hS.ow.nums.ow.1, hok.nlen]
  have hsl : aSn = 5 := by rw [hS.ow.said.ow.1, hok.slen]
  subst hnl hsl
  obtain ⟨gN, x, rfl, hgN0, hgN, hx, qN, hfN⟩ := at_OI hS.ow.nums.ow hv
  obtain ⟨gS, y, rfl, hgS0, hgS, hy, qS, hfS⟩ := at_OI hS.ow.said.ow hv
  have e1 : Sw.lastOf m.nums ((v + 1 : Nat) : Int) = x := by unfold Sw.lastOf; rw [show (((v + 1 : Nat) : Int) - 1).toNat = v from by omega]; exact Sw.getD_of hx
  have e2 : Sw.lastOf m.said ((v + 1 : Nat) : Int) = y := by unfold Sw.lastOf; rw [show (((v + 1 : Nat) : Int) - 1).toNat = v from by omega]; exact Sw.getD_of hy
  have i0 : (0 : Int) ≤ (v : Int) := by omega
  have i1 : (v : Int) < 5 := by omega
  have wv : IntKind.i64.wrap (v : Int) = (v : Int) := IntWalk.i64_in _ (by omega)
  have wv2 : IntKind.i64.wrap ((v : Int) + 1 - 1) = (v : Int) := by rw [Int.add_sub_cancel]; exact wv
  obtain ⟨k0, k1, k2, k3, k4, k5, k6, kf⟩ := hS.at_
  have HS := Lib.hid hS
  have HR := Lib.hid hr
  have HK := Lib.hid hok
  clear hr hok hx hy hS
  by_cases h1 : rn = x
  · have g1 : (rn == x) = true := by simpa using h1
    have e : Sw.doIt m ⟨((v + 1 : Nat) : Int), rn, rk, rt, rh, rp⟩ = (m, y) := by unfold Sw.doIt; dsimp only; rw [e1, e2, if_pos h1]
    rw [e]
    clear e e1 e2 h1
    go_enter Try.func25, Try.ntmps25
    go_wp2_with fail
    (go_quiet ((first | fail)); all_goals (generalize hWq : World.drewN _ nq = W0; have hb0 := Ex.ofN hWq; clear hWq; have hst := xr hb0; (try simp only [zA, zC, zD, zN] at hst); obtain ⟨hc0, hf0, hz0⟩ := hst))
    go_wp2_with fail
    (go_quiet ((first | fail)); all_goals (generalize hWq : World.drewN _ nq = W0; have hb0 := Ex.ofN hWq; clear hWq; have hst := xr hb0; (try simp only [zA, zC, zD, zN] at hst); obtain ⟨hc0, hf0, hz0⟩ := hst))
    go_wp2
    go_ret
    exact ⟨_, _, _, _, _, _, _, _, _, _, _, _, _, _, _, τ, rfl, HS.out.ex ext_⟩
  have g1 : (rn == x) = false := by simpa using h1
  by_cases h2 : rn < x
  · have e : Sw.doIt m ⟨((v + 1 : Nat) : Int), rn, rk, rt, rh, rp⟩ = (m, 7) := by unfold Sw.doIt; dsimp only; rw [e1, if_neg h1, if_pos h2]
    rw [e]
    clear e e1 e2 h1
    go_enter Try.func25, Try.ntmps25
    go_wp2_with fail
    (go_quiet ((first | fail)); all_goals (generalize hWq : World.drewN _ nq = W0; have hb0 := Ex.ofN hWq; clear hWq; have hst := xr hb0; (try simp only [zA, zC, zD, zN] at hst); obtain ⟨hc0, hf0, hz0⟩ := hst))
    go_wp2
    go_ret
    exact ⟨_, _, _, _, _, _, _, _, _, _, _, _, _, _, _, τ, rfl, HS.out.ex ext_⟩
  have hle := effect_lens HK.out HR.out
  have e : Sw.doIt m ⟨((v + 1 : Nat) : Int), rn, rk, rt, rh, rp⟩ = ((fun z : Sw.Mkt × Int => (({ z.1 with nums := z.1.nums.set v rn, said := z.1.said.set v z.2 } : Sw.Mkt), z.2)) (Sw.effect m ⟨((v + 1 : Nat) : Int), rn, rk, rt, rh, rp⟩)) := by
    unfold Sw.doIt; dsimp only; rw [e1, if_neg h1, if_neg h2]; unfold Sw.noted; dsimp only; rw [show (((v + 1 : Nat) : Int) - 1).toNat = v from by omega]
  rw [e]
  clear e e1 e2 h1
  obtain ⟨z, hz0⟩ : ∃ z, z = Sw.effect m ⟨((v + 1 : Nat) : Int), rn, rk, rt, rh, rp⟩ := ⟨_, rfl⟩
  rw [← hz0] at hle ⊢
  have HZ := Lib.hid hz0
  clear hz0
  dsimp only
  go_enter Try.func25, Try.ntmps25
  go_wp2_with fail
  (go_quiet ((first | fail)); all_goals (generalize hWq : World.drewN _ nq = W0; have hb0 := Ex.ofN hWq; clear hWq; have hst := xr hb0; (try simp only [zA, zC, zD, zN] at hst); obtain ⟨hc0, hf0, hz0⟩ := hst))
  go_wp2_with fail
  have hA := HS.out.zero (show Ex w W0 from ext_)
  apply Calls.mono
  apply (iEffect_c hA.rebase ⟨(v : Int) + 1, rn, rk, rt, rh, rp⟩ HK.out (by have := HR.out; simpa using this))
  rintro E w1 ⟨bL, bLc, bLn, bP, bPc, bPn, bD, bDc, bDn, bN, bNc, bNn, bS, bSc, bSn, τ1, rfl, hm1⟩
  rw [show Sw.effect m ⟨(v : Int) + 1, rn, rk, rt, rh, rp⟩ = z from HZ.out.symm] at hm1 ⊢
  obtain ⟨hB0, hF0⟩ := hm1.box (b := w.heap.size) (by omega) (glue0 (Nat.le_refl _)) (by omega)
  have hz1 := hm1.ch.size
  obtain rfl : bNn = 5 := by rw [hm1.ow.nums.ow.1, hle.1]
  obtain rfl : bSn = 5 := by rw [hm1.ow.said.ow.1, hle.2]
  have hln : v < z.1.nums.length := by rw [hle.1]; exact hv
  have hls : v < z.1.said.length := by rw [hle.2]; exact hv
  clear hle
  obtain ⟨gM, xM, rfl, hgM0, hgM, hxM, cM, hfM⟩ := at_OI hm1.ow.nums.ow hv
  obtain ⟨gT, xT, rfl, hgT0, hgT, hxT, cT, hfT⟩ := at_OI hm1.ow.said.ow hv
  have tM : τ1 gM = 4 := hm1.ow.nums.tag _ rfl
  have tT : τ1 gT = 5 := hm1.ow.said.tag _ rfl
  have hMT : gM ≠ gT := by rintro rfl; rw [tM] at tT; cases tT
  have hMg := hm1.ne tM (by decide)
  have hTg := hm1.ne tT (by decide)
  have hMw : ¬ gM = w.heap.size := by rintro rfl; have := hm1.tag _ (show w.heap.size < W0.heap.size by omega); rw [tM, glue0 (Nat.le_refl _)] at this; cases this
  have hTw : ¬ gT = w.heap.size := by rintro rfl; have := hm1.tag _ (show w.heap.size < W0.heap.size by omega); rw [tT, glue0 (Nat.le_refl _)] at this; cases this
  obtain ⟨j0, j1, j2, j3, j4, j5, j6, jf⟩ := hm1.at_
  have hLM := hm1.ow.nums.ow.lbA
  have hLT := hm1.ow.said.ow.lbA
  have H1 := Lib.hid hm1
  clear hm1 hxM hxT k1 k2 k3 k4 k5 k6 kf qN qS hfN hfS
  go_wp2_with fail
  (refine wp_name ?_; intro W0 hb0; have hst := xr hb0; (try simp only [zA, zC, zD, zN] at hst); obtain ⟨hc0, hf0, hz0⟩ := hst; have hLb : Lb W0 (gM) (bNc * 1) := Lb.ex (by exact lbc_) hb0; have hLc : Lb W0 (gT) (bSc * 1) := Lb.ex (by exact lbc_) hb0; go_region_held3 (fun w' => HeldC (gM) (bNc * 1) (gT) (bSc * 1) W0 w') ((first | with_reducible assumption | with_reducible exact HeldC.start hLb hLc | with_reducible exact HeldC.of (by assumption) (by assumption) (by assumption) | ((repeat (first | with_reducible refine HeldC.set ?_ (by first | exact Or.inl (Or.inl rfl) | exact Or.inl (Or.inr rfl) | exact Or.inr (by simp only [zA, zC, zD, zN]; omega) | exact Or.inr (by omega)) | with_reducible refine HeldC.alloc ?_ _ | with_reducible refine HeldC.drew ?_)); (first | with_reducible assumption | with_reducible exact HeldC.chr (by assumption) (by assumption) (Rdp.lb (by assumption)) | with_reducible exact HeldC.refl hLb hLc | with_reducible exact HeldC.of (by assumption) (by assumption) (by assumption) | with_reducible exact HeldC.ex (by assumption) (by assumption))))) (fail); all_goals (rename HeldC (gM) (bNc * 1) (gT) (bSc * 1) W0 _ => hHx; have hb := HeldC.ch hHx; have hLb3 := HeldC.lb hHx; (repeat (first | with_reducible replace hLb3 := Lb.unset hLb3 | with_reducible replace hLb3 := Lb.undrew hLb3)); obtain ⟨hcb, hfb⟩ := Lb.rules hLb3; have hLc3 := HeldC.lc hHx; (repeat (first | with_reducible replace hLc3 := Lb.unset hLc3 | with_reducible replace hLc3 := Lb.undrew hLc3)); obtain ⟨hcc, hfc⟩ := Lb.rules hLc3; clear hHx))
  all_goals go_wp2_with fail
  all_goals go_ret
  all_goals exact ⟨_, _, _, _, _, _, _, _, _, _, _, _, _, _, _, τ1, rfl, hA.trans (MS.ex (MS.noted (H1.out.ex (by assumption)) hln hls rn z.2) ext_)⟩
end
end Go.Proofs.Ytdcjadgflenejaa

namespace Go.Proofs.Ytdcjadgflenejaa
set_option maxRecDepth 100000
set_option linter.unusedSimpArgs false
set_option linter.unusedVariables false
open Go.RowKit Go
set_option maxHeartbeats 8000000

end Go.Proofs.Ytdcjadgflenejaa

namespace Go.Proofs.Ytdcjadgflenejaa
set_option maxRecDepth 100000
set_option linter.unusedSimpArgs false
set_option linter.unusedVariables false
open Go.RowKit Go
set_option maxHeartbeats 2000000

theorem sMktTick_c (aL : Option Addr) (aLc aLn : Nat) (aP : Option Addr) (aPc aPn : Nat) (aD : Option Addr) (aDc aDn : Nat) (aN : Option Addr) (aNc aNn : Nat) (aS : Option Addr) (aSc aSn : Nat) (m : Sw.Mkt) (w : World) (hm : RM w 0 aL aLc aLn aP aPc aPn aD aDc aDn aN aNc aNn aS aSc aSn m) (hn : aLn + aPn + aDn + aNn + aSn ≤ 1048576) : Calls Try.prog 17 #[.agg #[.slice aL aLn aLc, .slice aP aPn aPc, .slice aD aDn aDc, .int .i64 m.clock, .slice aN aNn aNc, .slice aS aSn aSc]] w fun E w' => ∃ bL bLc bLn bP bPc bPn bD bDc bDn bN bNc bNn bS bSc bSn τ, E = .returned (.tuple #[.agg #[.slice bL bLn bLc, .slice bP bPn bPc, .slice bD bDn bDc, .int .i64 (Sw.mktTick m).1.clock, .slice bN bNn bNc, .slice bS bSn bSc], .bool (Sw.mktTick m).2]) ∧ OwM τ w' w.heap.size bL bLc bLn bP bPc bPn bD bDc bDn bN bNc bNn bS bSc bSn (Sw.mktTick m).1 ∧ Ex w w' := by
  cases g1 : Sw.mktOk m
  case false =>
    have e : Sw.mktTick m = (⟨[], [], [], 0, [], []⟩, false) := by simp [Sw.mktTick, g1, Sw.mktZ]
    have He := Lib.hid e; clear e
    go_enter Try.func17, Try.ntmps17
    go_wp2_with (first | (go_at_call 37; apply Calls.mono; apply sMktOk_c; ((first | (apply RM.at0; assumption) | (apply OwM.rm0; assumption)); exact kf_); rintro E w1 ⟨rfl, hb⟩; have hst := xr hb; (try simp only [zA, zC, zD, zN] at hst); obtain ⟨hc, hf, hz⟩ := hst))
    refine bodyPost_ret (v := .tuple #[.agg #[.slice none 0 0, .slice none 0 0, .slice none 0 0, .int .i64 0, .slice none 0 0, .slice none 0 0], .bool false]) (by simp [results, Try.results17, go_sem, *]) rfl ?_
    refine ⟨_, _, _, _, _, _, _, _, _, _, _, _, _, _, _, fun _ => 0, by rw [He.out], ?_, ext_⟩
    rw [He.out]
    exact ⟨OwT.nil .., OwT.nil .., OwT.nil .., OwT.nil .., OwT.nil ..⟩
  have hok := (Sw.mktOk_iff.1 g1)
  obtain ⟨rows, hok⟩ := hok
  have hck := hok.clk
  obtain ⟨ck0, ck1⟩ := hck
  clear hok
  by_cases g2 : m.clock = 99999
  · have g2' : (m.clock == 99999) = true := by simp [g2]
    have e : Sw.mktTick m = (m, false) := by simp [Sw.mktTick, g1, g2]
    have He := Lib.hid e; clear e g2
    go_enter Try.func17, Try.ntmps17
    go_wp2_with (first | (go_at_call 37; apply Calls.mono; apply sMktOk_c; ((first | (apply RM.at0; assumption) | (apply OwM.rm0; assumption)); exact kf_); rintro E w1 ⟨rfl, hb⟩; have hst := xr hb; (try simp only [zA, zC, zD, zN] at hst); obtain ⟨hc, hf, hz⟩ := hst) | (go_at_call 20; apply Calls.mono; apply sMktCopy_c; ((first | (apply RM.at0; assumption) | (apply OwM.rm0; assumption)); exact kf_); (first | assumption | omega); rintro E w1 ⟨bL, bLc, bLn, bP, bPc, bPn, bD, bDc, bDn, bN, bNc, bNn, bS, bSc, bSn, τ, rfl, ho, hb⟩; have hst := xr hb; (try simp only [zA, zC, zD, zN] at hst); obtain ⟨hc, hf, hz⟩ := hst))
    refine bodyPost_ret (v := .tuple #[.agg #[.slice bL bLn bLc, .slice bP bPn bPc, .slice bD bDn bDc, .int .i64 m.clock, .slice bN bNn bNc, .slice bS bSn bSc], .bool false]) (by simp [results, Try.results17, go_sem, *]) rfl ?_
    refine ⟨_, _, _, _, _, _, _, _, _, _, _, _, _, _, _, τ, by rw [He.out], ?_, ext_⟩
    rw [He.out]
    exact OwM.less (ho.keepF (by (exact kf_))) (by exact sz_)
  · have g2' : (m.clock == 99999) = false := by simp [g2]
    have e : Sw.mktTick m = (Sw.tick m, true) := by simp [Sw.mktTick, g1, g2]
    have He := Lib.hid e; clear e g2
    have l3 := Lib.hid hm.deals.1
    have l2 := Lib.hid hm.purses.1
    go_enter Try.func17, Try.ntmps17
    go_wp2_with (first | (go_at_call 37; apply Calls.mono; apply sMktOk_c; ((first | (apply RM.at0; assumption) | (apply OwM.rm0; assumption)); exact kf_); rintro E w1 ⟨rfl, hb⟩; have hst := xr hb; (try simp only [zA, zC, zD, zN] at hst); obtain ⟨hc, hf, hz⟩ := hst) | (go_at_call 20; apply Calls.mono; apply sMktCopy_c; ((first | (apply RM.at0; assumption) | (apply OwM.rm0; assumption)); exact kf_); (first | assumption | omega); rintro E w1 ⟨bL, bLc, bLn, bP, bPc, bPn, bD, bDc, bDn, bN, bNc, bNn, bS, bSc, bSn, τ, rfl, ho, hb⟩; have hst := xr hb; (try simp only [zA, zC, zD, zN] at hst); obtain ⟨hc, hf, hz⟩ := hst))
    apply Calls.mono
    apply (sTick_c (τ := τ))
    · exact ho.keepF (by (exact kf_))
    · exact ck0
    · exact ck1
    · have := ho.deals.ow.1; have := l3.out; omega
    · have := ho.purses.ow.1; have := l2.out; omega
    · exact sz_
    rintro E w3 ⟨A3, c3, τ3, rfl, ho3, hτ3, hb3⟩
    obtain ⟨hc3, hf3⟩ := low_rules (fun b hb => hb3.block b (by exact sz_) (fun h => Nat.not_lt.2 h.1 hb))
    have hex : Ex w w3 := Ch.trans' (show Ex w _ from ext_) hb3 (fun i hi h => absurd h.1 (by (first | omega | (simp only [zA, zC, zD, zN] at *; omega) | (simp only [zA, zC, zD, zN]; omega))))
    clear hb3 hτ3
    go_wp2
    refine bodyPost_ret (v := .tuple #[.agg #[.slice bL bLn bLc, .slice A3 bPn c3, .slice bD bDn bDc, .int .i64 (m.clock + 1), .slice bN bNn bNc, .slice bS bSn bSc], .bool true]) (by simp [results, Try.results17, go_sem, *]) rfl ?_
    refine ⟨_, _, _, _, _, _, _, _, _, _, _, _, _, _, _, τ3, by rw [He.out]; rfl, ?_, ext_⟩
    rw [He.out]
    exact OwM.less (ho3.keepF (by (exact kf_))) (by exact sz_)
end Go.Proofs.Ytdcjadgflenejaa

namespace Go.Proofs.Ytdcjadgflenejaa
set_option maxRecDepth 100000
set_option linter.unusedSimpArgs false
set_option linter.unusedVariables false
open Go.RowKit Go
set_option maxHeartbeats 4000000

theorem MOk_len {m : Sw.Mkt} {rows : List Sw.Row} (h : Sw.MOk m rows) : m.log.length ≤ 40 ∧ m.purses.length = 5 ∧ m.deals.length ≤ 8 ∧ m.nums.length = 5 ∧ m.said.length = 5 :=
  ⟨(Sw.ownFold_some.1 h.fold).1, (Sw.monOk_iff.1 h.mon).1, h.dlen, h.nlen, h.slen⟩
end Go.Proofs.Ytdcjadgflenejaa

namespace Go.Proofs.Ytdcjadgflenejaa
set_option maxRecDepth 100000
set_option linter.unusedSimpArgs false
set_option linter.unusedVariables false
open Go.RowKit Go

def lineBad (r : Sw.Req) : Bool := !Sw.lineOk r
def gateBad (g : Sw.Gate) : Bool := !Sw.gatOk g
def msgBad (x : Sw.Msg) : Bool := !Sw.msgOk x
theorem req_zero {r : Sw.Req} : decide (r = Sw.reqZ) = (decide (r.user = 0) && (decide (r.n = 0) && (decide (r.kind = 0) && (decide (r.ticket = 0) && (decide (r.who = 0) && decide (r.price = 0)))))) := by
  rw [Bool.eq_iff_iff]; cases r; simp [Sw.reqZ]
/-- A world's parts, as they are asked. -/
def wldGate (x : Sw.World) : Bool := Sw.mktOk x.market && Sw.monOk x.first && decide (x.lines.length ≤ 300) && decide (x.gates.length = 2) && decide (x.bag.length ≤ 6)
theorem wldOk_parts (x : Sw.World) : Sw.wldOk x = (wldGate x && (x.lines.all Sw.lineOk && (x.gates.all Sw.gatOk && x.bag.all Sw.msgOk))) := by
  simp [Sw.wldOk, wldGate, Bool.and_assoc]
end Go.Proofs.Ytdcjadgflenejaa

