/- Texts joined: CopyI, DoH. -/
import Derived.Test.YtnnoiagommiapaaGreatPy28
import Derived.Test.YtnnoiagommiapaaGreatPy34
import Derived.Test.YtnnoiagommiapaaGreatPy23
import Derived.Test.YtnnoiagommiapaaGreatPy20
import Derived.Test.YtnnoiagommiapaaGreatPy25
import Derived.Test.YtnnoiagommiapaaGreatPy29
import Derived.Test.YtnnoiagommiapaaGreatPy35
import Derived.Test.YtnnoiagommiapaaGreatPy33
import Derived.Test.YtnnoiagommiapaaGreatPy30
import Derived.Test.YtnnoiagommiapaaGreatPy31
import Derived.Test.YtnnoiagommiapaaGreatPy16
set_option maxRecDepth 100000
set_option linter.unusedSimpArgs false
set_option linter.unusedVariables false
namespace Go.Proofs.YtnnoiagommiapaaGreat
open Go.RowKit Go
set_option maxHeartbeats 16000000
set_option maxHeartbeats 2000000
theorem kindEnd {τ τ1 : Nat → Nat} {w0 W w1 w' : World} {lo c : Nat} {bL : Option Addr} {bLc bLn : Nat} {bP : Option Addr} {bPc bPn : Nat} {bD : Option Addr} {bDc bDn : Nat} {bN : Option Addr} {bNc bNn : Nat} {bS : Option Addr} {bSc bSn : Nat} {x : Sw.Mkt × Int} (ho : OwM τ1 w1 lo bL bLc bLn bP bPc bPn bD bDc bDn bN bNc bNn bS bSc bSn x.1) (hτ : ∀ b, b < W.heap.size → τ1 b = glue τ w0.heap.size (fun _ => 0) b) (hb : Ch (SM lo (glue τ w0.heap.size (fun _ => 0))) W w1)
   (h0 : Ex w0 W) (hc : w0.heap.size + c ≤ W.heap.size) (hx : Ch (BX w0.heap.size (w0.heap.size + c)) w1 w') : MktPost lo τ w0 w' (.returned (.tuple #[.agg #[.slice bL bLn bLc, .slice bP bPn bPc, .slice bD bDn bDc, .int .i64 x.1.clock, .slice bN bNn bNc, .slice bS bSn bSc], .int .i64 x.2])) x := by
 refine ⟨_, _, _, _, _, _, _, _, _, _, _, _, _, _, _, τ1, rfl, ho.box hx (fun b h1 h2 => (hτ b (by omega)).trans (if_neg (by omega))), fun b hb => (hτ b (Nat.lt_of_lt_of_le hb h0.size)).trans (if_pos hb), ?_⟩
 refine (Ch.trans' (Ex.ch h0) hb (fun i hi h => ?_)).trans' hx (fun i hi h => absurd h.1 (by omega))
 have h1 := h.1; have h2 := h.2.1; have h3 := h.2.2
 rw [show glue τ w0.heap.size (fun _ => 0) i = τ i from if_pos hi] at h2 h3
 exact ⟨h1, h2, h3⟩
theorem sKind_c (aL : Option Addr) (aLc aLn : Nat) (aP : Option Addr) (aPc aPn : Nat) (aD : Option Addr) (aDc aDn : Nat) (aN : Option Addr) (aNc aNn : Nat) (aS : Option Addr) (aSc aSn : Nat) (m : Sw.Mkt) (r : Sw.Req) (rows : List Sw.Row) (lo : Nat) (τ : Nat → Nat) (w : World) (hM : OwM τ w lo aL aLc aLn aP aPc aPn aD aDc aDn aN aNc aNn aS aSc aSn m) (hok : Sw.MOk m rows) (hr : Sw.reqOk r = true) (hlo : lo ≤ w.heap.size) : Calls Tryz.prog 186 #[.agg #[.slice aL aLn aLc, .slice aP aPn aPc, .slice aD aDn aDc, .int .i64 m.clock, .slice aN aNn aNc, .slice aS aSn aSc], .agg #[.int .i64 r.user, .int .i64 r.n, .int .i64 r.kind, .int .i64 r.ticket, .int .i64 r.who, .int .i64 r.price]] w fun E w' => MktPost lo τ w w' E (Sw.effect m r) := by
 have hr' := Sw.reqOk_iff.1 hr
 have hrow := (rows8 hok).1
 obtain ⟨ru, rn, rk, rt, rh, rp⟩ := r
 dsimp only at hr'
 obtain ⟨t, rfl⟩ := Int.eq_ofNat_of_zero_le (show 0 ≤ rt by omega)
 have ht : t < 8 := by omega
 obtain ⟨⟨u1, u5⟩, -, hk, -, -⟩ := hr'
 have HR := Lib.hid hr
 have HW := Lib.hid hrow
 have HK := Lib.hid hok
 clear hr hrow hok
 have hG := hM.glueL (τ' := fun _ => 0) (Nat.le_refl _)
 have hM1 := hM.rm
 rcases (show rk = 1 ∨ rk = 2 ∨ rk = 3 ∨ rk = 4 ∨ rk = 5 ∨ rk = 6 by omega) with rfl | rfl | rfl | rfl | rfl | rfl
 · have e : Sw.effect m ⟨ru, rn, 1, t, rh, rp⟩ = Sw.issue m ⟨ru, rn, 1, t, rh, rp⟩ (Sw.rowAt rows t) := by unfold Sw.effect; rw [HW.out]; rfl
   rw [e]; clear e hk
   go_enter Tryz.func186, Tryz.ntmps186
   go_wp2_with fail
   apply Calls.mono
   apply (sIssue_c (m := m) (r := ⟨ru, rn, 1, t, rh, rp⟩) (rows := rows) (τ := glue τ w.heap.size (fun _ => 0)))
   · exact hG.keepF kf_
   · exact HK.out
   · exact HR.out
   · rfl
   · exact sz_
   rintro E w1 ⟨bL, bLc, bLn, bP, bPc, bPn, bD, bDc, bDn, bN, bNc, bNn, bS, bSc, bSn, τ1, rfl, ho, hτ, hb⟩
   obtain ⟨hB0, hF0⟩ := Ch.sm_keep hb (g := w.heap.size + 1 + 1) sz_ (if_neg (by omega))
   have hz := hb.size
   (try simp only [zq_] at hz)
   go_wp2_with fail
   refine bodyPost_ret (v := .tuple #[.agg #[.slice bL bLn bLc, .slice bP bPn bPc, .slice bD bDn bDc, .int .i64 (Sw.issue m ⟨ru, rn, 1, t, rh, rp⟩ (Sw.rowAt rows t)).1.clock, .slice bN bNn bNc, .slice bS bSn bSc], .int .i64 (Sw.issue m ⟨ru, rn, 1, t, rh, rp⟩ (Sw.rowAt rows t)).2]) (by simp [results, Tryz.results186, go_sem, *]) rfl ?_
   exact kindEnd (c := 3) ho hτ hb ext_ sz_ bx_
 · have e : Sw.effect m ⟨ru, rn, 2, t, rh, rp⟩ = Sw.offer m ⟨ru, rn, 2, t, rh, rp⟩ (Sw.rowAt rows t) (Sw.dealAt m.deals t) := by unfold Sw.effect; rw [HW.out]; rfl
   rw [e]; clear e hk
   go_enter Tryz.func186, Tryz.ntmps186
   go_wp2_with fail
   apply Calls.mono
   apply (sOffer_c (m := m) (rows := rows) (τ := glue τ w.heap.size (fun _ => 0)))
   · exact hG.keepF kf_
   · exact HK.out
   · exact ht
   · exact sz_
   rintro E w1 ⟨bL, bLc, bLn, bP, bPc, bPn, bD, bDc, bDn, bN, bNc, bNn, bS, bSc, bSn, τ1, rfl, ho, hτ, hb⟩
   obtain ⟨hB0, hF0⟩ := Ch.sm_keep hb (g := w.heap.size + 1 + 1) sz_ (if_neg (by omega))
   have hz := hb.size
   (try simp only [zq_] at hz)
   go_wp2_with fail
   refine bodyPost_ret (v := .tuple #[.agg #[.slice bL bLn bLc, .slice bP bPn bPc, .slice bD bDn bDc, .int .i64 (Sw.offer m ⟨ru, rn, 2, t, rh, rp⟩ (Sw.rowAt rows t) (Sw.dealAt m.deals t)).1.clock, .slice bN bNn bNc, .slice bS bSn bSc], .int .i64 (Sw.offer m ⟨ru, rn, 2, t, rh, rp⟩ (Sw.rowAt rows t) (Sw.dealAt m.deals t)).2]) (by simp [results, Tryz.results186, go_sem, *]) rfl ?_
   exact kindEnd (c := 3) ho hτ hb ext_ sz_ bx_
 · have e : Sw.effect m ⟨ru, rn, 3, t, rh, rp⟩ = Sw.dropIt m ⟨ru, rn, 3, t, rh, rp⟩ (Sw.rowAt rows t) (Sw.dealAt m.deals t) := by unfold Sw.effect; rw [HW.out]; rfl
   rw [e]; clear e hk
   go_enter Tryz.func186, Tryz.ntmps186
   go_wp2_with fail
   apply Calls.mono
   apply (sDrop_c (m := m) (rows := rows) (τ := glue τ w.heap.size (fun _ => 0)))
   · exact hG.keepF kf_
   · exact HK.out
   · exact ht
   · exact sz_
   rintro E w1 ⟨bL, bLc, bLn, bP, bPc, bPn, bD, bDc, bDn, bN, bNc, bNn, bS, bSc, bSn, τ1, rfl, ho, hτ, hb⟩
   obtain ⟨hB0, hF0⟩ := Ch.sm_keep hb (g := w.heap.size + 1 + 1) sz_ (if_neg (by omega))
   have hz := hb.size
   (try simp only [zq_] at hz)
   go_wp2_with fail
   refine bodyPost_ret (v := .tuple #[.agg #[.slice bL bLn bLc, .slice bP bPn bPc, .slice bD bDn bDc, .int .i64 (Sw.dropIt m ⟨ru, rn, 3, t, rh, rp⟩ (Sw.rowAt rows t) (Sw.dealAt m.deals t)).1.clock, .slice bN bNn bNc, .slice bS bSn bSc], .int .i64 (Sw.dropIt m ⟨ru, rn, 3, t, rh, rp⟩ (Sw.rowAt rows t) (Sw.dealAt m.deals t)).2]) (by simp [results, Tryz.results186, go_sem, *]) rfl ?_
   exact kindEnd (c := 3) ho hτ hb ext_ sz_ bx_
 · have e : Sw.effect m ⟨ru, rn, 4, t, rh, rp⟩ = Sw.fund m ⟨ru, rn, 4, t, rh, rp⟩ (Sw.dealAt m.deals t) := by unfold Sw.effect; rw [HW.out]; rfl
   rw [e]; clear e hk
   go_enter Tryz.func186, Tryz.ntmps186
   go_wp2_with fail
   apply Calls.mono
   apply (sFund_c (m := m) (rows := rows) (τ := glue τ w.heap.size (fun _ => 0)))
   · exact hG.keepF kf_
   · exact HK.out
   · exact ht
   · exact u1
   · exact u5
   · exact sz_
   rintro E w1 ⟨bL, bLc, bLn, bP, bPc, bPn, bD, bDc, bDn, bN, bNc, bNn, bS, bSc, bSn, τ1, rfl, ho, hτ, hb⟩
   obtain ⟨hB0, hF0⟩ := Ch.sm_keep hb (g := w.heap.size + 1 + 1) sz_ (if_neg (by omega))
   have hz := hb.size
   (try simp only [zq_] at hz)
   go_wp2_with fail
   refine bodyPost_ret (v := .tuple #[.agg #[.slice bL bLn bLc, .slice bP bPn bPc, .slice bD bDn bDc, .int .i64 (Sw.fund m ⟨ru, rn, 4, t, rh, rp⟩ (Sw.dealAt m.deals t)).1.clock, .slice bN bNn bNc, .slice bS bSn bSc], .int .i64 (Sw.fund m ⟨ru, rn, 4, t, rh, rp⟩ (Sw.dealAt m.deals t)).2]) (by simp [results, Tryz.results186, go_sem, *]) rfl ?_
   exact kindEnd (c := 3) ho hτ hb ext_ sz_ bx_
 · have e : Sw.effect m ⟨ru, rn, 5, t, rh, rp⟩ = Sw.settle m ⟨ru, rn, 5, t, rh, rp⟩ (Sw.dealAt m.deals t) := by unfold Sw.effect; rw [HW.out]; rfl
   rw [e]; clear e hk
   go_enter Tryz.func186, Tryz.ntmps186
   go_wp2_with fail
   apply Calls.mono
   apply (sSettle_c (m := m) (rows := rows) (τ := glue τ w.heap.size (fun _ => 0)))
   · exact hG.keepF kf_
   · exact HK.out
   · exact ht
   · exact sz_
   rintro E w1 ⟨bL, bLc, bLn, bP, bPc, bPn, bD, bDc, bDn, bN, bNc, bNn, bS, bSc, bSn, τ1, rfl, ho, hτ, hb⟩
   obtain ⟨hB0, hF0⟩ := Ch.sm_keep hb (g := w.heap.size + 1 + 1) sz_ (if_neg (by omega))
   have hz := hb.size
   (try simp only [zq_] at hz)
   go_wp2_with fail
   refine bodyPost_ret (v := .tuple #[.agg #[.slice bL bLn bLc, .slice bP bPn bPc, .slice bD bDn bDc, .int .i64 (Sw.settle m ⟨ru, rn, 5, t, rh, rp⟩ (Sw.dealAt m.deals t)).1.clock, .slice bN bNn bNc, .slice bS bSn bSc], .int .i64 (Sw.settle m ⟨ru, rn, 5, t, rh, rp⟩ (Sw.dealAt m.deals t)).2]) (by simp [results, Tryz.results186, go_sem, *]) rfl ?_
   exact kindEnd (c := 3) ho hτ hb ext_ sz_ bx_
 · have e : Sw.effect m ⟨ru, rn, 6, t, rh, rp⟩ = Sw.enter m ⟨ru, rn, 6, t, rh, rp⟩ (Sw.rowAt rows t) (Sw.dealAt m.deals t) := by unfold Sw.effect; rw [HW.out]; rfl
   rw [e]; clear e hk
   go_enter Tryz.func186, Tryz.ntmps186
   go_wp2_with fail
   apply Calls.mono
   apply (sEnter_c (m := m) (rows := rows) (τ := glue τ w.heap.size (fun _ => 0)))
   · exact hG.keepF kf_
   · exact HK.out
   · exact ht
   · exact u1
   · exact u5
   · exact sz_
   rintro E w1 ⟨bL, bLc, bLn, bP, bPc, bPn, bD, bDc, bDn, bN, bNc, bNn, bS, bSc, bSn, τ1, rfl, ho, hτ, hb⟩
   obtain ⟨hB0, hF0⟩ := Ch.sm_keep hb (g := w.heap.size + 1 + 1) sz_ (if_neg (by omega))
   have hz := hb.size
   (try simp only [zq_] at hz)
   go_wp2_with fail
   refine bodyPost_ret (v := .tuple #[.agg #[.slice bL bLn bLc, .slice bP bPn bPc, .slice bD bDn bDc, .int .i64 (Sw.enter m ⟨ru, rn, 6, t, rh, rp⟩ (Sw.rowAt rows t) (Sw.dealAt m.deals t)).1.clock, .slice bN bNn bNc, .slice bS bSn bSc], .int .i64 (Sw.enter m ⟨ru, rn, 6, t, rh, rp⟩ (Sw.rowAt rows t) (Sw.dealAt m.deals t)).2]) (by simp [results, Tryz.results186, go_sem, *]) rfl ?_
   exact kindEnd (c := 3) ho hτ hb ext_ sz_ bx_
end Go.Proofs.YtnnoiagommiapaaGreat
