/- Texts joined: DoH, PtrD. -/
import Derived.Test.YtnnoiagommiapaaGreatPz21
import Derived.Test.YtnnoiagommiapaaGreatPz25
import Derived.Test.YtnnoiagommiapaaGreatPz29
import Derived.Test.YtnnoiagommiapaaGreatPz26
import Derived.Test.YtnnoiagommiapaaGreatPz27
import Derived.Test.YtnnoiagommiapaaGreatPz28
import Derived.Test.YtnnoiagommiapaaGreatPz20
set_option maxRecDepth 100000
set_option linter.unusedSimpArgs false
set_option linter.unusedVariables false
namespace Go.Proofs.YtnnoiagommiapaaGreat
open Go.RowKit Go
set_option maxHeartbeats 2000000
theorem kindEnd {τ τ1 : Nat → Nat} {w0 W w1 w' : World} {lo c : Nat} {bL : Option Addr} {bLc bLn : Nat} {bP : Option Addr} {bPc bPn : Nat} {bD : Option Addr} {bDc bDn : Nat} {bN : Option Addr} {bNc bNn : Nat} {bS : Option Addr} {bSc bSn : Nat} {x : Sw.Mkt × Int} (ho : OwM τ1 w1 lo bL bLc bLn bP bPc bPn bD bDc bDn bN bNc bNn bS bSc bSn x.1) (hτ : ∀ b, b < W.heap.size → τ1 b = glue τ w0.heap.size (fun _ => 0) b) (hb : Ch (SM lo (glue τ w0.heap.size (fun _ => 0))) W w1)
   (h0 : Ex w0 W) (hc : w0.heap.size + c ≤ W.heap.size) (hx : Ch (BX w0.heap.size (w0.heap.size + c)) w1 w') : MktPost lo τ w0 w' (.returned (.tuple #[.agg #[.slice bL bLn bLc, .slice bP bPn bPc, .slice bD bDn bDc, .int .i64 x.1.clock, .slice bN bNn bNc, .slice bS bSn bSc], .int .i64 x.2])) x := by
 refine ⟨_, _, _, _, _, _, _, _, _, _, _, _, _, _, _, τ1, rfl, ho.box hx (fun b h1 h2 => (hτ b (by omega)).trans (if_neg (by omega))), fun b hb => (hτ b (Nat.lt_of_lt_of_le hb h0.size)).trans (if_pos hb), ?_⟩
 refine (Ch.trans' (Ex.ch h0) hb (fun i hi h => ?_)).trans' hx (fun i hi h => absurd h.1 (by omega))
 have h1 := h.1; have h2 := h.2.1; have h3 := h.2.2
 rw [show glue τ w0.heap.size (fun _ => 0) i = τ i from if_pos hi] at h2 h3
 exact ⟨h1, h2, h3⟩
theorem sKind_c (aL : Option Addr) (aLc aLn : Nat) (aP : Option Addr) (aPc aPn : Nat) (aD : Option Addr) (aDc aDn : Nat) (aN : Option Addr) (aNc aNn : Nat) (aS : Option Addr) (aSc aSn : Nat) (m : Sw.Mkt) (r : Sw.Req) (rows : List Sw.Row) (lo : Nat) (τ : Nat → Nat) (w : World) (hM : OwM τ w lo aL aLc aLn aP aPc aPn aD aDc aDn aN aNc aNn aS aSc aSn m) (hok : Sw.MOk m rows) (hr : Sw.reqOk r = true) (hlo : lo ≤ w.heap.size) : Calls Tryz.prog 186 #[.agg #[.slice aL aLn aLc, .slice aP aPn aPc, .slice aD aDn aDc, .int .i64 m.clock, .slice aN aNn aNc, .slice aS aSn aSc], .agg #[.int .i64 r.user, .int .i64 r.n, .int .i64 r.kind, .int .i64 r.ticket, .int .i64 r.who, .int .i64 r.price]] w fun E w' => MktPost lo τ w w' E (Sw.effect m r) := by
 have hr' := Sw.reqOk_iff.1 hr
 have hrow := (rows8 hok).1
 obtain ⟨ru, rn, rk, rt, rh, rp⟩ := r
 dsimp only at hr'
 obtain ⟨t, rfl⟩ := Int.eq_ofNat_of_zero_le (show 0 ≤ rt by omega)
 have ht : t < 8 := by omega
 obtain ⟨⟨u1, u5⟩, -, hk, -, -⟩ := hr'
 have HR := Lib.hid hr
 have HW := Lib.hid hrow
 have HK := Lib.hid hok
 clear hr hrow hok
 have hG := hM.glueL (τ' := fun _ => 0) (Nat.le_refl _)
 have hM1 := hM.rm
 rcases (show rk = 1 ∨ rk = 2 ∨ rk = 3 ∨ rk = 4 ∨ rk = 5 ∨ rk = 6 by omega) with rfl | rfl | rfl | rfl | rfl | rfl
 · have e : Sw.effect m ⟨ru, rn, 1, t, rh, rp⟩ = Sw.issue m ⟨ru, rn, 1, t, rh, rp⟩ (Sw.rowAt rows t) := by unfold Sw.effect; rw [HW.out]; rfl
   rw [e]; clear e hk
   go_enter Tryz.func186, Tryz.ntmps186
   go_wp2_with fail
   apply Calls.mono
   apply (sIssue_c (m := m) (r := ⟨ru, rn, 1, t, rh, rp⟩) (rows := rows) (τ := glue τ w.heap.size (fun _ => 0)))
   · exact hG.keepF kf_
   · exact HK.out
   · exact HR.out
   · rfl
   · exact sz_
   rintro E w1 ⟨bL, bLc, bLn, bP, bPc, bPn, bD, bDc, bDn, bN, bNc, bNn, bS, bSc, bSn, τ1, rfl, ho, hτ, hb⟩
   obtain ⟨hB0, hF0⟩ := Ch.sm_keep hb (g := w.heap.size + 1 + 1) sz_ (if_neg (by omega))
   have hz := hb.size
   (try simp only [zq_] at hz)
   go_wp2_with fail
   refine bodyPost_ret (v := .tuple #[.agg #[.slice bL bLn bLc, .slice bP bPn bPc, .slice bD bDn bDc, .int .i64 (Sw.issue m ⟨ru, rn, 1, t, rh, rp⟩ (Sw.rowAt rows t)).1.clock, .slice bN bNn bNc, .slice bS bSn bSc], .int .i64 (Sw.issue m ⟨ru, rn, 1, t, rh, rp⟩ (Sw.rowAt rows t)).2]) (by simp [results, Tryz.results186, go_sem, *]) rfl ?_
   exact kindEnd (c := 3) ho hτ hb ext_ sz_ bx_
 · have e : Sw.effect m ⟨ru, rn, 2, t, rh, rp⟩ = Sw.offer m ⟨ru, rn, 2, t, rh, rp⟩ (Sw.rowAt rows t) (Sw.dealAt m.deals t) := by unfold Sw.effect; rw [HW.out]; rfl
   rw [e]; clear e hk
   go_enter Tryz.func186, Tryz.ntmps186
   go_wp2_with fail
   apply Calls.mono
   apply (sOffer_c (m := m) (rows := rows) (τ := glue τ w.heap.size (fun _ => 0)))
   · exact hG.keepF kf_
   · exact HK.out
   · exact ht
   · exact sz_
   rintro E w1 ⟨bL, bLc, bLn, bP, bPc, bPn, bD, bDc, bDn, bN, bNc, bNn, bS, bSc, bSn, τ1, rfl, ho, hτ, hb⟩
   obtain ⟨hB0, hF0⟩ := Ch.sm_keep hb (g := w.heap.size + 1 + 1) sz_ (if_neg (by omega))
   have hz := hb.size
   (try simp only [zq_] at hz)
   go_wp2_with fail
   refine bodyPost_ret (v := .tuple #[.agg #[.slice bL bLn bLc, .slice bP bPn bPc, .slice bD bDn bDc, .int .i64 (Sw.offer m ⟨ru, rn, 2, t, rh, rp⟩ (Sw.rowAt rows t) (Sw.dealAt m.deals t)).1.clock, .slice bN bNn bNc, .slice bS bSn bSc], .int .i64 (Sw.offer m ⟨ru, rn, 2, t, rh, rp⟩ (Sw.rowAt rows t) (Sw.dealAt m.deals t)).2]) (by simp [results, Tryz.results186, go_sem, *]) rfl ?_
   exact kindEnd (c := 3) ho hτ hb ext_ sz_ bx_
 · have e : Sw.effect m ⟨ru, rn, 3, t, rh, rp⟩ = Sw.dropIt m ⟨ru, rn, 3, t, rh, rp⟩ (Sw.rowAt rows t) (Sw.dealAt m.deals t) := by unfold Sw.effect; rw [HW.out]; rfl
   rw [e]; clear e hk
   go_enter Tryz.func186, Tryz.ntmps186
   go_wp2_with fail
   apply Calls.mono
   apply (sDrop_c (m := m) (rows := rows) (τ := glue τ w.heap.size (fun _ => 0)))
   · exact hG.keepF kf_
   · exact HK.out
   · exact ht
   · exact sz_
   rintro E w1 ⟨bL, bLc, bLn, bP, bPc, bPn, bD, bDc, bDn, bN, bNc, bNn, bS, bSc, bSn, τ1, rfl, ho, hτ, hb⟩
   obtain ⟨hB0, hF0⟩ := Ch.sm_keep hb (g := w.heap.size + 1 + 1) sz_ (if_neg (by omega))
   have hz := hb.size
   (try simp only [zq_] at hz)
   go_wp2_with fail
   refine bodyPost_ret (v := .tuple #[.agg #[.slice bL bLn bLc, .slice bP bPn bPc, .slice bD bDn bDc, .int .i64 (Sw.dropIt m ⟨ru, rn, 3, t, rh, rp⟩ (Sw.rowAt rows t) (Sw.dealAt m.deals t)).1.clock, .slice bN bNn bNc, .slice bS bSn bSc], .int .i64 (Sw.dropIt m ⟨ru, rn, 3, t, rh, rp⟩ (Sw.rowAt rows t) (Sw.dealAt m.deals t)).2]) (by simp [results, Tryz.results186, go_sem, *]) rfl ?_
   exact kindEnd (c := 3) ho hτ hb ext_ sz_ bx_
 · have e : Sw.effect m ⟨ru, rn, 4, t, rh, rp⟩ = Sw.fund m ⟨ru, rn, 4, t, rh, rp⟩ (Sw.dealAt m.deals t) := by unfold Sw.effect; rw [HW.out]; rfl
   rw [e]; clear e hk
   go_enter Tryz.func186, Tryz.ntmps186
   go_wp2_with fail
   apply Calls.mono
   apply (sFund_c (m := m) (rows := rows) (τ := glue τ w.heap.size (fun _ => 0)))
   · exact hG.keepF kf_
   · exact HK.out
   · exact ht
   · exact u1
   · exact u5
   · exact sz_
   rintro E w1 ⟨bL, bLc, bLn, bP, bPc, bPn, bD, bDc, bDn, bN, bNc, bNn, bS, bSc, bSn, τ1, rfl, ho, hτ, hb⟩
   obtain ⟨hB0, hF0⟩ := Ch.sm_keep hb (g := w.heap.size + 1 + 1) sz_ (if_neg (by omega))
   have hz := hb.size
   (try simp only [zq_] at hz)
   go_wp2_with fail
   refine bodyPost_ret (v := .tuple #[.agg #[.slice bL bLn bLc, .slice bP bPn bPc, .slice bD bDn bDc, .int .i64 (Sw.fund m ⟨ru, rn, 4, t, rh, rp⟩ (Sw.dealAt m.deals t)).1.clock, .slice bN bNn bNc, .slice bS bSn bSc], .int .i64 (Sw.fund m ⟨ru, rn, 4, t, rh, rp⟩ (Sw.dealAt m.deals t)).2]) (by simp [results, Tryz.results186, go_sem, *]) rfl ?_
   exact kindEnd (c := 3) ho hτ hb ext_ sz_ bx_
 · have e : Sw.effect m ⟨ru, rn, 5, t, rh, rp⟩ = Sw.settle m ⟨ru, rn, 5, t, rh, rp⟩ (Sw.dealAt m.deals t) := by unfold Sw.effect; rw [HW.out]; rfl
   rw [e]; clear e hk
   go_enter Tryz.func186, Tryz.ntmps186
   go_wp2_with fail
   apply Calls.mono
   apply (sSettle_c (m := m) (rows := rows) (τ := glue τ w.heap.size (fun _ => 0)))
   · exact hG.keepF kf_
   · exact HK.out
   · exact ht
   · exact sz_
   rintro E w1 ⟨bL, bLc, bLn, bP, bPc, bPn, bD, bDc, bDn, bN, bNc, bNn, bS, bSc, bSn, τ1, rfl, ho, hτ, hb⟩
   obtain ⟨hB0, hF0⟩ := Ch.sm_keep hb (g := w.heap.size + 1 + 1) sz_ (if_neg (by omega))
   have hz := hb.size
   (try simp only [zq_] at hz)
   go_wp2_with fail
   refine bodyPost_ret (v := .tuple #[.agg #[.slice bL bLn bLc, .slice bP bPn bPc, .slice bD bDn bDc, .int .i64 (Sw.settle m ⟨ru, rn, 5, t, rh, rp⟩ (Sw.dealAt m.deals t)).1.clock, .slice bN bNn bNc, .slice bS bSn bSc], .int .i64 (Sw.settle m ⟨ru, rn, 5, t, rh, rp⟩ (Sw.dealAt m.deals t)).2]) (by simp [results, Tryz.results186, go_sem, *]) rfl ?_
   exact kindEnd (c := 3) ho hτ hb ext_ sz_ bx_
 · have e : Sw.effect m ⟨ru, rn, 6, t, rh, rp⟩ = Sw.enter m ⟨ru, rn, 6, t, rh, rp⟩ (Sw.rowAt rows t) (Sw.dealAt m.deals t) := by unfold Sw.effect; rw [HW.out]; rfl
   rw [e]; clear e hk
   go_enter Tryz.func186, Tryz.ntmps186
   go_wp2_with fail
   apply Calls.mono
   apply (sEnter_c (m := m) (rows := rows) (τ := glue τ w.heap.size (fun _ => 0)))
   · exact hG.keepF kf_
   · exact HK.out
   · exact ht
   · exact u1
   · exact u5
   · exact sz_
   rintro E w1 ⟨bL, bLc, bLn, bP, bPc, bPn, bD, bDc, bDn, bN, bNc, bNn, bS, bSc, bSn, τ1, rfl, ho, hτ, hb⟩
   obtain ⟨hB0, hF0⟩ := Ch.sm_keep hb (g := w.heap.size + 1 + 1) sz_ (if_neg (by omega))
   have hz := hb.size
   (try simp only [zq_] at hz)
   go_wp2_with fail
   refine bodyPost_ret (v := .tuple #[.agg #[.slice bL bLn bLc, .slice bP bPn bPc, .slice bD bDn bDc, .int .i64 (Sw.enter m ⟨ru, rn, 6, t, rh, rp⟩ (Sw.rowAt rows t) (Sw.dealAt m.deals t)).1.clock, .slice bN bNn bNc, .slice bS bSn bSc], .int .i64 (Sw.enter m ⟨ru, rn, 6, t, rh, rp⟩ (Sw.rowAt rows t) (Sw.dealAt m.deals t)).2]) (by simp [results, Tryz.results186, go_sem, *]) rfl ?_
   exact kindEnd (c := 3) ho hτ hb ext_ sz_ bx_
end Go.Proofs.YtnnoiagommiapaaGreat
namespace Go.Proofs.YtnnoiagommiapaaGreat
open Go.RowKit Go
set_option maxHeartbeats 4000000
theorem lit1E {W : World} {gl : Nat} (p q r s : Int) (h : gl = W.heap.size) : RE (W.alloc (.cells #[.int .i64 p, .int .i64 q, .int .i64 r, .int .i64 s] 207)).drew 0 (some ⟨gl, 0, none⟩) 1 1 [⟨p, q, r, s⟩] :=
 Rs.keep (Rs.new (enc := Sw.Ent.enc) (sz := 4) [⟨p, q, r, s⟩] h rfl rfl (fun _ => rfl) (by decide)) (kD (kR _ _))
section
variable {g o n lo : Nat} {τ0 τ : Nat → Nat} {w0 w : World} {aL : Option Addr} {aLc aLn : Nat} {aP : Option Addr} {aPc aPn : Nat} {aD : Option Addr} {aDc aDn : Nat} {aN : Option Addr} {aNc aNn : Nat} {aS : Option Addr} {aSc aSn : Nat} {m : Sw.Mkt}
theorem iDropAt_c (hS : MS g o n lo τ0 w0 aL aLc aLn aP aPc aPn aD aDc aDn aN aNc aNn aS aSc aSn m τ w) {k : Nat} (hk : k < aDn) : Calls Tryz.prog 225 #[.pointer (some ⟨g, o, none⟩), .int .i64 k] w fun E w' =>
   ∃ τ', E = .returned (.tuple #[]) ∧ MS g o n lo τ0 w0 aL aLc aLn aP aPc aPn aD aDc (aDn - 1) aN aNc aNn aS aSc aSn { m with deals := m.deals.eraseIdx k } τ' w' := by
 obtain ⟨gD, x, rfl, hgD0, hgD, hx, d0, d1, d2, d3, d4, hfD⟩ := at_OD hS.ow.deals.ow hk
 have hcb := hS.ow.deals.ow.rs.2.cap
 have hle := hS.ow.deals.ow.rs.2.le
 unfold maxLen at hcb
 obtain ⟨k0, k1, k2, k3, k4, k5, k6, kf⟩ := hS.at_
 have wk : IntKind.i64.wrap ((k : Int) + 1) = (k : Int) + 1 := IntWalk.i64_in _ (by omega)
 have HS := Lib.hid hS
 have hne := hS.ne (hS.ow.deals.tag _ rfl) (by decide)
 clear hx d0 d1 d2 d3 d4 hfD hS
 go_enter Tryz.func225, Tryz.ntmps225
 go_wp2_with (go_at_call 264; apply Calls.mono; apply (iDelete_c (lo := lo)); (exact HS.out.ow.deals.ow); exact hk; rintro E w1 ⟨rfl, hoD, hb⟩; obtain ⟨hc, hf, hz⟩ := xd hb)
 refine bodyPost_end (v := .tuple #[]) (by simp [results, Tryz.results225, go_sem]) rfl ⟨_, rfl, HS.out.deals hoD ?_ (fun b hb => .inl hb)⟩
 exact Ch.mono hb fun i _ hi => ⟨_, rfl, hi⟩
theorem iAppendN_c (hS : MS g o n lo τ0 w0 aL aLc aLn aP aPc aPn aD aDc aDn aN aNc aNn aS aSc aSn m τ w) (p q r s : Int) (h40 : aLn = 40) : Calls Tryz.prog 228 #[.pointer (some ⟨g, o, none⟩), .agg #[.int .i64 p, .int .i64 q, .int .i64 r, .int .i64 s]] w fun E w' => E = .returned (.int .i64 6) ∧ Ex w w' := by
 obtain ⟨k0, k1, k2, k3, k4, k5, k6, kf⟩ := hS.at_
 clear hS
 subst h40
 go_enter Tryz.func228, Tryz.ntmps228
 go_wp2_with fail
 go_ret
 exact ⟨rfl, ext_⟩
theorem iAppend_c (hS : MS g o n lo τ0 w0 aL aLc aLn aP aPc aPn aD aDc aDn aN aNc aNn aS aSc aSn m τ w) (p q r s : Int) (h40 : aLn < 40) : Calls Tryz.prog 228 #[.pointer (some ⟨g, o, none⟩), .agg #[.int .i64 p, .int .i64 q, .int .i64 r, .int .i64 s]] w fun E w' =>
   ∃ A c τ', E = .returned (.int .i64 1) ∧ MS g o n lo τ0 w0 A c (aLn + 1) aP aPc aPn aD aDc aDn aN aNc aNn aS aSc aSn { m with log := m.log ++ [⟨p, q, r, s⟩] } τ' w' := by
 obtain ⟨k0, k1, k2, k3, k4, k5, k6, kf⟩ := hS.at_
 have HS := Lib.hid hS
 have hlo := hS.lo_le
 have h41 : ((aLn : Int) == 40) = false := by simp; omega
 have hSg : ¬ atA aL g := fun ⟨a, ha, e⟩ => hS.ne (hS.ow.log.tag a ha) (by decide) e.symm
 have HG := Lib.hid hSg
 clear hS hSg
 go_enter Tryz.func228, Tryz.ntmps228
 go_wp2_with fail
 go_region_law (refine step_app (lo := lo) (A := aL) (B := some ⟨w.heap.size + 1, 0, none⟩) (n := aLn) (m := 1) (d := 1) (xs := m.log) (ys := [⟨p, q, r, s⟩]) el_E one_E rfl rfl (by simp [Act.eval, Act.put]; done) (by simp [Act.eval, Act.put]; done) (HS.out.ow.log.ow.keep (by (exact kf_))) (lit1E p q r s (by simp only [zA])) (by omega) (by exact sz_) (fun A1 c1 w2 ho1 hch1 hat1 hex1 hlow1 => ?_); have hk1 := (hch1.cell (p := ⟨g, o, none⟩) (by simp only [zA, zD]; omega) HG.out); have hk2 := (hch1.frozen (p := ⟨g, o, none⟩) (by simp only [zA, zD]; omega) HG.out))
 all_goals
   clear hk1 hk2 hex1 hlow1
   go_wp2
   go_ret
   exact ⟨A1, c1, _, rfl, MS.log (HS.out.ex ext_) ho1 hch1 hat1⟩
theorem iIssue_c (hS : MS g o n lo τ0 w0 aL aLc aLn aP aPc aPn aD aDc aDn aN aNc aNn aS aSc aSn m τ w) (ru rn : Int) (t : Nat) (rh rp : Int) (row : Sw.Row) (hl : m.log.length ≤ 40) (hpn : aPn ≤ 4194304) : Calls Tryz.prog 223 #[.pointer (some ⟨g, o, none⟩), .agg #[.int .i64 ru, .int .i64 rn, .int .i64 1, .int .i64 t, .int .i64 rh, .int .i64 rp], .agg #[.int .i64 row.who, .int .i64 row.face, .bool row.used]] w fun E w' =>
   ∃ (bL : Option Addr) (bLc bLn : Nat) (bP : Option Addr) (bPc bPn : Nat) (bD : Option Addr) (bDc bDn : Nat) (bN : Option Addr) (bNc bNn : Nat) (bS : Option Addr) (bSc bSn : Nat) (τ' : Nat → Nat), E = .returned (.int .i64 (Sw.issue m ⟨ru, rn, 1, t, rh, rp⟩ row).2) ∧ MS g o n lo τ0 w0 bL bLc bLn bP bPc bPn bD bDc bDn bN bNc bNn bS bSc bSn (Sw.issue m ⟨ru, rn, 1, t, rh, rp⟩ row).1 τ' w' := by
 obtain ⟨f1, f2, f3⟩ := row
 obtain ⟨k0, k1, k2, k3, k4, k5, k6, kf⟩ := hS.at_
 have HS := Lib.hid hS
 have hP := hS.ow.purses
 have l1 := hS.ow.log.ow.1
 dsimp only
 by_cases h1 : ru ≠ 1 ∨ rh = 1
 · have e : Sw.issue m ⟨ru, rn, 1, t, rh, rp⟩ ⟨f1, f2, f3⟩ = (m, 2) := by unfold Sw.issue; rw [if_pos h1]
   rw [e]
   clear e hS hP l1
   by_cases h2 : ru = 1
   · subst h2
     have h3 : rh = 1 := by rcases h1 with h | h; exact absurd rfl h; exact h
     subst h3
     clear h1
     go_enter Tryz.func223, Tryz.ntmps223
     go_wp2_with fail
     go_ret
     exact ⟨_, _, _, _, _, _, _, _, _, _, _, _, _, _, _, τ, rfl, HS.out.ex ext_⟩
   · have g2 : (ru != 1) = true := by simpa using h2
     clear h1
     go_enter Tryz.func223, Tryz.ntmps223
     go_wp2_with fail
     go_ret
     exact ⟨_, _, _, _, _, _, _, _, _, _, _, _, _, _, _, τ, rfl, HS.out.ex ext_⟩
 have h1' : ru = 1 ∧ rh ≠ 1 := ⟨Classical.byContradiction fun h => h1 (.inl h), fun h => h1 (.inr h)⟩
 obtain ⟨rfl, hrh⟩ := h1'
 have g2 : (rh == 1) = false := by simpa using hrh
 clear h1
 by_cases h3 : f1 = 0
 case neg =>
   have e : Sw.issue m ⟨1, rn, 1, t, rh, rp⟩ ⟨f1, f2, f3⟩ = (m, 3) := by unfold Sw.issue; rw [if_neg (by simp [hrh]), if_pos h3]
   rw [e]
   have g3 : (f1 != 0) = true := by simpa using h3
   clear e hS hP l1
   go_enter Tryz.func223, Tryz.ntmps223
   go_wp2_with fail
   go_ret
   exact ⟨_, _, _, _, _, _, _, _, _, _, _, _, _, _, _, τ, rfl, HS.out.ex ext_⟩
 subst h3
 by_cases h4 : m.log.length = 40
 · have e : Sw.issue m ⟨1, rn, 1, t, rh, rp⟩ ⟨0, f2, f3⟩ = (m, 6) := by unfold Sw.issue; rw [if_neg (by simp [hrh]), if_neg (by simp), if_pos h4]
   rw [e]
   have g4 : ((aLn : Int) == 40) = true := by simp; omega
   clear e hS hP l1
   go_enter Tryz.func223, Tryz.ntmps223
   go_wp2_with fail
   go_ret
   exact ⟨_, _, _, _, _, _, _, _, _, _, _, _, _, _, _, τ, rfl, HS.out.ex ext_⟩
 have g4 : ((aLn : Int) == 40) = false := by simp; omega
 have hp5 := hP.ow.rs
 have l2 := hP.ow.1
 have hn40 : aLn < 40 := by omega
 cases h5 : Sw.moveMay m.purses rh 1 rp
 case false =>
   have e : Sw.issue m ⟨1, rn, 1, t, rh, rp⟩ ⟨0, f2, f3⟩ = (m, 5) := by unfold Sw.issue; rw [if_neg (by simp [hrh]), if_neg (by simp), if_neg h4, if_neg (by simp [h5])]
   rw [e]
   clear e hS l1 l2 h4
   go_enter Tryz.func223, Tryz.ntmps223
   go_wp2_with fail
   (refine wn_ fun W0 hb0 hc0 hf0 hz0 => ?_; refine wp_region_held_drew (S := fun w' => Held W0 w') (by kernel_rfl) ?_ (fun hHeld => ?_); (focus ((try dsimp only); (exact hq_))); refine rT 0 30 (h := ?_); refine rT 1 31 (h := ?_); refine rT 2 32 (h := ?_); refine rT 3 33 (h := ?_); refine rT 4 34 (h := ?_); refine rT 5 35 (h := ?_); refine rT 6 36 (h := ?_); refine rT 7 37 (h := ?_); refine wpAnyH_ready (rs := [8]) (by kernel_rfl) (by simp) ?_; refine AllReadyH.cons rfl (fun K hK => ?_) ?_; rotate_left; (focus exact AllReadyH.nil); go_simp; (go_at_call 261; apply Calls.mono; apply iMonMove_c; (apply Rs.at0 hp5; (exact kf_)); omega; rintro E w1 ⟨A1, c1, rfl, hoP, hbM⟩; have hb := hbM; rw [h5]; obtain ⟨hc, hf, hz⟩ := xy hb); (try go_wp2_with fail); refine hK.out _ _ ?_ (fun hHeld => ?_); (focus ((try dsimp only); (exact hq_))); clear hK K; (try simp only [Act.put, pz_]); refine rT 9 29 (h := ?_); refine rT 10 39 (h := ?_); refine rT 11 40 (h := ?_); refine rT 12 7 (h := ?_); refine rT 13 8 (h := ?_); refine wpAnyH_done (by kernel_rfl) ?_ _; all_goals (obtain ⟨hb, hc, hf, hz⟩ := xh (by assumption : Held W0 _)))
   all_goals go_wp2
   all_goals go_ret
   all_goals exact ⟨_, _, _, _, _, _, _, _, _, _, _, _, _, _, _, τ, rfl, HS.out.ex ext_⟩
 have e : Sw.issue m ⟨1, rn, 1, t, rh, rp⟩ ⟨0, f2, f3⟩ = ({ m with purses := Sw.turned (Sw.turned m.purses rh (-rp)) 1 rp, log := m.log ++ [⟨1, t, rh, rp⟩] }, 1) := by unfold Sw.issue; rw [if_neg (by simp [hrh]), if_neg (by simp), if_neg h4, if_pos h5]
 rw [e]
 have HM := Lib.hid (show Sw.monMove m.purses rh 1 rp = Sw.turned (Sw.turned m.purses rh (-rp)) 1 rp from by unfold Sw.monMove; rw [if_pos h5])
 clear e hS l1 l2 h4
 go_enter Tryz.func223, Tryz.ntmps223
 go_wp2_with fail
 (refine wn_ fun W0 hb0 hc0 hf0 hz0 => ?_; refine wp_region_held_drew (S := fun w' => Held W0 w') (by kernel_rfl) ?_ (fun hHeld => ?_); (focus ((try dsimp only); (exact hq_))); refine rT 0 30 (h := ?_); refine rT 1 31 (h := ?_); refine rT 2 32 (h := ?_); refine rT 3 33 (h := ?_); refine rT 4 34 (h := ?_); refine rT 5 35 (h := ?_); refine rT 6 36 (h := ?_); refine rT 7 37 (h := ?_); refine wpAnyH_ready (rs := [8]) (by kernel_rfl) (by simp) ?_; refine AllReadyH.cons rfl (fun K hK => ?_) ?_; rotate_left; (focus exact AllReadyH.nil); go_simp; (go_at_call 261; apply Calls.mono; apply iMonMove_c; (apply Rs.at0 hp5; (exact kf_)); omega; rintro E w1 ⟨A1, c1, rfl, hoP, hbM⟩; have hb := hbM; rw [h5]; obtain ⟨hc, hf, hz⟩ := xy hb); (try go_wp2_with fail); refine hK.out _ _ ?_ (fun hHeld => ?_); (focus ((try dsimp only); (exact hq_))); clear hK K; (try simp only [Act.put, pz_]); refine rT 9 29 (h := ?_); refine rT 10 39 (h := ?_); refine rT 11 40 (h := ?_); refine rT 12 7 (h := ?_); refine rT 13 8 (h := ?_); refine wpAnyH_done (by kernel_rfl) ?_ _; all_goals (obtain ⟨hb, hc, hf, hz⟩ := xh (by assumption : Held W0 _)))
 all_goals go_wp2_with fail
 rw [HM.out] at hoP
 have m1 := MS.purses (w := W0.drew) (HS.out.ex ext_) hoP hbM
 apply Calls.mono
 apply (iAppend_c m1 1 t rh rp hn40)
 rintro E w3 ⟨A3, c3, τ3, rfl, hm3⟩
 go_wp2
 go_ret
 exact ⟨_, _, _, _, _, _, _, _, _, _, _, _, _, _, _, τ3, rfl, hm3⟩
end
end Go.Proofs.YtnnoiagommiapaaGreat
