/- Texts joined: WldJ. -/
import Derived.Test.YtnnoiagommiapaaGreatPy47
import Derived.Test.YtnnoiagommiapaaGreatPy46
import Derived.Test.YtnnoiagommiapaaGreatPy38
import Derived.Test.YtnnoiagommiapaaGreatPy34
set_option maxRecDepth 100000
set_option linter.unusedSimpArgs false
set_option linter.unusedVariables false
namespace Go.Proofs.YtnnoiagommiapaaGreat
open Go.RowKit Go
set_option maxHeartbeats 2000000
theorem UpT.cut {lo : Nat} {τ : Nat → Nat} {w w3 w6 : World} (h : Ch (UpT lo τ) w w3) (hu : Ch (UpT lo (glue τ w.heap.size (fun _ => 0))) w3 w6) : Ch (UpT lo τ) w w6 :=
 Ch.trans' h hu fun i hi h => ⟨h.1, by have h2 := h.2; rw [glue, if_pos hi] at h2; exact h2⟩
theorem AskPost.wpost {lo : Nat} {τ : Nat → Nat} {w w' : World} {v : Value → Value} {E : Ending} {aF : Option Addr} {aFc aFn : Nat} {aL : Option Addr} {aLc aLn : Nat} {aP : Option Addr} {aPc aPn : Nat} {aD : Option Addr} {aDc aDn : Nat} {aN : Option Addr} {aNc aNn : Nat} {aS : Option Addr} {aSc aSn : Nat} {aI : Option Addr} {aIc aIn : Nat} {aG : Option Addr} {aGc aGn : Nat} {aB : Option Addr} {aBc aBn : Nat} {x z : Sw.World} (h : AskPost lo τ w w' v E aF aFc aFn aG aGc aGn aB aBc aBn z) (hW : OwW fdS fpS τ w lo aF aFc aFn aL aLc aLn aP aPc aPn aD aDc aDn aN aNc aNn aS aSc aSn aI aIc aIn aG aGc aGn aB aBc aBn x) (hs : z.first = x.first ∧ z.gates = x.gates ∧ z.bag = x.bag) : WPost lo τ w w' v E z := by
 obtain ⟨bL, bLc, bLn, bP, bPc, bPn, bD, bDc, bDn, bN, bNc, bNn, bS, bSc, bSn, I, Ic, In, τ', rfl, h1, h2, h3, h4⟩ := h
 have K : ∀ w'', Ch (Zr τ w.heap.size) w' w'' → ∀ t, 1 ≤ t → KT τ' t lo w' w'' := fun w'' hz t ht => (KT.refl _ _ _ _).boxg hz h3 ht
 have K0 : ∀ w'', Ch (Zr τ w.heap.size) w' w'' → ∀ t, 1 ≤ t → (t = 6 ∨ 8 ≤ t) → KT τ t lo w w'' := fun w'' hz t ht h => (KT.sa h4 h).box hz ht
 refine ⟨aF, aFc, aFn, bL, bLc, bLn, bP, bPc, bPn, bD, bDc, bDn, bN, bNc, bNn, bS, bSc, bSn, I, Ic, In, aG, aGc, aGn, aB, aBc, aBn, rfl, fun w'' hz => ⟨?_, (h1.keep fun t h1 _ => K w'' hz t h1).rm, (h2.keep (K w'' hz 7 (by decide))).rs, ?_, ?_⟩, h4.mono fun i _ h => ⟨h.1, h.2.1⟩⟩
 · rw [hs.1]; exact (hW.first.keep (K0 w'' hz 6 (by decide) (.inl rfl))).rs
 · rw [hs.2.1]; exact (hW.gates.keep (K0 w'' hz 8 (by decide) (.inr (by decide))) fun j => K0 w'' hz _ (by unfold fdS; omega) (.inr (fdS_le j))).rg
 · rw [hs.2.2]; exact (hW.bag.keep (K0 w'' hz 9 (by decide) (.inr (by decide))) fun j => K0 w'' hz _ (by unfold fpS; omega) (.inr (fpS_le j))).rx
theorem tickW_same (x : Sw.World) : (Sw.tickW x).first = x.first ∧ (Sw.tickW x).gates = x.gates ∧ (Sw.tickW x).bag = x.bag := by
 unfold Sw.tickW; split <;> exact ⟨rfl, rfl, rfl⟩
theorem Zr.kf {τ : Nat → Nat} {k l : Nat} {w w' : World} (h : Ch (Zr τ k) w w') (hk : k ≤ l) : KF l w w' := ⟨h.size, fun b h1 h2 => h.block b h2 fun h => by have := h.1; omega⟩
theorem RX.none_ (w : World) (lo : Nat) (g : Addr) : RX w lo (some g) 0 0 [] := ⟨[], ⟨rfl, (by simp), Nat.le_refl _, Nat.zero_le _, (fun h => by cases h), fun _ _ h => absurd h (Nat.lt_irrefl _)⟩, rfl, fun _ _ _ h => by simp at h⟩
theorem fallN {τ : Nat → Nat} {w1 w3 : World} {lo k : Nat} {g : Addr} {aF : Option Addr} {aFc aFn : Nat} {aL : Option Addr} {aLc aLn : Nat} {aP : Option Addr} {aPc aPn : Nat} {aD : Option Addr} {aDc aDn : Nat} {aN : Option Addr} {aNc aNn : Nat} {aS : Option Addr} {aSc aSn : Nat} {aI : Option Addr} {aIc aIn : Nat} {aG : Option Addr} {aGc aGn : Nat} {aB : Option Addr} {aBc aBn : Nat} {x : Sw.World} (hW : OwW fdS fpS τ w1 lo aF aFc aFn aL aLc aLn aP aPc aPn aD aDc aDn aN aNc aNn aS aSc aSn aI aIc aIn aG aGc aGn aB aBc aBn x) (he : Ch (Zr τ k) w1 w3) : RW w3 lo aF aFc aFn aL aLc aLn aP aPc aPn aD aDc aDn aN aNc aNn aS aSc aSn aI aIc aIn aG aGc aGn (some g) 0 0 { x with market := x.market, bag := [] } := by
 have hz := hW.zeros he
 exact ⟨hz.first.rs, hz.mkt.rm, hz.lines.rs, hz.gates.rg, RX.none_ _ _ _⟩
theorem fallY {τ : Nat → Nat} {w1 w3 : World} {lo k l : Nat} {g : Addr} {aF : Option Addr} {aFc aFn : Nat} {aL : Option Addr} {aLc aLn : Nat} {aP : Option Addr} {aPc aPn : Nat} {aD : Option Addr} {aDc aDn : Nat} {aN : Option Addr} {aNc aNn : Nat} {aS : Option Addr} {aSc aSn : Nat} {aI : Option Addr} {aIc aIn : Nat} {aG : Option Addr} {aGc aGn : Nat} {aB : Option Addr} {aBc aBn : Nat} {x : Sw.World} {bL : Option Addr} {bLc bLn : Nat} {bP : Option Addr} {bPc bPn : Nat} {bD : Option Addr} {bDc bDn : Nat} {bN : Option Addr} {bNc bNn : Nat} {bS : Option Addr} {bSc bSn : Nat} {m : Sw.Mkt} (hW : OwW fdS fpS τ w1 lo aF aFc aFn aL aLc aLn aP aPc aPn aD aDc aDn aN aNc aNn aS aSc aSn aI aIc aIn aG aGc aGn aB aBc aBn x) (hm : RM w1 l bL bLc bLn bP bPc bPn bD bDc bDn bN bNc bNn bS bSc bSn m) (hk : k ≤ l) (hl : lo ≤ l) (he : Ch (Zr τ k) w1 w3) :
   RW w3 lo aF aFc aFn bL bLc bLn bP bPc bPn bD bDc bDn bN bNc bNn bS bSc bSn aI aIc aIn aG aGc aGn (some g) 0 0 { x with market := m, bag := [] } := by
 have hz := hW.zeros he
 exact ⟨hz.first.rs, (hm.keep (Zr.kf he hk)).less hl, hz.lines.rs, hz.gates.rg, RX.none_ _ _ _⟩
theorem sStep_c (aF : Option Addr) (aFc aFn : Nat) (aL : Option Addr) (aLc aLn : Nat) (aP : Option Addr) (aPc aPn : Nat) (aD : Option Addr) (aDc aDn : Nat) (aN : Option Addr) (aNc aNn : Nat) (aS : Option Addr) (aSc aSn : Nat) (aI : Option Addr) (aIc aIn : Nat) (aG : Option Addr) (aGc aGn : Nat) (aB : Option Addr) (aBc aBn : Nat) (x : Sw.World) (e : Sw.Ev) (lo : Nat) (τ : Nat → Nat) (w : World) (hW : OwW fdS fpS τ w lo aF aFc aFn aL aLc aLn aP aPc aPn aD aDc aDn aN aNc aNn aS aSc aSn aI aIc aIn aG aGc aGn aB aBc aBn x) (hok : Sw.wldOk x = true) (hlo : lo ≤ w.heap.size) : Calls Tryz.prog 63 #[.agg #[.slice aF aFn aFc, .slice aL aLn aLc, .slice aP aPn aPc, .slice aD aDn aDc, .int .i64 x.market.clock, .slice aN aNn aNc, .slice aS aSn aSc, .slice aI aIn aIc, .slice aG aGn aGc, .slice aB aBn aBc], .agg #[.int .i64 e.kind, .int .i64 e.req.user, .int .i64 e.req.n, .int .i64 e.req.kind, .int .i64 e.req.ticket, .int .i64 e.req.who, .int .i64 e.req.price, .int .i64 e.at_, .int .i64 e.ticket, .int .i64 e.who]] w fun E w' => WPost lo τ w w' (fun u => .tuple #[u, .int .i64 (Sw.step x e).2]) E (Sw.step x e).1 := by
 have HOK := Lib.hid hok
 have hG := hW.glueL (τ' := fun _ => 0) (Nat.le_refl _)
 obtain ⟨rows, hR⟩ := Sw.mktOk_iff.1 (Sw.wldOk_iff.1 hok).mkt
 have HR := Lib.hid hR
 have hI300 : aIn ≤ 300 := by have h1 := (Sw.wldOk_iff.1 hok).lines; have h2 := hW.lines.ow.1; omega
 have HS : ∀ n, RowKit.Hid (e.kind = n → Sw.step x e = if n = 1 then Sw.ask x e.req else if n = 2 then (Sw.tickW x, 0) else if n = 3 then (Sw.fall x, 0) else if n = 4 then (Sw.send x e.at_, 0) else if n = 5 ∨ n = 6 ∨ n = 7 then (bagDo x n e.at_, 0) else if n = 8 then Sw.showIt x e.at_ e.ticket e.who else if n = 9 then (Sw.tell x e.at_, 0) else (x, 0)) := fun n => Lib.hid (by
   intro h
   unfold Sw.step bagDo
   rw [h]
   by_cases h1 : n = 1; · simp [h1]
   by_cases h2 : n = 2; · simp [h2]
   by_cases h3 : n = 3; · simp [h3]
   by_cases h4 : n = 4; · simp [h4]
   by_cases h5 : n = 5; · simp [h5]
   by_cases h6 : n = 6; · simp [h6]
   by_cases h7 : n = 7; · simp [h7]
   simp [h1, h2, h3, h4, h5, h6, h7])
 clear hok hR
 obtain ⟨ek, eq, ea, et, ew⟩ := e
 dsimp only at HS ⊢
 by_cases k1 : ek = 1
 · subst k1
   have hst := (HS 1).out rfl
   simp only [if_pos rfl, if_true, show ¬ ((1 : Int) = 2) from by decide, show ¬ ((1 : Int) = 3) from by decide, show ¬ ((1 : Int) = 4) from by decide, show ¬ ((1 : Int) = 5) from by decide, show ¬ ((1 : Int) = 6) from by decide, show ¬ ((1 : Int) = 7) from by decide, show ¬ ((1 : Int) = 8) from by decide, show ¬ ((1 : Int) = 9) from by decide, if_false, true_or, or_true, false_or, or_false, or_self] at hst
   rw [hst]
   clear hst
   go_enter Tryz.func63, Tryz.ntmps63
   go_wp2_with (go_at_call 142; apply Calls.mono; apply (sAsk_c (x := x) (r := eq) (rows := rows) (lo := lo) (τ := glue τ w.heap.size (fun _ => 0))); (exact (hG.keepF kf_).mkt); (exact (hG.keepF kf_).lines); (exact HR.out); (exact hI300); (exact sz_); rintro E w6 ha; obtain ⟨bF, bFc, bFn, bL, bLc, bLn, bP, bPc, bPn, bD, bDc, bDn, bN, bNc, bNn, bS, bSc, bSn, bI, bIc, bIn, bG, bGc, bGn, bB, bBc, bBn, rfl, hrw, hup⟩ := ha.wpost (hG.keepF kf_) (ask_same x eq); clear ha; have hLb : Lb _ (w.heap.size + 1 + 1) 10 := Lb.chk hup lbc_ (fun h => (by have h2 := h.2; rw [glue, if_neg (by omega)] at h2; omega)); obtain ⟨hcz, hfz⟩ := Lb.rules hLb; have hz6 := hup.size; (try simp only [zq_] at hz6); (try dsimp only))
   have hU : Ch (UpT lo τ) w w6 := UpT.cut (show Ch (UpT lo τ) w _ from ext_) hup
   refine bodyPost_ret (v := .tuple #[.agg #[.slice bF bFn bFc, .slice bL bLn bLc, .slice bP bPn bPc, .slice bD bDn bDc, .int .i64 (Sw.ask x eq).1.market.clock, .slice bN bNn bNc, .slice bS bSn bSc, .slice bI bIn bIc, .slice bG bGn bGc, .slice bB bBn bBc], .int .i64 (Sw.ask x eq).2]) (by simp [results, Tryz.results63, go_sem, *]) rfl ?_
   exact ⟨bF, bFc, bFn, bL, bLc, bLn, bP, bPc, bPn, bD, bDc, bDn, bN, bNc, bNn, bS, bSc, bSn, bI, bIc, bIn, bG, bGc, bGn, bB, bBc, bBn, rfl, fun w'' hz => hrw w'' (Zr.of (g1 := w.heap.size + 3) bx_ hz sz_ sz_), ext_⟩
 by_cases k2 : ek = 2
 · subst k2
   have hst := (HS 2).out rfl
   simp only [if_pos rfl, if_true, show ¬ ((2 : Int) = 1) from by decide, show ¬ ((2 : Int) = 3) from by decide, show ¬ ((2 : Int) = 4) from by decide, show ¬ ((2 : Int) = 5) from by decide, show ¬ ((2 : Int) = 6) from by decide, show ¬ ((2 : Int) = 7) from by decide, show ¬ ((2 : Int) = 8) from by decide, show ¬ ((2 : Int) = 9) from by decide, if_false, true_or, or_true, false_or, or_false, or_self] at hst
   rw [hst]
   clear hst
   go_enter Tryz.func63, Tryz.ntmps63
   go_wp2_with (go_at_call 143; apply Calls.mono; apply (sTickW_c (x := x) (rows := rows) (lo := lo) (τ := glue τ w.heap.size (fun _ => 0))); (exact (hG.keepF kf_).mkt); (exact (hG.keepF kf_).lines); (exact HR.out); (exact hI300); (exact sz_); rintro E w6 ha; obtain ⟨bF, bFc, bFn, bL, bLc, bLn, bP, bPc, bPn, bD, bDc, bDn, bN, bNc, bNn, bS, bSc, bSn, bI, bIc, bIn, bG, bGc, bGn, bB, bBc, bBn, rfl, hrw, hup⟩ := ha.wpost (hG.keepF kf_) (tickW_same x); clear ha; have hLb : Lb _ (w.heap.size + 1 + 1) 10 := Lb.chk hup lbc_ (fun h => (by have h2 := h.2; rw [glue, if_neg (by omega)] at h2; omega)); obtain ⟨hcz, hfz⟩ := Lb.rules hLb; have hz6 := hup.size; (try simp only [zq_] at hz6); (try dsimp only))
   have hU : Ch (UpT lo τ) w w6 := UpT.cut (show Ch (UpT lo τ) w _ from ext_) hup
   refine bodyPost_ret (v := .tuple #[.agg #[.slice bF bFn bFc, .slice bL bLn bLc, .slice bP bPn bPc, .slice bD bDn bDc, .int .i64 (Sw.tickW x).market.clock, .slice bN bNn bNc, .slice bS bSn bSc, .slice bI bIn bIc, .slice bG bGn bGc, .slice bB bBn bBc], .int .i64 0]) (by simp [results, Tryz.results63, go_sem, *]) rfl ?_
   exact ⟨bF, bFc, bFn, bL, bLc, bLn, bP, bPc, bPn, bD, bDc, bDn, bN, bNc, bNn, bS, bSc, bSn, bI, bIc, bIn, bG, bGc, bGn, bB, bBc, bBn, rfl, fun w'' hz => hrw w'' (Zr.of (g1 := w.heap.size + 3) bx_ hz sz_ sz_), ext_⟩
 by_cases k3 : ek = 3
 · subst k3
   have hst := (HS 3).out rfl
   simp only [if_pos rfl, if_true, show ¬ ((3 : Int) = 1) from by decide, show ¬ ((3 : Int) = 2) from by decide, if_false] at hst
   rw [hst]
   clear hst
   cases hF : Sw.wldFold x.first x.lines with
   | none =>
     have HF := Lib.hid hF
     have e : Sw.fall x = { x with market := x.market, bag := [] } := by simp [Sw.fall, hF]
     rw [e]
     clear e hF
     dsimp only
     go_enter Tryz.func63, Tryz.ntmps63
     go_wp2_with (go_at_call 41; apply Calls.mono; apply (sWldFold_c (fs := x.first) (ls := x.lines)); (apply Rs.at0 hW.first.ow.rs; (exact kf_)); (apply Rs.at0 hW.lines.ow.rs; (exact kf_)); rintro E w6 ⟨bL, bLc, bLn, bP, bPc, bPn, bD, bDc, bDn, bN, bNc, bNn, bS, bSc, bSn, rfl, hrm, hb⟩; rw [HF.out] at hrm ⊢; obtain ⟨hc, hf, hz⟩ := xy hb)
     refine bodyPost_ret (v := .tuple #[.agg #[.slice aF aFn aFc, .slice aL aLn aLc, .slice aP aPn aPc, .slice aD aDn aDc, .int .i64 x.market.clock, .slice aN aNn aNc, .slice aS aSn aSc, .slice aI aIn aIc, .slice aG aGn aGc, .slice (some ⟨w6.heap.size + 1, 0, none⟩) 0 0], .int .i64 0]) (by simp [results, Tryz.results63, go_sem, *]) rfl ?_
     exact ⟨aF, aFc, aFn, aL, aLc, aLn, aP, aPc, aPn, aD, aDc, aDn, aN, aNc, aNn, aS, aSc, aSn, aI, aIc, aIn, aG, aGc, aGn, _, 0, 0, rfl, fun w'' hz => fallN (w1 := w6) (hG.keepF kf_) (Zr.of (g1 := w.heap.size + 3) bx_ hz sz_ sz_), ext_⟩
   | some m =>
     have HF := Lib.hid hF
     have e : Sw.fall x = { x with market := m, bag := [] } := by simp [Sw.fall, hF]
     rw [e]
     clear e hF
     dsimp only
     go_enter Tryz.func63, Tryz.ntmps63
     go_upto_region 10 with (go_at_call 41; apply Calls.mono; apply (sWldFold_c (fs := x.first) (ls := x.lines)); (apply Rs.at0 hW.first.ow.rs; (exact kf_)); (apply Rs.at0 hW.lines.ow.rs; (exact kf_)); rintro E w6 ⟨bL, bLc, bLn, bP, bPc, bPn, bD, bDc, bDn, bN, bNc, bNn, bS, bSc, bSn, rfl, hrm, hb⟩; rw [HF.out] at hrm ⊢; obtain ⟨hc, hf, hz⟩ := xy hb)
     (refine wn_ fun W0 hb0 hc0 hf0 hz0 => ?_)
     have p0 : W0.cell? ⟨w.heap.size, 0, none⟩ = some (.slice aF aFn aFc) := (co_); have p1 : W0.cell? ⟨w.heap.size, 1, none⟩ = some (.slice bL bLn bLc) := (co_); have p2 : W0.cell? ⟨w.heap.size, 2, none⟩ = some (.slice bP bPn bPc) := (co_); have p3 : W0.cell? ⟨w.heap.size, 3, none⟩ = some (.slice bD bDn bDc) := (co_); have p4 : W0.cell? ⟨w.heap.size, 4, none⟩ = some (.int .i64 m.clock) := (co_); have p5 : W0.cell? ⟨w.heap.size, 5, none⟩ = some (.slice bN bNn bNc) := (co_); have p6 : W0.cell? ⟨w.heap.size, 6, none⟩ = some (.slice bS bSn bSc) := (co_); have p7 : W0.cell? ⟨w.heap.size, 7, none⟩ = some (.slice aI aIn aIc) := (co_); have p8 : W0.cell? ⟨w.heap.size, 8, none⟩ = some (.slice aG aGn aGc) := (co_); have p9 : W0.cell? ⟨w.heap.size, 9, none⟩ = some (.slice aB aBn aBc) := (co_)
     have pf : ∀ i : Nat, W0.frozen? ⟨w.heap.size, i, none⟩ = false := fun i => co_
     have hLr : Lb W0 (w.heap.size + 1 + 1) 10 := lbc_
     have hGq := hG.keepF (show KF lo w w6 from kf_)
     have hz3 : w.heap.size + 3 ≤ w6.heap.size := sz_
     have hbx : Ch (BX w.heap.size (w.heap.size + 3)) w6 W0 := bx_
     have hcq : Ch (UpT lo τ) w W0 := ext_
     have hzq : w6.heap.size + 1 ≤ W0.heap.size := sz_
     have hrm3 : RM w6 (w.heap.size + 3) bL bLc bLn bP bPc bPn bD bDc bDn bN bNc bNn bS bSc bSn m := hrm.less sz_
     clear hb hc hf hb0 hc0 hf0 hrm
     obtain ⟨Wq, hWq⟩ : ∃ z, z = W0 := ⟨_, rfl⟩
     subst hWq
     obtain ⟨hcz, hfz⟩ := Lb.rules hLr
     go_wp2_with fail
     refine bodyPost_ret (v := .tuple #[.agg #[.slice aF aFn aFc, .slice bL bLn bLc, .slice bP bPn bPc, .slice bD bDn bDc, .int .i64 m.clock, .slice bN bNn bNc, .slice bS bSn bSc, .slice aI aIn aIc, .slice aG aGn aGc, .slice (some ⟨Wq.heap.size, 0, none⟩) 0 0], .int .i64 0]) (by simp [results, Tryz.results63, go_sem, *]) rfl ?_
     exact ⟨aF, aFc, aFn, bL, bLc, bLn, bP, bPc, bPn, bD, bDc, bDn, bN, bNc, bNn, bS, bSc, bSn, aI, aIc, aIn, aG, aGc, aGn, _, 0, 0, rfl, fun w'' hz => fallY (w1 := w6) hGq hrm3 (Nat.le_refl _) (by omega) (Zr.of (w := w) (K := w.heap.size + 3) (g1 := w.heap.size + 3) (hbx.trans bx_) hz (Nat.le_refl _) (by omega)), ext_⟩
 by_cases k4 : ek = 4
 · subst k4
   have hst := (HS 4).out rfl
   simp only [if_pos rfl, if_true, show ¬ ((4 : Int) = 1) from by decide, show ¬ ((4 : Int) = 2) from by decide, show ¬ ((4 : Int) = 3) from by decide, show ¬ ((4 : Int) = 5) from by decide, show ¬ ((4 : Int) = 6) from by decide, show ¬ ((4 : Int) = 7) from by decide, show ¬ ((4 : Int) = 8) from by decide, show ¬ ((4 : Int) = 9) from by decide, if_false, true_or, or_true, false_or, or_false, or_self] at hst
   rw [hst]
   clear hst
   go_enter Tryz.func63, Tryz.ntmps63
   go_wp2_with (go_at_call 144; apply Calls.mono; apply (sSend_c (x := x) (k := ea) (lo := lo) (τ := glue τ w.heap.size (fun _ => 0))); (exact hG.keepF kf_); (exact HOK.out); (exact sz_); rintro E w6 ⟨bF, bFc, bFn, bL, bLc, bLn, bP, bPc, bPn, bD, bDc, bDn, bN, bNc, bNn, bS, bSc, bSn, bI, bIc, bIn, bG, bGc, bGn, bB, bBc, bBn, rfl, hrw, hup⟩; have hLb : Lb _ (w.heap.size + 1 + 1) 10 := Lb.chk hup lbc_ (fun h => (by have h2 := h.2; rw [glue, if_neg (by omega)] at h2; omega)); obtain ⟨hcz, hfz⟩ := Lb.rules hLb; have hz6 := hup.size; (try simp only [zq_] at hz6); (try dsimp only))
   have hU : Ch (UpT lo τ) w w6 := UpT.cut (show Ch (UpT lo τ) w _ from ext_) hup
   refine bodyPost_ret (v := .tuple #[.agg #[.slice bF bFn bFc, .slice bL bLn bLc, .slice bP bPn bPc, .slice bD bDn bDc, .int .i64 (Sw.send x ea).market.clock, .slice bN bNn bNc, .slice bS bSn bSc, .slice bI bIn bIc, .slice bG bGn bGc, .slice bB bBn bBc], .int .i64 0]) (by simp [results, Tryz.results63, go_sem, *]) rfl ?_
   exact ⟨bF, bFc, bFn, bL, bLc, bLn, bP, bPc, bPn, bD, bDc, bDn, bN, bNc, bNn, bS, bSc, bSn, bI, bIc, bIn, bG, bGc, bGn, bB, bBc, bBn, rfl, fun w'' hz => hrw w'' (Zr.of (g1 := w.heap.size + 3) bx_ hz sz_ sz_), ext_⟩
 by_cases k5 : ek = 5
 · subst k5
   have hst := (HS 5).out rfl
   simp only [if_pos rfl, if_true, show ¬ ((5 : Int) = 1) from by decide, show ¬ ((5 : Int) = 2) from by decide, show ¬ ((5 : Int) = 3) from by decide, show ¬ ((5 : Int) = 4) from by decide, show ¬ ((5 : Int) = 6) from by decide, show ¬ ((5 : Int) = 7) from by decide, show ¬ ((5 : Int) = 8) from by decide, show ¬ ((5 : Int) = 9) from by decide, if_false, true_or, or_true, false_or, or_false, or_self] at hst
   rw [hst]
   clear hst
   go_enter Tryz.func63, Tryz.ntmps63
   go_wp2_with (go_at_call 145; apply Calls.mono; apply (sBag_c (x := x) (kind := 5) (i := ea) (lo := lo) (τ := glue τ w.heap.size (fun _ => 0))); (exact hG.keepF kf_); (exact HOK.out); (exact sz_); rintro E w6 ⟨bF, bFc, bFn, bL, bLc, bLn, bP, bPc, bPn, bD, bDc, bDn, bN, bNc, bNn, bS, bSc, bSn, bI, bIc, bIn, bG, bGc, bGn, bB, bBc, bBn, rfl, hrw, hup⟩; have hLb : Lb _ (w.heap.size + 1 + 1) 10 := Lb.chk hup lbc_ (fun h => (by have h2 := h.2; rw [glue, if_neg (by omega)] at h2; omega)); obtain ⟨hcz, hfz⟩ := Lb.rules hLb; have hz6 := hup.size; (try simp only [zq_] at hz6); (try dsimp only))
   have hU : Ch (UpT lo τ) w w6 := UpT.cut (show Ch (UpT lo τ) w _ from ext_) hup
   refine bodyPost_ret (v := .tuple #[.agg #[.slice bF bFn bFc, .slice bL bLn bLc, .slice bP bPn bPc, .slice bD bDn bDc, .int .i64 (bagDo x 5 ea).market.clock, .slice bN bNn bNc, .slice bS bSn bSc, .slice bI bIn bIc, .slice bG bGn bGc, .slice bB bBn bBc], .int .i64 0]) (by simp [results, Tryz.results63, go_sem, *]) rfl ?_
   exact ⟨bF, bFc, bFn, bL, bLc, bLn, bP, bPc, bPn, bD, bDc, bDn, bN, bNc, bNn, bS, bSc, bSn, bI, bIc, bIn, bG, bGc, bGn, bB, bBc, bBn, rfl, fun w'' hz => hrw w'' (Zr.of (g1 := w.heap.size + 3) bx_ hz sz_ sz_), ext_⟩
 by_cases k6 : ek = 6
 · subst k6
   have hst := (HS 6).out rfl
   simp only [if_pos rfl, if_true, show ¬ ((6 : Int) = 1) from by decide, show ¬ ((6 : Int) = 2) from by decide, show ¬ ((6 : Int) = 3) from by decide, show ¬ ((6 : Int) = 4) from by decide, show ¬ ((6 : Int) = 5) from by decide, show ¬ ((6 : Int) = 7) from by decide, show ¬ ((6 : Int) = 8) from by decide, show ¬ ((6 : Int) = 9) from by decide, if_false, true_or, or_true, false_or, or_false, or_self] at hst
   rw [hst]
   clear hst
   go_enter Tryz.func63, Tryz.ntmps63
   go_wp2_with (go_at_call 145; apply Calls.mono; apply (sBag_c (x := x) (kind := 6) (i := ea) (lo := lo) (τ := glue τ w.heap.size (fun _ => 0))); (exact hG.keepF kf_); (exact HOK.out); (exact sz_); rintro E w6 ⟨bF, bFc, bFn, bL, bLc, bLn, bP, bPc, bPn, bD, bDc, bDn, bN, bNc, bNn, bS, bSc, bSn, bI, bIc, bIn, bG, bGc, bGn, bB, bBc, bBn, rfl, hrw, hup⟩; have hLb : Lb _ (w.heap.size + 1 + 1) 10 := Lb.chk hup lbc_ (fun h => (by have h2 := h.2; rw [glue, if_neg (by omega)] at h2; omega)); obtain ⟨hcz, hfz⟩ := Lb.rules hLb; have hz6 := hup.size; (try simp only [zq_] at hz6); (try dsimp only))
   have hU : Ch (UpT lo τ) w w6 := UpT.cut (show Ch (UpT lo τ) w _ from ext_) hup
   refine bodyPost_ret (v := .tuple #[.agg #[.slice bF bFn bFc, .slice bL bLn bLc, .slice bP bPn bPc, .slice bD bDn bDc, .int .i64 (bagDo x 6 ea).market.clock, .slice bN bNn bNc, .slice bS bSn bSc, .slice bI bIn bIc, .slice bG bGn bGc, .slice bB bBn bBc], .int .i64 0]) (by simp [results, Tryz.results63, go_sem, *]) rfl ?_
   exact ⟨bF, bFc, bFn, bL, bLc, bLn, bP, bPc, bPn, bD, bDc, bDn, bN, bNc, bNn, bS, bSc, bSn, bI, bIc, bIn, bG, bGc, bGn, bB, bBc, bBn, rfl, fun w'' hz => hrw w'' (Zr.of (g1 := w.heap.size + 3) bx_ hz sz_ sz_), ext_⟩
 by_cases k7 : ek = 7
 · subst k7
   have hst := (HS 7).out rfl
   simp only [if_pos rfl, if_true, show ¬ ((7 : Int) = 1) from by decide, show ¬ ((7 : Int) = 2) from by decide, show ¬ ((7 : Int) = 3) from by decide, show ¬ ((7 : Int) = 4) from by decide, show ¬ ((7 : Int) = 5) from by decide, show ¬ ((7 : Int) = 6) from by decide, show ¬ ((7 : Int) = 8) from by decide, show ¬ ((7 : Int) = 9) from by decide, if_false, true_or, or_true, false_or, or_false, or_self] at hst
   rw [hst]
   clear hst
   go_enter Tryz.func63, Tryz.ntmps63
   go_wp2_with (go_at_call 145; apply Calls.mono; apply (sBag_c (x := x) (kind := 7) (i := ea) (lo := lo) (τ := glue τ w.heap.size (fun _ => 0))); (exact hG.keepF kf_); (exact HOK.out); (exact sz_); rintro E w6 ⟨bF, bFc, bFn, bL, bLc, bLn, bP, bPc, bPn, bD, bDc, bDn, bN, bNc, bNn, bS, bSc, bSn, bI, bIc, bIn, bG, bGc, bGn, bB, bBc, bBn, rfl, hrw, hup⟩; have hLb : Lb _ (w.heap.size + 1 + 1) 10 := Lb.chk hup lbc_ (fun h => (by have h2 := h.2; rw [glue, if_neg (by omega)] at h2; omega)); obtain ⟨hcz, hfz⟩ := Lb.rules hLb; have hz6 := hup.size; (try simp only [zq_] at hz6); (try dsimp only))
   have hU : Ch (UpT lo τ) w w6 := UpT.cut (show Ch (UpT lo τ) w _ from ext_) hup
   refine bodyPost_ret (v := .tuple #[.agg #[.slice bF bFn bFc, .slice bL bLn bLc, .slice bP bPn bPc, .slice bD bDn bDc, .int .i64 (bagDo x 7 ea).market.clock, .slice bN bNn bNc, .slice bS bSn bSc, .slice bI bIn bIc, .slice bG bGn bGc, .slice bB bBn bBc], .int .i64 0]) (by simp [results, Tryz.results63, go_sem, *]) rfl ?_
   exact ⟨bF, bFc, bFn, bL, bLc, bLn, bP, bPc, bPn, bD, bDc, bDn, bN, bNc, bNn, bS, bSc, bSn, bI, bIc, bIn, bG, bGc, bGn, bB, bBc, bBn, rfl, fun w'' hz => hrw w'' (Zr.of (g1 := w.heap.size + 3) bx_ hz sz_ sz_), ext_⟩
 by_cases k8 : ek = 8
 · subst k8
   have hst := (HS 8).out rfl
   simp only [if_pos rfl, if_true, show ¬ ((8 : Int) = 1) from by decide, show ¬ ((8 : Int) = 2) from by decide, show ¬ ((8 : Int) = 3) from by decide, show ¬ ((8 : Int) = 4) from by decide, show ¬ ((8 : Int) = 5) from by decide, show ¬ ((8 : Int) = 6) from by decide, show ¬ ((8 : Int) = 7) from by decide, show ¬ ((8 : Int) = 9) from by decide, if_false, true_or, or_true, false_or, or_false, or_self] at hst
   rw [hst]
   clear hst
   go_enter Tryz.func63, Tryz.ntmps63
   go_wp2_with (go_at_call 146; apply Calls.mono; apply (sShow_c (x := x) (k := ea) (t := et) (who := ew) (lo := lo) (τ := glue τ w.heap.size (fun _ => 0))); (exact hG.keepF kf_); (exact HOK.out); (exact sz_); rintro E w6 ⟨bF, bFc, bFn, bL, bLc, bLn, bP, bPc, bPn, bD, bDc, bDn, bN, bNc, bNn, bS, bSc, bSn, bI, bIc, bIn, bG, bGc, bGn, bB, bBc, bBn, rfl, hrw, hup⟩; have hLb : Lb _ (w.heap.size + 1 + 1) 10 := Lb.chk hup lbc_ (fun h => (by have h2 := h.2; rw [glue, if_neg (by omega)] at h2; omega)); obtain ⟨hcz, hfz⟩ := Lb.rules hLb; have hz6 := hup.size; (try simp only [zq_] at hz6); (try dsimp only))
   have hU : Ch (UpT lo τ) w w6 := UpT.cut (show Ch (UpT lo τ) w _ from ext_) hup
   refine bodyPost_ret (v := .tuple #[.agg #[.slice bF bFn bFc, .slice bL bLn bLc, .slice bP bPn bPc, .slice bD bDn bDc, .int .i64 (Sw.showIt x ea et ew).1.market.clock, .slice bN bNn bNc, .slice bS bSn bSc, .slice bI bIn bIc, .slice bG bGn bGc, .slice bB bBn bBc], .int .i64 (Sw.showIt x ea et ew).2]) (by simp [results, Tryz.results63, go_sem, *]) rfl ?_
   exact ⟨bF, bFc, bFn, bL, bLc, bLn, bP, bPc, bPn, bD, bDc, bDn, bN, bNc, bNn, bS, bSc, bSn, bI, bIc, bIn, bG, bGc, bGn, bB, bBc, bBn, rfl, fun w'' hz => hrw w'' (Zr.of (g1 := w.heap.size + 3) bx_ hz sz_ sz_), ext_⟩
 by_cases k9 : ek = 9
 · subst k9
   have hst := (HS 9).out rfl
   simp only [if_pos rfl, if_true, show ¬ ((9 : Int) = 1) from by decide, show ¬ ((9 : Int) = 2) from by decide, show ¬ ((9 : Int) = 3) from by decide, show ¬ ((9 : Int) = 4) from by decide, show ¬ ((9 : Int) = 5) from by decide, show ¬ ((9 : Int) = 6) from by decide, show ¬ ((9 : Int) = 7) from by decide, show ¬ ((9 : Int) = 8) from by decide, if_false, true_or, or_true, false_or, or_false, or_self] at hst
   rw [hst]
   clear hst
   go_enter Tryz.func63, Tryz.ntmps63
   go_wp2_with (go_at_call 147; apply Calls.mono; apply (sTell_c (x := x) (k := ea) (lo := lo) (τ := glue τ w.heap.size (fun _ => 0))); (exact hG.keepF kf_); (exact HOK.out); (exact sz_); rintro E w6 ⟨bF, bFc, bFn, bL, bLc, bLn, bP, bPc, bPn, bD, bDc, bDn, bN, bNc, bNn, bS, bSc, bSn, bI, bIc, bIn, bG, bGc, bGn, bB, bBc, bBn, rfl, hrw, hup⟩; have hLb : Lb _ (w.heap.size + 1 + 1) 10 := Lb.chk hup lbc_ (fun h => (by have h2 := h.2; rw [glue, if_neg (by omega)] at h2; omega)); obtain ⟨hcz, hfz⟩ := Lb.rules hLb; have hz6 := hup.size; (try simp only [zq_] at hz6); (try dsimp only))
   have hU : Ch (UpT lo τ) w w6 := UpT.cut (show Ch (UpT lo τ) w _ from ext_) hup
   refine bodyPost_ret (v := .tuple #[.agg #[.slice bF bFn bFc, .slice bL bLn bLc, .slice bP bPn bPc, .slice bD bDn bDc, .int .i64 (Sw.tell x ea).market.clock, .slice bN bNn bNc, .slice bS bSn bSc, .slice bI bIn bIc, .slice bG bGn bGc, .slice bB bBn bBc], .int .i64 0]) (by simp [results, Tryz.results63, go_sem, *]) rfl ?_
   exact ⟨bF, bFc, bFn, bL, bLc, bLn, bP, bPc, bPn, bD, bDc, bDn, bN, bNc, bNn, bS, bSc, bSn, bI, bIc, bIn, bG, bGc, bGn, bB, bBc, bBn, rfl, fun w'' hz => hrw w'' (Zr.of (g1 := w.heap.size + 3) bx_ hz sz_ sz_), ext_⟩
 have hst := (HS ek).out rfl
 simp only [if_neg k1, if_neg k2, if_neg k3, if_neg k4, if_neg (show ¬ (ek = 5 ∨ ek = 6 ∨ ek = 7) from by omega), if_neg k8, if_neg k9] at hst
 rw [hst]
 clear hst
 have q1 : (ek == 1) = false := by simp [k1]
 have q2 : (ek == 2) = false := by simp [k2]
 have q3 : (ek == 3) = false := by simp [k3]
 have q4 : (ek == 4) = false := by simp [k4]
 have q5 : (ek == 5) = false := by simp [k5]
 have q6 : (ek == 6) = false := by simp [k6]
 have q7 : (ek == 7) = false := by simp [k7]
 have q8 : (ek == 8) = false := by simp [k8]
 have q9 : (ek == 9) = false := by simp [k9]
 go_enter Tryz.func63, Tryz.ntmps63
 go_wp2_with fail
 refine bodyPost_ret (v := .tuple #[.agg #[.slice aF aFn aFc, .slice aL aLn aLc, .slice aP aPn aPc, .slice aD aDn aDc, .int .i64 x.market.clock, .slice aN aNn aNc, .slice aS aSn aSc, .slice aI aIn aIc, .slice aG aGn aGc, .slice aB aBn aBc], .int .i64 0]) (by simp [results, Tryz.results63, go_sem, *]) rfl ?_
 exact ⟨aF, aFc, aFn, aL, aLc, aLn, aP, aPc, aPn, aD, aDc, aDn, aN, aNc, aNn, aS, aSc, aSn, aI, aIc, aIn, aG, aGc, aGn, aB, aBc, aBn, rfl, fun w'' hz => ((hW.keepF kf_).zeros hz).rw_, ext_⟩
end Go.Proofs.YtnnoiagommiapaaGreat
