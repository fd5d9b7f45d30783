/- Texts joined: PtrE, PtrF. -/
import Derived.Test.YtnnoiagommiapaaGreatPz30
set_option maxRecDepth 100000
set_option linter.unusedSimpArgs false
set_option linter.unusedVariables false
namespace Go.Proofs.YtnnoiagommiapaaGreat
open Go.RowKit Go
set_option maxHeartbeats 4000000
section
variable {g o n lo : Nat} {τ0 τ : Nat → Nat} {w0 w : World} {aL aP aN aS : Option Addr} {aLc aLn aPc aPn aDc aDn aNc aNn aSc aSn gD k : Nat} {m : Sw.Mkt}
theorem MS.funded (h : MS g o n lo τ0 w0 aL aLc aLn aP aPc aPn (some ⟨gD, 0, none⟩) aDc aDn aN aNc aNn aS aSc aSn m τ w) {y : Sw.Deal} (hx : m.deals[k]? = some y) (b d : Int) :
   MS g o n lo τ0 w0 aL aLc aLn aP aPc aPn (some ⟨gD, 0, none⟩) aDc aDn aN aNc aNn aS aSc aSn { m with deals := m.deals.set k { y with buyer := b, due := d } } τ ((w.setCell ⟨gD, k * 5 + 3, none⟩ (.int .i64 b)).setCell ⟨gD, k * 5 + 4, none⟩ (.int .i64 d)) := by
 have tD := h.ow.deals.tag _ rfl
 have hne : gD ≠ g := h.ne tD (by decide)
 have hm := h.may (h.ow.deals.ow.blk rfl).1 tD (by decide) (by decide)
 have gne : ∀ i j : Nat, (⟨gD, i, none⟩ : Addr) ≠ ⟨g, j, none⟩ := fun i j e => hne (by injection e)
 exact ⟨(h.at_.other _ hne).other _ hne, h.lb.set.set, h.ow.funded hx b d, h.tag, fun i hi => ((World.cell?_setCell_other _ _ _ _ (gne _ _)).trans (World.cell?_setCell_other _ _ _ _ (gne _ _))).trans (h.out i hi), cS (p := ⟨gD, k * 5 + 4, none⟩) (cS (p := ⟨gD, k * 5 + 3, none⟩) h.ch hm _) hm _, h.glt, h.gz, h.llo⟩
end
section
variable {g o n lo : Nat} {τ0 τ : Nat → Nat} {w0 w : World} {aL : Option Addr} {aLc aLn : Nat} {aP : Option Addr} {aPc aPn : Nat} {aD : Option Addr} {aDc aDn : Nat} {aN : Option Addr} {aNc aNn : Nat} {aS : Option Addr} {aSc aSn : Nat} {m : Sw.Mkt}
theorem iFund_c (hS : MS g o n lo τ0 w0 aL aLc aLn aP aPc aPn aD aDc aDn aN aNc aNn aS aSc aSn m τ w) (ru rn rk : Int) (t : Nat) (rh rp : Int) {rows : List Sw.Row} (hok : Sw.MOk m rows) (hu1 : 1 ≤ ru) (hu5 : ru ≤ 5) : Calls Tryz.prog 226 #[.pointer (some ⟨g, o, none⟩), .agg #[.int .i64 ru, .int .i64 rn, .int .i64 rk, .int .i64 t, .int .i64 rh, .int .i64 rp], .int .i64 (Sw.dealIx m.deals t)] w fun E w' =>
   ∃ (bL : Option Addr) (bLc bLn : Nat) (bP : Option Addr) (bPc bPn : Nat) (bD : Option Addr) (bDc bDn : Nat) (bN : Option Addr) (bNc bNn : Nat) (bS : Option Addr) (bSc bSn : Nat) (τ' : Nat → Nat), E = .returned (.int .i64 (Sw.fund m ⟨ru, rn, rk, t, rh, rp⟩ (Sw.dealAt m.deals t)).2) ∧ MS g o n lo τ0 w0 bL bLc bLn bP bPc bPn bD bDc bDn bN bNc bNn bS bSc bSn (Sw.fund m ⟨ru, rn, rk, t, rh, rp⟩ (Sw.dealAt m.deals t)).1 τ' w' := by
 obtain ⟨k0, k1, k2, k3, k4, k5, k6, kf⟩ := hS.at_
 have HS := Lib.hid hS
 have hp5 := hS.ow.purses.ow.rs
 have hpn : aPn ≤ 4194304 := by have := hS.ow.purses.ow.1; have := (Sw.monOk_iff.1 hok.mon).1; omega
 have l3 := hS.ow.deals.ow.1
 have hck := hok.clk
 obtain ⟨hck0, hck1⟩ := hck
 cases h3 : Sw.dealAt m.deals t
 case none =>
   have e : Sw.fund m ⟨ru, rn, rk, t, rh, rp⟩ none = (m, 3) := rfl
   rw [e, dealIx_none h3]
   clear e l3 h3 hok hS
   go_enter Tryz.func226, Tryz.ntmps226
   go_wp2_with fail
   go_ret
   exact ⟨_, _, _, _, _, _, _, _, _, _, _, _, _, _, _, τ, rfl, HS.out.ex ext_⟩
 rename_i kd
 obtain ⟨d, hd, hdt⟩ := Sw.dealAt_some h3
 have hk : kd < aDn := by have := (List.getElem?_eq_some_iff.1 hd).1; omega
 rw [dealIx_some h3]
 have hgd := Sw.getD_of (z := Sw.dealZ) hd
 obtain ⟨gD, y, rfl, hloD, hltD, hy, d0, d1, d2, d3, d4, hfD⟩ := at_OD hS.ow.deals.ow hk
 obtain rfl : y = d := Option.some.inj (hy.symm.trans hd)
 have hne := hS.ne (hS.ow.deals.tag _ rfl) (by decide)
 have hpr := (Sw.dealOk_iff.1 (hok.deals.get hd)).2.2.2.2.1
 have hcl := Sw.entCap_le (Sw.rowAt rows y.ticket).face
 have p0 : 1 ≤ y.price := by omega
 have p1 : y.price ≤ 60 := by omega
 clear hpr hcl hok hS
 have i0 : (0 : Int) ≤ (kd : Int) := by omega
 have i1 : (kd : Int) < (aDn : Int) := by omega
 have i2 : ¬ (kd : Int) < 0 := by omega
 by_cases h4 : 0 < y.buyer
 · have e : Sw.fund m ⟨ru, rn, rk, t, rh, rp⟩ (some kd) = (m, 3) := by unfold Sw.fund; dsimp only; rw [hgd, if_pos (by simp [Sw.held, h4])]
   rw [e]
   have hh : Sw.held y = true := by simp [Sw.held, h4]
   clear e l3 h3 hd hdt hy hgd h4
   go_enter Tryz.func226, Tryz.ntmps226
   go_wp2_with (go_at_call 106; apply Calls.mono; apply (iHeld_c y); rintro E w1 ⟨rfl, hb⟩; rw [hh]; obtain ⟨hc, hf, hz⟩ := xy hb)
   go_ret
   exact ⟨_, _, _, _, _, _, _, _, _, _, _, _, _, _, _, τ, rfl, HS.out.ex ext_⟩
 have hh : Sw.held y = false := by simp [Sw.held]; omega
 by_cases h5 : y.seller = ru
 · have g5 : (ru == y.seller) = true := by simp [h5]
   have e : Sw.fund m ⟨ru, rn, rk, t, rh, rp⟩ (some kd) = (m, 2) := by unfold Sw.fund; dsimp only; rw [hgd, if_neg (by simp [hh]), if_pos h5]
   rw [e]
   clear e l3 h3 hd hdt hy hgd h5 h4
   go_enter Tryz.func226, Tryz.ntmps226
   go_wp2_with (go_at_call 106; apply Calls.mono; apply (iHeld_c y); rintro E w1 ⟨rfl, hb⟩; rw [hh]; obtain ⟨hc, hf, hz⟩ := xy hb)
   (go_quiet ((first | fail)); all_goals (generalize hWq : World.drewN _ nq = W0; have hb0 := Ex.ofN hWq; clear hWq; obtain ⟨hc0, hf0, hz0⟩ := xy hb0))
   go_wp2
   go_ret
   exact ⟨_, _, _, _, _, _, _, _, _, _, _, _, _, _, _, τ, rfl, HS.out.ex ext_⟩
 have g5 : (ru == y.seller) = false := by simp; exact fun h => h5 h.symm
 have hwr : IntKind.i64.wrap (-y.price) = -y.price := IntWalk.i64_in _ (by omega)
 have hwk : IntKind.i64.wrap (m.clock + 5) = m.clock + 5 := IntWalk.i64_in _ (by omega)
 cases h6 : Sw.turnMay m.purses ru (-y.price)
 case false =>
   have e : Sw.fund m ⟨ru, rn, rk, t, rh, rp⟩ (some kd) = (m, 5) := by unfold Sw.fund; dsimp only; rw [hgd, if_neg (by simp [hh]), if_neg h5, if_neg (by simp [h6])]
   rw [e]
   clear e l3 h3 hd hdt hy hgd h5 h4
   go_enter Tryz.func226, Tryz.ntmps226
   go_wp2_with (go_at_call 106; apply Calls.mono; apply (iHeld_c y); rintro E w1 ⟨rfl, hb⟩; rw [hh]; obtain ⟨hc, hf, hz⟩ := xy hb)
   (go_quiet ((first | fail)); all_goals (generalize hWq : World.drewN _ nq = W0; have hb0 := Ex.ofN hWq; clear hWq; obtain ⟨hc0, hf0, hz0⟩ := xy hb0))
   go_wp2
   (refine wn_ fun W0 hb0 hc0 hf0 hz0 => ?_; refine wp_region_held_drew (S := fun w' => Held W0 w') (by kernel_rfl) ?_ (fun hHeld => ?_); (focus ((try dsimp only); (exact hq_))); refine rT 0 36 (h := ?_); refine rT 1 37 (h := ?_); refine rT 2 38 (h := ?_); refine rT 3 39 (h := ?_); refine rT 4 40 (h := ?_); refine rT 5 41 (h := ?_); refine rT 6 42 (h := ?_); refine rT 7 43 (h := ?_); refine rT 8 44 (h := ?_); refine rT 9 45 (h := ?_); refine rT 10 46 (h := ?_); refine wpAnyH_ready (rs := [11]) (by kernel_rfl) (by simp) ?_; refine AllReadyH.cons rfl (fun K hK => ?_) ?_; rotate_left; (focus exact AllReadyH.nil); go_simp; (go_at_call 180; apply Calls.mono; apply iMonTurn_c; (apply Rs.at0 hp5; (exact kf_)); omega; rintro E w1 ⟨A1, c1, rfl, hoP, hbM⟩; have hb := hbM; rw [h6]; obtain ⟨hc, hf, hz⟩ := xy hb); (try go_wp2_with fail); refine hK.out _ _ ?_ (fun hHeld => ?_); (focus ((try dsimp only); (exact hq_))); clear hK K; (try simp only [Act.put, pz_]); refine rT 12 35 (h := ?_); refine rT 13 48 (h := ?_); refine rT 14 49 (h := ?_); refine rT 15 8 (h := ?_); refine rT 16 9 (h := ?_); refine wpAnyH_done (by kernel_rfl) ?_ _; all_goals (obtain ⟨hb, hc, hf, hz⟩ := xh (by assumption : Held W0 _)))
   all_goals go_wp2
   all_goals go_ret
   all_goals exact ⟨_, _, _, _, _, _, _, _, _, _, _, _, _, _, _, τ, rfl, HS.out.ex ext_⟩
 have e : Sw.fund m ⟨ru, rn, rk, t, rh, rp⟩ (some kd) = ({ m with purses := Sw.turned m.purses ru (-y.price), deals := m.deals.set kd { y with buyer := ru, due := m.clock + 5 } }, 1) := by unfold Sw.fund; dsimp only; rw [hgd, if_neg (by simp [hh]), if_neg h5, if_pos h6]
 rw [e]
 have HP := Lib.hid (show Sw.monTurn m.purses ru (-y.price) = Sw.turned m.purses ru (-y.price) from by unfold Sw.monTurn; rw [if_pos h6])
 have HY := Lib.hid hy
 clear e l3 h3 hd hdt hy hgd h5 h4
 go_enter Tryz.func226, Tryz.ntmps226
 go_wp2_with (go_at_call 106; apply Calls.mono; apply (iHeld_c y); rintro E w1 ⟨rfl, hb⟩; rw [hh]; obtain ⟨hc, hf, hz⟩ := xy hb)
 (go_quiet ((first | fail)); all_goals (generalize hWq : World.drewN _ nq = W0; have hb0 := Ex.ofN hWq; clear hWq; obtain ⟨hc0, hf0, hz0⟩ := xy hb0))
 go_wp2
 (refine wn_ fun W0 hb0 hc0 hf0 hz0 => ?_; refine wp_region_held_drew (S := fun w' => Held W0 w') (by kernel_rfl) ?_ (fun hHeld => ?_); (focus ((try dsimp only); (exact hq_))); refine rT 0 36 (h := ?_); refine rT 1 37 (h := ?_); refine rT 2 38 (h := ?_); refine rT 3 39 (h := ?_); refine rT 4 40 (h := ?_); refine rT 5 41 (h := ?_); refine rT 6 42 (h := ?_); refine rT 7 43 (h := ?_); refine rT 8 44 (h := ?_); refine rT 9 45 (h := ?_); refine rT 10 46 (h := ?_); refine wpAnyH_ready (rs := [11]) (by kernel_rfl) (by simp) ?_; refine AllReadyH.cons rfl (fun K hK => ?_) ?_; rotate_left; (focus exact AllReadyH.nil); go_simp; (go_at_call 180; apply Calls.mono; apply iMonTurn_c; (apply Rs.at0 hp5; (exact kf_)); omega; rintro E w1 ⟨A1, c1, rfl, hoP, hbM⟩; have hb := hbM; rw [h6]; obtain ⟨hc, hf, hz⟩ := xy hb); (try go_wp2_with fail); refine hK.out _ _ ?_ (fun hHeld => ?_); (focus ((try dsimp only); (exact hq_))); clear hK K; (try simp only [Act.put, pz_]); refine rT 12 35 (h := ?_); refine rT 13 48 (h := ?_); refine rT 14 49 (h := ?_); refine rT 15 8 (h := ?_); refine rT 16 9 (h := ?_); refine wpAnyH_done (by kernel_rfl) ?_ _; all_goals (obtain ⟨hb, hc, hf, hz⟩ := xh (by assumption : Held W0 _)))
 all_goals go_wp2_with fail
 rw [HP.out] at hoP
 have m1 := MS.purses (w := W0.drew) (HS.out.ex ext_) hoP hbM
 have hLD := m1.ow.deals.ow.lbA
 have hbW := hbM
 (refine wn_ fun W0 hb0 hc0 hf0 hz0 => ?_; have hLb : Lb W0 (gD) (aDc * 5) := Lb.ex (by exact lbc_) hb0; go_region_held3 (fun w' => HeldB (gD) (aDc * 5) W0 w') ((exact hqb_)) (fail); all_goals (rename HeldB (gD) (aDc * 5) W0 _ => hHx; have hb := HeldB.ch hHx; obtain ⟨hc, hf, hz⟩ := xd hb; have hLb3 := HeldB.lb hHx; (repeat (first | with_reducible replace hLb3 := Lb.unset hLb3 | with_reducible replace hLb3 := Lb.undrew hLb3)); obtain ⟨hcb, hfb⟩ := Lb.rules hLb3; clear hHx))
 all_goals go_wp2
 all_goals go_ret
 all_goals exact ⟨_, _, _, _, _, _, _, _, _, _, _, _, _, _, _, _, rfl, MS.ex (MS.funded (m1.ex (by assumption)) HY.out ru (m.clock + 5)) ext_⟩
end
end Go.Proofs.YtnnoiagommiapaaGreat
namespace Go.Proofs.YtnnoiagommiapaaGreat
open Go.RowKit Go
set_option maxHeartbeats 4000000
section
variable {g o n lo : Nat} {τ0 τ : Nat → Nat} {w0 w : World} {aL : Option Addr} {aLc aLn : Nat} {aP : Option Addr} {aPc aPn : Nat} {aD : Option Addr} {aDc aDn : Nat} {aN : Option Addr} {aNc aNn : Nat} {aS : Option Addr} {aSc aSn : Nat} {m : Sw.Mkt}
theorem iSettle_c (hS : MS g o n lo τ0 w0 aL aLc aLn aP aPc aPn aD aDc aDn aN aNc aNn aS aSc aSn m τ w) (ru rn rk : Int) (t : Nat) (rh rp : Int) {rows : List Sw.Row} (hok : Sw.MOk m rows) : Calls Tryz.prog 227 #[.pointer (some ⟨g, o, none⟩), .agg #[.int .i64 ru, .int .i64 rn, .int .i64 rk, .int .i64 t, .int .i64 rh, .int .i64 rp], .int .i64 (Sw.dealIx m.deals t)] w fun E w' =>
   ∃ (bL : Option Addr) (bLc bLn : Nat) (bP : Option Addr) (bPc bPn : Nat) (bD : Option Addr) (bDc bDn : Nat) (bN : Option Addr) (bNc bNn : Nat) (bS : Option Addr) (bSc bSn : Nat) (τ' : Nat → Nat), E = .returned (.int .i64 (Sw.settle m ⟨ru, rn, rk, t, rh, rp⟩ (Sw.dealAt m.deals t)).2) ∧ MS g o n lo τ0 w0 bL bLc bLn bP bPc bPn bD bDc bDn bN bNc bNn bS bSc bSn (Sw.settle m ⟨ru, rn, rk, t, rh, rp⟩ (Sw.dealAt m.deals t)).1 τ' w' := by
 obtain ⟨k0, k1, k2, k3, k4, k5, k6, kf⟩ := hS.at_
 have HS := Lib.hid hS
 have hpn : aPn ≤ 4194304 := by have := hS.ow.purses.ow.1; have := (Sw.monOk_iff.1 hok.mon).1; omega
 have l1 := hS.ow.log.ow.1
 have l3 := hS.ow.deals.ow.1
 have hll := (Sw.ownFold_some.1 hok.fold).1
 cases h3 : Sw.dealAt m.deals t
 case none =>
   have e : Sw.settle m ⟨ru, rn, rk, t, rh, rp⟩ none = (m, 3) := rfl
   rw [e, dealIx_none h3]
   clear e l1 l3 h3 hok hS hll
   go_enter Tryz.func227, Tryz.ntmps227
   go_wp2_with fail
   go_ret
   exact ⟨_, _, _, _, _, _, _, _, _, _, _, _, _, _, _, τ, rfl, HS.out.ex ext_⟩
 rename_i kd
 obtain ⟨d, hd, hdt⟩ := Sw.dealAt_some h3
 have hk : kd < aDn := by have := (List.getElem?_eq_some_iff.1 hd).1; omega
 rw [dealIx_some h3]
 have hgd := Sw.getD_of (z := Sw.dealZ) hd
 obtain ⟨gD, y, rfl, hloD, hltD, hy, d0, d1, d2, d3, d4, hfD⟩ := at_OD hS.ow.deals.ow hk
 obtain rfl : y = d := Option.some.inj (hy.symm.trans hd)
 have hne := hS.ne (hS.ow.deals.tag _ rfl) (by decide)
 clear hok hS
 have i0 : (0 : Int) ≤ (kd : Int) := by omega
 have i1 : (kd : Int) < (aDn : Int) := by omega
 have i2 : ¬ (kd : Int) < 0 := by omega
 cases hh : Sw.held y
 case false =>
   have e : Sw.settle m ⟨ru, rn, rk, t, rh, rp⟩ (some kd) = (m, 3) := by unfold Sw.settle; dsimp only; rw [hgd, if_pos hh]
   rw [e]
   clear e l1 l3 h3 hd hdt hy hgd hll
   go_enter Tryz.func227, Tryz.ntmps227
   go_wp2_with (go_at_call 106; apply Calls.mono; apply (iHeld_c y); rintro E w1 ⟨rfl, hb⟩; rw [hh]; obtain ⟨hc, hf, hz⟩ := xy hb)
   go_ret
   exact ⟨_, _, _, _, _, _, _, _, _, _, _, _, _, _, _, τ, rfl, HS.out.ex ext_⟩
 by_cases h5 : y.seller = ru
 case neg =>
   have g5 : (ru != y.seller) = true := by simp; exact fun h => h5 h.symm
   have e : Sw.settle m ⟨ru, rn, rk, t, rh, rp⟩ (some kd) = (m, 2) := by unfold Sw.settle; dsimp only; rw [hgd, if_neg (by simp [hh]), if_pos h5]
   rw [e]
   clear e l1 l3 h3 hd hdt hy hgd h5 hll
   go_enter Tryz.func227, Tryz.ntmps227
   go_wp2_with (go_at_call 106; apply Calls.mono; apply (iHeld_c y); rintro E w1 ⟨rfl, hb⟩; rw [hh]; obtain ⟨hc, hf, hz⟩ := xy hb)
   go_ret
   exact ⟨_, _, _, _, _, _, _, _, _, _, _, _, _, _, _, τ, rfl, HS.out.ex ext_⟩
 have g5 : (ru != y.seller) = false := by simp [h5]
 by_cases h4 : m.log.length = 40
 · have e : Sw.settle m ⟨ru, rn, rk, t, rh, rp⟩ (some kd) = (m, 6) := by unfold Sw.settle; dsimp only; rw [hgd, if_neg (by simp [hh]), if_neg (by simp [h5]), if_pos h4]
   rw [e]
   have h40 : aLn = 40 := by omega
   clear e l1 l3 h3 hd hdt hy hgd h5 h4 hll
   go_enter Tryz.func227, Tryz.ntmps227
   go_wp2_with (first | (go_at_call 106; apply Calls.mono; apply (iHeld_c y); rintro E w1 ⟨rfl, hb⟩; rw [hh]; obtain ⟨hc, hf, hz⟩ := xy hb) | (go_at_call 228; apply Calls.mono; apply (iAppendN_c (HS.out.ex ext_) 2 t y.buyer y.price h40); rintro E w3 ⟨rfl, hb⟩; obtain ⟨hc, hf, hz⟩ := xy hb))
   go_ret
   exact ⟨_, _, _, _, _, _, _, _, _, _, _, _, _, _, _, τ, rfl, HS.out.ex ext_⟩
 have e : Sw.settle m ⟨ru, rn, rk, t, rh, rp⟩ (some kd) = ({ m with purses := Sw.monTurn m.purses y.seller y.price, log := m.log ++ [⟨2, t, y.buyer, y.price⟩], deals := m.deals.eraseIdx kd }, 1) := by unfold Sw.settle; dsimp only; rw [hgd, if_neg (by simp [hh]), if_neg (by simp [h5]), if_neg h4]
 rw [e]
 have hn40 : aLn < 40 := by omega
 clear e l1 l3 h3 hd hdt hy hgd h5 h4 hll
 go_enter Tryz.func227, Tryz.ntmps227
 go_wp2_with (go_at_call 106; apply Calls.mono; apply (iHeld_c y); rintro E w1 ⟨rfl, hb⟩; rw [hh]; obtain ⟨hc, hf, hz⟩ := xy hb)
 have hWc : Ex w (w1.alloc (.cells #[.int .i64 y.ticket, .int .i64 y.seller, .int .i64 y.price, .int .i64 y.buyer, .int .i64 y.due] 105)) := ext_
 have hA := HS.out.zero hWc
 apply Calls.mono
 apply (iAppend_c hA.rebase 2 t y.buyer y.price hn40)
 rintro E w3 ⟨A3, c3, τ3, rfl, hm3⟩
 obtain ⟨hB0, hF0⟩ := hm3.box (b := w1.heap.size) (by simp only [zA]; omega) (glue0 (by omega)) (by omega)
 obtain ⟨j0, j1, j2, j3, j4, j5, j6, jf⟩ := hm3.at_
 have hz3 := hm3.ch.size
 simp only [zA] at hz3
 have hp5 := hm3.ow.purses.ow.rs
 have hLw := hm3.lb
 have H3 := Lib.hid hm3
 clear hm3
 go_wp2_with fail
 (refine wn_ fun W0 hb0 hc0 hf0 hz0 => ?_; have hLb : Lb W0 (g) n := Lb.ex (by exact lbc_) hb0; refine wp_region_held_drew (S := fun w' => HeldB (g) n W0 w') (by kernel_rfl) ?_ (fun hHeld => ?_); (focus ((try dsimp only); (exact hqb_))); refine rT 0 44 (h := ?_); refine rT 1 45 (h := ?_); refine rT 2 46 (h := ?_); refine rT 3 47 (h := ?_); refine rT 5 49 (h := ?_); refine rT 6 50 (h := ?_); refine rT 7 51 (h := ?_); refine rT 8 52 (h := ?_); refine wpAnyH_ready (rs := [4]) (by kernel_rfl) (by simp) ?_; refine AllReadyH.cons rfl (fun K hK => ?_) ?_; rotate_left; (focus exact AllReadyH.nil); go_simp; refine hK.out _ _ ?_ (fun hHeld => ?_); (focus ((try dsimp only); (exact hqb_))); clear hK K; (try simp only [Act.put, pz_]); refine wpAnyH_ready (rs := [9]) (by kernel_rfl) (by simp) ?_; refine AllReadyH.cons rfl (fun K hK => ?_) ?_; rotate_left; (focus exact AllReadyH.nil); go_simp; (go_at_call 180; apply Calls.mono; apply iMonTurn_c; (apply Rs.at0 hp5; (exact kf_)); omega; rintro E w5 ⟨A5, c5, rfl, hoP, hb⟩; have hb5 := hb; obtain ⟨hc, hf, hz⟩ := xy hb); (try go_wp2_with fail); refine hK.out _ _ ?_ (fun hHeld => ?_); (focus ((try dsimp only); (exact hqb_))); clear hK K; (try simp only [Act.put, pz_]); refine rT 10 43 (h := ?_); refine rT 11 54 (h := ?_); refine rT 12 55 (h := ?_); refine rT 13 56 (h := ?_); refine rT 14 57 (h := ?_); refine wpAnyH_ready (rs := [15]) (by kernel_rfl) (by simp) ?_; refine AllReadyH.cons rfl (fun K hK => ?_) ?_; rotate_left; (focus exact AllReadyH.nil); have hb := HeldB.ch hHeld; obtain ⟨hc, hf, hz⟩ := xd hb; have hLbx := HeldB.lb hHeld; obtain ⟨hcx, hfx⟩ := Lb.rules hLbx; go_simp; refine hK.out _ _ ?_ (fun hHx => ?_); (focus ((try dsimp only); (exact hqb_))); clear hK K hHeld hcx hfx hLbx; have hLb3 := HeldB.lb hHx; (repeat (first | with_reducible replace hLb3 := Lb.unset hLb3 | with_reducible replace hLb3 := Lb.undrew hLb3)); obtain ⟨hcb, hfb⟩ := Lb.rules hLb3; have hbf := HeldB.ch hHx; clear hHx; (try simp only [Act.put, pz_]); refine wpAnyH_done (by kernel_rfl) ?_ _)
 all_goals go_wp2_with fail
 have m2 := MS.purses (w := W0.drew) (H3.out.ex ext_) hoP hb5
 apply Calls.mono
 apply (iDropAt_c m2 hk)
 rintro E w6 ⟨τ6, rfl, hm6⟩
 go_wp2
 go_ret
 exact ⟨_, _, _, _, _, _, _, _, _, _, _, _, _, _, _, τ6, rfl, hA.trans hm6⟩
end
end Go.Proofs.YtnnoiagommiapaaGreat
