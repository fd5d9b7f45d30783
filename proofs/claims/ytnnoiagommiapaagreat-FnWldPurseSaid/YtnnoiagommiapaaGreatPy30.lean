/- Texts joined: DoF, Tick, ImpG. -/
import Derived.Test.YtnnoiagommiapaaGreatPy29
import Derived.Test.YtnnoiagommiapaaGreatPy23
import Derived.Test.YtnnoiagommiapaaGreatPy16
import Derived.Test.YtnnoiagommiapaaGreatPy20
import Derived.Test.YtnnoiagommiapaaGreatPy15
set_option maxRecDepth 100000
set_option linter.unusedSimpArgs false
set_option linter.unusedVariables false
namespace Go.Proofs.YtnnoiagommiapaaGreat
open Go.RowKit Go
set_option maxHeartbeats 2000000
theorem OwM.atD {aL : Option Addr} {aLc aLn : Nat} {aP : Option Addr} {aPc aPn : Nat} {aD : Option Addr} {aDc aDn : Nat} {aN : Option Addr} {aNc aNn : Nat} {aS : Option Addr} {aSc aSn : Nat} {m : Sw.Mkt} {τ : Nat → Nat} {w : World} {lo : Nat} (h : OwM τ w lo aL aLc aLn aP aPc aPn aD aDc aDn aN aNc aNn aS aSc aSn m) {g : Nat} (hg : aD = some ⟨g, 0, none⟩) : SM lo τ g :=
 ⟨(h.deals.ow.blk hg).1, by have := h.deals.tag _ hg; rw [show τ g = 3 from this]; decide, by have := h.deals.tag _ hg; rw [show τ g = 3 from this]; decide⟩
theorem OwM.funded {aL aP aN aS : Option Addr} {aLc aLn aPc aPn aDc aDn aNc aNn aSc aSn : Nat} {m : Sw.Mkt} {τ : Nat → Nat} {w : World} {lo : Nat} {gD k : Nat} {y : Sw.Deal} (h : OwM τ w lo aL aLc aLn aP aPc aPn (some ⟨gD, 0, none⟩) aDc aDn aN aNc aNn aS aSc aSn m) (hx : m.deals[k]? = some y) (b d : Int) :
   OwM τ ((w.setCell ⟨gD, k * 5 + 3, none⟩ (.int .i64 b)).setCell ⟨gD, k * 5 + 4, none⟩ (.int .i64 d)) lo aL aLc aLn aP aPc aPn (some ⟨gD, 0, none⟩) aDc aDn aN aNc aNn aS aSc aSn { m with deals := m.deals.set k { y with buyer := b, due := d } } := by
 have tD : τ gD = 3 := h.deals.tag _ rfl
 have K : ∀ t, t ≠ 3 → KT τ t lo w ((w.setCell ⟨gD, k * 5 + 3, none⟩ (.int .i64 b)).setCell ⟨gD, k * 5 + 4, none⟩ (.int .i64 d)) := fun t ht =>
   ((KT.refl _ _ _ _).setCell (.inr (by show τ gD ≠ t; rw [tD]; exact Ne.symm ht))).setCell (.inr (by show τ gD ≠ t; rw [tD]; exact Ne.symm ht))
 refine ⟨h.log.keep (K 1 (by decide)), h.purses.keep (K 2 (by decide)), ⟨?_, h.deals.tag⟩, h.nums.keep (K 4 (by decide)), h.said.keep (K 5 (by decide))⟩
 have h2 := OD_set4 (OD_set3 h.deals.ow rfl hx b) rfl (set_atM hx) d
 rw [List.set_set] at h2
 exact h2
theorem sFund_c (aL : Option Addr) (aLc aLn : Nat) (aP : Option Addr) (aPc aPn : Nat) (aD : Option Addr) (aDc aDn : Nat) (aN : Option Addr) (aNc aNn : Nat) (aS : Option Addr) (aSc aSn : Nat) (m : Sw.Mkt) (ru rn rk : Int) (t : Nat) (rh rp : Int) (rows : List Sw.Row) (lo : Nat) (τ : Nat → Nat) (w : World) (hM : OwM τ w lo aL aLc aLn aP aPc aPn aD aDc aDn aN aNc aNn aS aSc aSn m) (hok : Sw.MOk m rows) (ht : t < 8) (hu1 : 1 ≤ ru) (hu5 : ru ≤ 5) (hlo : lo ≤ w.heap.size) : Calls Tryz.prog 232 #[.agg #[.slice aL aLn aLc, .slice aP aPn aPc, .slice aD aDn aDc, .int .i64 m.clock, .slice aN aNn aNc, .slice aS aSn aSc], .agg #[.int .i64 ru, .int .i64 rn, .int .i64 rk, .int .i64 t, .int .i64 rh, .int .i64 rp]] w fun E w' => MktPost lo τ w w' E (Sw.fund m ⟨ru, rn, rk, t, rh, rp⟩ (Sw.dealAt m.deals t)) := by
 have hMD := hM.deals
 have hMP := hM.purses
 have hd8 : m.deals.length ≤ 8 := hok.dlen
 have l3 := hM.deals.ow.1
 have hp5 : aPn ≤ 4194304 := by have := hM.purses.ow.1; have := (Sw.monOk_iff.1 hok.mon).1; omega
 have hck := hok.clk
 obtain ⟨hck0, hck1⟩ := hck
 have i0 : (0 : Int) ≤ (t : Int) := by omega
 have i1 : (t : Int) < 8 := by omega
 cases h3 : Sw.dealAt m.deals t
 case none =>
   have e : Sw.fund m ⟨ru, rn, rk, t, rh, rp⟩ none = (m, 3) := rfl
   rw [e]
   have HD := Lib.hid (dealIx_none h3)
   clear e l3 h3 hok
   go_enter Tryz.func232, Tryz.ntmps232
   go_wp2_with (go_at_call 266; apply Calls.mono; apply sFind_c; (apply OwT.rs0 hMD; (exact kf_)); rintro E w' ⟨rfl, rfl⟩; rw [HD.out])
   refine bodyPost_ret (v := .tuple #[.agg #[.slice aL aLn aLc, .slice aP aPn aPc, .slice aD aDn aDc, .int .i64 m.clock, .slice aN aNn aNc, .slice aS aSn aSc], .int .i64 3]) (by simp [results, Tryz.results232, go_sem, *]) rfl ?_
   exact ⟨_, _, _, _, _, _, _, _, _, _, _, _, _, _, _, τ, rfl, hM.keepF kf_, fun _ _ => rfl, ext_⟩
 rename_i kd
 obtain ⟨d, hd, hdt⟩ := Sw.dealAt_some h3
 have hk : kd < aDn := by have := (List.getElem?_eq_some_iff.1 hd).1; omega
 have HD := Lib.hid (dealIx_some h3)
 have hgd := Sw.getD_of (z := Sw.dealZ) hd
 obtain ⟨gD, y, rfl, hloD, hltD, hy, d0, d1, d2, d3, d4, hfD⟩ := at_OD hM.deals.ow hk
 obtain rfl : y = d := Option.some.inj (hy.symm.trans hd)
 have hpr := (Sw.dealOk_iff.1 (hok.deals.get hd)).2.2.2.2.1
 have hcl := Sw.entCap_le (Sw.rowAt rows y.ticket).face
 have p0 : 1 ≤ y.price := by omega
 have p1 : y.price ≤ 60 := by omega
 clear hpr hcl hok
 have k0 : (0 : Int) ≤ (kd : Int) := by omega
 have k1 : (kd : Int) < (aDn : Int) := by omega
 have k2 : ¬ (kd : Int) < 0 := by omega
 by_cases h4 : 0 < y.buyer
 · have e : Sw.fund m ⟨ru, rn, rk, t, rh, rp⟩ (some kd) = (m, 3) := by unfold Sw.fund; dsimp only; rw [hgd, if_pos (by simp [Sw.held, h4])]
   rw [e]
   clear e l3 h3 hd hdt hy hgd
   go_enter Tryz.func232, Tryz.ntmps232
   go_wp2_with (go_at_call 266; apply Calls.mono; apply sFind_c; (apply OwT.rs0 hMD; (exact kf_)); rintro E w' ⟨rfl, rfl⟩; rw [HD.out])
   refine bodyPost_ret (v := .tuple #[.agg #[.slice aL aLn aLc, .slice aP aPn aPc, .slice (some ⟨gD, 0, none⟩) aDn aDc, .int .i64 m.clock, .slice aN aNn aNc, .slice aS aSn aSc], .int .i64 3]) (by simp [results, Tryz.results232, go_sem, *]) rfl ?_
   exact ⟨_, _, _, _, _, _, _, _, _, _, _, _, _, _, _, τ, rfl, hM.keepF kf_, fun _ _ => rfl, ext_⟩
 have hh : ¬ Sw.held y = true := by simp [Sw.held]; omega
 by_cases h5 : y.seller = ru
 · have g5 : (y.seller == ru) = true := by simpa using h5
   have e : Sw.fund m ⟨ru, rn, rk, t, rh, rp⟩ (some kd) = (m, 2) := by unfold Sw.fund; dsimp only; rw [hgd, if_neg hh, if_pos h5]
   rw [e]
   clear e l3 h3 hd hdt hy hgd h5 hh
   go_enter Tryz.func232, Tryz.ntmps232
   go_wp2_with (go_at_call 266; apply Calls.mono; apply sFind_c; (apply OwT.rs0 hMD; (exact kf_)); rintro E w' ⟨rfl, rfl⟩; rw [HD.out])
   (go_quiet ((first | fail)); all_goals (generalize hWq : World.drewN _ nq = W0; have hb0 := Ex.ofN hWq; clear hWq; obtain ⟨hc0, hf0, hz0⟩ := xy hb0))
   go_wp2
   refine bodyPost_ret (v := .tuple #[.agg #[.slice aL aLn aLc, .slice aP aPn aPc, .slice (some ⟨gD, 0, none⟩) aDn aDc, .int .i64 m.clock, .slice aN aNn aNc, .slice aS aSn aSc], .int .i64 2]) (by simp [results, Tryz.results232, go_sem, *]) rfl ?_
   exact ⟨_, _, _, _, _, _, _, _, _, _, _, _, _, _, _, τ, rfl, hM.keepF kf_, fun _ _ => rfl, ext_⟩
 have g5 : (y.seller == ru) = false := by simpa using h5
 have hwr : IntKind.i64.wrap (-y.price) = -y.price := IntWalk.i64_in _ (by omega)
 cases h6 : Sw.turnMay m.purses ru (-y.price)
 case false =>
   have e : Sw.fund m ⟨ru, rn, rk, t, rh, rp⟩ (some kd) = (m, 5) := by unfold Sw.fund; dsimp only; rw [hgd, if_neg hh, if_neg h5, if_neg (by simp [h6])]
   rw [e]
   clear e l3 h3 hd hdt hy hgd h5 hh
   go_enter Tryz.func232, Tryz.ntmps232
   go_wp2_with (go_at_call 266; apply Calls.mono; apply sFind_c; (apply OwT.rs0 hMD; (exact kf_)); rintro E w' ⟨rfl, rfl⟩; rw [HD.out])
   (go_quiet ((first | fail)); all_goals (generalize hWq : World.drewN _ nq = W0; have hb0 := Ex.ofN hWq; clear hWq; obtain ⟨hc0, hf0, hz0⟩ := xy hb0))
   go_wp2
   (refine wn_ fun W0 hb0 hc0 hf0 hz0 => ?_; go_region_held3 (fun w' => Held W0 w') ((exact hq_)) (((go_at_call 229; apply Calls.mono; apply sMonTurn_c; (exact rdw_); (first | assumption | omega); rintro E w1 ⟨A', c', rfl, hoP, hb⟩; obtain ⟨hc, hf, hz⟩ := xy hb))); all_goals (obtain ⟨hb, hc, hf, hz⟩ := xh (by assumption : Held W0 _)))
   all_goals go_wp2
   refine bodyPost_ret (v := .tuple #[.agg #[.slice aL aLn aLc, .slice aP aPn aPc, .slice (some ⟨gD, 0, none⟩) aDn aDc, .int .i64 m.clock, .slice aN aNn aNc, .slice aS aSn aSc], .int .i64 5]) (by simp [results, Tryz.results232, go_sem, *]) rfl ?_
   exact ⟨_, _, _, _, _, _, _, _, _, _, _, _, _, _, _, τ, rfl, hM.keepF kf_, fun _ _ => rfl, ext_⟩
 have e : Sw.fund m ⟨ru, rn, rk, t, rh, rp⟩ (some kd) = ({ m with purses := Sw.turned m.purses ru (-y.price), deals := m.deals.set kd { y with buyer := ru, due := m.clock + 5 } }, 1) := by unfold Sw.fund; dsimp only; rw [hgd, if_neg hh, if_neg h5, if_pos h6]
 rw [e]
 have HP := Lib.hid (show Sw.monTurn m.purses ru (-y.price) = Sw.turned m.purses ru (-y.price) from by unfold Sw.monTurn; rw [if_pos h6])
 have HY := Lib.hid hy
 clear e l3 h3 hd hdt hy hgd h5 hh
 go_enter Tryz.func232, Tryz.ntmps232
 go_wp2_with (go_at_call 266; apply Calls.mono; apply sFind_c; (apply OwT.rs0 hMD; (exact kf_)); rintro E w' ⟨rfl, rfl⟩; rw [HD.out])
 (go_quiet ((first | fail)); all_goals (generalize hWq : World.drewN _ nq = W0; have hb0 := Ex.ofN hWq; clear hWq; obtain ⟨hc0, hf0, hz0⟩ := xy hb0))
 go_wp2
 (refine wn_ fun W0 hb0 hc0 hf0 hz0 => ?_; go_region_held3 (fun w' => Held W0 w') ((exact hq_)) (((go_at_call 229; apply Calls.mono; apply sMonTurn_c; (exact rdw_); (first | assumption | omega); rintro E w1 ⟨A', c', rfl, hoP, hb⟩; obtain ⟨hc, hf, hz⟩ := xy hb))); all_goals (obtain ⟨hb, hc, hf, hz⟩ := xh (by assumption : Held W0 _)))
 all_goals go_wp2
 refine bodyPost_ret (v := .tuple #[.agg #[.slice aL aLn aLc, .slice A' aPn c', .slice (some ⟨gD, 0, none⟩) aDn aDc, .int .i64 m.clock, .slice aN aNn aNc, .slice aS aSn aSc], .int .i64 1]) (by simp [results, Tryz.results232, go_sem, *]) rfl ?_
 rw [HP.out] at hoP
 have m1 := OwM.pursed ((hM.glueL (τ' := fun _ => 0) (Nat.le_refl _)).keepF kf_) hoP (Nat.le_refl _) sz_ (kE (by assumption) (kR _ _))
 have m2 := OwM.funded (m1.box (w' := w1.setCell ⟨w.heap.size, 1, none⟩ (.slice A' aPn c')) (g0 := w.heap.size) (g1 := w.heap.size + 3) bx_ (tag1 tag0 sz_)) HY.out ru (m.clock + 5)
 have hgS : SM lo τ gD ∨ w.heap.size ≤ gD := .inl (hM.atD rfl)
 exact ⟨_, _, _, _, _, _, _, _, _, _, _, _, _, _, _, _, rfl, m2.box (g0 := w.heap.size) (g1 := w.heap.size + 3) bx_ (tag1 tag0 sz_), fun b hb => (if_pos sz_).trans (if_pos hb), by (with_reducible repeat (first | exact cR _ _ | apply cA | apply cD | apply cN | (refine cS ?_ (Or.inr (by first | omega | (simp only [zq_]; omega))) _) | (refine cS ?_ hgS _) | (apply cE; assumption) | (apply cK; assumption)))⟩
set_option maxHeartbeats 2000000
theorem sMktTick_c (aL : Option Addr) (aLc aLn : Nat) (aP : Option Addr) (aPc aPn : Nat) (aD : Option Addr) (aDc aDn : Nat) (aN : Option Addr) (aNc aNn : Nat) (aS : Option Addr) (aSc aSn : Nat) (m : Sw.Mkt) (w : World) (hm : RM w 0 aL aLc aLn aP aPc aPn aD aDc aDn aN aNc aNn aS aSc aSn m) (hn : aLn + aPn + aDn + aNn + aSn ≤ 1048576) : Calls Tryz.prog 113 #[.agg #[.slice aL aLn aLc, .slice aP aPn aPc, .slice aD aDn aDc, .int .i64 m.clock, .slice aN aNn aNc, .slice aS aSn aSc]] w fun E w' => ∃ bL bLc bLn bP bPc bPn bD bDc bDn bN bNc bNn bS bSc bSn τ, E = .returned (.tuple #[.agg #[.slice bL bLn bLc, .slice bP bPn bPc, .slice bD bDn bDc, .int .i64 (Sw.mktTick m).1.clock, .slice bN bNn bNc, .slice bS bSn bSc], .bool (Sw.mktTick m).2]) ∧ OwM τ w' w.heap.size bL bLc bLn bP bPc bPn bD bDc bDn bN bNc bNn bS bSc bSn (Sw.mktTick m).1 ∧ Ex w w' := by
 cases g1 : Sw.mktOk m
 case false =>
   have e : Sw.mktTick m = (⟨[], [], [], 0, [], []⟩, false) := by simp [Sw.mktTick, g1, Sw.mktZ]
   have He := Lib.hid e; clear e
   go_enter Tryz.func113, Tryz.ntmps113
   go_wp2_with (first | (go_at_call 96; apply Calls.mono; apply sMktOk_c; (exact rdM_); rintro E w1 ⟨rfl, hb⟩; obtain ⟨hc, hf, hz⟩ := xy hb))
   refine bodyPost_ret (v := .tuple #[.agg #[.slice none 0 0, .slice none 0 0, .slice none 0 0, .int .i64 0, .slice none 0 0, .slice none 0 0], .bool false]) (by simp [results, Tryz.results113, go_sem, *]) rfl ?_
   refine ⟨_, _, _, _, _, _, _, _, _, _, _, _, _, _, _, fun _ => 0, by rw [He.out], ?_, ext_⟩
   rw [He.out]
   exact ⟨OwT.nil .., OwT.nil .., OwT.nil .., OwT.nil .., OwT.nil ..⟩
 have hok := (Sw.mktOk_iff.1 g1)
 obtain ⟨rows, hok⟩ := hok
 have hck := hok.clk
 obtain ⟨ck0, ck1⟩ := hck
 clear hok
 by_cases g2 : m.clock = 99999
 · have g2' : (m.clock == 99999) = true := by simp [g2]
   have e : Sw.mktTick m = (m, false) := by simp [Sw.mktTick, g1, g2]
   have He := Lib.hid e; clear e g2
   go_enter Tryz.func113, Tryz.ntmps113
   go_wp2_with (first | (go_at_call 96; apply Calls.mono; apply sMktOk_c; (exact rdM_); rintro E w1 ⟨rfl, hb⟩; obtain ⟨hc, hf, hz⟩ := xy hb) | (go_at_call 115; apply Calls.mono; apply sMktCopy_c; (exact rdM_); (first | assumption | omega); rintro E w1 ⟨bL, bLc, bLn, bP, bPc, bPn, bD, bDc, bDn, bN, bNc, bNn, bS, bSc, bSn, τ, rfl, ho, hb⟩; obtain ⟨hc, hf, hz⟩ := xy hb))
   refine bodyPost_ret (v := .tuple #[.agg #[.slice bL bLn bLc, .slice bP bPn bPc, .slice bD bDn bDc, .int .i64 m.clock, .slice bN bNn bNc, .slice bS bSn bSc], .bool false]) (by simp [results, Tryz.results113, go_sem, *]) rfl ?_
   refine ⟨_, _, _, _, _, _, _, _, _, _, _, _, _, _, _, τ, by rw [He.out], ?_, ext_⟩
   rw [He.out]
   exact OwM.less (ho.keepF (by (exact kf_))) (by exact sz_)
 · have g2' : (m.clock == 99999) = false := by simp [g2]
   have e : Sw.mktTick m = (Sw.tick m, true) := by simp [Sw.mktTick, g1, g2]
   have He := Lib.hid e; clear e g2
   have l3 := Lib.hid hm.deals.1
   have l2 := Lib.hid hm.purses.1
   go_enter Tryz.func113, Tryz.ntmps113
   go_wp2_with (first | (go_at_call 96; apply Calls.mono; apply sMktOk_c; (exact rdM_); rintro E w1 ⟨rfl, hb⟩; obtain ⟨hc, hf, hz⟩ := xy hb) | (go_at_call 115; apply Calls.mono; apply sMktCopy_c; (exact rdM_); (first | assumption | omega); rintro E w1 ⟨bL, bLc, bLn, bP, bPc, bPn, bD, bDc, bDn, bN, bNc, bNn, bS, bSc, bSn, τ, rfl, ho, hb⟩; obtain ⟨hc, hf, hz⟩ := xy hb))
   apply Calls.mono
   apply (sTick_c (τ := τ))
   · exact ho.keepF (by (exact kf_))
   · exact ck0
   · exact ck1
   · have := ho.deals.ow.1; have := l3.out; omega
   · have := ho.purses.ow.1; have := l2.out; omega
   · exact sz_
   rintro E w3 ⟨A3, c3, τ3, rfl, ho3, hτ3, hb3⟩
   obtain ⟨hc3, hf3⟩ := low_rules (fun b hb => hb3.block b (by exact sz_) (fun h => Nat.not_lt.2 h.1 hb))
   have hex : Ex w w3 := Ch.trans' (show Ex w _ from ext_) hb3 (fun i hi h => absurd h.1 (by (first | omega | (simp only [zq_] at *; omega) | (simp only [zq_]; omega))))
   clear hb3 hτ3
   go_wp2
   refine bodyPost_ret (v := .tuple #[.agg #[.slice bL bLn bLc, .slice A3 bPn c3, .slice bD bDn bDc, .int .i64 (m.clock + 1), .slice bN bNn bNc, .slice bS bSn bSc], .bool true]) (by simp [results, Tryz.results113, go_sem, *]) rfl ?_
   refine ⟨_, _, _, _, _, _, _, _, _, _, _, _, _, _, _, τ3, by rw [He.out]; rfl, ?_, ext_⟩
   rw [He.out]
   exact OwM.less (ho3.keepF (by (exact kf_))) (by exact sz_)
set_option maxHeartbeats 8000000
theorem sReqOkA_c (a b c d e f : Int) (w : World) : Calls Tryz.prog 52 #[.agg #[.int .i64 a, .int .i64 b, .int .i64 c, .int .i64 d, .int .i64 e, .int .i64 f]] w fun E w' => E = .returned (.bool (Sw.reqOk ⟨a, b, c, d, e, f⟩)) ∧ Ex w w' :=
 sReqOk_c ⟨a, b, c, d, e, f⟩ w
theorem sWldOk_c (aF : Option Addr) (aFc aFn : Nat) (aL : Option Addr) (aLc aLn : Nat) (aP : Option Addr) (aPc aPn : Nat) (aD : Option Addr) (aDc aDn : Nat) (aN : Option Addr) (aNc aNn : Nat) (aS : Option Addr) (aSc aSn : Nat) (aI : Option Addr) (aIc aIn : Nat) (aG : Option Addr) (aGc aGn : Nat) (aB : Option Addr) (aBc aBn : Nat) (x : Sw.World) (w : World) (hx : RW w 0 aF aFc aFn aL aLc aLn aP aPc aPn aD aDc aDn aN aNc aNn aS aSc aSn aI aIc aIn aG aGc aGn aB aBc aBn x) : Calls Tryz.prog 31 #[.agg #[.slice aF aFn aFc, .slice aL aLn aLc, .slice aP aPn aPc, .slice aD aDn aDc, .int .i64 x.market.clock, .slice aN aNn aNc, .slice aS aSn aSc, .slice aI aIn aIc, .slice aG aGn aGc, .slice aB aBn aBc]] w fun E w' => E = .returned (.bool (Sw.wldOk x)) ∧ Ex w w' := by
 obtain ⟨x1, x2, x3, x4, x5⟩ := hx
 have b3 := Rs.big x3
 have b4 := x4.len.2
 have b5 := x5.len.2
 have l3 := Lib.hid x3.1
 have l4 := Lib.hid x4.len.1
 have l5 := Lib.hid x5.len.1
 have e := wldOk_parts x
 have He := Lib.hid e; clear e
 cases g1 : Sw.mktOk x.market
 case false =>
   go_enter Tryz.func31, Tryz.ntmps31
   go_wp2_with (first | (go_at_call 96; apply Calls.mono; apply sMktOk_c; (exact rdM_); rintro E w1 ⟨rfl, hb⟩; obtain ⟨hc, hf, hz⟩ := xy hb))
   go_ret
   exact ⟨ret_b (by rw [He.out]; simp [wldGate, g1]), ext_⟩
 cases g2 : Sw.monOk x.first
 case false =>
   go_enter Tryz.func31, Tryz.ntmps31
   go_wp2_with (first | (go_at_call 96; apply Calls.mono; apply sMktOk_c; (exact rdM_); rintro E w1 ⟨rfl, hb⟩; obtain ⟨hc, hf, hz⟩ := xy hb) | (go_at_call 97; apply Calls.mono; apply sMonOk_c; (exact rdw_); rintro E w' ⟨rfl, rfl⟩))
   go_ret
   exact ⟨ret_b (by rw [He.out]; simp [wldGate, g2]), ext_⟩
 by_cases g3 : aIn ≤ 300
 case neg =>
   go_enter Tryz.func31, Tryz.ntmps31
   go_wp2_with (first | (go_at_call 96; apply Calls.mono; apply sMktOk_c; (exact rdM_); rintro E w1 ⟨rfl, hb⟩; obtain ⟨hc, hf, hz⟩ := xy hb) | (go_at_call 97; apply Calls.mono; apply sMonOk_c; (exact rdw_); rintro E w' ⟨rfl, rfl⟩))
   go_ret
   exact ⟨ret_b (by rw [He.out, wldGate, ← l3.out]; simp [g3]), ext_⟩
 by_cases g4 : aGn = 2
 case neg =>
   have q4 : ((aGn : Int) != 2) = true := by rw [bne_iff_ne]; omega
   go_enter Tryz.func31, Tryz.ntmps31
   go_wp2_with (first | (go_at_call 96; apply Calls.mono; apply sMktOk_c; (exact rdM_); rintro E w1 ⟨rfl, hb⟩; obtain ⟨hc, hf, hz⟩ := xy hb) | (go_at_call 97; apply Calls.mono; apply sMonOk_c; (exact rdw_); rintro E w' ⟨rfl, rfl⟩))
   go_ret
   exact ⟨ret_b (by rw [He.out, wldGate, ← l4.out]; simp [g4]), ext_⟩
 subst g4
 by_cases g5 : aBn ≤ 6
 case neg =>
   go_enter Tryz.func31, Tryz.ntmps31
   go_wp2_with (first | (go_at_call 96; apply Calls.mono; apply sMktOk_c; (exact rdM_); rintro E w1 ⟨rfl, hb⟩; obtain ⟨hc, hf, hz⟩ := xy hb) | (go_at_call 97; apply Calls.mono; apply sMonOk_c; (exact rdw_); rintro E w' ⟨rfl, rfl⟩))
   go_ret
   exact ⟨ret_b (by rw [He.out, wldGate, ← l5.out]; simp [g5]), ext_⟩
 have hgate : wldGate x = true := by simp [wldGate, g1, g2, ← l3.out, ← l4.out, ← l5.out, g3, g5]
 have e2 := He.out
 rw [hgate, Bool.true_and] at e2
 have HE := Lib.hid e2
 clear e2 He hgate
 go_enter Tryz.func31, Tryz.ntmps31
 go_wp2_with (first | (go_at_call 96; apply Calls.mono; apply sMktOk_c; (exact rdM_); rintro E w1 ⟨rfl, hb⟩; obtain ⟨hc, hf, hz⟩ := xy hb) | (go_at_call 97; apply Calls.mono; apply sMonOk_c; (exact rdw_); rintro E w' ⟨rfl, rfl⟩))
 (refine wn_ fun W0 hb0 hc0 hf0 hz0 => ?_)
 go_loopw [3] (fun i wr => ∃ (k : Nat), k ≤ aIn ∧ i = .int .i64 k ∧ Ex W0 wr ∧ x.lines.all Sw.lineOk = (x.lines.drop k).all Sw.lineOk) (fun i _ => aIn - (intOf i).toNat)
 case atStart => exact ⟨0, Nat.zero_le _, rfl, ext_, rfl⟩
 case round =>
   obtain ⟨k, hk, rfl, hb2, hrel⟩ := hrel
   have hst := xr hb2
   obtain ⟨hc2, hf2, hz2⟩ := hst
   by_cases hlt : k < aIn
   · obtain ⟨g, off, y, rfl, hg0, hg, hd, hy, q0, q1, q2, q3, q4, q5⟩ := at_Q x3 hlt
     rw [hd] at hrel
     have Hrel := Lib.hid hrel; clear hd hy hrel
     obtain ⟨f1, f2, f3, f4, f5, f6⟩ := y
     dsimp only at q0 q1 q2 q3 q4 q5
     by_cases z1 : f1 = 0
     · subst z1
       by_cases z2 : f2 = 0
       · subst z2
         by_cases z3 : f3 = 0
         · subst z3
           by_cases z4 : f4 = 0
           · subst z4
             by_cases z5 : f5 = 0
             · subst z5
               by_cases z6 : f6 = 0
               · subst z6
                 go_wp2_with fail
                 go_roundw
                 case rel => exact ⟨k + 1, by omega, by go_num, ext_, by rw [Hrel.out, List.all_cons]; simp [Sw.lineOk, Sw.reqZ]⟩
                 case measure => simp [intOf]; omega
               · cases c1 : Sw.reqOk ⟨0, 0, 0, 0, 0, f6⟩
                 case false =>
                   go_wp2_with (first | (go_at_call 52; refine (sReqOkA_c _ _ _ _ _ _ _).mono ?_; rintro E w1 ⟨rfl, hb⟩; obtain ⟨hc, hf, hz⟩ := xy hb))
                   go_ret
                   exact ⟨ret_b (by rw [HE.out, Hrel.out, List.all_cons]; simp [Sw.lineOk, Sw.reqZ, c1, z6]), ext_⟩
                 case true =>
                   go_wp2_with (first | (go_at_call 52; refine (sReqOkA_c _ _ _ _ _ _ _).mono ?_; rintro E w1 ⟨rfl, hb⟩; obtain ⟨hc, hf, hz⟩ := xy hb))
                   go_roundw
                   case rel => exact ⟨k + 1, by omega, by go_num, ext_, by rw [Hrel.out, List.all_cons]; simp [Sw.lineOk, Sw.reqZ, c1, z6]⟩
                   case measure => simp [intOf]; omega
             · cases c1 : Sw.reqOk ⟨0, 0, 0, 0, f5, f6⟩
               case false =>
                 go_wp2_with (first | (go_at_call 52; refine (sReqOkA_c _ _ _ _ _ _ _).mono ?_; rintro E w1 ⟨rfl, hb⟩; obtain ⟨hc, hf, hz⟩ := xy hb))
                 go_ret
                 exact ⟨ret_b (by rw [HE.out, Hrel.out, List.all_cons]; simp [Sw.lineOk, Sw.reqZ, c1, z5]), ext_⟩
               case true =>
                 go_wp2_with (first | (go_at_call 52; refine (sReqOkA_c _ _ _ _ _ _ _).mono ?_; rintro E w1 ⟨rfl, hb⟩; obtain ⟨hc, hf, hz⟩ := xy hb))
                 go_roundw
                 case rel => exact ⟨k + 1, by omega, by go_num, ext_, by rw [Hrel.out, List.all_cons]; simp [Sw.lineOk, Sw.reqZ, c1, z5]⟩
                 case measure => simp [intOf]; omega
           · cases c1 : Sw.reqOk ⟨0, 0, 0, f4, f5, f6⟩
             case false =>
               go_wp2_with (first | (go_at_call 52; refine (sReqOkA_c _ _ _ _ _ _ _).mono ?_; rintro E w1 ⟨rfl, hb⟩; obtain ⟨hc, hf, hz⟩ := xy hb))
               go_ret
               exact ⟨ret_b (by rw [HE.out, Hrel.out, List.all_cons]; simp [Sw.lineOk, Sw.reqZ, c1, z4]), ext_⟩
             case true =>
               go_wp2_with (first | (go_at_call 52; refine (sReqOkA_c _ _ _ _ _ _ _).mono ?_; rintro E w1 ⟨rfl, hb⟩; obtain ⟨hc, hf, hz⟩ := xy hb))
               go_roundw
               case rel => exact ⟨k + 1, by omega, by go_num, ext_, by rw [Hrel.out, List.all_cons]; simp [Sw.lineOk, Sw.reqZ, c1, z4]⟩
               case measure => simp [intOf]; omega
         · cases c1 : Sw.reqOk ⟨0, 0, f3, f4, f5, f6⟩
           case false =>
             go_wp2_with (first | (go_at_call 52; refine (sReqOkA_c _ _ _ _ _ _ _).mono ?_; rintro E w1 ⟨rfl, hb⟩; obtain ⟨hc, hf, hz⟩ := xy hb))
             go_ret
             exact ⟨ret_b (by rw [HE.out, Hrel.out, List.all_cons]; simp [Sw.lineOk, Sw.reqZ, c1, z3]), ext_⟩
           case true =>
             go_wp2_with (first | (go_at_call 52; refine (sReqOkA_c _ _ _ _ _ _ _).mono ?_; rintro E w1 ⟨rfl, hb⟩; obtain ⟨hc, hf, hz⟩ := xy hb))
             go_roundw
             case rel => exact ⟨k + 1, by omega, by go_num, ext_, by rw [Hrel.out, List.all_cons]; simp [Sw.lineOk, Sw.reqZ, c1, z3]⟩
             case measure => simp [intOf]; omega
       · cases c1 : Sw.reqOk ⟨0, f2, f3, f4, f5, f6⟩
         case false =>
           go_wp2_with (first | (go_at_call 52; refine (sReqOkA_c _ _ _ _ _ _ _).mono ?_; rintro E w1 ⟨rfl, hb⟩; obtain ⟨hc, hf, hz⟩ := xy hb))
           go_ret
           exact ⟨ret_b (by rw [HE.out, Hrel.out, List.all_cons]; simp [Sw.lineOk, Sw.reqZ, c1, z2]), ext_⟩
         case true =>
           go_wp2_with (first | (go_at_call 52; refine (sReqOkA_c _ _ _ _ _ _ _).mono ?_; rintro E w1 ⟨rfl, hb⟩; obtain ⟨hc, hf, hz⟩ := xy hb))
           go_roundw
           case rel => exact ⟨k + 1, by omega, by go_num, ext_, by rw [Hrel.out, List.all_cons]; simp [Sw.lineOk, Sw.reqZ, c1, z2]⟩
           case measure => simp [intOf]; omega
     · cases c1 : Sw.reqOk ⟨f1, f2, f3, f4, f5, f6⟩
       case false =>
         go_wp2_with (first | (go_at_call 52; refine (sReqOkA_c _ _ _ _ _ _ _).mono ?_; rintro E w1 ⟨rfl, hb⟩; obtain ⟨hc, hf, hz⟩ := xy hb))
         go_ret
         exact ⟨ret_b (by rw [HE.out, Hrel.out, List.all_cons]; simp [Sw.lineOk, Sw.reqZ, c1, z1]), ext_⟩
       case true =>
         go_wp2_with (first | (go_at_call 52; refine (sReqOkA_c _ _ _ _ _ _ _).mono ?_; rintro E w1 ⟨rfl, hb⟩; obtain ⟨hc, hf, hz⟩ := xy hb))
         go_roundw
         case rel => exact ⟨k + 1, by omega, by go_num, ext_, by rw [Hrel.out, List.all_cons]; simp [Sw.lineOk, Sw.reqZ, c1, z1]⟩
         case measure => simp [intOf]; omega
   · have HN := Lib.hid hrel; clear hrel
     rw [List.drop_of_length_le (by have := l3.out; omega)] at HN
     go_wp2_with fail
     go_loopw [4] (fun i wr => ∃ (k : Nat), k ≤ 2 ∧ i = .int .i64 k ∧ Ex W0 wr ∧ x.gates.all Sw.gatOk = (x.gates.drop k).all Sw.gatOk) (fun i _ => 2 - (intOf i).toNat)
     case atStart => exact ⟨0, Nat.zero_le _, rfl, ext_, rfl⟩
     case round =>
       obtain ⟨k', hk', rfl, hb3, hrel⟩ := hrel
       have hst := xr hb3
       obtain ⟨hc3, hf3, hz3⟩ := hst
       by_cases hlt' : k' < 2
       · obtain ⟨g, off, y, B, d, m, rfl, hg0, hg, hd, hy, q0, q1, q2, q3, hr⟩ := at_G x4 hlt'
         rw [hd] at hrel
         have Hrel := Lib.hid hrel; clear hd hy hrel
         cases c1 : Sw.gatOk y
         case false =>
           go_wp2_with (first | (go_at_call 98; apply Calls.mono; apply sGatOk_c; (exact rdw_); rintro E w1 ⟨rfl, hb⟩; obtain ⟨hc, hf, hz⟩ := xy hb))
           go_ret
           exact ⟨ret_b (by rw [HE.out, Hrel.out, List.all_cons, c1]; simp), ext_⟩
         case true =>
           go_wp2_with (first | (go_at_call 98; apply Calls.mono; apply sGatOk_c; (exact rdw_); rintro E w1 ⟨rfl, hb⟩; obtain ⟨hc, hf, hz⟩ := xy hb))
           go_roundw
           case rel => exact ⟨k' + 1, by omega, by go_num, ext_, by rw [Hrel.out, List.all_cons, c1, Bool.true_and]⟩
           case measure => simp [intOf]; omega
       · have HG := Lib.hid hrel; clear hrel
         rw [List.drop_of_length_le (by have := l4.out; omega)] at HG
         go_wp2_with fail
         go_loopw [5] (fun i wr => ∃ (k : Nat), k ≤ aBn ∧ i = .int .i64 k ∧ Ex W0 wr ∧ x.bag.all Sw.msgOk = (x.bag.drop k).all Sw.msgOk) (fun i _ => aBn - (intOf i).toNat)
         case atStart => exact ⟨0, Nat.zero_le _, rfl, ext_, rfl⟩
         case round =>
           obtain ⟨k'', hk'', rfl, hb4, hrel⟩ := hrel
           have hst := xr hb4
           obtain ⟨hc4, hf4, hz4⟩ := hst
           by_cases hlt'' : k'' < aBn
           · obtain ⟨g, off, y, B, d, m, rfl, hg0, hg, hd, hy, q0, q1, q2, q3, q4, hr⟩ := at_X x5 hlt''
             rw [hd] at hrel
             have Hrel := Lib.hid hrel; clear hd hy hrel
             cases c1 : Sw.inR y.gate 0 1
             case false =>
               go_wp2_with (first | (go_at_call 99; refine (l1In_c _ _ _ _).mono ?_; rintro E w' ⟨rfl, rfl⟩))
               go_ret
               exact ⟨ret_b (by rw [HE.out, Hrel.out, List.all_cons, Sw.msgOk, c1]; simp), ext_⟩
             cases c2 : Sw.hedOk y.head
             case false =>
               go_wp2_with (first | (go_at_call 99; refine (l1In_c _ _ _ _).mono ?_; rintro E w' ⟨rfl, rfl⟩) | (go_at_call 100; refine (sHedOk_c _ _).mono ?_; rintro E w1 ⟨rfl, hb⟩; obtain ⟨hc, hf, hz⟩ := xy hb))
               go_ret
               exact ⟨ret_b (by rw [HE.out, Hrel.out, List.all_cons, Sw.msgOk, c2]; simp), ext_⟩
             cases c3 : Sw.treOk y.proof
             case false =>
               go_wp2_with (first | (go_at_call 99; refine (l1In_c _ _ _ _).mono ?_; rintro E w' ⟨rfl, rfl⟩) | (go_at_call 100; refine (sHedOk_c _ _).mono ?_; rintro E w1 ⟨rfl, hb⟩; obtain ⟨hc, hf, hz⟩ := xy hb) | (go_at_call 101; apply Calls.mono; apply sTreOk_c; (exact rdw_); rintro E w' ⟨rfl, rfl⟩))
               go_ret
               exact ⟨ret_b (by rw [HE.out, Hrel.out, List.all_cons, Sw.msgOk, c3]; simp), ext_⟩
             case true =>
               go_wp2_with (first | (go_at_call 99; refine (l1In_c _ _ _ _).mono ?_; rintro E w' ⟨rfl, rfl⟩) | (go_at_call 100; refine (sHedOk_c _ _).mono ?_; rintro E w1 ⟨rfl, hb⟩; obtain ⟨hc, hf, hz⟩ := xy hb) | (go_at_call 101; apply Calls.mono; apply sTreOk_c; (exact rdw_); rintro E w' ⟨rfl, rfl⟩))
               go_roundw
               case rel => exact ⟨k'' + 1, by omega, by go_num, ext_, by rw [Hrel.out, List.all_cons, Sw.msgOk, c1, c2, c3]; rfl⟩
               case measure => simp [intOf]; omega
           · have HB := Lib.hid hrel; clear hrel
             rw [List.drop_of_length_le (by have := l5.out; omega)] at HB
             go_wp2_with fail
             go_ret
             exact ⟨ret_b (by rw [HE.out, HN.out, HG.out, HB.out]; rfl), ext_⟩
end Go.Proofs.YtnnoiagommiapaaGreat
