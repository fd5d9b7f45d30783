/-
  Walks: the clock, of a market that may not be ok (both).
-/
import Derived.Test.YtncoiknpkebgoaaImpM
import Derived.Test.YtncoiknpkebgoaaMkt1
import Derived.Test.YtncoiknpkebgoaaImpE
namespace Go.Proofs.Ytncoiknpkebgoaa
set_option maxRecDepth 100000
set_option linter.unusedSimpArgs false
set_option linter.unusedVariables false
open Go.RowKit Go
set_option maxHeartbeats 2000000

theorem sMktTick_c (aL : Option Addr) (aLc aLn : Nat) (aP : Option Addr) (aPc aPn : Nat) (aD : Option Addr) (aDc aDn : Nat) (aN : Option Addr) (aNc aNn : Nat) (aS : Option Addr) (aSc aSn : Nat) (m : Sw.Mkt) (w : World) (hm : RM w 0 aL aLc aLn aP aPc aPn aD aDc aDn aN aNc aNn aS aSc aSn m) (hn : aLn + aPn + aDn + aNn + aSn ≤ 1048576) : Calls Try.prog 44 #[.agg #[.slice aL aLn aLc, .slice aP aPn aPc, .slice aD aDn aDc, .int .i64 m.clock, .slice aN aNn aNc, .slice aS aSn aSc]] w fun E w' => ∃ bL bLc bLn bP bPc bPn bD bDc bDn bN bNc bNn bS bSc bSn τ, E = .returned (.tuple #[.agg #[.slice bL bLn bLc, .slice bP bPn bPc, .slice bD bDn bDc, .int .i64 (Sw.mktTick m).1.clock, .slice bN bNn bNc, .slice bS bSn bSc], .bool (Sw.mktTick m).2]) ∧ OwM τ w' w.heap.size bL bLc bLn bP bPc bPn bD bDc bDn bN bNc bNn bS bSc bSn (Sw.mktTick m).1 ∧ Ex w w' := by
  cases g1 : Sw.mktOk m
  case false =>
    have e : Sw.mktTick m = (⟨[], [], [], 0, [], []⟩, false) := by simp [Sw.mktTick, g1, Sw.mktZ]
    have He := Lib.hid e; clear e
    go_enter Try.func44, Try.ntmps44
    go_wp2_with (first | (go_at_call 63; apply Calls.mono; apply sMktOk_c; ((first | (apply RM.at0; assumption) | (apply OwM.rm0; assumption)); with_reducible repeat (first | exact kR _ _ | apply kA | apply kD | apply kN | (refine kS ?_ (by first | omega | (simp only [zA, zC, zD]; omega))) | (apply kE; assumption) | (refine kC (by assumption) ?_ (by first | omega | (simp only [zA, zC, zD]; omega))))); rintro E w1 ⟨rfl, hb⟩; have hst := xr hb; (try simp only [zA, zC, zD] at hst); obtain ⟨hc, hf, hz⟩ := hst))
    refine bodyPost_ret (v := .tuple #[.agg #[.slice none 0 0, .slice none 0 0, .slice none 0 0, .int .i64 0, .slice none 0 0, .slice none 0 0], .bool false]) (by simp [results, Try.results44, go_sem, *]) rfl ?_
    refine ⟨_, _, _, _, _, _, _, _, _, _, _, _, _, _, _, fun _ => 0, by rw [He.out], ?_, (by (with_reducible repeat (first | exact cR _ _ | apply cA | apply cD | apply cN | (refine cS ?_ (Or.inr (by first | omega | (simp only [zA, zC, zD]; omega))) _) | (apply cE; assumption) | (apply cK; assumption) | (refine cG (by assumption) ?_ (by first | omega | (simp only [zA, zC, zD]; omega))))))⟩
    rw [He.out]
    exact ⟨OwT.nil .., OwT.nil .., OwT.nil .., OwT.nil .., OwT.nil ..⟩
  have hok := (Sw.mktOk_iff.1 g1)
  obtain ⟨rows, hok⟩ := hok
  have hck := hok.clk
  obtain ⟨ck0, ck1⟩ := hck
  clear hok
  by_cases g2 : m.clock = 99999
  · have g2' : (m.clock == 99999) = true := by simp [g2]
    have e : Sw.mktTick m = (m, false) := by simp [Sw.mktTick, g1, g2]
    have He := Lib.hid e; clear e g2
    go_enter Try.func44, Try.ntmps44
    go_wp2_with (first | (go_at_call 63; apply Calls.mono; apply sMktOk_c; ((first | (apply RM.at0; assumption) | (apply OwM.rm0; assumption)); with_reducible repeat (first | exact kR _ _ | apply kA | apply kD | apply kN | (refine kS ?_ (by first | omega | (simp only [zA, zC, zD]; omega))) | (apply kE; assumption) | (refine kC (by assumption) ?_ (by first | omega | (simp only [zA, zC, zD]; omega))))); rintro E w1 ⟨rfl, hb⟩; have hst := xr hb; (try simp only [zA, zC, zD] at hst); obtain ⟨hc, hf, hz⟩ := hst) | (go_at_call 119; apply Calls.mono; apply sMktCopy_c; ((first | (apply RM.at0; assumption) | (apply OwM.rm0; assumption)); with_reducible repeat (first | exact kR _ _ | apply kA | apply kD | apply kN | (refine kS ?_ (by first | omega | (simp only [zA, zC, zD]; omega))) | (apply kE; assumption) | (refine kC (by assumption) ?_ (by first | omega | (simp only [zA, zC, zD]; omega))))); (first | assumption | omega); rintro E w1 ⟨bL, bLc, bLn, bP, bPc, bPn, bD, bDc, bDn, bN, bNc, bNn, bS, bSc, bSn, τ, rfl, ho, hb⟩; have hst := xr hb; (try simp only [zA, zC, zD] at hst); obtain ⟨hc, hf, hz⟩ := hst))
    refine bodyPost_ret (v := .tuple #[.agg #[.slice bL bLn bLc, .slice bP bPn bPc, .slice bD bDn bDc, .int .i64 m.clock, .slice bN bNn bNc, .slice bS bSn bSc], .bool false]) (by simp [results, Try.results44, go_sem, *]) rfl ?_
    refine ⟨_, _, _, _, _, _, _, _, _, _, _, _, _, _, _, τ, by rw [He.out], ?_, (by (with_reducible repeat (first | exact cR _ _ | apply cA | apply cD | apply cN | (refine cS ?_ (Or.inr (by first | omega | (simp only [zA, zC, zD]; omega))) _) | (apply cE; assumption) | (apply cK; assumption) | (refine cG (by assumption) ?_ (by first | omega | (simp only [zA, zC, zD]; omega))))))⟩
    rw [He.out]
    exact OwM.less (ho.keepF (by (with_reducible repeat (first | exact kR _ _ | apply kA | apply kD | apply kN | (refine kS ?_ (by first | omega | (simp only [zA, zC, zD]; omega))) | (apply kE; assumption) | (refine kC (by assumption) ?_ (by first | omega | (simp only [zA, zC, zD]; omega))))))) (by (first | omega | (simp only [zA, zC, zD]; omega) | (simp only [zA, zC, zD] at *; omega)))
  · have g2' : (m.clock == 99999) = false := by simp [g2]
    have e : Sw.mktTick m = (Sw.tick m, true) := by simp [Sw.mktTick, g1, g2]
    have He := Lib.hid e; clear e g2
    have l3 := Lib.hid hm.deals.1
    have l2 := Lib.hid hm.purses.1
    go_enter Try.func44, Try.ntmps44
    go_wp2_with (first | (go_at_call 63; apply Calls.mono; apply sMktOk_c; ((first | (apply RM.at0; assumption) | (apply OwM.rm0; assumption)); with_reducible repeat (first | exact kR _ _ | apply kA | apply kD | apply kN | (refine kS ?_ (by first | omega | (simp only [zA, zC, zD]; omega))) | (apply kE; assumption) | (refine kC (by assumption) ?_ (by first | omega | (simp only [zA, zC, zD]; omega))))); rintro E w1 ⟨rfl, hb⟩; have hst := xr hb; (try simp only [zA, zC, zD] at hst); obtain ⟨hc, hf, hz⟩ := hst) | (go_at_call 119; apply Calls.mono; apply sMktCopy_c; ((first | (apply RM.at0; assumption) | (apply OwM.rm0; assumption)); with_reducible repeat (first | exact kR _ _ | apply kA | apply kD | apply kN | (refine kS ?_ (by first | omega | (simp only [zA, zC, zD]; omega))) | (apply kE; assumption) | (refine kC (by assumption) ?_ (by first | omega | (simp only [zA, zC, zD]; omega))))); (first | assumption | omega); rintro E w1 ⟨bL, bLc, bLn, bP, bPc, bPn, bD, bDc, bDn, bN, bNc, bNn, bS, bSc, bSn, τ, rfl, ho, hb⟩; have hst := xr hb; (try simp only [zA, zC, zD] at hst); obtain ⟨hc, hf, hz⟩ := hst))
    apply Calls.mono
    apply (sTick_c (τ := τ))
    · exact ho.keepF (by (with_reducible repeat (first | exact kR _ _ | apply kA | apply kD | apply kN | (refine kS ?_ (by first | omega | (simp only [zA, zC, zD]; omega))) | (apply kE; assumption) | (refine kC (by assumption) ?_ (by first | omega | (simp only [zA, zC, zD]; omega))))))
    · exact ck0
    · exact ck1
    · have := ho.deals.ow.1; have := l3.out; omega
    · have := ho.purses.ow.1; have := l2.out; omega
    · (first | omega | (simp only [zA, zC, zD]; omega) | (simp only [zA, zC, zD] at *; omega))
    rintro E w3 ⟨A3, c3, τ3, rfl, ho3, hτ3, hb3⟩
    obtain ⟨hc3, hf3⟩ := low_rules (fun b hb => hb3.block b (by (first | omega | (simp only [zA, zC, zD]; omega) | (simp only [zA, zC, zD] at *; omega))) (fun h => Nat.not_lt.2 h.1 hb))
    have hex : Ex w w3 := Ch.trans' (show Ex w _ from (by (with_reducible repeat (first | exact cR _ _ | apply cA | apply cD | apply cN | (refine cS ?_ (Or.inr (by first | omega | (simp only [zA, zC, zD]; omega))) _) | (apply cE; assumption) | (apply cK; assumption) | (refine cG (by assumption) ?_ (by first | omega | (simp only [zA, zC, zD]; omega))))))) hb3 (fun i hi h => absurd h.1 (by (first | omega | (simp only [zA, zC, zD] at *; omega) | (simp only [zA, zC, zD]; omega))))
    clear hb3 hτ3
    go_wp2
    refine bodyPost_ret (v := .tuple #[.agg #[.slice bL bLn bLc, .slice A3 bPn c3, .slice bD bDn bDc, .int .i64 (m.clock + 1), .slice bN bNn bNc, .slice bS bSn bSc], .bool true]) (by simp [results, Try.results44, go_sem, *]) rfl ?_
    refine ⟨_, _, _, _, _, _, _, _, _, _, _, _, _, _, _, τ3, by rw [He.out]; rfl, ?_, (by (with_reducible repeat (first | exact cR _ _ | apply cA | apply cD | apply cN | (refine cS ?_ (Or.inr (by first | omega | (simp only [zA, zC, zD]; omega))) _) | (apply cE; assumption) | (apply cK; assumption) | (refine cG (by assumption) ?_ (by first | omega | (simp only [zA, zC, zD]; omega))))))⟩
    rw [He.out]
    exact OwM.less (ho3.keepF (by (with_reducible repeat (first | exact kR _ _ | apply kA | apply kD | apply kN | (refine kS ?_ (by first | omega | (simp only [zA, zC, zD]; omega))) | (apply kE; assumption) | (refine kC (by assumption) ?_ (by first | omega | (simp only [zA, zC, zD]; omega))))))) (by (first | omega | (simp only [zA, zC, zD]; omega) | (simp only [zA, zC, zD] at *; omega)))
theorem iMktTick_c (aL : Option Addr) (aLc aLn : Nat) (aP : Option Addr) (aPc aPn : Nat) (aD : Option Addr) (aDc aDn : Nat) (aN : Option Addr) (aNc aNn : Nat) (aS : Option Addr) (aSc aSn : Nat) (m : Sw.Mkt) (w : World) (hm : RM w 0 aL aLc aLn aP aPc aPn aD aDc aDn aN aNc aNn aS aSc aSn m) (hn : aLn + aPn + aDn + aNn + aSn ≤ 1048576) : Calls Try.prog 46 #[.agg #[.slice aL aLn aLc, .slice aP aPn aPc, .slice aD aDn aDc, .int .i64 m.clock, .slice aN aNn aNc, .slice aS aSn aSc]] w fun E w' => ∃ bL bLc bLn bP bPc bPn bD bDc bDn bN bNc bNn bS bSc bSn τ, E = .returned (.tuple #[.agg #[.slice bL bLn bLc, .slice bP bPn bPc, .slice bD bDn bDc, .int .i64 (Sw.mktTick m).1.clock, .slice bN bNn bNc, .slice bS bSn bSc], .bool (Sw.mktTick m).2]) ∧ OwM τ w' w.heap.size bL bLc bLn bP bPc bPn bD bDc bDn bN bNc bNn bS bSc bSn (Sw.mktTick m).1 ∧ Ex w w' := by
  cases g1 : Sw.mktOk m
  case false =>
    have e : Sw.mktTick m = (⟨[], [], [], 0, [], []⟩, false) := by simp [Sw.mktTick, g1, Sw.mktZ]
    have He := Lib.hid e; clear e
    go_enter Try.func46, Try.ntmps46
    go_wp2_with (first | (go_at_call 64; apply Calls.mono; apply iMktOk_c; ((first | (apply RM.at0; assumption) | (apply OwM.rm0; assumption)); with_reducible repeat (first | exact kR _ _ | apply kA | apply kD | apply kN | (refine kS ?_ (by first | omega | (simp only [zA, zC, zD]; omega))) | (apply kE; assumption) | (refine kC (by assumption) ?_ (by first | omega | (simp only [zA, zC, zD]; omega))))); rintro E w1 ⟨rfl, hb⟩; have hst := xr hb; (try simp only [zA, zC, zD] at hst); obtain ⟨hc, hf, hz⟩ := hst))
    refine bodyPost_ret (v := .tuple #[.agg #[.slice none 0 0, .slice none 0 0, .slice none 0 0, .int .i64 0, .slice none 0 0, .slice none 0 0], .bool false]) (by simp [results, Try.results46, go_sem, *]) rfl ?_
    refine ⟨_, _, _, _, _, _, _, _, _, _, _, _, _, _, _, fun _ => 0, by rw [He.out], ?_, (by (with_reducible repeat (first | exact cR _ _ | apply cA | apply cD | apply cN | (refine cS ?_ (Or.inr (by first | omega | (simp only [zA, zC, zD]; omega))) _) | (apply cE; assumption) | (apply cK; assumption) | (refine cG (by assumption) ?_ (by first | omega | (simp only [zA, zC, zD]; omega))))))⟩
    rw [He.out]
    exact ⟨OwT.nil .., OwT.nil .., OwT.nil .., OwT.nil .., OwT.nil ..⟩
  have hok := (Sw.mktOk_iff.1 g1)
  obtain ⟨rows, hok⟩ := hok
  have hck := hok.clk
  obtain ⟨ck0, ck1⟩ := hck
  clear hok
  by_cases g2 : m.clock = 99999
  · have g2' : (m.clock == 99999) = true := by simp [g2]
    have e : Sw.mktTick m = (m, false) := by simp [Sw.mktTick, g1, g2]
    have He := Lib.hid e; clear e
    have HC := Lib.hid g2; clear g2
    go_enter Try.func46, Try.ntmps46
    go_wp2_with (first | (go_at_call 64; apply Calls.mono; apply iMktOk_c; ((first | (apply RM.at0; assumption) | (apply OwM.rm0; assumption)); with_reducible repeat (first | exact kR _ _ | apply kA | apply kD | apply kN | (refine kS ?_ (by first | omega | (simp only [zA, zC, zD]; omega))) | (apply kE; assumption) | (refine kC (by assumption) ?_ (by first | omega | (simp only [zA, zC, zD]; omega))))); rintro E w1 ⟨rfl, hb⟩; have hst := xr hb; (try simp only [zA, zC, zD] at hst); obtain ⟨hc, hf, hz⟩ := hst) | (go_at_call 123; apply Calls.mono; apply iMktClone_c; ((first | (apply RM.at0; assumption) | (apply OwM.rm0; assumption)); with_reducible repeat (first | exact kR _ _ | apply kA | apply kD | apply kN | (refine kS ?_ (by first | omega | (simp only [zA, zC, zD]; omega))) | (apply kE; assumption) | (refine kC (by assumption) ?_ (by first | omega | (simp only [zA, zC, zD]; omega))))); (first | assumption | omega); rintro E w1 ⟨bL, bLc, bLn, bP, bPc, bPn, bD, bDc, bDn, bN, bNc, bNn, bS, bSc, bSn, τ, rfl, ho, hb⟩; have hst := xr hb; (try simp only [zA, zC, zD] at hst); obtain ⟨hc, hf, hz⟩ := hst))
    apply Calls.mono
    apply (iTickEnd_c (t := m.clock) (aL := bL) (aLc := bLc) (aLn := bLn) (aP := bP) (aPc := bPc) (aPn := bPn) (aD := bD) (aDc := bDc) (aDn := bDn) (aN := bN) (aNc := bNc) (aNn := bNn) (aS := bS) (aSc := bSc) (aSn := bSn))
    · exact ⟨by simp, by simp [go_sem], by simp [go_sem], by simp [go_sem], by simp [go_sem], by simp [go_sem], by simp [go_sem], fun i => by simp [go_sem]⟩
    · exact HC.out
    rintro E w3 ⟨rfl, hb⟩
    have hst := xr hb; (try simp only [zA, zC, zD] at hst); obtain ⟨hc, hf, hz⟩ := hst
    go_wp2
    refine bodyPost_ret (v := .tuple #[.agg #[.slice bL bLn bLc, .slice bP bPn bPc, .slice bD bDn bDc, .int .i64 m.clock, .slice bN bNn bNc, .slice bS bSn bSc], .bool false]) (by simp [results, Try.results46, go_sem, *]) rfl ?_
    refine ⟨_, _, _, _, _, _, _, _, _, _, _, _, _, _, _, τ, by rw [He.out], ?_, (by (with_reducible repeat (first | exact cR _ _ | apply cA | apply cD | apply cN | (refine cS ?_ (Or.inr (by first | omega | (simp only [zA, zC, zD]; omega))) _) | (apply cE; assumption) | (apply cK; assumption) | (refine cG (by assumption) ?_ (by first | omega | (simp only [zA, zC, zD]; omega))))))⟩
    rw [He.out]
    exact OwM.less (ho.keepF (by (with_reducible repeat (first | exact kR _ _ | apply kA | apply kD | apply kN | (refine kS ?_ (by first | omega | (simp only [zA, zC, zD]; omega))) | (apply kE; assumption) | (refine kC (by assumption) ?_ (by first | omega | (simp only [zA, zC, zD]; omega))))))) (by (first | omega | (simp only [zA, zC, zD]; omega) | (simp only [zA, zC, zD] at *; omega)))
  · have g2' : (m.clock == 99999) = false := by simp [g2]
    have e : Sw.mktTick m = (Sw.tick m, true) := by simp [Sw.mktTick, g1, g2]
    have He := Lib.hid e; clear e
    have hck : m.clock < 99999 := by omega
    clear g2
    have l3 := Lib.hid hm.deals.1
    have l2 := Lib.hid hm.purses.1
    go_enter Try.func46, Try.ntmps46
    go_wp2_with (first | (go_at_call 64; apply Calls.mono; apply iMktOk_c; ((first | (apply RM.at0; assumption) | (apply OwM.rm0; assumption)); with_reducible repeat (first | exact kR _ _ | apply kA | apply kD | apply kN | (refine kS ?_ (by first | omega | (simp only [zA, zC, zD]; omega))) | (apply kE; assumption) | (refine kC (by assumption) ?_ (by first | omega | (simp only [zA, zC, zD]; omega))))); rintro E w1 ⟨rfl, hb⟩; have hst := xr hb; (try simp only [zA, zC, zD] at hst); obtain ⟨hc, hf, hz⟩ := hst) | (go_at_call 123; apply Calls.mono; apply iMktClone_c; ((first | (apply RM.at0; assumption) | (apply OwM.rm0; assumption)); with_reducible repeat (first | exact kR _ _ | apply kA | apply kD | apply kN | (refine kS ?_ (by first | omega | (simp only [zA, zC, zD]; omega))) | (apply kE; assumption) | (refine kC (by assumption) ?_ (by first | omega | (simp only [zA, zC, zD]; omega))))); (first | assumption | omega); rintro E w1 ⟨bL, bLc, bLn, bP, bPc, bPn, bD, bDc, bDn, bN, bNc, bNn, bS, bSc, bSn, τ, rfl, ho, hb⟩; have hst := xr hb; (try simp only [zA, zC, zD] at hst); obtain ⟨hc, hf, hz⟩ := hst))
    apply Calls.mono
    have hgl := ho.glueL (τ' := fun _ => 0) (Nat.le_refl w1.heap.size)
    apply (iTick_c (n := 6) (m := m) (τ := glue τ w1.heap.size (fun _ => 0)) (aL := bL) (aLc := bLc) (aLn := bLn) (aP := bP) (aPc := bPc) (aPn := bPn) (aD := bD) (aDc := bDc) (aDn := bDn) (aN := bN) (aNc := bNc) (aNn := bNn) (aS := bS) (aSc := bSc) (aSn := bSn))
    · exact ⟨by simp, by simp [go_sem], by simp [go_sem], by simp [go_sem], by simp [go_sem], by simp [go_sem], by simp [go_sem], fun i => by simp [go_sem]⟩
    · (repeat (first | with_reducible assumption | with_reducible exact Lb.new (by first | rfl | (simp only [zA, zC, zD]; done)) (by with_unfolding_all rfl) | with_reducible apply Lb.alloc | with_reducible apply Lb.set | with_reducible apply Lb.drew | (with_reducible refine Lb.ex ?_ (by assumption))))
    · exact hgl.keepF (by (with_reducible repeat (first | exact kR _ _ | apply kA | apply kD | apply kN | (refine kS ?_ (by first | omega | (simp only [zA, zC, zD]; omega))) | (apply kE; assumption) | (refine kC (by assumption) ?_ (by first | omega | (simp only [zA, zC, zD]; omega))))))
    · unfold glue; rw [if_neg (Nat.lt_irrefl _)]
    · exact ck0
    · exact hck
    · have := ho.deals.ow.1; have := l3.out; omega
    · have := ho.purses.ow.1; have := l2.out; omega
    · (first | omega | (simp only [zA, zC, zD]; omega) | (simp only [zA, zC, zD] at *; omega))
    rintro E w3 ⟨A3, c3, τ3, rfl, hA3, hL3, ho3, hτ3, hout3, hb3⟩
    have hex : Ex w w3 := Ch.trans' (show Ex w _ from (by (with_reducible repeat (first | exact cR _ _ | apply cA | apply cD | apply cN | (refine cS ?_ (Or.inr (by first | omega | (simp only [zA, zC, zD]; omega))) _) | (apply cE; assumption) | (apply cK; assumption) | (refine cG (by assumption) ?_ (by first | omega | (simp only [zA, zC, zD]; omega))))))) hb3 (fun i hi h => h.elim (fun h => absurd h (by (first | omega | (simp only [zA, zC, zD] at *; omega) | (simp only [zA, zC, zD]; omega)))) (fun h => absurd h.1 (by (first | omega | (simp only [zA, zC, zD] at *; omega) | (simp only [zA, zC, zD]; omega)))))
    have hlow : ∀ b, b < w.heap.size + 1 + 1 → w3.heap[b]? = w1.heap[b]? := fun b hb => (hb3.block b (by (first | omega | (simp only [zA, zC, zD]; omega) | (simp only [zA, zC, zD] at *; omega))) (fun h => h.elim (fun h => absurd h (by (first | omega | (simp only [zA, zC, zD] at *; omega) | (simp only [zA, zC, zD]; omega)))) (fun h => absurd h.1 (by (first | omega | (simp only [zA, zC, zD] at *; omega) | (simp only [zA, zC, zD]; omega)))))).trans (Below.heap_alloc _ _ _ (by (first | omega | (simp only [zA, zC, zD]; omega) | (simp only [zA, zC, zD] at *; omega))))
    obtain ⟨hc3, hf3⟩ := low_rules hlow
    obtain ⟨k0, k1, k2, k3, k4, k5, k6, kf⟩ := hA3
    simp only [Nat.zero_add] at k1 k2 k3 k4 k5 k6
    clear hb3 hτ3 hout3 hlow
    go_wp2
    refine bodyPost_ret (v := .tuple #[.agg #[.slice bL bLn bLc, .slice A3 bPn c3, .slice bD bDn bDc, .int .i64 (m.clock + 1), .slice bN bNn bNc, .slice bS bSn bSc], .bool true]) (by simp [results, Try.results46, go_sem, *]) rfl ?_
    refine ⟨_, _, _, _, _, _, _, _, _, _, _, _, _, _, _, τ3, by rw [He.out]; rfl, ?_, (by (with_reducible repeat (first | exact cR _ _ | apply cA | apply cD | apply cN | (refine cS ?_ (Or.inr (by first | omega | (simp only [zA, zC, zD]; omega))) _) | (apply cE; assumption) | (apply cK; assumption) | (refine cG (by assumption) ?_ (by first | omega | (simp only [zA, zC, zD]; omega))))))⟩
    rw [He.out]
    exact OwM.less (ho3.keepF (by (with_reducible repeat (first | exact kR _ _ | apply kA | apply kD | apply kN | (refine kS ?_ (by first | omega | (simp only [zA, zC, zD]; omega))) | (apply kE; assumption) | (refine kC (by assumption) ?_ (by first | omega | (simp only [zA, zC, zD]; omega))))))) (by (first | omega | (simp only [zA, zC, zD]; omega) | (simp only [zA, zC, zD] at *; omega)))
end Go.Proofs.Ytncoiknpkebgoaa
