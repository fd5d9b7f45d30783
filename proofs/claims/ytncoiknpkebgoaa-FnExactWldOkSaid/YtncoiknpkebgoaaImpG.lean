/-
  Walks: whether a world is ok (the reference's).
-/
import Derived.Test.YtncoiknpkebgoaaWldA
import Derived.Test.YtncoiknpkebgoaaMkt1
import Derived.Test.YtncoiknpkebgoaaGate2
namespace Go.Proofs.Ytncoiknpkebgoaa
set_option maxRecDepth 100000
set_option linter.unusedSimpArgs false
set_option linter.unusedVariables false
open Go.RowKit Go
set_option maxHeartbeats 8000000

theorem sReqOkA_c (a b c d e f : Int) (w : World) : Calls Try.prog 148 #[.agg #[.int .i64 a, .int .i64 b, .int .i64 c, .int .i64 d, .int .i64 e, .int .i64 f]] w fun E w' => E = .returned (.bool (Sw.reqOk ⟨a, b, c, d, e, f⟩)) ∧ Ex w w' :=
  sReqOk_c ⟨a, b, c, d, e, f⟩ w
theorem sWldOk_c (aF : Option Addr) (aFc aFn : Nat) (aL : Option Addr) (aLc aLn : Nat) (aP : Option Addr) (aPc aPn : Nat) (aD : Option Addr) (aDc aDn : Nat) (aN : Option Addr) (aNc aNn : Nat) (aS : Option Addr) (aSc aSn : Nat) (aI : Option Addr) (aIc aIn : Nat) (aG : Option Addr) (aGc aGn : Nat) (aB : Option Addr) (aBc aBn : Nat) (x : Sw.World) (w : World) (hx : RW w 0 aF aFc aFn aL aLc aLn aP aPc aPn aD aDc aDn aN aNc aNn aS aSc aSn aI aIc aIn aG aGc aGn aB aBc aBn x) : Calls Try.prog 66 #[.agg #[.slice aF aFn aFc, .slice aL aLn aLc, .slice aP aPn aPc, .slice aD aDn aDc, .int .i64 x.market.clock, .slice aN aNn aNc, .slice aS aSn aSc, .slice aI aIn aIc, .slice aG aGn aGc, .slice aB aBn aBc]] w fun E w' => E = .returned (.bool (Sw.wldOk x)) ∧ Ex w w' := by
  obtain ⟨x1, x2, x3, x4, x5⟩ := hx
  have b3 := Rs.big x3
  have b4 := x4.len.2
  have b5 := x5.len.2
  have l3 := Lib.hid x3.1
  have l4 := Lib.hid x4.len.1
  have l5 := Lib.hid x5.len.1
  have e := wldOk_parts x
  have He := Lib.hid e; clear e
  cases g1 : Sw.mktOk x.market
  case false =>
    go_enter Try.func66, Try.ntmps66
    go_wp2_with (first | (go_at_call 63; apply Calls.mono; apply sMktOk_c; ((first | (apply RM.at0; assumption) | (apply OwM.rm0; assumption)); with_reducible repeat (first | exact kR _ _ | apply kA | apply kD | apply kN | (refine kS ?_ (by first | omega | (simp only [zA, zC, zD]; omega))) | (apply kE; assumption) | (refine kC (by assumption) ?_ (by first | omega | (simp only [zA, zC, zD]; omega))))); rintro E w1 ⟨rfl, hb⟩; have hst := xr hb; (try simp only [zA, zC, zD] at hst); obtain ⟨hc, hf, hz⟩ := hst))
    go_ret
    exact ⟨ret_b (by rw [He.out]; simp [wldGate, g1]), (by (with_reducible repeat (first | exact cR _ _ | apply cA | apply cD | apply cN | (refine cS ?_ (Or.inr (by first | omega | (simp only [zA, zC, zD]; omega))) _) | (apply cE; assumption) | (apply cK; assumption) | (refine cG (by assumption) ?_ (by first | omega | (simp only [zA, zC, zD]; omega))))))⟩
  cases g2 : Sw.monOk x.first
  case false =>
    go_enter Try.func66, Try.ntmps66
    go_wp2_with (first | (go_at_call 63; apply Calls.mono; apply sMktOk_c; ((first | (apply RM.at0; assumption) | (apply OwM.rm0; assumption)); with_reducible repeat (first | exact kR _ _ | apply kA | apply kD | apply kN | (refine kS ?_ (by first | omega | (simp only [zA, zC, zD]; omega))) | (apply kE; assumption) | (refine kC (by assumption) ?_ (by first | omega | (simp only [zA, zC, zD]; omega))))); rintro E w1 ⟨rfl, hb⟩; have hst := xr hb; (try simp only [zA, zC, zD] at hst); obtain ⟨hc, hf, hz⟩ := hst) | (go_at_call 144; apply Calls.mono; apply sMonOk_c; ((first | (apply Rs.at0; assumption) | (apply Ow.rs0; assumption) | (apply OwT.rs0; assumption)); with_reducible repeat (first | exact kR _ _ | apply kA | apply kD | apply kN | (refine kS ?_ (by first | omega | (simp only [zA, zC, zD]; omega))) | (apply kE; assumption) | (refine kC (by assumption) ?_ (by first | omega | (simp only [zA, zC, zD]; omega))))); rintro E w' ⟨rfl, rfl⟩))
    go_ret
    exact ⟨ret_b (by rw [He.out]; simp [wldGate, g2]), (by (with_reducible repeat (first | exact cR _ _ | apply cA | apply cD | apply cN | (refine cS ?_ (Or.inr (by first | omega | (simp only [zA, zC, zD]; omega))) _) | (apply cE; assumption) | (apply cK; assumption) | (refine cG (by assumption) ?_ (by first | omega | (simp only [zA, zC, zD]; omega))))))⟩
  by_cases g3 : aIn ≤ 300
  case neg =>
    go_enter Try.func66, Try.ntmps66
    go_wp2_with (first | (go_at_call 63; apply Calls.mono; apply sMktOk_c; ((first | (apply RM.at0; assumption) | (apply OwM.rm0; assumption)); with_reducible repeat (first | exact kR _ _ | apply kA | apply kD | apply kN | (refine kS ?_ (by first | omega | (simp only [zA, zC, zD]; omega))) | (apply kE; assumption) | (refine kC (by assumption) ?_ (by first | omega | (simp only [zA, zC, zD]; omega))))); rintro E w1 ⟨rfl, hb⟩; have hst := xr hb; (try simp only [zA, zC, zD] at hst); obtain ⟨hc, hf, hz⟩ := hst) | (go_at_call 144; apply Calls.mono; apply sMonOk_c; ((first | (apply Rs.at0; assumption) | (apply Ow.rs0; assumption) | (apply OwT.rs0; assumption)); with_reducible repeat (first | exact kR _ _ | apply kA | apply kD | apply kN | (refine kS ?_ (by first | omega | (simp only [zA, zC, zD]; omega))) | (apply kE; assumption) | (refine kC (by assumption) ?_ (by first | omega | (simp only [zA, zC, zD]; omega))))); rintro E w' ⟨rfl, rfl⟩))
    go_ret
    exact ⟨ret_b (by rw [He.out, wldGate, ← l3.out]; simp [g3]), (by (with_reducible repeat (first | exact cR _ _ | apply cA | apply cD | apply cN | (refine cS ?_ (Or.inr (by first | omega | (simp only [zA, zC, zD]; omega))) _) | (apply cE; assumption) | (apply cK; assumption) | (refine cG (by assumption) ?_ (by first | omega | (simp only [zA, zC, zD]; omega))))))⟩
  by_cases g4 : aGn = 2
  case neg =>
    have q4 : ((aGn : Int) != 2) = true := by rw [bne_iff_ne]; omega
    go_enter Try.func66, Try.ntmps66
    go_wp2_with (first | (go_at_call 63; apply Calls.mono; apply sMktOk_c; ((first | (apply RM.at0; assumption) | (apply OwM.rm0; assumption)); with_reducible repeat (first | exact kR _ _ | apply kA | apply kD | apply kN | (refine kS ?_ (by first | omega | (simp only [zA, zC, zD]; omega))) | (apply kE; assumption) | (refine kC (by assumption) ?_ (by first | omega | (simp only [zA, zC, zD]; omega))))); rintro E w1 ⟨rfl, hb⟩; have hst := xr hb; (try simp only [zA, zC, zD] at hst); obtain ⟨hc, hf, hz⟩ := hst) | (go_at_call 144; apply Calls.mono; apply sMonOk_c; ((first | (apply Rs.at0; assumption) | (apply Ow.rs0; assumption) | (apply OwT.rs0; assumption)); with_reducible repeat (first | exact kR _ _ | apply kA | apply kD | apply kN | (refine kS ?_ (by first | omega | (simp only [zA, zC, zD]; omega))) | (apply kE; assumption) | (refine kC (by assumption) ?_ (by first | omega | (simp only [zA, zC, zD]; omega))))); rintro E w' ⟨rfl, rfl⟩))
    go_ret
    exact ⟨ret_b (by rw [He.out, wldGate, ← l4.out]; simp [g4]), (by (with_reducible repeat (first | exact cR _ _ | apply cA | apply cD | apply cN | (refine cS ?_ (Or.inr (by first | omega | (simp only [zA, zC, zD]; omega))) _) | (apply cE; assumption) | (apply cK; assumption) | (refine cG (by assumption) ?_ (by first | omega | (simp only [zA, zC, zD]; omega))))))⟩
  subst g4
  by_cases g5 : aBn ≤ 6
  case neg =>
    go_enter Try.func66, Try.ntmps66
    go_wp2_with (first | (go_at_call 63; apply Calls.mono; apply sMktOk_c; ((first | (apply RM.at0; assumption) | (apply OwM.rm0; assumption)); with_reducible repeat (first | exact kR _ _ | apply kA | apply kD | apply kN | (refine kS ?_ (by first | omega | (simp only [zA, zC, zD]; omega))) | (apply kE; assumption) | (refine kC (by assumption) ?_ (by first | omega | (simp only [zA, zC, zD]; omega))))); rintro E w1 ⟨rfl, hb⟩; have hst := xr hb; (try simp only [zA, zC, zD] at hst); obtain ⟨hc, hf, hz⟩ := hst) | (go_at_call 144; apply Calls.mono; apply sMonOk_c; ((first | (apply Rs.at0; assumption) | (apply Ow.rs0; assumption) | (apply OwT.rs0; assumption)); with_reducible repeat (first | exact kR _ _ | apply kA | apply kD | apply kN | (refine kS ?_ (by first | omega | (simp only [zA, zC, zD]; omega))) | (apply kE; assumption) | (refine kC (by assumption) ?_ (by first | omega | (simp only [zA, zC, zD]; omega))))); rintro E w' ⟨rfl, rfl⟩))
    go_ret
    exact ⟨ret_b (by rw [He.out, wldGate, ← l5.out]; simp [g5]), (by (with_reducible repeat (first | exact cR _ _ | apply cA | apply cD | apply cN | (refine cS ?_ (Or.inr (by first | omega | (simp only [zA, zC, zD]; omega))) _) | (apply cE; assumption) | (apply cK; assumption) | (refine cG (by assumption) ?_ (by first | omega | (simp only [zA, zC, zD]; omega))))))⟩
  have hgate : wldGate x = true := by simp [wldGate, g1, g2, ← l3.out, ← l4.out, ← l5.out, g3, g5]
  have e2 := He.out
  rw [hgate, Bool.true_and] at e2
  have HE := Lib.hid e2
  clear e2 He hgate
  go_enter Try.func66, Try.ntmps66
  go_wp2_with (first | (go_at_call 63; apply Calls.mono; apply sMktOk_c; ((first | (apply RM.at0; assumption) | (apply OwM.rm0; assumption)); with_reducible repeat (first | exact kR _ _ | apply kA | apply kD | apply kN | (refine kS ?_ (by first | omega | (simp only [zA, zC, zD]; omega))) | (apply kE; assumption) | (refine kC (by assumption) ?_ (by first | omega | (simp only [zA, zC, zD]; omega))))); rintro E w1 ⟨rfl, hb⟩; have hst := xr hb; (try simp only [zA, zC, zD] at hst); obtain ⟨hc, hf, hz⟩ := hst) | (go_at_call 144; apply Calls.mono; apply sMonOk_c; ((first | (apply Rs.at0; assumption) | (apply Ow.rs0; assumption) | (apply OwT.rs0; assumption)); with_reducible repeat (first | exact kR _ _ | apply kA | apply kD | apply kN | (refine kS ?_ (by first | omega | (simp only [zA, zC, zD]; omega))) | (apply kE; assumption) | (refine kC (by assumption) ?_ (by first | omega | (simp only [zA, zC, zD]; omega))))); rintro E w' ⟨rfl, rfl⟩))
  (refine wp_name ?_; intro W0 hb0; have hst := xr hb0; (try simp only [zA, zC, zD] at hst); obtain ⟨hc0, hf0, hz0⟩ := hst)
  go_loopw [3] (fun i wr => ∃ (k : Nat), k ≤ aIn ∧ i = .int .i64 k ∧ Ex W0 wr ∧ x.lines.all Sw.lineOk = (x.lines.drop k).all Sw.lineOk) (fun i _ => aIn - (intOf i).toNat)
  case atStart => exact ⟨0, Nat.zero_le _, rfl, (by (with_reducible repeat (first | exact cR _ _ | apply cA | apply cD | apply cN | (refine cS ?_ (Or.inr (by first | omega | (simp only [zA, zC, zD]; omega))) _) | (apply cE; assumption) | (apply cK; assumption) | (refine cG (by assumption) ?_ (by first | omega | (simp only [zA, zC, zD]; omega)))))), rfl⟩
  case round =>
    obtain ⟨k, hk, rfl, hb2, hrel⟩ := hrel
    have hst := xr hb2
    obtain ⟨hc2, hf2, hz2⟩ := hst
    by_cases hlt : k < aIn
    · obtain ⟨g, off, y, rfl, hg0, hg, hd, hy, q0, q1, q2, q3, q4, q5⟩ := at_Q x3 hlt
      rw [hd] at hrel
      have Hrel := Lib.hid hrel; clear hd hy hrel
      obtain ⟨f1, f2, f3, f4, f5, f6⟩ := y
      dsimp only at q0 q1 q2 q3 q4 q5
      by_cases z1 : f1 = 0
      · subst z1
        by_cases z2 : f2 = 0
        · subst z2
          by_cases z3 : f3 = 0
          · subst z3
            by_cases z4 : f4 = 0
            · subst z4
              by_cases z5 : f5 = 0
              · subst z5
                by_cases z6 : f6 = 0
                · subst z6
                  go_wp2_with fail
                  go_roundw
                  case rel => exact ⟨k + 1, by omega, by go_num, (by (with_reducible repeat (first | exact cR _ _ | apply cA | apply cD | apply cN | (refine cS ?_ (Or.inr (by first | omega | (simp only [zA, zC, zD]; omega))) _) | (apply cE; assumption) | (apply cK; assumption) | (refine cG (by assumption) ?_ (by first | omega | (simp only [zA, zC, zD]; omega)))))), by rw [Hrel.out, List.all_cons]; simp [Sw.lineOk, Sw.reqZ]⟩
                  case measure => simp [intOf]; omega
                · cases c1 : Sw.reqOk ⟨0, 0, 0, 0, 0, f6⟩
                  case false =>
                    go_wp2_with (first | (go_at_call 148; refine (sReqOkA_c _ _ _ _ _ _ _).mono ?_; rintro E w1 ⟨rfl, hb⟩; have hst := xr hb; (try simp only [zA, zC, zD] at hst); obtain ⟨hc, hf, hz⟩ := hst))
                    go_ret
                    exact ⟨ret_b (by rw [HE.out, Hrel.out, List.all_cons]; simp [Sw.lineOk, Sw.reqZ, c1, z6]), (by (with_reducible repeat (first | exact cR _ _ | apply cA | apply cD | apply cN | (refine cS ?_ (Or.inr (by first | omega | (simp only [zA, zC, zD]; omega))) _) | (apply cE; assumption) | (apply cK; assumption) | (refine cG (by assumption) ?_ (by first | omega | (simp only [zA, zC, zD]; omega))))))⟩
                  case true =>
                    go_wp2_with (first | (go_at_call 148; refine (sReqOkA_c _ _ _ _ _ _ _).mono ?_; rintro E w1 ⟨rfl, hb⟩; have hst := xr hb; (try simp only [zA, zC, zD] at hst); obtain ⟨hc, hf, hz⟩ := hst))
                    go_roundw
                    case rel => exact ⟨k + 1, by omega, by go_num, (by (with_reducible repeat (first | exact cR _ _ | apply cA | apply cD | apply cN | (refine cS ?_ (Or.inr (by first | omega | (simp only [zA, zC, zD]; omega))) _) | (apply cE; assumption) | (apply cK; assumption) | (refine cG (by assumption) ?_ (by first | omega | (simp only [zA, zC, zD]; omega)))))), by rw [Hrel.out, List.all_cons]; simp [Sw.lineOk, Sw.reqZ, c1, z6]⟩
                    case measure => simp [intOf]; omega
              · cases c1 : Sw.reqOk ⟨0, 0, 0, 0, f5, f6⟩
                case false =>
                  go_wp2_with (first | (go_at_call 148; refine (sReqOkA_c _ _ _ _ _ _ _).mono ?_; rintro E w1 ⟨rfl, hb⟩; have hst := xr hb; (try simp only [zA, zC, zD] at hst); obtain ⟨hc, hf, hz⟩ := hst))
                  go_ret
                  exact ⟨ret_b (by rw [HE.out, Hrel.out, List.all_cons]; simp [Sw.lineOk, Sw.reqZ, c1, z5]), (by (with_reducible repeat (first | exact cR _ _ | apply cA | apply cD | apply cN | (refine cS ?_ (Or.inr (by first | omega | (simp only [zA, zC, zD]; omega))) _) | (apply cE; assumption) | (apply cK; assumption) | (refine cG (by assumption) ?_ (by first | omega | (simp only [zA, zC, zD]; omega))))))⟩
                case true =>
                  go_wp2_with (first | (go_at_call 148; refine (sReqOkA_c _ _ _ _ _ _ _).mono ?_; rintro E w1 ⟨rfl, hb⟩; have hst := xr hb; (try simp only [zA, zC, zD] at hst); obtain ⟨hc, hf, hz⟩ := hst))
                  go_roundw
                  case rel => exact ⟨k + 1, by omega, by go_num, (by (with_reducible repeat (first | exact cR _ _ | apply cA | apply cD | apply cN | (refine cS ?_ (Or.inr (by first | omega | (simp only [zA, zC, zD]; omega))) _) | (apply cE; assumption) | (apply cK; assumption) | (refine cG (by assumption) ?_ (by first | omega | (simp only [zA, zC, zD]; omega)))))), by rw [Hrel.out, List.all_cons]; simp [Sw.lineOk, Sw.reqZ, c1, z5]⟩
                  case measure => simp [intOf]; omega
            · cases c1 : Sw.reqOk ⟨0, 0, 0, f4, f5, f6⟩
              case false =>
                go_wp2_with (first | (go_at_call 148; refine (sReqOkA_c _ _ _ _ _ _ _).mono ?_; rintro E w1 ⟨rfl, hb⟩; have hst := xr hb; (try simp only [zA, zC, zD] at hst); obtain ⟨hc, hf, hz⟩ := hst))
                go_ret
                exact ⟨ret_b (by rw [HE.out, Hrel.out, List.all_cons]; simp [Sw.lineOk, Sw.reqZ, c1, z4]), (by (with_reducible repeat (first | exact cR _ _ | apply cA | apply cD | apply cN | (refine cS ?_ (Or.inr (by first | omega | (simp only [zA, zC, zD]; omega))) _) | (apply cE; assumption) | (apply cK; assumption) | (refine cG (by assumption) ?_ (by first | omega | (simp only [zA, zC, zD]; omega))))))⟩
              case true =>
                go_wp2_with (first | (go_at_call 148; refine (sReqOkA_c _ _ _ _ _ _ _).mono ?_; rintro E w1 ⟨rfl, hb⟩; have hst := xr hb; (try simp only [zA, zC, zD] at hst); obtain ⟨hc, hf, hz⟩ := hst))
                go_roundw
                case rel => exact ⟨k + 1, by omega, by go_num, (by (with_reducible repeat (first | exact cR _ _ | apply cA | apply cD | apply cN | (refine cS ?_ (Or.inr (by first | omega | (simp only [zA, zC, zD]; omega))) _) | (apply cE; assumption) | (apply cK; assumption) | (refine cG (by assumption) ?_ (by first | omega | (simp only [zA, zC, zD]; omega)))))), by rw [Hrel.out, List.all_cons]; simp [Sw.lineOk, Sw.reqZ, c1, z4]⟩
                case measure => simp [intOf]; omega
          · cases c1 : Sw.reqOk ⟨0, 0, f3, f4, f5, f6⟩
            case false =>
              go_wp2_with (first | (go_at_call 148; refine (sReqOkA_c _ _ _ _ _ _ _).mono ?_; rintro E w1 ⟨rfl, hb⟩; have hst := xr hb; (try simp only [zA, zC, zD] at hst); obtain ⟨hc, hf, hz⟩ := hst))
              go_ret
              exact ⟨ret_b (by rw [HE.out, Hrel.out, List.all_cons]; simp [Sw.lineOk, Sw.reqZ, c1, z3]), (by (with_reducible repeat (first | exact cR _ _ | apply cA | apply cD | apply cN | (refine cS ?_ (Or.inr (by first | omega | (simp only [zA, zC, zD]; omega))) _) | (apply cE; assumption) | (apply cK; assumption) | (refine cG (by assumption) ?_ (by first | omega | (simp only [zA, zC, zD]; omega))))))⟩
            case true =>
              go_wp2_with (first | (go_at_call 148; refine (sReqOkA_c _ _ _ _ _ _ _).mono ?_; rintro E w1 ⟨rfl, hb⟩; have hst := xr hb; (try simp only [zA, zC, zD] at hst); obtain ⟨hc, hf, hz⟩ := hst))
              go_roundw
              case rel => exact ⟨k + 1, by omega, by go_num, (by (with_reducible repeat (first | exact cR _ _ | apply cA | apply cD | apply cN | (refine cS ?_ (Or.inr (by first | omega | (simp only [zA, zC, zD]; omega))) _) | (apply cE; assumption) | (apply cK; assumption) | (refine cG (by assumption) ?_ (by first | omega | (simp only [zA, zC, zD]; omega)))))), by rw [Hrel.out, List.all_cons]; simp [Sw.lineOk, Sw.reqZ, c1, z3]⟩
              case measure => simp [intOf]; omega
        · cases c1 : Sw.reqOk ⟨0, f2, f3, f4, f5, f6⟩
          case false =>
            go_wp2_with (first | (go_at_call 148; refine (sReqOkA_c _ _ _ _ _ _ _).mono ?_; rintro E w1 ⟨rfl, hb⟩; have hst := xr hb; (try simp only [zA, zC, zD] at hst); obtain ⟨hc, hf, hz⟩ := hst))
            go_ret
            exact ⟨ret_b (by rw [HE.out, Hrel.out, List.all_cons]; simp [Sw.lineOk, Sw.reqZ, c1, z2]), (by (with_reducible repeat (first | exact cR _ _ | apply cA | apply cD | apply cN | (refine cS ?_ (Or.inr (by first | omega | (simp only [zA, zC, zD]; omega))) _) | (apply cE; assumption) | (apply cK; assumption) | (refine cG (by assumption) ?_ (by first | omega | (simp only [zA, zC, zD]; omega))))))⟩
          case true =>
            go_wp2_with (first | (go_at_call 148; refine (sReqOkA_c _ _ _ _ _ _ _).mono ?_; rintro E w1 ⟨rfl, hb⟩; have hst := xr hb; (try simp only [zA, zC, zD] at hst); obtain ⟨hc, hf, hz⟩ := hst))
            go_roundw
            case rel => exact ⟨k + 1, by omega, by go_num, (by (with_reducible repeat (first | exact cR _ _ | apply cA | apply cD | apply cN | (refine cS ?_ (Or.inr (by first | omega | (simp only [zA, zC, zD]; omega))) _) | (apply cE; assumption) | (apply cK; assumption) | (refine cG (by assumption) ?_ (by first | omega | (simp only [zA, zC, zD]; omega)))))), by rw [Hrel.out, List.all_cons]; simp [Sw.lineOk, Sw.reqZ, c1, z2]⟩
            case measure => simp [intOf]; omega
      · cases c1 : Sw.reqOk ⟨f1, f2, f3, f4, f5, f6⟩
        case false =>
          go_wp2_with (first | (go_at_call 148; refine (sReqOkA_c _ _ _ _ _ _ _).mono ?_; rintro E w1 ⟨rfl, hb⟩; have hst := xr hb; (try simp only [zA, zC, zD] at hst); obtain ⟨hc, hf, hz⟩ := hst))
          go_ret
          exact ⟨ret_b (by rw [HE.out, Hrel.out, List.all_cons]; simp [Sw.lineOk, Sw.reqZ, c1, z1]), (by (with_reducible repeat (first | exact cR _ _ | apply cA | apply cD | apply cN | (refine cS ?_ (Or.inr (by first | omega | (simp only [zA, zC, zD]; omega))) _) | (apply cE; assumption) | (apply cK; assumption) | (refine cG (by assumption) ?_ (by first | omega | (simp only [zA, zC, zD]; omega))))))⟩
        case true =>
          go_wp2_with (first | (go_at_call 148; refine (sReqOkA_c _ _ _ _ _ _ _).mono ?_; rintro E w1 ⟨rfl, hb⟩; have hst := xr hb; (try simp only [zA, zC, zD] at hst); obtain ⟨hc, hf, hz⟩ := hst))
          go_roundw
          case rel => exact ⟨k + 1, by omega, by go_num, (by (with_reducible repeat (first | exact cR _ _ | apply cA | apply cD | apply cN | (refine cS ?_ (Or.inr (by first | omega | (simp only [zA, zC, zD]; omega))) _) | (apply cE; assumption) | (apply cK; assumption) | (refine cG (by assumption) ?_ (by first | omega | (simp only [zA, zC, zD]; omega)))))), by rw [Hrel.out, List.all_cons]; simp [Sw.lineOk, Sw.reqZ, c1, z1]⟩
          case measure => simp [intOf]; omega
    · have HN := Lib.hid hrel; clear hrel
      rw [List.drop_of_length_le (by have := l3.out; omega)] at HN
      go_wp2_with fail
      go_loopw [4] (fun i wr => ∃ (k : Nat), k ≤ 2 ∧ i = .int .i64 k ∧ Ex W0 wr ∧ x.gates.all Sw.gatOk = (x.gates.drop k).all Sw.gatOk) (fun i _ => 2 - (intOf i).toNat)
      case atStart => exact ⟨0, Nat.zero_le _, rfl, (by (with_reducible repeat (first | exact cR _ _ | apply cA | apply cD | apply cN | (refine cS ?_ (Or.inr (by first | omega | (simp only [zA, zC, zD]; omega))) _) | (apply cE; assumption) | (apply cK; assumption) | (refine cG (by assumption) ?_ (by first | omega | (simp only [zA, zC, zD]; omega)))))), rfl⟩
      case round =>
        obtain ⟨k', hk', rfl, hb3, hrel⟩ := hrel
        have hst := xr hb3
        obtain ⟨hc3, hf3, hz3⟩ := hst
        by_cases hlt' : k' < 2
        · obtain ⟨g, off, y, B, d, m, rfl, hg0, hg, hd, hy, q0, q1, q2, q3, hr⟩ := at_G x4 hlt'
          rw [hd] at hrel
          have Hrel := Lib.hid hrel; clear hd hy hrel
          cases c1 : Sw.gatOk y
          case false =>
            go_wp2_with (first | (go_at_call 23; apply Calls.mono; apply sGatOk_c; ((first | (apply Rs.at0; assumption) | (apply Ow.rs0; assumption) | (apply OwT.rs0; assumption)); with_reducible repeat (first | exact kR _ _ | apply kA | apply kD | apply kN | (refine kS ?_ (by first | omega | (simp only [zA, zC, zD]; omega))) | (apply kE; assumption) | (refine kC (by assumption) ?_ (by first | omega | (simp only [zA, zC, zD]; omega))))); rintro E w1 ⟨rfl, hb⟩; have hst := xr hb; (try simp only [zA, zC, zD] at hst); obtain ⟨hc, hf, hz⟩ := hst))
            go_ret
            exact ⟨ret_b (by rw [HE.out, Hrel.out, List.all_cons, c1]; simp), (by (with_reducible repeat (first | exact cR _ _ | apply cA | apply cD | apply cN | (refine cS ?_ (Or.inr (by first | omega | (simp only [zA, zC, zD]; omega))) _) | (apply cE; assumption) | (apply cK; assumption) | (refine cG (by assumption) ?_ (by first | omega | (simp only [zA, zC, zD]; omega))))))⟩
          case true =>
            go_wp2_with (first | (go_at_call 23; apply Calls.mono; apply sGatOk_c; ((first | (apply Rs.at0; assumption) | (apply Ow.rs0; assumption) | (apply OwT.rs0; assumption)); with_reducible repeat (first | exact kR _ _ | apply kA | apply kD | apply kN | (refine kS ?_ (by first | omega | (simp only [zA, zC, zD]; omega))) | (apply kE; assumption) | (refine kC (by assumption) ?_ (by first | omega | (simp only [zA, zC, zD]; omega))))); rintro E w1 ⟨rfl, hb⟩; have hst := xr hb; (try simp only [zA, zC, zD] at hst); obtain ⟨hc, hf, hz⟩ := hst))
            go_roundw
            case rel => exact ⟨k' + 1, by omega, by go_num, (by (with_reducible repeat (first | exact cR _ _ | apply cA | apply cD | apply cN | (refine cS ?_ (Or.inr (by first | omega | (simp only [zA, zC, zD]; omega))) _) | (apply cE; assumption) | (apply cK; assumption) | (refine cG (by assumption) ?_ (by first | omega | (simp only [zA, zC, zD]; omega)))))), by rw [Hrel.out, List.all_cons, c1, Bool.true_and]⟩
            case measure => simp [intOf]; omega
        · have HG := Lib.hid hrel; clear hrel
          rw [List.drop_of_length_le (by have := l4.out; omega)] at HG
          go_wp2_with fail
          go_loopw [5] (fun i wr => ∃ (k : Nat), k ≤ aBn ∧ i = .int .i64 k ∧ Ex W0 wr ∧ x.bag.all Sw.msgOk = (x.bag.drop k).all Sw.msgOk) (fun i _ => aBn - (intOf i).toNat)
          case atStart => exact ⟨0, Nat.zero_le _, rfl, (by (with_reducible repeat (first | exact cR _ _ | apply cA | apply cD | apply cN | (refine cS ?_ (Or.inr (by first | omega | (simp only [zA, zC, zD]; omega))) _) | (apply cE; assumption) | (apply cK; assumption) | (refine cG (by assumption) ?_ (by first | omega | (simp only [zA, zC, zD]; omega)))))), rfl⟩
          case round =>
            obtain ⟨k'', hk'', rfl, hb4, hrel⟩ := hrel
            have hst := xr hb4
            obtain ⟨hc4, hf4, hz4⟩ := hst
            by_cases hlt'' : k'' < aBn
            · obtain ⟨g, off, y, B, d, m, rfl, hg0, hg, hd, hy, q0, q1, q2, q3, q4, hr⟩ := at_X x5 hlt''
              rw [hd] at hrel
              have Hrel := Lib.hid hrel; clear hd hy hrel
              cases c1 : Sw.inR y.gate 0 1
              case false =>
                go_wp2_with (first | (go_at_call 94; refine (l1In_c _ _ _ _).mono ?_; rintro E w' ⟨rfl, rfl⟩))
                go_ret
                exact ⟨ret_b (by rw [HE.out, Hrel.out, List.all_cons, Sw.msgOk, c1]; simp), (by (with_reducible repeat (first | exact cR _ _ | apply cA | apply cD | apply cN | (refine cS ?_ (Or.inr (by first | omega | (simp only [zA, zC, zD]; omega))) _) | (apply cE; assumption) | (apply cK; assumption) | (refine cG (by assumption) ?_ (by first | omega | (simp only [zA, zC, zD]; omega))))))⟩
              cases c2 : Sw.hedOk y.head
              case false =>
                go_wp2_with (first | (go_at_call 94; refine (l1In_c _ _ _ _).mono ?_; rintro E w' ⟨rfl, rfl⟩) | (go_at_call 93; refine (sHedOk_c _ _).mono ?_; rintro E w1 ⟨rfl, hb⟩; have hst := xr hb; (try simp only [zA, zC, zD] at hst); obtain ⟨hc, hf, hz⟩ := hst))
                go_ret
                exact ⟨ret_b (by rw [HE.out, Hrel.out, List.all_cons, Sw.msgOk, c2]; simp), (by (with_reducible repeat (first | exact cR _ _ | apply cA | apply cD | apply cN | (refine cS ?_ (Or.inr (by first | omega | (simp only [zA, zC, zD]; omega))) _) | (apply cE; assumption) | (apply cK; assumption) | (refine cG (by assumption) ?_ (by first | omega | (simp only [zA, zC, zD]; omega))))))⟩
              cases c3 : Sw.treOk y.proof
              case false =>
                go_wp2_with (first | (go_at_call 94; refine (l1In_c _ _ _ _).mono ?_; rintro E w' ⟨rfl, rfl⟩) | (go_at_call 93; refine (sHedOk_c _ _).mono ?_; rintro E w1 ⟨rfl, hb⟩; have hst := xr hb; (try simp only [zA, zC, zD] at hst); obtain ⟨hc, hf, hz⟩ := hst) | (go_at_call 149; apply Calls.mono; apply sTreOk_c; ((first | (apply Rs.at0; assumption) | (apply Ow.rs0; assumption) | (apply OwT.rs0; assumption)); with_reducible repeat (first | exact kR _ _ | apply kA | apply kD | apply kN | (refine kS ?_ (by first | omega | (simp only [zA, zC, zD]; omega))) | (apply kE; assumption) | (refine kC (by assumption) ?_ (by first | omega | (simp only [zA, zC, zD]; omega))))); rintro E w' ⟨rfl, rfl⟩))
                go_ret
                exact ⟨ret_b (by rw [HE.out, Hrel.out, List.all_cons, Sw.msgOk, c3]; simp), (by (with_reducible repeat (first | exact cR _ _ | apply cA | apply cD | apply cN | (refine cS ?_ (Or.inr (by first | omega | (simp only [zA, zC, zD]; omega))) _) | (apply cE; assumption) | (apply cK; assumption) | (refine cG (by assumption) ?_ (by first | omega | (simp only [zA, zC, zD]; omega))))))⟩
              case true =>
                go_wp2_with (first | (go_at_call 94; refine (l1In_c _ _ _ _).mono ?_; rintro E w' ⟨rfl, rfl⟩) | (go_at_call 93; refine (sHedOk_c _ _).mono ?_; rintro E w1 ⟨rfl, hb⟩; have hst := xr hb; (try simp only [zA, zC, zD] at hst); obtain ⟨hc, hf, hz⟩ := hst) | (go_at_call 149; apply Calls.mono; apply sTreOk_c; ((first | (apply Rs.at0; assumption) | (apply Ow.rs0; assumption) | (apply OwT.rs0; assumption)); with_reducible repeat (first | exact kR _ _ | apply kA | apply kD | apply kN | (refine kS ?_ (by first | omega | (simp only [zA, zC, zD]; omega))) | (apply kE; assumption) | (refine kC (by assumption) ?_ (by first | omega | (simp only [zA, zC, zD]; omega))))); rintro E w' ⟨rfl, rfl⟩))
                go_roundw
                case rel => exact ⟨k'' + 1, by omega, by go_num, (by (with_reducible repeat (first | exact cR _ _ | apply cA | apply cD | apply cN | (refine cS ?_ (Or.inr (by first | omega | (simp only [zA, zC, zD]; omega))) _) | (apply cE; assumption) | (apply cK; assumption) | (refine cG (by assumption) ?_ (by first | omega | (simp only [zA, zC, zD]; omega)))))), by rw [Hrel.out, List.all_cons, Sw.msgOk, c1, c2, c3]; rfl⟩
                case measure => simp [intOf]; omega
            · have HB := Lib.hid hrel; clear hrel
              rw [List.drop_of_length_le (by have := l5.out; omega)] at HB
              go_wp2_with fail
              go_ret
              exact ⟨ret_b (by rw [HE.out, HN.out, HG.out, HB.out]; rfl), (by (with_reducible repeat (first | exact cR _ _ | apply cA | apply cD | apply cN | (refine cS ?_ (Or.inr (by first | omega | (simp only [zA, zC, zD]; omega))) _) | (apply cE; assumption) | (apply cK; assumption) | (refine cG (by assumption) ?_ (by first | omega | (simp only [zA, zC, zD]; omega))))))⟩
end Go.Proofs.Ytncoiknpkebgoaa
