/-
  Walks: the program's money; requests; whether a market is ok.
-/
import Derived.Test.YtncoiknpkebgoaaImpC
import Derived.Test.YtncoiknpkebgoaaMon1
namespace Go.Proofs.Ytncoiknpkebgoaa
set_option maxRecDepth 100000
set_option linter.unusedSimpArgs false
set_option linter.unusedVariables false
open Go.RowKit Go
set_option maxHeartbeats 1000000

theorem iMonTurn_c (A : Option Addr) (c n : Nat) (xs : List Int) (who v : Int) (w : World) (hxs : RI w 0 A c n xs) (hn : n ≤ 4194304) : Calls Try.prog 188 #[.slice A n c, .int .i64 who, .int .i64 v] w fun E w' => ∃ A' c', E = .returned (.tuple #[.slice A' n c', .bool (Sw.turnMay xs who v)]) ∧ OwI w' w.heap.size A' c' n (Sw.monTurn xs who v) ∧ Ex w w' := by
  cases g1 : Sw.monOk xs
  case false =>
    have e : Sw.turnMay xs who v = false := by simp [Sw.turnMay, g1]
    rw [e, monTurn_n e]; clear e
    go_enter Try.func188, Try.ntmps188
    go_wp2_with (first | (go_at_call 102; apply Calls.mono; apply iCloneInts_c; ((first | (apply Rs.at0; assumption) | (apply Ow.rs0; assumption) | (apply OwT.rs0; assumption)); with_reducible repeat (first | exact kR _ _ | apply kA | apply kD | apply kN | (refine kS ?_ (by first | omega | (simp only [zA, zC, zD]; omega))) | (apply kE; assumption) | (refine kC (by assumption) ?_ (by first | omega | (simp only [zA, zC, zD]; omega))))); (first | assumption | omega); rintro E w1 ⟨A1, c1, rfl, ho1, hb⟩; have hst := xr hb; (try simp only [zA, zC, zD] at hst); obtain ⟨hc, hf, hz⟩ := hst) | (go_at_call 105; apply Calls.mono; apply iMonOk_c; ((first | (apply Rs.at0; assumption) | (apply Ow.rs0; assumption) | (apply OwT.rs0; assumption)); with_reducible repeat (first | exact kR _ _ | apply kA | apply kD | apply kN | (refine kS ?_ (by first | omega | (simp only [zA, zC, zD]; omega))) | (apply kE; assumption) | (refine kC (by assumption) ?_ (by first | omega | (simp only [zA, zC, zD]; omega))))); rintro E w1 ⟨rfl, hb⟩; have hst := xr hb; (try simp only [zA, zC, zD] at hst); obtain ⟨hc, hf, hz⟩ := hst))
    go_ret2
    exact ⟨A1, c1, rfl, (ho1.keep (by (with_reducible repeat (first | exact kR _ _ | apply kA | apply kD | apply kN | (refine kS ?_ (by first | omega | (simp only [zA, zC, zD]; omega))) | (apply kE; assumption) | (refine kC (by assumption) ?_ (by first | omega | (simp only [zA, zC, zD]; omega))))))).less (by (first | omega | (simp only [zA, zC, zD]; omega) | (simp only [zA, zC, zD] at *; omega))), (by (with_reducible repeat (first | exact cR _ _ | apply cA | apply cD | apply cN | (refine cS ?_ (Or.inr (by first | omega | (simp only [zA, zC, zD]; omega))) _) | (apply cE; assumption) | (apply cK; assumption) | (refine cG (by assumption) ?_ (by first | omega | (simp only [zA, zC, zD]; omega))))))⟩
  have h5 := monOk_len g1
  have hn5 : n = 5 := by rw [hxs.1, h5]
  subst hn5
  clear h5
  cases g2 : Sw.inR who 1 5
  case false =>
    have e : Sw.turnMay xs who v = false := by simp [Sw.turnMay, g2]
    rw [e, monTurn_n e]; clear e
    go_enter Try.func188, Try.ntmps188
    go_wp2_with (first | (go_at_call 102; apply Calls.mono; apply iCloneInts_c; ((first | (apply Rs.at0; assumption) | (apply Ow.rs0; assumption) | (apply OwT.rs0; assumption)); with_reducible repeat (first | exact kR _ _ | apply kA | apply kD | apply kN | (refine kS ?_ (by first | omega | (simp only [zA, zC, zD]; omega))) | (apply kE; assumption) | (refine kC (by assumption) ?_ (by first | omega | (simp only [zA, zC, zD]; omega))))); (first | assumption | omega); rintro E w1 ⟨A1, c1, rfl, ho1, hb⟩; have hst := xr hb; (try simp only [zA, zC, zD] at hst); obtain ⟨hc, hf, hz⟩ := hst) | (go_at_call 105; apply Calls.mono; apply iMonOk_c; ((first | (apply Rs.at0; assumption) | (apply Ow.rs0; assumption) | (apply OwT.rs0; assumption)); with_reducible repeat (first | exact kR _ _ | apply kA | apply kD | apply kN | (refine kS ?_ (by first | omega | (simp only [zA, zC, zD]; omega))) | (apply kE; assumption) | (refine kC (by assumption) ?_ (by first | omega | (simp only [zA, zC, zD]; omega))))); rintro E w1 ⟨rfl, hb⟩; have hst := xr hb; (try simp only [zA, zC, zD] at hst); obtain ⟨hc, hf, hz⟩ := hst) | (go_at_call 136; refine (isUser_c _ _).mono ?_; rintro E w' ⟨rfl, rfl⟩) | (go_at_call 113; refine (in_c _ _ _ _).mono ?_; rintro E w' ⟨rfl, rfl⟩))
    go_ret2
    exact ⟨A1, c1, rfl, (ho1.keep (by (with_reducible repeat (first | exact kR _ _ | apply kA | apply kD | apply kN | (refine kS ?_ (by first | omega | (simp only [zA, zC, zD]; omega))) | (apply kE; assumption) | (refine kC (by assumption) ?_ (by first | omega | (simp only [zA, zC, zD]; omega))))))).less (by (first | omega | (simp only [zA, zC, zD]; omega) | (simp only [zA, zC, zD] at *; omega))), (by (with_reducible repeat (first | exact cR _ _ | apply cA | apply cD | apply cN | (refine cS ?_ (Or.inr (by first | omega | (simp only [zA, zC, zD]; omega))) _) | (apply cE; assumption) | (apply cK; assumption) | (refine cG (by assumption) ?_ (by first | omega | (simp only [zA, zC, zD]; omega))))))⟩
  cases g3 : Sw.inR v (-100000) 100000
  case false =>
    have e : Sw.turnMay xs who v = false := by simp [Sw.turnMay, g3]
    rw [e, monTurn_n e]; clear e
    go_enter Try.func188, Try.ntmps188
    go_wp2_with (first | (go_at_call 102; apply Calls.mono; apply iCloneInts_c; ((first | (apply Rs.at0; assumption) | (apply Ow.rs0; assumption) | (apply OwT.rs0; assumption)); with_reducible repeat (first | exact kR _ _ | apply kA | apply kD | apply kN | (refine kS ?_ (by first | omega | (simp only [zA, zC, zD]; omega))) | (apply kE; assumption) | (refine kC (by assumption) ?_ (by first | omega | (simp only [zA, zC, zD]; omega))))); (first | assumption | omega); rintro E w1 ⟨A1, c1, rfl, ho1, hb⟩; have hst := xr hb; (try simp only [zA, zC, zD] at hst); obtain ⟨hc, hf, hz⟩ := hst) | (go_at_call 105; apply Calls.mono; apply iMonOk_c; ((first | (apply Rs.at0; assumption) | (apply Ow.rs0; assumption) | (apply OwT.rs0; assumption)); with_reducible repeat (first | exact kR _ _ | apply kA | apply kD | apply kN | (refine kS ?_ (by first | omega | (simp only [zA, zC, zD]; omega))) | (apply kE; assumption) | (refine kC (by assumption) ?_ (by first | omega | (simp only [zA, zC, zD]; omega))))); rintro E w1 ⟨rfl, hb⟩; have hst := xr hb; (try simp only [zA, zC, zD] at hst); obtain ⟨hc, hf, hz⟩ := hst) | (go_at_call 136; refine (isUser_c _ _).mono ?_; rintro E w' ⟨rfl, rfl⟩) | (go_at_call 113; refine (in_c _ _ _ _).mono ?_; rintro E w' ⟨rfl, rfl⟩))
    go_ret2
    exact ⟨A1, c1, rfl, (ho1.keep (by (with_reducible repeat (first | exact kR _ _ | apply kA | apply kD | apply kN | (refine kS ?_ (by first | omega | (simp only [zA, zC, zD]; omega))) | (apply kE; assumption) | (refine kC (by assumption) ?_ (by first | omega | (simp only [zA, zC, zD]; omega))))))).less (by (first | omega | (simp only [zA, zC, zD]; omega) | (simp only [zA, zC, zD] at *; omega))), (by (with_reducible repeat (first | exact cR _ _ | apply cA | apply cD | apply cN | (refine cS ?_ (Or.inr (by first | omega | (simp only [zA, zC, zD]; omega))) _) | (apply cE; assumption) | (apply cK; assumption) | (refine cG (by assumption) ?_ (by first | omega | (simp only [zA, zC, zD]; omega))))))⟩
  have hw := Sw.inR_iff.1 g2
  have hv := Sw.inR_iff.1 g3
  obtain ⟨k, rfl⟩ : ∃ k : Nat, who = k + 1 := ⟨(who - 1).toNat, by omega⟩
  have hk : k < 5 := by omega
  obtain ⟨g, off, y, rfl, hg0, hg, hd, hy, hc0⟩ := at_I hxs hk
  have hyb : 0 ≤ y ∧ y ≤ 100000 := (Sw.monOk_iff.1 g1).2 y (List.mem_of_getElem? hy)
  have hpu := purse_at hy
  have Hpu := Lib.hid hpu
  have Hy := Lib.hid hy
  clear hd hy hpu
  obtain ⟨y0, y1⟩ := hyb
  obtain ⟨v0, v1⟩ := hv
  clear hw
  have t2 : IntKind.i64.wrap ((k : Int) + 1 - 1) = k := by rw [IntWalk.i64_in _ (by omega)]; omega
  cases g4 : Sw.inR (y + v) 0 100000
  case false =>
    have e : Sw.turnMay xs (k + 1) v = false := by simp [Sw.turnMay, Hpu.out, g4]
    rw [e, monTurn_n e]; clear e
    go_enter Try.func188, Try.ntmps188
    go_wp2_with (go_at_call 102; apply Calls.mono; apply iCloneInts_c; ((first | (apply Rs.at0; assumption) | (apply Ow.rs0; assumption) | (apply OwT.rs0; assumption)); with_reducible repeat (first | exact kR _ _ | apply kA | apply kD | apply kN | (refine kS ?_ (by first | omega | (simp only [zA, zC, zD]; omega))) | (apply kE; assumption) | (refine kC (by assumption) ?_ (by first | omega | (simp only [zA, zC, zD]; omega))))); (first | assumption | omega); rintro E w1 ⟨A1, c1, rfl, ho1, hb⟩; have hst := xr hb; (try simp only [zA, zC, zD] at hst); obtain ⟨hc, hf, hz⟩ := hst)
    obtain ⟨g', x', hA, hlo, hlt, hx, hcx, hfz⟩ := at_OI ho1 hk
    obtain rfl : x' = y := by have := Hy.out; rw [hx] at this; exact Option.some.inj this
    subst hA
    clear hx
    go_wp2_with (first | (go_at_call 105; apply Calls.mono; apply iMonOk_c; ((first | (apply Rs.at0; assumption) | (apply Ow.rs0; assumption) | (apply OwT.rs0; assumption)); with_reducible repeat (first | exact kR _ _ | apply kA | apply kD | apply kN | (refine kS ?_ (by first | omega | (simp only [zA, zC, zD]; omega))) | (apply kE; assumption) | (refine kC (by assumption) ?_ (by first | omega | (simp only [zA, zC, zD]; omega))))); rintro E w1 ⟨rfl, hb⟩; have hst := xr hb; (try simp only [zA, zC, zD] at hst); obtain ⟨hc, hf, hz⟩ := hst) | (go_at_call 136; refine (isUser_c _ _).mono ?_; rintro E w' ⟨rfl, rfl⟩) | (go_at_call 113; refine (in_c _ _ _ _).mono ?_; rintro E w' ⟨rfl, rfl⟩))
    go_ret2
    exact ⟨_, c1, rfl, (ho1.keep (by (with_reducible repeat (first | exact kR _ _ | apply kA | apply kD | apply kN | (refine kS ?_ (by first | omega | (simp only [zA, zC, zD]; omega))) | (apply kE; assumption) | (refine kC (by assumption) ?_ (by first | omega | (simp only [zA, zC, zD]; omega))))))).less (by (first | omega | (simp only [zA, zC, zD]; omega) | (simp only [zA, zC, zD] at *; omega))), (by (with_reducible repeat (first | exact cR _ _ | apply cA | apply cD | apply cN | (refine cS ?_ (Or.inr (by first | omega | (simp only [zA, zC, zD]; omega))) _) | (apply cE; assumption) | (apply cK; assumption) | (refine cG (by assumption) ?_ (by first | omega | (simp only [zA, zC, zD]; omega))))))⟩
  have e : Sw.turnMay xs (k + 1) v = true := by simp [Sw.turnMay, g1, g2, g3, Hpu.out, g4]
  rw [e, monTurn_y e]; clear e
  go_enter Try.func188, Try.ntmps188
  go_wp2_with (go_at_call 102; apply Calls.mono; apply iCloneInts_c; ((first | (apply Rs.at0; assumption) | (apply Ow.rs0; assumption) | (apply OwT.rs0; assumption)); with_reducible repeat (first | exact kR _ _ | apply kA | apply kD | apply kN | (refine kS ?_ (by first | omega | (simp only [zA, zC, zD]; omega))) | (apply kE; assumption) | (refine kC (by assumption) ?_ (by first | omega | (simp only [zA, zC, zD]; omega))))); (first | assumption | omega); rintro E w1 ⟨A1, c1, rfl, ho1, hb⟩; have hst := xr hb; (try simp only [zA, zC, zD] at hst); obtain ⟨hc, hf, hz⟩ := hst)
  obtain ⟨g', x', hA, hlo, hlt, hx, hcx, hfz⟩ := at_OI ho1 hk
  obtain rfl : x' = y := by have := Hy.out; rw [hx] at this; exact Option.some.inj this
  subst hA
  clear hx
  apply Calls.mono; apply iMonOk_c; (first | assumption | ((first | (apply Rs.at0; assumption) | (apply Ow.rs0; assumption) | (apply OwT.rs0; assumption)); with_reducible repeat (first | exact kR _ _ | apply kA | apply kD | apply kN | (refine kS ?_ (by first | omega | (simp only [zA, zC, zD]; omega))) | (apply kE; assumption) | (refine kC (by assumption) ?_ (by first | omega | (simp only [zA, zC, zD]; omega))))) | omega); rintro E w3 ⟨rfl, hb3⟩; have hst := xr hb3; (try simp only [zA, zC, zD] at hst); obtain ⟨hc3, hf3, hz3⟩ := hst
  have ho3 := Ow.keep ho1 (KF.ex hb3 (KF.refl _ _))
  go_wp2_with (first | (go_at_call 136; refine (isUser_c _ _).mono ?_; rintro E w' ⟨rfl, rfl⟩) | (go_at_call 113; refine (in_c _ _ _ _).mono ?_; rintro E w' ⟨rfl, rfl⟩))
  go_ret2
  refine ⟨_, _, rfl, ?_, (by (with_reducible repeat (first | exact cR _ _ | apply cA | apply cD | apply cN | (refine cS ?_ (Or.inr (by first | omega | (simp only [zA, zC, zD]; omega))) _) | (apply cE; assumption) | (apply cK; assumption) | (refine cG (by assumption) ?_ (by first | omega | (simp only [zA, zC, zD]; omega))))))⟩
  have r := OI_set ho3 rfl Hy.out (x' + v)
  rw [Sw.turned, Hpu.out, show ((k : Int) + 1 - 1).toNat = k from by omega]
  exact r.less (by omega)

theorem iReqOk_c (r : Sw.Req) (w : World) : Calls Try.prog 108 #[.agg #[.int .i64 r.user, .int .i64 r.n, .int .i64 r.kind, .int .i64 r.ticket, .int .i64 r.who, .int .i64 r.price]] w fun E w' => E = .returned (.bool (Sw.reqOk r)) ∧ Ex w w' := by
  cases g1 : Sw.inR r.user 1 5
  case false => go_enter Try.func108, Try.ntmps108; go_wp2_with (first | (go_at_call 113; refine (in_c _ _ _ _).mono ?_; rintro E w' ⟨rfl, rfl⟩) | (go_at_call 136; refine (isUser_c _ _).mono ?_; rintro E w' ⟨rfl, rfl⟩) | (go_at_call 91; refine (isTicket_c _ _).mono ?_; rintro E w' ⟨rfl, rfl⟩) | (go_at_call 177; refine (isFace_c _ _).mono ?_; rintro E w' ⟨rfl, rfl⟩)); go_ret; exact ⟨ret_b (by simp [Sw.reqOk, g1]), (by (with_reducible repeat (first | exact cR _ _ | apply cA | apply cD | apply cN | (refine cS ?_ (Or.inr (by first | omega | (simp only [zA, zC, zD]; omega))) _) | (apply cE; assumption) | (apply cK; assumption) | (refine cG (by assumption) ?_ (by first | omega | (simp only [zA, zC, zD]; omega))))))⟩
  cases g2 : Sw.inR r.n 1 99999
  case false => go_enter Try.func108, Try.ntmps108; go_wp2_with (first | (go_at_call 113; refine (in_c _ _ _ _).mono ?_; rintro E w' ⟨rfl, rfl⟩) | (go_at_call 136; refine (isUser_c _ _).mono ?_; rintro E w' ⟨rfl, rfl⟩) | (go_at_call 91; refine (isTicket_c _ _).mono ?_; rintro E w' ⟨rfl, rfl⟩) | (go_at_call 177; refine (isFace_c _ _).mono ?_; rintro E w' ⟨rfl, rfl⟩)); go_ret; exact ⟨ret_b (by simp [Sw.reqOk, g2]), (by (with_reducible repeat (first | exact cR _ _ | apply cA | apply cD | apply cN | (refine cS ?_ (Or.inr (by first | omega | (simp only [zA, zC, zD]; omega))) _) | (apply cE; assumption) | (apply cK; assumption) | (refine cG (by assumption) ?_ (by first | omega | (simp only [zA, zC, zD]; omega))))))⟩
  cases g3 : Sw.inR r.kind 1 6
  case false => go_enter Try.func108, Try.ntmps108; go_wp2_with (first | (go_at_call 113; refine (in_c _ _ _ _).mono ?_; rintro E w' ⟨rfl, rfl⟩) | (go_at_call 136; refine (isUser_c _ _).mono ?_; rintro E w' ⟨rfl, rfl⟩) | (go_at_call 91; refine (isTicket_c _ _).mono ?_; rintro E w' ⟨rfl, rfl⟩) | (go_at_call 177; refine (isFace_c _ _).mono ?_; rintro E w' ⟨rfl, rfl⟩)); go_ret; exact ⟨ret_b (by simp [Sw.reqOk, g3]), (by (with_reducible repeat (first | exact cR _ _ | apply cA | apply cD | apply cN | (refine cS ?_ (Or.inr (by first | omega | (simp only [zA, zC, zD]; omega))) _) | (apply cE; assumption) | (apply cK; assumption) | (refine cG (by assumption) ?_ (by first | omega | (simp only [zA, zC, zD]; omega))))))⟩
  cases g4 : Sw.inR r.ticket 0 7
  case false => go_enter Try.func108, Try.ntmps108; go_wp2_with (first | (go_at_call 113; refine (in_c _ _ _ _).mono ?_; rintro E w' ⟨rfl, rfl⟩) | (go_at_call 136; refine (isUser_c _ _).mono ?_; rintro E w' ⟨rfl, rfl⟩) | (go_at_call 91; refine (isTicket_c _ _).mono ?_; rintro E w' ⟨rfl, rfl⟩) | (go_at_call 177; refine (isFace_c _ _).mono ?_; rintro E w' ⟨rfl, rfl⟩)); go_ret; exact ⟨ret_b (by simp [Sw.reqOk, g4]), (by (with_reducible repeat (first | exact cR _ _ | apply cA | apply cD | apply cN | (refine cS ?_ (Or.inr (by first | omega | (simp only [zA, zC, zD]; omega))) _) | (apply cE; assumption) | (apply cK; assumption) | (refine cG (by assumption) ?_ (by first | omega | (simp only [zA, zC, zD]; omega))))))⟩
  have e : Sw.reqOk r = (if r.kind = 1 then Sw.inR r.who 1 5 && Sw.inR r.price 1 50 else decide (r.who = 0) && (if r.kind = 2 then Sw.inR r.price 1 999 else decide (r.price = 0))) := by simp [Sw.reqOk, g1, g2, g3, g4]
  have He := Lib.hid e; clear e
  by_cases k1 : r.kind = 1
  · have k1' : (r.kind == 1) = true := by simp [k1]
    have K1 := Lib.hid k1; clear k1
    cases g5 : Sw.inR r.who 1 5
    all_goals
      go_enter Try.func108, Try.ntmps108
      go_wp2_with (first | (go_at_call 113; refine (in_c _ _ _ _).mono ?_; rintro E w' ⟨rfl, rfl⟩) | (go_at_call 136; refine (isUser_c _ _).mono ?_; rintro E w' ⟨rfl, rfl⟩) | (go_at_call 91; refine (isTicket_c _ _).mono ?_; rintro E w' ⟨rfl, rfl⟩) | (go_at_call 177; refine (isFace_c _ _).mono ?_; rintro E w' ⟨rfl, rfl⟩))
      go_ret
      exact ⟨ret_b (by rw [He.out, if_pos K1.out]; simp [g5]), (by (with_reducible repeat (first | exact cR _ _ | apply cA | apply cD | apply cN | (refine cS ?_ (Or.inr (by first | omega | (simp only [zA, zC, zD]; omega))) _) | (apply cE; assumption) | (apply cK; assumption) | (refine cG (by assumption) ?_ (by first | omega | (simp only [zA, zC, zD]; omega))))))⟩
  have k1' : (r.kind == 1) = false := by simp [k1]
  cases g5 : (r.who == 0)
  all_goals
    by_cases k2 : r.kind = 2
    · have k2' : (r.kind == 2) = true := by simp [k2]
      have K2 := Lib.hid k2; clear k2
      cases g6 : Sw.inR r.price 1 999
      all_goals
        go_enter Try.func108, Try.ntmps108
        go_wp2_with (first | (go_at_call 113; refine (in_c _ _ _ _).mono ?_; rintro E w' ⟨rfl, rfl⟩) | (go_at_call 136; refine (isUser_c _ _).mono ?_; rintro E w' ⟨rfl, rfl⟩) | (go_at_call 91; refine (isTicket_c _ _).mono ?_; rintro E w' ⟨rfl, rfl⟩) | (go_at_call 177; refine (isFace_c _ _).mono ?_; rintro E w' ⟨rfl, rfl⟩))
        go_ret
        exact ⟨ret_b (by rw [He.out, if_neg k1, if_pos K2.out]; rw [← beqI, g5, g6]; rfl), (by (with_reducible repeat (first | exact cR _ _ | apply cA | apply cD | apply cN | (refine cS ?_ (Or.inr (by first | omega | (simp only [zA, zC, zD]; omega))) _) | (apply cE; assumption) | (apply cK; assumption) | (refine cG (by assumption) ?_ (by first | omega | (simp only [zA, zC, zD]; omega))))))⟩
    have k2' : (r.kind == 2) = false := by simp [k2]
    cases g6 : (r.price == 0)
    all_goals
      go_enter Try.func108, Try.ntmps108
      go_wp2_with (first | (go_at_call 113; refine (in_c _ _ _ _).mono ?_; rintro E w' ⟨rfl, rfl⟩) | (go_at_call 136; refine (isUser_c _ _).mono ?_; rintro E w' ⟨rfl, rfl⟩) | (go_at_call 91; refine (isTicket_c _ _).mono ?_; rintro E w' ⟨rfl, rfl⟩) | (go_at_call 177; refine (isFace_c _ _).mono ?_; rintro E w' ⟨rfl, rfl⟩))
      go_ret
      exact ⟨ret_b (by rw [He.out, if_neg k1, if_neg k2]; rw [← beqI, ← beqI, g5, g6]; rfl), (by (with_reducible repeat (first | exact cR _ _ | apply cA | apply cD | apply cN | (refine cS ?_ (Or.inr (by first | omega | (simp only [zA, zC, zD]; omega))) _) | (apply cE; assumption) | (apply cK; assumption) | (refine cG (by assumption) ?_ (by first | omega | (simp only [zA, zC, zD]; omega))))))⟩

theorem iDealOk_c (aL : Option Addr) (aLc aLn : Nat) (aP : Option Addr) (aPc aPn : Nat) (aD : Option Addr) (aDc aDn : Nat) (aN : Option Addr) (aNc aNn : Nat) (aS : Option Addr) (aSc aSn : Nat) (m : Sw.Mkt) (d : Sw.Deal) (A : Option Addr) (c : Nat) (rows : List Sw.Row) (w : World) (hrr : RR w 0 A c 8 rows) (hck0 : 0 ≤ m.clock) (hck1 : m.clock ≤ 99999) : Calls Try.prog 147 #[.agg #[.slice aL aLn aLc, .slice aP aPn aPc, .slice aD aDn aDc, .int .i64 m.clock, .slice aN aNn aNc, .slice aS aSn aSc], .agg #[.int .i64 d.ticket, .int .i64 d.seller, .int .i64 d.price, .int .i64 d.buyer, .int .i64 d.due], .slice A 8 c] w fun E w' => E = .returned (.bool (Sw.dealOk m.clock rows d)) ∧ Ex w w' := by
  cases c1 : Sw.inR d.ticket 0 7
  case false =>
    go_enter Try.func147, Try.ntmps147; go_wp2_with (first | (go_at_call 91; refine (isTicket_c _ _).mono ?_; rintro E w' ⟨rfl, rfl⟩) | (go_at_call 136; refine (isUser_c _ _).mono ?_; rintro E w' ⟨rfl, rfl⟩)); go_ret; exact ⟨ret_b (by simp [Sw.dealOk, c1]), (by (with_reducible repeat (first | exact cR _ _ | apply cA | apply cD | apply cN | (refine cS ?_ (Or.inr (by first | omega | (simp only [zA, zC, zD]; omega))) _) | (apply cE; assumption) | (apply cK; assumption) | (refine cG (by assumption) ?_ (by first | omega | (simp only [zA, zC, zD]; omega))))))⟩
  cases c2 : Sw.inR d.seller 1 5
  case false =>
    go_enter Try.func147, Try.ntmps147; go_wp2_with (first | (go_at_call 91; refine (isTicket_c _ _).mono ?_; rintro E w' ⟨rfl, rfl⟩) | (go_at_call 136; refine (isUser_c _ _).mono ?_; rintro E w' ⟨rfl, rfl⟩)); go_ret; exact ⟨ret_b (by simp [Sw.dealOk, c2]), (by (with_reducible repeat (first | exact cR _ _ | apply cA | apply cD | apply cN | (refine cS ?_ (Or.inr (by first | omega | (simp only [zA, zC, zD]; omega))) _) | (apply cE; assumption) | (apply cK; assumption) | (refine cG (by assumption) ?_ (by first | omega | (simp only [zA, zC, zD]; omega))))))⟩
  obtain ⟨y0, y7⟩ := Sw.inR_iff.1 c1
  obtain ⟨t, ht⟩ := Int.eq_ofNat_of_zero_le y0
  have e0 : d.ticket.toNat = t := by omega
  have ht8 : t < 8 := by omega
  have y8 : d.ticket < 8 := by omega
  have HT := Lib.hid ht
  clear ht
  obtain ⟨gr, offr, r, rfl, hgr0, hgr, hdr, hyr, r0, r1, r2⟩ := at_R hrr ht8
  have hrow : Sw.rowAt rows d.ticket = r := by simp [Sw.rowAt, e0, hyr]
  have e : Sw.dealOk m.clock rows d = (decide (r.who = d.seller) && !r.used && Sw.inR d.price 1 (Sw.entCap r.face) && (if d.buyer = 0 then decide (d.due = 0) else Sw.inR d.buyer 1 5 && decide (d.buyer ≠ d.seller) && Sw.inR d.due m.clock (m.clock + 5))) := by
    rw [Sw.dealOk, hrow, c1, c2]; simp
  have He := Lib.hid e
  clear hdr hyr hrow e
  obtain ⟨rw_, rf, ru⟩ := r
  dsimp only at r0 r1 r2
  cases c3 : (rw_ == d.seller)
  case false =>
    have c3' : (rw_ != d.seller) = true := by rw [bne, c3]; rfl
    go_enter Try.func147, Try.ntmps147; go_wp2_with (first | (go_at_call 91; refine (isTicket_c _ _).mono ?_; rintro E w' ⟨rfl, rfl⟩) | (go_at_call 136; refine (isUser_c _ _).mono ?_; rintro E w' ⟨rfl, rfl⟩)); go_quiet ((first | (go_at_call 201; exact Calls.quiet_same (iEntCap_c _ _)) | (go_at_call 113; exact Calls.quiet_same (in_c _ _ _ _)))); go_wp2_with (first | (go_at_call 136; refine (isUser_c _ _).mono ?_; rintro E w' ⟨rfl, rfl⟩) | (go_at_call 113; refine (in_c _ _ _ _).mono ?_; rintro E w' ⟨rfl, rfl⟩)); go_ret; exact ⟨ret_b (by rw [He.out, ← beqI, c3]; simp), (by (with_reducible repeat (first | exact cR _ _ | apply cA | apply cD | apply cN | (refine cS ?_ (Or.inr (by first | omega | (simp only [zA, zC, zD]; omega))) _) | (apply cE; assumption) | (apply cK; assumption) | (refine cG (by assumption) ?_ (by first | omega | (simp only [zA, zC, zD]; omega))))))⟩
  have c3' : (rw_ != d.seller) = false := by rw [bne, c3]; rfl
  cases ru
  case true =>
    go_enter Try.func147, Try.ntmps147; go_wp2_with (first | (go_at_call 91; refine (isTicket_c _ _).mono ?_; rintro E w' ⟨rfl, rfl⟩) | (go_at_call 136; refine (isUser_c _ _).mono ?_; rintro E w' ⟨rfl, rfl⟩)); go_quiet ((first | (go_at_call 201; exact Calls.quiet_same (iEntCap_c _ _)) | (go_at_call 113; exact Calls.quiet_same (in_c _ _ _ _)))); go_wp2_with (first | (go_at_call 136; refine (isUser_c _ _).mono ?_; rintro E w' ⟨rfl, rfl⟩) | (go_at_call 113; refine (in_c _ _ _ _).mono ?_; rintro E w' ⟨rfl, rfl⟩)); go_ret; exact ⟨ret_b (by rw [He.out]; simp), (by (with_reducible repeat (first | exact cR _ _ | apply cA | apply cD | apply cN | (refine cS ?_ (Or.inr (by first | omega | (simp only [zA, zC, zD]; omega))) _) | (apply cE; assumption) | (apply cK; assumption) | (refine cG (by assumption) ?_ (by first | omega | (simp only [zA, zC, zD]; omega))))))⟩
  cases c6 : Sw.inR d.price 1 (Sw.entCap rf)
  case false =>
    go_enter Try.func147, Try.ntmps147; go_wp2_with (first | (go_at_call 91; refine (isTicket_c _ _).mono ?_; rintro E w' ⟨rfl, rfl⟩) | (go_at_call 136; refine (isUser_c _ _).mono ?_; rintro E w' ⟨rfl, rfl⟩)); go_quiet ((first | (go_at_call 201; exact Calls.quiet_same (iEntCap_c _ _)) | (go_at_call 113; exact Calls.quiet_same (in_c _ _ _ _)))); go_wp2_with (first | (go_at_call 136; refine (isUser_c _ _).mono ?_; rintro E w' ⟨rfl, rfl⟩) | (go_at_call 113; refine (in_c _ _ _ _).mono ?_; rintro E w' ⟨rfl, rfl⟩)); go_ret; exact ⟨ret_b (by rw [He.out]; simp [c6]), (by (with_reducible repeat (first | exact cR _ _ | apply cA | apply cD | apply cN | (refine cS ?_ (Or.inr (by first | omega | (simp only [zA, zC, zD]; omega))) _) | (apply cE; assumption) | (apply cK; assumption) | (refine cG (by assumption) ?_ (by first | omega | (simp only [zA, zC, zD]; omega))))))⟩
  by_cases b0 : d.buyer = 0
  · have b1 : (d.buyer == 0) = true := by simp [b0]
    have B0 := Lib.hid b0; clear b0
    go_enter Try.func147, Try.ntmps147; go_wp2_with (first | (go_at_call 91; refine (isTicket_c _ _).mono ?_; rintro E w' ⟨rfl, rfl⟩) | (go_at_call 136; refine (isUser_c _ _).mono ?_; rintro E w' ⟨rfl, rfl⟩)); go_quiet ((first | (go_at_call 201; exact Calls.quiet_same (iEntCap_c _ _)) | (go_at_call 113; exact Calls.quiet_same (in_c _ _ _ _)))); go_wp2_with (first | (go_at_call 136; refine (isUser_c _ _).mono ?_; rintro E w' ⟨rfl, rfl⟩) | (go_at_call 113; refine (in_c _ _ _ _).mono ?_; rintro E w' ⟨rfl, rfl⟩)); go_ret; exact ⟨ret_b (by rw [He.out, if_pos B0.out, ← beqI, c3, c6, ← beqI]; simp), (by (with_reducible repeat (first | exact cR _ _ | apply cA | apply cD | apply cN | (refine cS ?_ (Or.inr (by first | omega | (simp only [zA, zC, zD]; omega))) _) | (apply cE; assumption) | (apply cK; assumption) | (refine cG (by assumption) ?_ (by first | omega | (simp only [zA, zC, zD]; omega))))))⟩
  have b1 : (d.buyer == 0) = false := by simp [b0]
  have B0 := Lib.hid b0; clear b0
  cases c7 : Sw.inR d.buyer 1 5
  case false =>
    go_enter Try.func147, Try.ntmps147; go_wp2_with (first | (go_at_call 91; refine (isTicket_c _ _).mono ?_; rintro E w' ⟨rfl, rfl⟩) | (go_at_call 136; refine (isUser_c _ _).mono ?_; rintro E w' ⟨rfl, rfl⟩)); go_quiet ((first | (go_at_call 201; exact Calls.quiet_same (iEntCap_c _ _)) | (go_at_call 113; exact Calls.quiet_same (in_c _ _ _ _)))); go_wp2_with (first | (go_at_call 136; refine (isUser_c _ _).mono ?_; rintro E w' ⟨rfl, rfl⟩) | (go_at_call 113; refine (in_c _ _ _ _).mono ?_; rintro E w' ⟨rfl, rfl⟩)); go_ret; exact ⟨ret_b (by rw [He.out, if_neg B0.out, c7]; simp), (by (with_reducible repeat (first | exact cR _ _ | apply cA | apply cD | apply cN | (refine cS ?_ (Or.inr (by first | omega | (simp only [zA, zC, zD]; omega))) _) | (apply cE; assumption) | (apply cK; assumption) | (refine cG (by assumption) ?_ (by first | omega | (simp only [zA, zC, zD]; omega))))))⟩
  cases c8 : (d.buyer == d.seller)
  case true =>
    have c8' : (d.buyer != d.seller) = false := by rw [bne, c8]; rfl
    go_enter Try.func147, Try.ntmps147; go_wp2_with (first | (go_at_call 91; refine (isTicket_c _ _).mono ?_; rintro E w' ⟨rfl, rfl⟩) | (go_at_call 136; refine (isUser_c _ _).mono ?_; rintro E w' ⟨rfl, rfl⟩)); go_quiet ((first | (go_at_call 201; exact Calls.quiet_same (iEntCap_c _ _)) | (go_at_call 113; exact Calls.quiet_same (in_c _ _ _ _)))); go_wp2_with (first | (go_at_call 136; refine (isUser_c _ _).mono ?_; rintro E w' ⟨rfl, rfl⟩) | (go_at_call 113; refine (in_c _ _ _ _).mono ?_; rintro E w' ⟨rfl, rfl⟩)); go_ret; exact ⟨ret_b (by rw [He.out, if_neg B0.out, decide_not, ← beqI d.buyer, c8]; simp), (by (with_reducible repeat (first | exact cR _ _ | apply cA | apply cD | apply cN | (refine cS ?_ (Or.inr (by first | omega | (simp only [zA, zC, zD]; omega))) _) | (apply cE; assumption) | (apply cK; assumption) | (refine cG (by assumption) ?_ (by first | omega | (simp only [zA, zC, zD]; omega))))))⟩
  have c8' : (d.buyer != d.seller) = true := by rw [bne, c8]; rfl
  go_enter Try.func147, Try.ntmps147; go_wp2_with (first | (go_at_call 91; refine (isTicket_c _ _).mono ?_; rintro E w' ⟨rfl, rfl⟩) | (go_at_call 136; refine (isUser_c _ _).mono ?_; rintro E w' ⟨rfl, rfl⟩)); go_quiet ((first | (go_at_call 201; exact Calls.quiet_same (iEntCap_c _ _)) | (go_at_call 113; exact Calls.quiet_same (in_c _ _ _ _)))); go_wp2_with (first | (go_at_call 136; refine (isUser_c _ _).mono ?_; rintro E w' ⟨rfl, rfl⟩) | (go_at_call 113; refine (in_c _ _ _ _).mono ?_; rintro E w' ⟨rfl, rfl⟩)); go_ret; exact ⟨ret_b (by rw [He.out, if_neg B0.out, decide_not, ← beqI d.buyer, c8, ← beqI, c3, c6, c7]; simp), (by (with_reducible repeat (first | exact cR _ _ | apply cA | apply cD | apply cN | (refine cS ?_ (Or.inr (by first | omega | (simp only [zA, zC, zD]; omega))) _) | (apply cE; assumption) | (apply cK; assumption) | (refine cG (by assumption) ?_ (by first | omega | (simp only [zA, zC, zD]; omega))))))⟩
end Go.Proofs.Ytncoiknpkebgoaa
