/-
 Walk: the law WldPurse.
-/
import Derived.Test.YtnnoiagommiapaaGreatPy49
import Derived.Test.YtnnoiagommiapaaGreatPy52
import Derived.Test.YtnnoiagommiapaaGreatPy9
set_option maxRecDepth 100000
set_option linter.unusedSimpArgs false
set_option linter.unusedVariables false
namespace Go.Proofs.YtnnoiagommiapaaGreat
open Go.RowKit Go
set_option maxHeartbeats 4000000
theorem money_bd {z : Sw.World} (h : Sw.wldOk z = true) : 0 ≤ Sw.wldMoney z ∧ Sw.wldMoney z ≤ 100000 := by
 obtain ⟨rows, hm⟩ := Sw.mktOk_iff.1 (Sw.wldOk_iff.1 h).mkt
 have hs := hm.sum
 have h1 := (Sw.sum_bd z.market.purses 100000 (by omega) (Sw.monOk_iff.1 hm.mon).2).1
 have h2 := (Sw.heldSum_bd hm.deals.1).1
 have e1 := Sw.monSum_eq hm.mon
 have e2 := Sw.heldOf_eq hm.deals hm.dlen
 unfold Sw.wldMoney Sw.mktHeld
 rw [e1, e2, Sw.wrap64_in (by omega)]
 omega
theorem fnWldPurse_c (A : Option Addr) (c n : Nat) (bs : List Int) (w : World) (hxs : RB w 0 A c n bs) (hq : ∀ x ∈ bs, 0 ≤ x ∧ x ≤ 255) : Calls Tryz.prog 6 #[.slice A n c] w fun E w' => E = .returned (.bool true) ∧ Ex w w' := by
 have hbig := Rs.big hxs
 by_cases hn : n ≤ 1048576
 case neg =>
   go_enter Tryz.func6, Tryz.ntmps6
   go_wp2_with fail
   go_ret
   exact ⟨rfl, ext_⟩
 go_enter Tryz.func6, Tryz.ntmps6
 go_wp2_with fail
 apply Calls.mono
 apply drawWldMoney_c
 · apply Rs.at0 hxs; (exact kf_)
 · exact hq
 rintro E w1 ⟨dF, dFc, dFn, dL, dLc, dLn, dP, dPc, dPn, dD, dDc, dDn, dN, dNc, dNn, dS, dSc, dSn, dI, dIc, dIn, dG, dGc, dGn, dB, dBc, dBn, z, rfl, hz1, hzn, hb⟩
 obtain ⟨hc, hf, hz⟩ := xy hb
 clear hxs hq hbig hn hzn
 obtain ⟨mny, hm0⟩ : ∃ m, m = Sw.wldMoney z := ⟨_, rfl⟩
 have HM := Lib.hid hm0
 clear hm0
 go_upto_region 5 with (first | (go_at_call 35; apply Calls.mono; apply (iWldMoney_c (x := z)); (apply RW.at0 hz1; (exact kf_)); rintro E w2 ⟨rfl, hb⟩; rw [← HM.out]; obtain ⟨hc, hf, hz⟩ := xy hb))
 (refine wn_ fun W0 hb0 hc0 hf0 hz0 => ?_)
 have hzw : RW W0 0 dF dFc dFn dL dLc dLn dP dPc dPn dD dDc dDn dN dNc dNn dS dSc dSn dI dIc dIn dG dGc dGn dB dBc dBn z := hz1.at0 kf_
 have hwm : IntKind.i64.wrap (Sw.monSum z.market.purses + Sw.mktHeld z.market) = mny := by rw [HM.out]; exact IntWalk.i64_left _
 have hmm : (mny == mny) = true := by simp
 cases g : Sw.wldOk z
 · (focus (refine wn_ fun W0 hb0 hc0 hf0 hz0 => ?_; refine wp_regionX [] (S := fun w' => Held W0 w') hdH (fun hHeld => ?_); refine GoesX.take 0 12 [] hHeld (h := ?_); refine GoesX.take 1 13 [] hHeld (h := ?_); refine GoesX.one 2 (h := fun K hK => ?_); go_simp; (go_at_call 36; apply Calls.mono; apply (sWldMoney_c (x := z)); (apply RW.at0 hzw; (exact kf_)); rintro E w3 ⟨rfl, hb⟩; rw [← HM.out]; obtain ⟨hc, hf, hz⟩ := xy hb); (try go_wp2_with fail); refine outS hK hdH (h := ?_); clear hK K hHeld; intro hHeld; refine GoesX.take 3 15 [] hHeld (h := ?_); refine GoesX.take 4 16 [] hHeld (h := ?_); (first | refine GoesX.take 5 17 [] hHeld (h := ?_) | refine GoesX.skip 5 17 [] hHeld (h := ?_)); (first | refine GoesX.take 6 18 [] hHeld (h := ?_) | refine GoesX.skip 6 18 [] hHeld (h := ?_)); (first | refine GoesX.take 7 19 [] hHeld (h := ?_) | refine GoesX.skip 7 19 [] hHeld (h := ?_)); (first | refine GoesX.take 8 20 [] hHeld (h := ?_) | refine GoesX.skip 8 20 [] hHeld (h := ?_)); (first | refine GoesX.take 10 22 [] hHeld (h := ?_) | refine GoesX.skip 10 22 [] hHeld (h := ?_)); (first | refine GoesX.take 11 23 [] hHeld (h := ?_) | refine GoesX.skip 11 23 [] hHeld (h := ?_)); refine GoesX.one 9 (h := fun K hK => ?_); go_simp; (go_at_call 37; apply Calls.mono; apply (iMonSum_c (xs := z.market.purses)); (apply Rs.at0 hzw.mkt.purses; (exact kf_)); rintro E w4 ⟨rfl, rfl⟩); (try go_wp2_with fail); refine outS hK hdH (h := ?_); clear hK K hHeld; intro hHeld; refine GoesX.one 12 (h := fun K hK => ?_); go_simp; (go_at_call 38; apply Calls.mono; apply (iMktHeld_c (m := z.market)); (apply RM.at0 hzw.mkt; (exact kf_)); rintro E w5 ⟨rfl, hb⟩; obtain ⟨hc, hf, hz⟩ := xy hb); (try go_wp2_with fail); refine outS hK hdH (h := ?_); clear hK K hHeld; intro hHeld; (first | refine GoesX.take 13 25 [] hHeld (h := ?_) | refine GoesX.skip 13 25 [] hHeld (h := ?_)); (first | refine GoesX.take 14 26 [] hHeld (h := ?_) | refine GoesX.skip 14 26 [] hHeld (h := ?_)); refine GoesX.take 15 27 [] hHeld (h := ?_); refine GoesX.take 16 28 [] hHeld (h := ?_); (first | refine GoesX.take 17 29 [] hHeld (h := ?_) | refine GoesX.skip 17 29 [] hHeld (h := ?_)); refine GoesX.one 18 (h := fun K hK => ?_); go_simp; (go_at_call 31; apply Calls.mono; apply (sWldOk_c (x := z)); (apply RW.at0 hzw; (exact kf_)); rintro E w6 ⟨rfl, hb⟩; rw [g]; obtain ⟨hc, hf, hz⟩ := xy hb); (try go_wp2_with fail); refine outS hK hdH (h := ?_); clear hK K hHeld; intro hHeld; (first | refine GoesX.take 19 31 [] hHeld (h := ?_) | refine GoesX.skip 19 31 [] hHeld (h := ?_)); (first | refine GoesX.take 20 32 [] hHeld (h := ?_) | refine GoesX.skip 20 32 [] hHeld (h := ?_)); refine GoesX.skip 21 33 [22, 23, 24, 25, 26, 27, 28, 29, 30, 31, 32] hHeld (h := ?_); refine GoesX.skip 22 34 [23, 24, 25, 26, 27, 28, 29, 30, 31, 32] hHeld (h := ?_); refine GoesX.skip 23 35 [24, 25, 26, 27, 28, 29, 30, 31, 32] hHeld (h := ?_); refine GoesX.skip 24 36 [25, 26, 27, 28, 29, 30, 31, 32] hHeld (h := ?_); refine GoesX.skip 25 37 [26, 27, 28, 29, 30, 31, 32] hHeld (h := ?_); refine GoesX.skip 26 38 [27, 28, 29, 30, 31, 32] hHeld (h := ?_); (first | refine GoesX.take 27 39 [] hHeld (h := ?_) | refine GoesX.skip 27 39 [] hHeld (h := ?_)); refine GoesX.take 28 40 [] hHeld (h := ?_); refine GoesX.take 29 41 [] hHeld (h := ?_); refine GoesX.one 30 (h := fun K hK => ?_); go_simp; (go_at_call 32; refine (swOk_c _).mono ?_; rintro E w' ⟨rfl, rfl⟩); (try go_wp2_with fail); refine outS hK hdH (h := ?_); clear hK K hHeld; intro hHeld; refine GoesX.take 31 43 [] hHeld (h := ?_); refine GoesX.take 32 2 [] hHeld (h := ?_); refine GoesX.done (by kernel_rfl) ?_ _; all_goals (obtain ⟨hb, hc, hf, hz⟩ := xh (by assumption : Held W0 _))))
   all_goals go_wp2_with fail
   all_goals go_ret
   all_goals exact ⟨rfl, ext_⟩
 · obtain ⟨d1, d2⟩ := money_bd g
   rw [← HM.out] at d1 d2
   (focus (refine wn_ fun W0 hb0 hc0 hf0 hz0 => ?_; refine wp_regionX [] (S := fun w' => Held W0 w') hdH (fun hHeld => ?_); refine GoesX.take 0 12 [] hHeld (h := ?_); refine GoesX.take 1 13 [] hHeld (h := ?_); refine GoesX.one 2 (h := fun K hK => ?_); go_simp; (go_at_call 36; apply Calls.mono; apply (sWldMoney_c (x := z)); (apply RW.at0 hzw; (exact kf_)); rintro E w3 ⟨rfl, hb⟩; rw [← HM.out]; obtain ⟨hc, hf, hz⟩ := xy hb); (try go_wp2_with fail); refine outS hK hdH (h := ?_); clear hK K hHeld; intro hHeld; refine GoesX.take 3 15 [] hHeld (h := ?_); refine GoesX.take 4 16 [] hHeld (h := ?_); (first | refine GoesX.take 5 17 [] hHeld (h := ?_) | refine GoesX.skip 5 17 [] hHeld (h := ?_)); (first | refine GoesX.take 6 18 [] hHeld (h := ?_) | refine GoesX.skip 6 18 [] hHeld (h := ?_)); (first | refine GoesX.take 7 19 [] hHeld (h := ?_) | refine GoesX.skip 7 19 [] hHeld (h := ?_)); (first | refine GoesX.take 8 20 [] hHeld (h := ?_) | refine GoesX.skip 8 20 [] hHeld (h := ?_)); (first | refine GoesX.take 10 22 [] hHeld (h := ?_) | refine GoesX.skip 10 22 [] hHeld (h := ?_)); (first | refine GoesX.take 11 23 [] hHeld (h := ?_) | refine GoesX.skip 11 23 [] hHeld (h := ?_)); refine GoesX.one 9 (h := fun K hK => ?_); go_simp; (go_at_call 37; apply Calls.mono; apply (iMonSum_c (xs := z.market.purses)); (apply Rs.at0 hzw.mkt.purses; (exact kf_)); rintro E w4 ⟨rfl, rfl⟩); (try go_wp2_with fail); refine outS hK hdH (h := ?_); clear hK K hHeld; intro hHeld; refine GoesX.one 12 (h := fun K hK => ?_); go_simp; (go_at_call 38; apply Calls.mono; apply (iMktHeld_c (m := z.market)); (apply RM.at0 hzw.mkt; (exact kf_)); rintro E w5 ⟨rfl, hb⟩; obtain ⟨hc, hf, hz⟩ := xy hb); (try go_wp2_with fail); refine outS hK hdH (h := ?_); clear hK K hHeld; intro hHeld; (first | refine GoesX.take 13 25 [] hHeld (h := ?_) | refine GoesX.skip 13 25 [] hHeld (h := ?_)); (first | refine GoesX.take 14 26 [] hHeld (h := ?_) | refine GoesX.skip 14 26 [] hHeld (h := ?_)); refine GoesX.take 15 27 [] hHeld (h := ?_); refine GoesX.take 16 28 [] hHeld (h := ?_); (first | refine GoesX.take 17 29 [] hHeld (h := ?_) | refine GoesX.skip 17 29 [] hHeld (h := ?_)); refine GoesX.one 18 (h := fun K hK => ?_); go_simp; (go_at_call 31; apply Calls.mono; apply (sWldOk_c (x := z)); (apply RW.at0 hzw; (exact kf_)); rintro E w6 ⟨rfl, hb⟩; rw [g]; obtain ⟨hc, hf, hz⟩ := xy hb); (try go_wp2_with fail); refine outS hK hdH (h := ?_); clear hK K hHeld; intro hHeld; (first | refine GoesX.take 19 31 [] hHeld (h := ?_) | refine GoesX.skip 19 31 [] hHeld (h := ?_)); (first | refine GoesX.take 20 32 [] hHeld (h := ?_) | refine GoesX.skip 20 32 [] hHeld (h := ?_)); (first | refine GoesX.take 21 33 [] hHeld (h := ?_) | refine GoesX.skip 21 33 [] hHeld (h := ?_)); (first | refine GoesX.take 22 34 [] hHeld (h := ?_) | refine GoesX.skip 22 34 [] hHeld (h := ?_)); (first | refine GoesX.take 23 35 [] hHeld (h := ?_) | refine GoesX.skip 23 35 [] hHeld (h := ?_)); (first | refine GoesX.take 24 36 [] hHeld (h := ?_) | refine GoesX.skip 24 36 [] hHeld (h := ?_)); (first | refine GoesX.take 25 37 [] hHeld (h := ?_) | refine GoesX.skip 25 37 [] hHeld (h := ?_)); (first | refine GoesX.take 26 38 [] hHeld (h := ?_) | refine GoesX.skip 26 38 [] hHeld (h := ?_)); (first | refine GoesX.take 27 39 [] hHeld (h := ?_) | refine GoesX.skip 27 39 [] hHeld (h := ?_)); refine GoesX.take 28 40 [] hHeld (h := ?_); refine GoesX.take 29 41 [] hHeld (h := ?_); refine GoesX.one 30 (h := fun K hK => ?_); go_simp; (go_at_call 32; refine (swOk_c _).mono ?_; rintro E w' ⟨rfl, rfl⟩); (try go_wp2_with fail); refine outS hK hdH (h := ?_); clear hK K hHeld; intro hHeld; refine GoesX.take 31 43 [] hHeld (h := ?_); refine GoesX.take 32 2 [] hHeld (h := ?_); refine GoesX.done (by kernel_rfl) ?_ _; all_goals (obtain ⟨hb, hc, hf, hz⟩ := xh (by assumption : Held W0 _))))
   all_goals go_wp2_with fail
   all_goals go_ret
   all_goals exact ⟨rfl, ext_⟩
end Go.Proofs.YtnnoiagommiapaaGreat
