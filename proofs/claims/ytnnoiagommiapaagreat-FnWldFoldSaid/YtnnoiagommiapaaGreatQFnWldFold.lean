/-
 Walk: the law WldFold.
-/
import Derived.Test.YtnnoiagommiapaaGreatPz44
import Derived.Test.YtnnoiagommiapaaGreatPz51
import Derived.Test.YtnnoiagommiapaaGreatPz52
set_option maxRecDepth 100000
set_option linter.unusedSimpArgs false
set_option linter.unusedVariables false
namespace Go.Proofs.YtnnoiagommiapaaGreat
open Go.RowKit Go
set_option maxHeartbeats 4000000
theorem fold_tick {y : Sw.Mkt} {rs : List Sw.Req} (hy : Sw.mktOk y = true) :
   ((Sw.mktTick y).2 = true → Sw.mktOk (Sw.mktTick y).1 = true ∧ Sw.foldLines y (Sw.reqZ :: rs) = Sw.foldLines (Sw.mktTick y).1 rs) ∧ ((Sw.mktTick y).2 = false → Sw.foldLines y (Sw.reqZ :: rs) = none) := by
 rw [fold_zero]
 unfold Sw.mktTick
 rw [if_pos hy]
 by_cases hc : y.clock = 99999
 · rw [if_pos hc, if_pos hc]; exact ⟨fun h => absurd h (by simp), fun _ => rfl⟩
 · rw [if_neg hc, if_neg hc]; exact ⟨fun _ => ⟨Sw.tick_mktOk hy hc, rfl⟩, fun h => absurd h (by simp)⟩
theorem fold_do {y : Sw.Mkt} {r : Sw.Req} {rs : List Sw.Req} (hy : Sw.mktOk y = true) (hr : r ≠ Sw.reqZ) :
   (0 < (Sw.mktDo y r).2 → Sw.mktOk (Sw.mktDo y r).1 = true ∧ Sw.foldLines y (r :: rs) = Sw.foldLines (Sw.mktDo y r).1 rs) ∧ (¬ 0 < (Sw.mktDo y r).2 → Sw.foldLines y (r :: rs) = none) := by
 rw [fold_req hr]
 unfold Sw.mktDo
 obtain ⟨rows, hmo⟩ := Sw.mktOk_iff.1 hy
 cases hq : Sw.reqOk r
 · rw [hy]; exact ⟨fun h => absurd h (by simp), fun _ => rfl⟩
 · rw [hy]
   have := Sw.doIt_ans hmo hq
   exact ⟨fun _ => ⟨Sw.doIt_mktOk hy hq, rfl⟩, fun h => absurd (show 0 < (Sw.doIt y r).2 by omega) h⟩
theorem fold_new {fs : List Int} {ls : List Sw.Req} {b : Bool} (hb : b = (Sw.mktOk (Sw.mktNew fs) && decide (ls.length ≤ 300))) :
   (b = true → Sw.mktOk (Sw.mktNew fs) = true ∧ Sw.wldFold fs ls = Sw.foldLines (Sw.mktNew fs) ls) ∧ (b = false → Sw.wldFold fs ls = none) := by
 subst hb
 unfold Sw.wldFold
 by_cases gv : (Sw.monOk fs && decide (Sw.monSum fs ≤ 100000)) = true
 · have h1 := Sw.mktOk_iff.2 ⟨_, Sw.mktNew_ok (Bool.and_eq_true_iff.1 gv).1 (by simpa using (Bool.and_eq_true_iff.1 gv).2)⟩
   rw [h1, gv]
   cases decide (ls.length ≤ 300)
   · exact ⟨fun h => absurd h (by simp), fun _ => rfl⟩
   · exact ⟨fun _ => ⟨rfl, rfl⟩, fun h => absurd h (by simp)⟩
 · have h1 : Sw.mktNew fs = Sw.mktZ := by unfold Sw.mktNew; rw [if_neg gv]
   have h2 : Sw.mktOk Sw.mktZ = false := by decide
   rw [h1, h2, Bool.not_eq_true _ |>.mp gv]
   exact ⟨fun h => absurd h (by simp), fun _ => rfl⟩
theorem boxW {gx : Nat} {wr w6 : World} {o : Obj} {v0 v1 v2 v3 v4 v5 : Value} (hb : Ex wr w6) : Ch (fun i => i = gx) wr (((((((w6.alloc o).setCell ⟨gx, 0, none⟩ v0).setCell ⟨gx, 1, none⟩ v1).setCell ⟨gx, 2, none⟩ v2).setCell ⟨gx, 3, none⟩ v3).setCell ⟨gx, 4, none⟩ v4).setCell ⟨gx, 5, none⟩ v5) := by
 have h0 : Ch (fun i => i = gx) wr (w6.alloc o) := cA (cE hb (cR _ _))
 have h1 := h0.setCell (p := ⟨gx, 0, none⟩) (.inl rfl) v0
 have h2 := h1.setCell (p := ⟨gx, 1, none⟩) (.inl rfl) v1
 have h3 := h2.setCell (p := ⟨gx, 2, none⟩) (.inl rfl) v2
 have h4 := h3.setCell (p := ⟨gx, 3, none⟩) (.inl rfl) v3
 have h5 := h4.setCell (p := ⟨gx, 4, none⟩) (.inl rfl) v4
 exact h5.setCell (p := ⟨gx, 5, none⟩) (.inl rfl) v5
theorem boxC {gx : Nat} {wr w6 : World} {v0 v1 v2 v3 v4 v5 : Value} (h0 : Ch (fun i => i = gx) wr w6) : Ch (fun i => i = gx) wr ((((((w6.setCell ⟨gx, 0, none⟩ v0).setCell ⟨gx, 1, none⟩ v1).setCell ⟨gx, 2, none⟩ v2).setCell ⟨gx, 3, none⟩ v3).setCell ⟨gx, 4, none⟩ v4).setCell ⟨gx, 5, none⟩ v5) := by
 have h1 := h0.setCell (p := ⟨gx, 0, none⟩) (.inl rfl) v0
 have h2 := h1.setCell (p := ⟨gx, 1, none⟩) (.inl rfl) v1
 have h3 := h2.setCell (p := ⟨gx, 2, none⟩) (.inl rfl) v2
 have h4 := h3.setCell (p := ⟨gx, 3, none⟩) (.inl rfl) v3
 have h5 := h4.setCell (p := ⟨gx, 4, none⟩) (.inl rfl) v4
 exact h5.setCell (p := ⟨gx, 5, none⟩) (.inl rfl) v5
theorem fnWldFold_c (A : Option Addr) (c n : Nat) (bs : List Int) (w : World) (hxs : RB w 0 A c n bs) (hq : ∀ x ∈ bs, 0 ≤ x ∧ x ≤ 255) : Calls Tryz.prog 7 #[.slice A n c] w fun E w' => E = .returned (.bool true) ∧ Ex w w' := by
 have hbig := Rs.big hxs
 by_cases hn : n ≤ 1048576
 case neg =>
   go_enter Tryz.func7, Tryz.ntmps7
   go_wp2_with fail
   go_ret
   exact ⟨rfl, ext_⟩
 go_enter Tryz.func7, Tryz.ntmps7
 go_wp2_with fail
 apply Calls.mono
 apply drawWldFold_c
 · apply Rs.at0 hxs; (exact kf_)
 · exact hq
 rintro E w1 ⟨F, Fc, Fn, fs, I, Ic, In, ls, rfl, ⟨hF, hI⟩, hb⟩
 obtain ⟨hc, hf, hz⟩ := xy hb
 clear hxs hq hbig hn
 have HN := Lib.hid (fold_new (fs := fs) (ls := ls) rfl)
 have HL := Lib.hid hI.1
 obtain ⟨M, hM0⟩ : ∃ M, M = (Sw.wldFold fs ls).getD Sw.mktZ := ⟨_, rfl⟩
 obtain ⟨tb, htb⟩ : ∃ b, b = (Sw.wldFold fs ls).isSome := ⟨_, rfl⟩
 obtain ⟨x0, hx0⟩ : ∃ x, x = Sw.mktNew fs := ⟨_, rfl⟩
 have HM := Lib.hid hM0
 have HT := Lib.hid htb
 have HX := Lib.hid hx0
 clear hM0 htb hx0
 have htt : (tb != tb) = false := by simp
 go_upto_region 9 with (first | (go_at_call 40; apply Calls.mono; apply (iWldFold_c (fs := fs) (ls := ls)); (apply Rs.at0 hF; (exact kf_)); (apply Rs.at0 hI; (exact kf_)); rintro E w2 ⟨aL, aLc, aLn, aP, aPc, aPn, aD, aDc, aDn, aN, aNc, aNn, aS, aSc, aSn, τa, rfl, hoa, hb⟩; rw [← HM.out] at hoa; rw [← HM.out, ← HT.out]; obtain ⟨hc, hf, hz⟩ := xy hb) | (go_at_call 41; apply Calls.mono; apply (sWldFold_c (fs := fs) (ls := ls)); (apply Rs.at0 hF; (exact kf_)); (apply Rs.at0 hI; (exact kf_)); rintro E w3 ⟨vL, vLc, vLn, vP, vPc, vPn, vD, vDc, vDn, vN, vNc, vNn, vS, vSc, vSn, rfl, hov, hb⟩; rw [← HM.out] at hov; rw [← HM.out, ← HT.out]; obtain ⟨hc, hf, hz⟩ := xy hb) | (go_at_call 42; apply Calls.mono; apply (swMarket_c (x := M) (y := M)); (apply OwM.rm0 hoa; (exact kf_)); (apply RM.at0 hov; (exact kf_)); rintro E w4 ⟨rfl, hb⟩; rw [show decide (M = M) = true from decide_eq_true rfl]; obtain ⟨hc, hf, hz⟩ := xy hb) | (go_at_call 43; apply Calls.mono; apply (iMktNew_c (xs := fs)); (apply Rs.at0 hF; (exact kf_)); rintro E w5 ⟨dL, dLc, dLn, dP, dPc, dPn, dD, dDc, dDn, dN, dNc, dNn, dS, dSc, dSn, τd, rfl, hod, hb⟩; rw [← HX.out] at hod; rw [← HX.out]; obtain ⟨hc, hf, hz⟩ := xy hb))
 (refine wn_ fun W0 hb0 hc0 hf0 hz0 => ?_)
 have hA : MktAt W0 w2.heap.size 0 aL aLc aLn aP aPc aPn aD aDc aDn aN aNc aNn aS aSc aSn M.clock := ⟨sz_, co_, co_, co_, co_, co_, co_, fun i => co_⟩
 have hX : MktAt W0 w5.heap.size 0 dL dLc dLn dP dPc dPn dD dDc dDn dN dNc dNn dS dSc dSn x0.clock := ⟨sz_, co_, co_, co_, co_, co_, co_, fun i => co_⟩
 have HRA := Lib.hid hoa.rm
 have HRI := Lib.hid hI
 have hRD := hod.rm
 have hRD0 : RM W0 0 dL dLc dLn dP dPc dPn dD dDc dDn dN dNc dNn dS dSc dSn x0 := (hRD.keep kf_).less (Nat.zero_le _)
 have hmx0 : w2.heap.size < w5.heap.size := sz_
 have h1m0 : w1.heap.size ≤ w2.heap.size := sz_
 have HE2 : ExH w2 W0 := ⟨ext_⟩
 have HE1 : ExH w1 W0 := ⟨ext_⟩
 have HEW : ExH w W0 := ⟨ext_⟩
 have hww := HEW.out.size
 obtain ⟨gx, hgx⟩ : ∃ g, g = w5.heap.size := ⟨_, rfl⟩
 obtain ⟨gm, hgm⟩ : ∃ g, g = w2.heap.size := ⟨_, rfl⟩
 rw [← hgx] at hX hmx0 ⊢
 rw [← hgm] at hA hmx0 h1m0 ⊢
 have HGM := Lib.hid hgm
 have h1w : w.heap.size ≤ w1.heap.size := sz_
 clear hb0 hc0 hf0 hb hc hf hoa hov hod hRD hgx hgm hI hF
 ((repeat (rename Ch _ _ _ => zz; clear zz)); (repeat (rename Rdp _ _ _ => zz; clear zz)); (repeat (rename (∀ (b o : Nat), ¬ ((⟨b, 0, none⟩ : Addr) = ⟨b - _ + _, 0, none⟩) → _) => zz; clear zz)))
 obtain ⟨Wq, hWq⟩ : ∃ z, z = W0 := ⟨_, rfl⟩
 subst hWq
 obtain ⟨a0, a1, a2, a3, a4, a5, a6, af⟩ := hA
 simp only [Nat.zero_add] at a1 a2 a3 a4 a5 a6
 obtain ⟨x_0, x1, x2, x3, x4, x5, x6, xf⟩ := hX
 simp only [Nat.zero_add] at x1 x2 x3 x4 x5 x6
 go_cut [10] (fun v wx => ∃ b, v = .bool b ∧ Ex Wq wx ∧ b = (Sw.mktOk x0 && decide (In ≤ 300)))
 case first =>
   cases g1 : Sw.mktOk x0
   all_goals go_wp2_with (first | (go_at_call 44; apply Calls.mono; apply (iMktOk_c (m := x0)); (apply RM.at0 hRD0; (exact kf_)); rintro E w8 ⟨rfl, hb⟩; rw [g1]; obtain ⟨hc, hf, hz⟩ := xy hb) | fail)
   all_goals go_meet
   · exact ⟨_, rfl, ext_, by rw [g1]; rfl⟩
   · exact ⟨_, rfl, ext_, by rw [g1, Bool.true_and]; exact decide_eq_decide.2 (by omega)⟩
 case rest =>
   obtain ⟨b0, rfl, hb, hb0⟩ := hcut
   rw [HL.out, HX.out] at hb0
   have hk := HN.out
   rw [← hb0] at hk
   obtain ⟨k1, k2⟩ := hk
   rw [← HX.out] at k1
   have K1 := Lib.hid k1
   have K2 := Lib.hid k2
   clear k1 k2 hb0
   have hst := xr hb
   (try simp only [zq_] at hst)
   obtain ⟨hcb, hfb, hzb⟩ := hst
   have HB0 := Lib.hid hb
   go_wp2_with fail
   go_loopw [11, 10] (fun i o wr => ∃ (k : Nat) (b : Bool) (eL : Option Addr) (eLc eLn : Nat) (eP : Option Addr) (ePc ePn : Nat) (eD : Option Addr) (eDc eDn : Nat) (eN : Option Addr) (eNc eNn : Nat) (eS : Option Addr) (eSc eSn : Nat) (y : Sw.Mkt), k ≤ In ∧ i = .int .i64 k ∧ o = .bool b ∧ Ch (· = gx) Wq wr ∧ MktAt wr gx 0 eL eLc eLn eP ePc ePn eD eDc eDn eN eNc eNn eS eSc eSn y.clock ∧ RM wr 0 eL eLc eLn eP ePc ePn eD eDc eDn eN eNc eNn eS eSc eSn y ∧ (b = true → Sw.mktOk y = true ∧ Sw.wldFold fs ls = Sw.foldLines y (ls.drop k)) ∧ (b = false → Sw.wldFold fs ls = none)) (fun i _ _ => In - (intOf i).toNat)
   case atStart => exact ⟨0, b0, _, _, _, _, _, _, _, _, _, _, _, _, _, _, _, x0, Nat.zero_le _, rfl, rfl, Ex.ch HB0.out, ⟨sz_, co_, co_, co_, co_, co_, co_, fun i => co_⟩, hRD0.keep (by (exact kf_)), fun h => by rw [List.drop_zero]; exact ⟨(K1.out h).1.symm ▸ rfl, (K1.out h).2⟩, fun h => K2.out h⟩
   case round =>
     obtain ⟨k, o, eL, eLc, eLn, eP, ePc, ePn, eD, eDc, eDn, eN, eNc, eNn, eS, eSc, eSn, y, hk, rfl, rfl, hb3, hY, hRY, ht1, ht2⟩ := hrel
     have T1 := Lib.hid ht1
     have T2 := Lib.hid ht2
     clear ht1 ht2 hRD0 x_0 x1 x2 x3 x4 x5 x6 xf hb hcb hfb hzb
     have hst := xc hb3
     (try simp only [zq_] at hst)
     obtain ⟨hc3, hf3, hz3⟩ := hst
     obtain ⟨y0, y1, y2, y3, y4, y5, y6, yf⟩ := hY
     simp only [Nat.zero_add] at y1 y2 y3 y4 y5 y6
     have hne : gm ≠ gx := by omega
     have hne' : ¬ gx = gm := by omega
     have HY := Lib.hid hRY
     clear hRY
     have hE1 : Ex w1 wr := Ch.trans' HE1.out hb3 (fun i hi h => by omega)
     have hE2 : Ex w2 wr := Ch.trans' HE2.out hb3 (fun i hi h => by have := HGM.out; omega)
     have hEw : Ex w wr := Ch.trans' HEW.out hb3 (fun i hi h => by omega)
     have HB3 := Lib.hid hb3
     clear hb3
     have hRm : RM wr 0 aL aLc aLn aP aPc aPn aD aDc aDn aN aNc aNn aS aSc aSn M := RM.at0 HRA.out (kE hE2 (kR _ _))
     have hI : RQ wr 0 I Ic In ls := Rs.at0 HRI.out (kE hE1 (kR _ _))
     clear hE1 hE2
     by_cases hgo : k < In ∧ o = true
     · obtain ⟨hlt, rfl⟩ := hgo
       obtain ⟨hok, hrel⟩ := T1.out rfl
       obtain ⟨g, off, r, rfl, hg0, hg, hd, hr, q0, q1, q2, q3, q4, q5⟩ := at_Q hI hlt
       rw [hd] at hrel
       have t1 : (0 : Int) ≤ (k : Int) := by omega
       have t2 : (k : Int) < (In : Int) := by omega
       have hbg := Rs.big hI
       clear hd hr
       obtain ⟨rows, hmo⟩ := Sw.mktOk_iff.1 hok
       have hyl : eLn + ePn + eDn + eNn + eSn ≤ 1048576 := (by have h1 := MOk_len hmo; have h2 := HY.out.log.1; have h3 := HY.out.purses.1; have h4 := HY.out.deals.1; have h5 := HY.out.nums.1; have h6 := HY.out.said.1; omega)
       clear hmo
       by_cases hz : r = Sw.reqZ
       · subst hz
         have H3 := Lib.hid (fold_tick (rs := ls.drop (k + 1)) hok)
         have HR := Lib.hid hrel
         clear hrel hok
         simp only [Sw.reqZ] at q0 q1 q2 q3 q4 q5
         go_wp2_with (go_at_call 45; apply Calls.mono; apply (iMktTick_c (m := y)); (apply RM.at0 HY.out; (exact kf_)); omega; rintro E w6 ⟨fL, fLc, fLn, fP, fPc, fPn, fD, fDc, fDn, fN, fNc, fNn, fS, fSc, fSn, τf, rfl, hof, hb⟩; obtain ⟨hc, hf, hz⟩ := xy hb)
         go_roundw
         case rel =>
           refine ⟨k + 1, (Sw.mktTick y).2, _, _, _, _, _, _, _, _, _, _, _, _, _, _, _, (Sw.mktTick y).1, by omega, by go_num, rfl, ?_, ⟨sz_, co_, co_, co_, co_, co_, co_, fun i => co_⟩, (hof.rm.keep kf_).less (Nat.zero_le _), fun h => ⟨(H3.out.1 h).1, by rw [HR.out]; exact (H3.out.1 h).2⟩, fun h => by rw [HR.out]; exact H3.out.2 h⟩
           exact Ch.trans' HB3.out (boxW (by assumption)) (fun i _ h => h)
         case measure => simp [intOf]; omega
       · have hz2 : decide (r = Sw.reqZ) = false := decide_eq_false hz
         rw [req_zero] at hz2
         have Hz2 := Lib.hid hz2
         obtain ⟨z, hz0⟩ : ∃ z, z = Sw.mktDo y r := ⟨_, rfl⟩
         have h3 := fold_do (rs := ls.drop (k + 1)) hok hz
         rw [← hz0] at h3
         have H3 := Lib.hid h3
         have HZ := Lib.hid hz0
         obtain ⟨ru, rn, rk, rt, rh, rp⟩ := r
         dsimp only at q0 q1 q2 q3 q4 q5
         have HR := Lib.hid hrel
         clear hz hz2 hrel hok h3 hz0
         go_upto_region 13 with fail
         go_cut [69] (fun p wx => p = .bool false ∧ wx = wr)
         case first =>
           go_wp2_with fail
           all_goals go_meet
           all_goals first | exact ⟨rfl, rfl⟩ | (exfalso; have := Hz2.out; simp_all)
         case rest =>
           obtain ⟨rfl, rfl⟩ := hcut
           go_wp2_with fail
           (focus (refine wn_ fun W0 hb0 hc0 hf0 hz0 => ?_; refine wp_regionX [] (S := fun w' => Held W0 w') hdH (fun hHeld => ?_); refine GoesX.take 0 78 [] hHeld (h := ?_); refine GoesX.take 1 79 [] hHeld (h := ?_); refine GoesX.take 2 80 [] hHeld (h := ?_); refine GoesX.take 3 81 [] hHeld (h := ?_); refine GoesX.take 4 82 [] hHeld (h := ?_); refine GoesX.take 5 83 [] hHeld (h := ?_); refine GoesX.ready (rs := [6, 10]) (by kernel_rfl) (by simp) ?_; refine EachX.cons rfl (fun K hK => ?_) ?_; rotate_left; refine EachX.cons rfl (fun K hK => ?_) EachX.nil; (focus (go_simp; refine outS hK hdH (h := ?_); clear hK K hHeld; intro hHeld; refine GoesX.one 6 (h := fun K hK => ?_); go_simp; (go_at_call 46; apply Calls.mono; apply (iMktDo_c (m := y) (r := ⟨ru, rn, rk, rt, rh, rp⟩)); (apply RM.at0 HY.out; (exact kf_)); omega; rintro E w6 ⟨fL, fLc, fLn, fP, fPc, fPn, fD, fDc, fDn, fN, fNc, fNn, fS, fSc, fSn, τf, rfl, hof, hb⟩; rw [← HZ.out] at hof; rw [← HZ.out]; obtain ⟨hc, hf, hz⟩ := xy hb); (try go_wp2_with fail); refine outS hK hdH (h := ?_); clear hK K hHeld; intro hHeld; refine GoesX.take 7 77 [] hHeld (h := ?_); refine GoesX.take 8 85 [] hHeld (h := ?_); refine GoesX.take 9 86 [] hHeld (h := ?_); refine GoesX.one 11 (h := fun K hK => ?_); go_simp; refine outS hK hdH (h := ?_); clear hK K hHeld; intro hHeld; refine GoesX.take 12 15 [] hHeld (h := ?_); refine GoesX.done (by kernel_rfl) ?_ _; all_goals (obtain ⟨hb, hc, hf, hz⟩ := xh (by assumption : Held W0 _)))); rotate_right 1; (focus (go_simp; (go_at_call 46; apply Calls.mono; apply (iMktDo_c (m := y) (r := ⟨ru, rn, rk, rt, rh, rp⟩)); (apply RM.at0 HY.out; (exact kf_)); omega; rintro E w6 ⟨fL, fLc, fLn, fP, fPc, fPn, fD, fDc, fDn, fN, fNc, fNn, fS, fSc, fSn, τf, rfl, hof, hb⟩; rw [← HZ.out] at hof; rw [← HZ.out]; obtain ⟨hc, hf, hz⟩ := xy hb); (try go_wp2_with fail); refine outS hK hdH (h := ?_); clear hK K hHeld; intro hHeld; refine GoesX.take 7 77 [] hHeld (h := ?_); refine GoesX.take 8 85 [] hHeld (h := ?_); refine GoesX.take 9 86 [] hHeld (h := ?_); refine GoesX.one 10 (h := fun K hK => ?_); go_simp; refine outS hK hdH (h := ?_); clear hK K hHeld; intro hHeld; refine GoesX.one 11 (h := fun K hK => ?_); go_simp; refine outS hK hdH (h := ?_); clear hK K hHeld; intro hHeld; refine GoesX.take 12 15 [] hHeld (h := ?_); refine GoesX.done (by kernel_rfl) ?_ _; all_goals (obtain ⟨hb, hc, hf, hz⟩ := xh (by assumption : Held W0 _))))))
           · go_wp2_with fail
             go_roundw
             case rel =>
               refine ⟨k + 1, decide (0 < z.2), _, _, _, _, _, _, _, _, _, _, _, _, _, _, _, z.1, by omega, by go_num, rfl, ?_, ⟨sz_, co_, co_, co_, co_, co_, co_, fun i => co_⟩, (hof.rm.keep kf_).less (Nat.zero_le _), fun h => ⟨(H3.out.1 (of_decide_eq_true h)).1, by rw [HR.out]; exact (H3.out.1 (of_decide_eq_true h)).2⟩, fun h => by rw [HR.out]; exact H3.out.2 (by have := of_decide_eq_false h; omega)⟩
               exact Ch.trans' HB3.out (boxC (Ex.ch (by exact ext_))) (fun i _ h => h)
             case measure => simp [intOf]; omega
           · go_wp2_with fail
             go_roundw
             case rel =>
               refine ⟨k + 1, decide (0 < z.2), _, _, _, _, _, _, _, _, _, _, _, _, _, _, _, z.1, by omega, by go_num, rfl, ?_, ⟨sz_, co_, co_, co_, co_, co_, co_, fun i => co_⟩, (hof.rm.keep kf_).less (Nat.zero_le _), fun h => ⟨(H3.out.1 (of_decide_eq_true h)).1, by rw [HR.out]; exact (H3.out.1 (of_decide_eq_true h)).2⟩, fun h => by rw [HR.out]; exact H3.out.2 (by have := of_decide_eq_false h; omega)⟩
               exact Ch.trans' HB3.out (boxC (Ex.ch (by exact ext_))) (fun i _ h => h)
             case measure => simp [intOf]; omega
     · have hl := HL.out
       cases o
       case false =>
         clear hgo
         have e := T2.out rfl
         obtain rfl : tb = false := by rw [HT.out, e]; rfl
         have eM : M = Sw.mktZ := by rw [HM.out, e]; rfl
         have EM := Lib.hid eM
         clear e eM hl
         by_cases hlt : k < In
         all_goals go_wp2_with (first | (go_at_call 32; refine (swOk_c _).mono ?_; rintro E w' ⟨rfl, rfl⟩) | (go_at_call 42; apply Calls.mono; apply (swMarketZ_c (x := M)); (apply RM.at0 hRm; (exact kf_)); rintro E w7 ⟨rfl, hb⟩; rw [show decide (M = Sw.mktZ) = true from decide_eq_true EM.out]; obtain ⟨hc, hf, hz⟩ := xy hb) | fail)
         all_goals go_ret
         all_goals exact ⟨rfl, ext_⟩
       case true =>
         obtain rfl : k = In := by
           rcases Nat.lt_or_ge k In with h | h
           · exact absurd ⟨h, rfl⟩ hgo
           · omega
         clear hgo
         have e := (T1.out rfl).2
         rw [List.drop_of_length_le (by omega)] at e
         obtain rfl : tb = true := by rw [HT.out, e]; rfl
         have eM : M = y := by rw [HM.out, e]; rfl
         have EM := Lib.hid eM
         clear e eM hl
         go_wp2_with (first | (go_at_call 32; refine (swOk_c _).mono ?_; rintro E w' ⟨rfl, rfl⟩) | (go_at_call 42; apply Calls.mono; apply (swMarket_c (x := M) (y := y)); (apply RM.at0 hRm; (exact kf_)); (apply RM.at0 HY.out; (exact kf_)); rintro E w7 ⟨rfl, hb⟩; rw [show decide (M = y) = true from decide_eq_true EM.out]; obtain ⟨hc, hf, hz⟩ := xy hb) | fail)
         go_ret
         exact ⟨rfl, ext_⟩
end Go.Proofs.YtnnoiagommiapaaGreat
