/- Texts joined: FoldS. -/
import Derived.Test.YtnnoiagommiapaaGreatPy21
import Derived.Test.YtnnoiagommiapaaGreatPy37
import Derived.Test.YtnnoiagommiapaaGreatPy30
import Derived.Test.YtnnoiagommiapaaGreatPy15
import Derived.Test.YtnnoiagommiapaaGreatPy28
set_option maxRecDepth 100000
set_option linter.unusedSimpArgs false
set_option linter.unusedVariables false
namespace Go.Proofs.YtnnoiagommiapaaGreat
open Go.RowKit Go
set_option maxHeartbeats 8000000
theorem fold_none {fs : List Int} {ls : List Sw.Req} (h : ¬ (Sw.monOk fs && decide (Sw.monSum fs ≤ 100000) && decide (ls.length ≤ 300)) = true) : Sw.wldFold fs ls = none := by unfold Sw.wldFold; rw [if_neg h]
theorem RM.zero {w : World} {lo : Nat} : RM w lo none 0 0 none 0 0 none 0 0 none 0 0 none 0 0 Sw.mktZ := (OwM.zero (τ := fun _ => 0)).rm
theorem MOk.small {aL : Option Addr} {aLc aLn : Nat} {aP : Option Addr} {aPc aPn : Nat} {aD : Option Addr} {aDc aDn : Nat} {aN : Option Addr} {aNc aNn : Nat} {aS : Option Addr} {aSc aSn : Nat} {w : World} {lo : Nat} {m : Sw.Mkt} {rows : List Sw.Row} (h : Sw.MOk m rows) (hm : RM w lo aL aLc aLn aP aPc aPn aD aDc aDn aN aNc aNn aS aSc aSn m) : aLn + aPn + aDn + aNn + aSn ≤ 1000 := by
 obtain ⟨q1, q2, q3, q4, q5⟩ := MOk_len h
 have := hm.log.1; have := hm.purses.1; have := hm.deals.1; have := hm.nums.1; have := hm.said.1
 omega
theorem fold_zero {m : Sw.Mkt} {rs : List Sw.Req} : Sw.foldLines m (Sw.reqZ :: rs) = if m.clock = 99999 then none else Sw.foldLines (Sw.tick m) rs := by rw [Sw.foldLines, if_pos rfl]
theorem fold_req {m : Sw.Mkt} {r : Sw.Req} {rs : List Sw.Req} (h : r ≠ Sw.reqZ) : Sw.foldLines m (r :: rs) = if Sw.reqOk r = true then Sw.foldLines (Sw.doIt m r).1 rs else none := by rw [Sw.foldLines, if_neg h]
theorem sWldFold_c (A : Option Addr) (c n : Nat) (fs : List Int) (B : Option Addr) (d q : Nat) (ls : List Sw.Req) (w : World) (hf : RI w 0 A c n fs) (hl : RQ w 0 B d q ls) : Calls Tryz.prog 41 #[.slice A n c, .slice B q d] w fun E w' => ∃ bL bLc bLn bP bPc bPn bD bDc bDn bN bNc bNn bS bSc bSn, E = .returned (.tuple #[.agg #[.slice bL bLn bLc, .slice bP bPn bPc, .slice bD bDn bDc, .int .i64 ((Sw.wldFold fs ls).getD Sw.mktZ).clock, .slice bN bNn bNc, .slice bS bSn bSc], .bool (Sw.wldFold fs ls).isSome]) ∧ RM w' w.heap.size bL bLc bLn bP bPc bPn bD bDc bDn bN bNc bNn bS bSc bSn ((Sw.wldFold fs ls).getD Sw.mktZ) ∧ Ex w w' := by
 have hll := Lib.hid hl.1
 have hbig := Rs.big hl
 by_cases gv : (Sw.monOk fs && decide (Sw.monSum fs ≤ 100000)) = true
 case neg =>
   have e : Sw.wldFold fs ls = none := fold_none fun h => gv (Bool.and_eq_true_iff.1 h).1
   have em : Sw.mktNew fs = Sw.mktZ := by unfold Sw.mktNew; rw [if_neg gv]
   have He := Lib.hid e; have Hm := Lib.hid em; clear e em gv
   go_enter Tryz.func41, Tryz.ntmps41
   go_wp2_with fail
   apply Calls.mono
   apply sMktNew_c
   · apply Rs.at0 hf; (exact kf_)
   rintro E w1 ⟨bL, bLc, bLn, bP, bPc, bPn, bD, bDc, bDn, bN, bNc, bNn, bS, bSc, bSn, τm, rfl, hoM, hb⟩
   obtain rfl : bPn = 0 := by have := hoM.purses.ow.1; rw [Hm.out] at this; exact this
   obtain ⟨hc, hf, hz⟩ := xy hb
   go_wp2_with fail
   refine bodyPost_ret (v := .tuple #[.agg #[.slice none 0 0, .slice none 0 0, .slice none 0 0, .int .i64 0, .slice none 0 0, .slice none 0 0], .bool false]) (by simp [results, Tryz.results41, go_sem, *]) rfl ?_
   refine ⟨_, _, _, _, _, _, _, _, _, _, _, _, _, _, _, by rw [He.out]; rfl, ?_, ext_⟩
   rw [He.out]
   exact RM.zero
 have em : Sw.mktNew fs = ⟨[], fs, [], 0, [0, 0, 0, 0, 0], [0, 0, 0, 0, 0]⟩ := by unfold Sw.mktNew; rw [if_pos gv]
 have h5 : fs.length = 5 := monOk_len (Bool.and_eq_true_iff.1 gv).1
 have hok0 : Sw.MOk (Sw.mktNew fs) _ := Sw.mktNew_ok (Bool.and_eq_true_iff.1 gv).1 (by simpa using (Bool.and_eq_true_iff.1 gv).2)
 have Hm := Lib.hid em; have H5 := Lib.hid h5; have HK0 := Lib.hid hok0; have GV := Lib.hid gv; clear em h5 hok0 gv
 by_cases gl : q ≤ 300
 case neg =>
   have e : Sw.wldFold fs ls = none := fold_none fun h => gl (by have := (Bool.and_eq_true_iff.1 h).2; have := hll.out; simp at *; omega)
   have He := Lib.hid e; clear e
   go_enter Tryz.func41, Tryz.ntmps41
   go_wp2_with fail
   apply Calls.mono
   apply sMktNew_c
   · apply Rs.at0 hf; (exact kf_)
   rintro E w1 ⟨bL, bLc, bLn, bP, bPc, bPn, bD, bDc, bDn, bN, bNc, bNn, bS, bSc, bSn, τm, rfl, hoM, hb⟩
   obtain rfl : bPn = 5 := by have := hoM.purses.ow.1; rw [Hm.out] at this; exact this.trans H5.out
   obtain ⟨hc, hf, hz⟩ := xy hb
   go_wp2_with fail
   refine bodyPost_ret (v := .tuple #[.agg #[.slice none 0 0, .slice none 0 0, .slice none 0 0, .int .i64 0, .slice none 0 0, .slice none 0 0], .bool false]) (by simp [results, Tryz.results41, go_sem, *]) rfl ?_
   refine ⟨_, _, _, _, _, _, _, _, _, _, _, _, _, _, _, by rw [He.out]; rfl, ?_, ext_⟩
   rw [He.out]
   exact RM.zero
 have e0 : Sw.wldFold fs ls = Sw.foldLines (Sw.mktNew fs) ls := by unfold Sw.wldFold; rw [if_pos (by rw [GV.out, ← hll.out]; simp [gl])]
 have E0 := Lib.hid e0; clear e0
 go_enter Tryz.func41, Tryz.ntmps41
 go_wp2_with fail
 apply Calls.mono
 apply sMktNew_c
 · apply Rs.at0 hf; (exact kf_)
 rintro E w1 ⟨bL, bLc, bLn, bP, bPc, bPn, bD, bDc, bDn, bN, bNc, bNn, bS, bSc, bSn, τm, rfl, hoM, hb⟩
 obtain rfl : bPn = 5 := by have := hoM.purses.ow.1; rw [Hm.out] at this; exact this.trans H5.out
 have hbM := hb
 obtain ⟨hc, hf, hz⟩ := xy hb
 go_wp2_with fail
 go_loopw [7] (fun i wr => ∃ (k : Nat) (eL : Option Addr) (eLc eLn : Nat) (eP : Option Addr) (ePc ePn : Nat) (eD : Option Addr) (eDc eDn : Nat) (eN : Option Addr) (eNc eNn : Nat) (eS : Option Addr) (eSc eSn : Nat) (y : Sw.Mkt) (rows : List Sw.Row), k ≤ q ∧ i = .int .i64 k ∧ Ex w1 wr ∧ MktAt wr w1.heap.size 0 eL eLc eLn eP ePc ePn eD eDc eDn eN eNc eNn eS eSc eSn y.clock ∧ RM wr (w.heap.size + 1) eL eLc eLn eP ePc ePn eD eDc eDn eN eNc eNn eS eSc eSn y ∧ Sw.MOk y rows ∧ Sw.wldFold fs ls = Sw.foldLines y (ls.drop k)) (fun i _ => q - (intOf i).toNat)
 case atStart =>
   exact ⟨0, _, _, _, _, _, _, _, _, _, _, _, _, _, _, _, Sw.mktNew fs, _, Nat.zero_le _, rfl, ext_, ⟨sz_, co_, co_, co_, co_, co_, co_, fun i => co_⟩, (hoM.rm.keep kf_).less sz_, HK0.out, E0.out⟩
 case round =>
   obtain ⟨k, eL, eLc, eLn, eP, ePc, ePn, eD, eDc, eDn, eN, eNc, eNn, eS, eSc, eSn, y, rows, hk, rfl, hb2, hY, hRY, hok, hrel⟩ := hrel
   have hst := xr hb2
   (try simp only [zq_] at hst)
   obtain ⟨hc2, hf2, hz2⟩ := hst
   obtain ⟨y0, y1, y2, y3, y4, y5, y6, yf⟩ := hY
   simp only [Nat.zero_add] at y1 y2 y3 y4 y5 y6
   have hsm := MOk.small hok hRY
   have HK := Lib.hid hok
   clear hok
   have hbx := hb2
   by_cases hlt : k < q
   · obtain ⟨g, off, r, rfl, hg0, hg, hd, hr, q0, q1, q2, q3, q4, q5⟩ := at_Q hl hlt
     rw [hd] at hrel
     have t1 : (0 : Int) ≤ (k : Int) := by omega
     have t2 : (k : Int) < (q : Int) := by omega
     clear hd hr
     by_cases hz : r = Sw.reqZ
     · subst hz
       rw [fold_zero] at hrel
       by_cases hck : y.clock = 99999
       · rw [if_pos hck] at hrel
         have et : Sw.mktTick y = (y, false) := by unfold Sw.mktTick; rw [if_pos (Sw.mktOk_iff.2 ⟨_, HK.out⟩), if_pos hck]
         have Et := Lib.hid et
         have He := Lib.hid hrel
         clear et hrel hck
         simp only [Sw.reqZ] at q0 q1 q2 q3 q4 q5
         go_wp2_with (go_at_call 113; apply Calls.mono; apply (sMktTick_c (m := y)); (apply RM.at0 hRY; (exact kf_)); omega; rintro E w6 ⟨fL, fLc, fLn, fP, fPc, fPn, fD, fDc, fDn, fN, fNc, fNn, fS, fSc, fSn, τf, rfl, hof, hb⟩; rw [Et.out] at hof; rw [Et.out]; obtain ⟨hc, hf, hz⟩ := xy hb)
         refine bodyPost_ret (v := .tuple #[.agg #[.slice none 0 0, .slice none 0 0, .slice none 0 0, .int .i64 0, .slice none 0 0, .slice none 0 0], .bool false]) (by simp [results, Tryz.results41, go_sem, *]) rfl ?_
         refine ⟨_, _, _, _, _, _, _, _, _, _, _, _, _, _, _, by rw [He.out]; rfl, ?_, ext_⟩
         rw [He.out]
         exact RM.zero
       · rw [if_neg hck] at hrel
         have et : Sw.mktTick y = (Sw.tick y, true) := by unfold Sw.mktTick; rw [if_pos (Sw.mktOk_iff.2 ⟨_, HK.out⟩), if_neg hck]
         have Et := Lib.hid et
         have HKT := Lib.hid (Sw.tick_ok HK.out hck)
         have He := Lib.hid hrel
         clear et hrel hck
         simp only [Sw.reqZ] at q0 q1 q2 q3 q4 q5
         go_wp2_with (go_at_call 113; apply Calls.mono; apply (sMktTick_c (m := y)); (apply RM.at0 hRY; (exact kf_)); omega; rintro E w6 ⟨fL, fLc, fLn, fP, fPc, fPn, fD, fDc, fDn, fN, fNc, fNn, fS, fSc, fSn, τf, rfl, hof, hb⟩; rw [Et.out] at hof; rw [Et.out]; obtain ⟨hc, hf, hz⟩ := xy hb)
         go_roundw
         case rel =>
           exact ⟨k + 1, _, _, _, _, _, _, _, _, _, _, _, _, _, _, _, Sw.tick y, rows, by omega, by go_num, ext_, ⟨sz_, co_, co_, co_, co_, co_, co_, fun i => co_⟩, (hof.rm.keep kf_).less sz_, HKT.out, He.out⟩
         case measure => simp [intOf]; omega
     · rw [fold_req hz] at hrel
       have hz2 : decide (r = Sw.reqZ) = false := decide_eq_false hz
       rw [req_zero] at hz2
       have Hz2 := Lib.hid hz2
       obtain ⟨ru, rn, rk, rt, rh, rp⟩ := r
       dsimp only at q0 q1 q2 q3 q4 q5
       have Hrel := Lib.hid hrel
       clear hz hz2 hrel
       go_upto_region 9 with fail
       go_cut [37] (fun p wx => p = .bool false ∧ wx = wr.alloc (.cells #[.int .i64 ru, .int .i64 rn, .int .i64 rk, .int .i64 rt, .int .i64 rh, .int .i64 rp] 49))
       case first =>
         go_wp2_with fail
         all_goals go_meet
         all_goals first | exact ⟨rfl, by simp [*]⟩ | (exfalso; have := Hz2.out; simp_all)
       case rest =>
         obtain ⟨rfl, rfl⟩ := hcut
         cases hq : Sw.reqOk ⟨ru, rn, rk, rt, rh, rp⟩
         · have e1 : Sw.wldFold fs ls = none := by rw [Hrel.out, hq]; rfl
           have He := Lib.hid e1
           clear e1
           go_wp2_with (go_at_call 52; apply Calls.mono; apply (sReqOk_c ⟨ru, rn, rk, rt, rh, rp⟩); rintro E w3 ⟨rfl, hb⟩; rw [hq]; obtain ⟨hc, hf, hz⟩ := xy hb)
           refine bodyPost_ret (v := .tuple #[.agg #[.slice none 0 0, .slice none 0 0, .slice none 0 0, .int .i64 0, .slice none 0 0, .slice none 0 0], .bool false]) (by simp [results, Tryz.results41, go_sem, *]) rfl ?_
           refine ⟨_, _, _, _, _, _, _, _, _, _, _, _, _, _, _, by rw [He.out]; rfl, ?_, ext_⟩
           rw [He.out]
           exact RM.zero
         · have e1 : Sw.wldFold fs ls = Sw.foldLines (Sw.doIt y ⟨ru, rn, rk, rt, rh, rp⟩).1 (ls.drop (k + 1)) := by rw [Hrel.out, hq]; rfl
           obtain ⟨v, hv⟩ : ∃ v, v = Sw.doIt y ⟨ru, rn, rk, rt, rh, rp⟩ := ⟨_, rfl⟩
           rw [← hv] at e1
           have He := Lib.hid e1
           have Hv := Lib.hid hv
           have HQ := Lib.hid hq
           have HKD := Lib.hid (Sw.doIt_ok HK.out hq)
           clear e1 hv
           go_wp2_with (go_at_call 52; apply Calls.mono; apply (sReqOk_c ⟨ru, rn, rk, rt, rh, rp⟩); rintro E w3 ⟨rfl, hb⟩; rw [hq]; obtain ⟨hc, hf, hz⟩ := xy hb)
           (focus (refine wn_ fun W0 hb0 hc0 hf0 hz0 => ?_; refine wp_regionX [] (S := fun w' => Held W0 w') hdH (fun hHeld => ?_); refine GoesX.take 0 54 [] hHeld (h := ?_); refine GoesX.take 2 56 [] hHeld (h := ?_); refine GoesX.ready (rs := [1, 7]) (by kernel_rfl) (by simp) ?_; refine EachX.cons rfl (fun K hK => ?_) ?_; rotate_left; refine EachX.cons rfl (fun K hK => ?_) EachX.nil; (focus (go_simp; refine outS hK hdH (h := ?_); clear hK K hHeld; intro hHeld; refine GoesX.one 1 (h := fun K hK => ?_); go_simp; (go_at_call 115; apply Calls.mono; apply (sMktCopy_c (m := y)); (apply RM.at0 hRY; (exact kf_)); omega; rintro E w6 ⟨dL, dLc, dLn, dP, dPc, dPn, dD, dDc, dDn, dN, dNc, dNn, dS, dSc, dSn, τd, rfl, hod, hb⟩; obtain ⟨hc, hf, hz⟩ := xy hb); (try go_wp2_with fail); refine outS hK hdH (h := ?_); clear hK K hHeld; intro hHeld; refine GoesX.one 3 (h := fun K hK => ?_); go_simp; (go_at_call 114; apply Calls.mono; apply (sDo_c (m := y) (r := ⟨ru, rn, rk, rt, rh, rp⟩) (rows := rows) (τ := mid _ w6.heap.size τd)); (exact hod.mid.keepF kf_); (exact HK.out); (exact HQ.out); (exact sz_); rintro E w7 ⟨iL, iLc, iLn, iP, iPc, iPn, iD, iDc, iDn, iN, iNc, iNn, iS, iSc, iSn, τi, rfl, hoi, hτi, hb7⟩; rw [← Hv.out] at hoi; rw [← Hv.out]; have hHeldX := Held.of (Ch.trans' (show Ex W0 _ from ext_) hb7 (fun i hi h => (by have h1 := h.1; (try simp only [zq_] at h1); omega)) : Ex W0 w7); have hst := Ch.smRules hb7 rfl sz_; (try simp only [zq_] at hst hτi); obtain ⟨hcD, hfD, hcE, hfE, hzD⟩ := hst; clear hb7); (try go_wp2_with fail); refine outS hK hdH (h := ?_); clear hK K hHeld; intro hHeld; refine GoesX.take 4 53 [] hHeld (h := ?_); refine GoesX.take 5 58 [] hHeld (h := ?_); refine GoesX.take 6 59 [] hHeld (h := ?_); refine GoesX.one 8 (h := fun K hK => ?_); go_simp; refine outS hK hdH (h := ?_); clear hK K hHeld; intro hHeld; refine GoesX.take 9 12 [] hHeld (h := ?_); refine GoesX.done (by kernel_rfl) ?_ _; all_goals (obtain ⟨hb, hc, hf, hz⟩ := xh (by assumption : Held W0 _)))); rotate_right 1; (focus (go_simp; (go_at_call 115; apply Calls.mono; apply (sMktCopy_c (m := y)); (apply RM.at0 hRY; (exact kf_)); omega; rintro E w6 ⟨dL, dLc, dLn, dP, dPc, dPn, dD, dDc, dDn, dN, dNc, dNn, dS, dSc, dSn, τd, rfl, hod, hb⟩; obtain ⟨hc, hf, hz⟩ := xy hb); (try go_wp2_with fail); refine outS hK hdH (h := ?_); clear hK K hHeld; intro hHeld; refine GoesX.ready (rs := [3, 7]) (by kernel_rfl) (by simp) ?_; refine EachX.cons rfl (fun K hK => ?_) ?_; rotate_left; refine EachX.cons rfl (fun K hK => ?_) EachX.nil; (focus (go_simp; refine outS hK hdH (h := ?_); clear hK K hHeld; intro hHeld; refine GoesX.one 3 (h := fun K hK => ?_); go_simp; (go_at_call 114; apply Calls.mono; apply (sDo_c (m := y) (r := ⟨ru, rn, rk, rt, rh, rp⟩) (rows := rows) (τ := mid _ w6.heap.size τd)); (exact hod.mid.keepF kf_); (exact HK.out); (exact HQ.out); (exact sz_); rintro E w7 ⟨iL, iLc, iLn, iP, iPc, iPn, iD, iDc, iDn, iN, iNc, iNn, iS, iSc, iSn, τi, rfl, hoi, hτi, hb7⟩; rw [← Hv.out] at hoi; rw [← Hv.out]; have hHeldX := Held.of (Ch.trans' (show Ex W0 _ from ext_) hb7 (fun i hi h => (by have h1 := h.1; (try simp only [zq_] at h1); omega)) : Ex W0 w7); have hst := Ch.smRules hb7 rfl sz_; (try simp only [zq_] at hst hτi); obtain ⟨hcD, hfD, hcE, hfE, hzD⟩ := hst; clear hb7); (try go_wp2_with fail); refine outS hK hdH (h := ?_); clear hK K hHeld; intro hHeld; refine GoesX.take 4 53 [] hHeld (h := ?_); refine GoesX.take 5 58 [] hHeld (h := ?_); refine GoesX.take 6 59 [] hHeld (h := ?_); refine GoesX.one 8 (h := fun K hK => ?_); go_simp; refine outS hK hdH (h := ?_); clear hK K hHeld; intro hHeld; refine GoesX.take 9 12 [] hHeld (h := ?_); refine GoesX.done (by kernel_rfl) ?_ _; all_goals (obtain ⟨hb, hc, hf, hz⟩ := xh (by assumption : Held W0 _)))); rotate_right 1; (focus (go_simp; (go_at_call 114; apply Calls.mono; apply (sDo_c (m := y) (r := ⟨ru, rn, rk, rt, rh, rp⟩) (rows := rows) (τ := mid _ w6.heap.size τd)); (exact hod.mid.keepF kf_); (exact HK.out); (exact HQ.out); (exact sz_); rintro E w7 ⟨iL, iLc, iLn, iP, iPc, iPn, iD, iDc, iDn, iN, iNc, iNn, iS, iSc, iSn, τi, rfl, hoi, hτi, hb7⟩; rw [← Hv.out] at hoi; rw [← Hv.out]; have hHeldX := Held.of (Ch.trans' (show Ex W0 _ from ext_) hb7 (fun i hi h => (by have h1 := h.1; (try simp only [zq_] at h1); omega)) : Ex W0 w7); have hst := Ch.smRules hb7 rfl sz_; (try simp only [zq_] at hst hτi); obtain ⟨hcD, hfD, hcE, hfE, hzD⟩ := hst; clear hb7); (try go_wp2_with fail); refine outS hK hdH (h := ?_); clear hK K hHeld; intro hHeld; refine GoesX.take 4 53 [] hHeld (h := ?_); refine GoesX.take 5 58 [] hHeld (h := ?_); refine GoesX.take 6 59 [] hHeld (h := ?_); refine GoesX.one 7 (h := fun K hK => ?_); go_simp; refine outS hK hdH (h := ?_); clear hK K hHeld; intro hHeld; refine GoesX.one 8 (h := fun K hK => ?_); go_simp; refine outS hK hdH (h := ?_); clear hK K hHeld; intro hHeld; refine GoesX.take 9 12 [] hHeld (h := ?_); refine GoesX.done (by kernel_rfl) ?_ _; all_goals (obtain ⟨hb, hc, hf, hz⟩ := xh (by assumption : Held W0 _))))))))
           all_goals go_wp2_with fail
           all_goals go_roundw
           repeat (case measure => (simp [intOf]; omega))
           repeat (case rel => (obtain ⟨rows3, hok3⟩ := HKD.out; rw [← Hv.out] at hok3; have hexW := hHeldX.2; exact ⟨k + 1, _, _, _, _, _, _, _, _, _, _, _, _, _, _, _, v.1, rows3, by omega, by go_num, ext_, ⟨sz_, co_, co_, co_, co_, co_, co_, fun i => co_⟩, (hoi.zeros (by (with_reducible repeat (first | exact cR _ _ | apply cA | apply cD | (refine cZ hτi ?_ (by first | omega | (simp only [zq_]; omega)) (by first | omega | (simp only [zq_]; omega))))))).rm.less sz_, hok3, He.out⟩))
   · have e1 : Sw.wldFold fs ls = some y := by rw [hrel, List.drop_of_length_le (by have := hll.out; omega)]; rfl
     have He := Lib.hid e1
     clear hrel e1
     go_wp2_with fail
     refine bodyPost_ret (v := .tuple #[.agg #[.slice eL eLn eLc, .slice eP ePn ePc, .slice eD eDn eDc, .int .i64 y.clock, .slice eN eNn eNc, .slice eS eSn eSc], .bool true]) (by simp [results, Tryz.results41, go_sem, *]) rfl ?_
     refine ⟨_, _, _, _, _, _, _, _, _, _, _, _, _, _, _, by rw [He.out]; rfl, ?_, ext_⟩
     rw [He.out]
     exact (hRY.keep kf_).less (Nat.le_succ _)
end Go.Proofs.YtnnoiagommiapaaGreat
