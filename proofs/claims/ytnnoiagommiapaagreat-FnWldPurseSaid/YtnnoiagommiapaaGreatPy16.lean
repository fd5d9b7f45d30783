/- Texts joined: Mkt1. -/
import Derived.Test.YtnnoiagommiapaaGreatPy15
set_option maxRecDepth 100000
set_option linter.unusedSimpArgs false
set_option linter.unusedVariables false
namespace Go.Proofs.YtnnoiagommiapaaGreat
open Go.RowKit Go
set_option maxHeartbeats 8000000
theorem sMktOk_c (aL : Option Addr) (aLc aLn : Nat) (aP : Option Addr) (aPc aPn : Nat) (aD : Option Addr) (aDc aDn : Nat) (aN : Option Addr) (aNc aNn : Nat) (aS : Option Addr) (aSc aSn : Nat) (m : Sw.Mkt) (w : World) (hm : RM w 0 aL aLc aLn aP aPc aPn aD aDc aDn aN aNc aNn aS aSc aSn m) : Calls Tryz.prog 96 #[.agg #[.slice aL aLn aLc, .slice aP aPn aPc, .slice aD aDn aDc, .int .i64 m.clock, .slice aN aNn aNc, .slice aS aSn aSc]] w fun E w' => E = .returned (.bool (Sw.mktOk m)) ∧ Ex w w' := by
 obtain ⟨m1, m2, m3, m4, m5⟩ := hm
 have hm' : RM w 0 aL aLc aLn aP aPc aPn aD aDc aDn aN aNc aNn aS aSc aSn m := ⟨m1, m2, m3, m4, m5⟩
 have b3 := Rs.big m3
 have b4 := Rs.big m4
 have b5 := Rs.big m5
 have l3 := Lib.hid m3.1
 have l4 := Lib.hid m4.1
 have l5 := Lib.hid m5.1
 have e := mktOk_parts m
 have He := Lib.hid e; clear e
 cases hfs : (Sw.ownFold m.log).isSome
 case false =>
   go_enter Tryz.func96, Tryz.ntmps96
   go_wp2_with (first | (go_at_call 177; apply Calls.mono; apply sOwnFold_c; (exact rd_); rintro E w1 ⟨A', c', n', rfl, hr, hb⟩; obtain ⟨hc, hf, hz⟩ := xy hb))
   go_ret
   exact ⟨ret_b (by rw [He.out]; simp [mktGate, hfs]), ext_⟩
 cases g1 : Sw.monOk m.purses
 case false =>
   go_enter Tryz.func96, Tryz.ntmps96
   go_wp2_with (first | (go_at_call 177; apply Calls.mono; apply sOwnFold_c; (exact rd_); rintro E w1 ⟨A', c', n', rfl, hr, hb⟩; obtain ⟨hc, hf, hz⟩ := xy hb) | (go_at_call 97; apply Calls.mono; apply sMonOk_c; (exact rd_); rintro E w' ⟨rfl, rfl⟩))
   go_ret
   exact ⟨ret_b (by rw [He.out]; simp [mktGate, g1]), ext_⟩
 by_cases g2 : aDn ≤ 8
 case neg =>
   go_enter Tryz.func96, Tryz.ntmps96
   go_wp2_with (first | (go_at_call 177; apply Calls.mono; apply sOwnFold_c; (exact rd_); rintro E w1 ⟨A', c', n', rfl, hr, hb⟩; obtain ⟨hc, hf, hz⟩ := xy hb) | (go_at_call 97; apply Calls.mono; apply sMonOk_c; (exact rd_); rintro E w' ⟨rfl, rfl⟩))
   go_ret
   exact ⟨ret_b (by rw [He.out, mktGate, ← l3.out]; simp [g2]), ext_⟩
 cases g3 : Sw.inR m.clock 0 99999
 case false =>
   go_enter Tryz.func96, Tryz.ntmps96
   go_wp2_with (first | (go_at_call 177; apply Calls.mono; apply sOwnFold_c; (exact rd_); rintro E w1 ⟨A', c', n', rfl, hr, hb⟩; obtain ⟨hc, hf, hz⟩ := xy hb) | (go_at_call 97; apply Calls.mono; apply sMonOk_c; (exact rd_); rintro E w' ⟨rfl, rfl⟩) | (go_at_call 99; refine (l1In_c _ _ _ _).mono ?_; rintro E w' ⟨rfl, rfl⟩))
   go_ret
   exact ⟨ret_b (by rw [He.out, mktGate, g3]; simp), ext_⟩
 by_cases g4 : aNn = 5
 case neg =>
   have q4 : ((aNn : Int) != 5) = true := by rw [bne_iff_ne]; omega
   go_enter Tryz.func96, Tryz.ntmps96
   go_wp2_with (first | (go_at_call 177; apply Calls.mono; apply sOwnFold_c; (exact rd_); rintro E w1 ⟨A', c', n', rfl, hr, hb⟩; obtain ⟨hc, hf, hz⟩ := xy hb) | (go_at_call 97; apply Calls.mono; apply sMonOk_c; (exact rd_); rintro E w' ⟨rfl, rfl⟩) | (go_at_call 99; refine (l1In_c _ _ _ _).mono ?_; rintro E w' ⟨rfl, rfl⟩))
   go_ret
   exact ⟨ret_b (by rw [He.out, mktGate, ← l4.out]; simp [g4]), ext_⟩
 subst g4
 by_cases g5 : aSn = 5
 case neg =>
   have q5 : ((aSn : Int) != 5) = true := by rw [bne_iff_ne]; omega
   go_enter Tryz.func96, Tryz.ntmps96
   go_wp2_with (first | (go_at_call 177; apply Calls.mono; apply sOwnFold_c; (exact rd_); rintro E w1 ⟨A', c', n', rfl, hr, hb⟩; obtain ⟨hc, hf, hz⟩ := xy hb) | (go_at_call 97; apply Calls.mono; apply sMonOk_c; (exact rd_); rintro E w' ⟨rfl, rfl⟩) | (go_at_call 99; refine (l1In_c _ _ _ _).mono ?_; rintro E w' ⟨rfl, rfl⟩))
   go_ret
   exact ⟨ret_b (by rw [He.out, mktGate, ← l5.out]; simp [g5]), ext_⟩
 subst g5
 have hgate : mktGate m = true := by simp [mktGate, hfs, g1, g3, ← l3.out, ← l4.out, ← l5.out, g2]
 obtain ⟨rows, hrows⟩ := Option.isSome_iff_exists.1 hfs
 have hro := Sw.ownFold_ok hrows
 have h8 := Sw.ownOk_len hro
 have hg : (Sw.ownFold m.log).getD [] = rows := by rw [hrows]; rfl
 have e2 := He.out
 rw [hgate, Sw.mktRows_of hrows, Bool.true_and] at e2
 have HE := Lib.hid e2
 have HG := Lib.hid hg
 have H8 := Lib.hid h8
 have HR := Lib.hid hrows
 have HO := Lib.hid hro
 obtain ⟨ck0, ck1⟩ := Sw.inR_iff.1 g3
 clear e2 hg h8 He hgate hrows hro
 go_enter Tryz.func96, Tryz.ntmps96
 go_wp2_with (first | (go_at_call 177; apply Calls.mono; apply sOwnFold_c; (exact rd_); rintro E w1 ⟨A1, c1, n1, rfl, ho1, hb⟩; rw [HG.out] at ho1; have hst := xr hb; (try simp only [zA, zC, zD] at hst); obtain ⟨hc, hf, hz⟩ := hst; obtain rfl : n1 = 8 := by rw [ho1.1, H8.out]) | (go_at_call 97; apply Calls.mono; apply sMonOk_c; (exact rd_); rintro E w' ⟨rfl, rfl⟩) | (go_at_call 99; refine (l1In_c _ _ _ _).mono ?_; rintro E w' ⟨rfl, rfl⟩))
 have hrr := ho1.rs
 go_loopw [5] (fun i wr => ∃ (k : Nat) (p : Int), k ≤ aDn ∧ i = .int .i64 k ∧ Ex w1 wr ∧ LastAt m.deals k p ∧ Sw.dealsOk m.clock rows (-1) m.deals = Sw.dealsOk m.clock rows p (m.deals.drop k)) (fun i _ => aDn - (intOf i).toNat)
 case atStart => exact ⟨0, -1, Nat.zero_le _, rfl, Ch.refl _ _, .inl ⟨rfl, rfl⟩, rfl⟩
 case round =>
   obtain ⟨k, p, hk, rfl, hb2, hp, hrel⟩ := hrel
   have hst := xr hb2
   obtain ⟨hc2, hf2, hz2⟩ := hst
   by_cases hlt : k < aDn
   · obtain ⟨g, off, y, rfl, hg0, hg, hd, hy, q0, q1, q2, q3, q4⟩ := at_D m3 hlt
     rw [hd, dealsOk_cons] at hrel
     have Hrel := Lib.hid hrel
     have Hy := Lib.hid hy
     clear hd hy hrel
     cases c1 : Sw.inR y.ticket 0 7
     case false =>
       have DB := dealOk_b (clock := m.clock) (d := y) HO.out rfl
       have DB := Lib.hid DB
       clear hp
       go_wp2_with fail
       go_quiet ((first | (go_at_call 99; exact Calls.quiet_same (l1In_c _ _ _ _)) | (go_at_call 178; exact Calls.quiet_same (sEntCap_c _ _))))
       go_wp2
       go_ret
       exact ⟨ret_b (by rw [HE.out, Hrel.out, DB.out, c1]; simp), ext_⟩
     obtain ⟨y0, y7⟩ := Sw.inR_iff.1 c1
     obtain ⟨t, ht⟩ := Int.eq_ofNat_of_zero_le y0
     have e0 : y.ticket.toNat = t := by omega
     have ht8 : t < 8 := by omega
     have y8 : y.ticket < 8 := by omega
     have HT := Lib.hid ht
     clear ht
     obtain ⟨gr, offr, r, hA1, hgr0, hgr, hdr, hyr, r0, r1, r2⟩ := at_R hrr ht8
     cases hA1
     have hrow : Sw.rowAt rows y.ticket = r := by simp [Sw.rowAt, e0, hyr]
     have DB := dealOk_b (clock := m.clock) HO.out hrow
     have DB := Lib.hid DB
     clear hdr hyr hrow
     obtain ⟨yt, ys, yp, yb, yd⟩ := y
     obtain ⟨rw_, rf, ru⟩ := r
     dsimp only at q0 q1 q2 q3 q4 r0 r1 r2 c1 y0 y7 y8 e0
     have hpp : (∃ j : Nat, ∃ yj : Sw.Deal, k = j + 1 ∧ p = yj.ticket ∧ m.deals[j]? = some yj ∧ yt ≤ p) ∨ p < yt := by
       rcases hp with ⟨rfl, rfl⟩ | ⟨j, yj, rfl, hj, rfl, hj0⟩
       · exact .inr (by omega)
       · by_cases h : yt ≤ yj.ticket
         · exact .inl ⟨j, yj, rfl, rfl, hj, h⟩
         · exact .inr (by omega)
     rcases hpp with ⟨j, yj, rfl, rfl, hj, hle⟩ | hpy
     · obtain ⟨g', off', yj', hA', _, _, _, hyj', p0, _⟩ := at_D m3 (show j < aDn by omega)
       cases hA'
       obtain rfl : yj' = yj := by rw [hj] at hyj'; exact (Option.some.inj hyj').symm
       clear hj hyj' hp
       have t1 : ((j : Int) + 1).toNat = j + 1 := by omega
       have t2 : IntKind.i64.wrap ((j : Int) + 1 - 1) = j := by rw [IntWalk.i64_in _ (by omega)]; omega
       have t3 : (0 : Int) ≤ (j : Int) + 1 := by omega
       have t4 : (j : Int) + 1 < (aDn : Int) := by omega
       have t5 : (j : Int) < (aDn : Int) := by omega
       have t6 : (0 : Int) < (j : Int) + 1 := by omega
       go_wp2_with fail
       go_quiet ((first | (go_at_call 99; exact Calls.quiet_same (l1In_c _ _ _ _)) | (go_at_call 178; exact Calls.quiet_same (sEntCap_c _ _))))
       go_wp2
       go_ret
       exact ⟨ret_b (by rw [HE.out, Hrel.out, show decide (yj'.ticket < yt) = false from by simp; omega]; simp), ext_⟩
     have hgd : k = 0 ∨ ∃ j : Nat, ∃ pj : Int, k = j + 1 ∧ w.cell? ⟨g, off + j * 5, none⟩ = some (.int .i64 pj) ∧ ¬ (yt ≤ pj) := by
       rcases hp with ⟨rfl, rfl⟩ | ⟨j, yj, rfl, hj, rfl, hj0⟩
       · exact .inl rfl
       · obtain ⟨g', off', yj', hA', _, _, _, hyj', p0, _⟩ := at_D m3 (show j < aDn by omega)
         cases hA'
         obtain rfl : yj' = yj := by rw [hj] at hyj'; exact (Option.some.inj hyj').symm
         exact .inr ⟨j, yj'.ticket, rfl, p0, by omega⟩
     clear hp
     have fin : ∀ b : Bool, Sw.dealOk m.clock rows ⟨yt, ys, yp, yb, yd⟩ = b → (b = false → false = Sw.mktOk m) ∧ (b = true → Sw.dealsOk m.clock rows (-1) m.deals = Sw.dealsOk m.clock rows yt (m.deals.drop (k + 1))) := by
       intro b hb
       refine ⟨fun h => ?_, fun h => ?_⟩
       · rw [HE.out, Hrel.out, hb, h]; simp
       · rw [Hrel.out, hb, h]; simp [hpy]
     have Fin := Lib.hid fin
     have Lst : LastAt m.deals (k + 1) yt := .inr ⟨k, _, rfl, Hy.out, rfl, y0⟩
     have Lst := Lib.hid Lst
     clear fin hpy Hrel
     rcases hgd with rfl | ⟨j, pj, rfl, p0, hpj⟩
     · simp only [Nat.zero_mul, Nat.add_zero] at q0 q1 q2 q3 q4
       cases c3 : decide (rw_ = ys)
       case false =>
         have c3' : (rw_ != ys) = true := by rw [bne_iff_ne]; exact of_decide_eq_false c3
         (go_wp2_with fail; go_quiet ((first | (go_at_call 99; exact Calls.quiet_same (l1In_c _ _ _ _)) | (go_at_call 178; exact Calls.quiet_same (sEntCap_c _ _)))); go_wp2; go_ret)
         exact ⟨ret_b ((Fin.out _ rfl).1 (by rw [DB.out]; simp [c3])), (by exact ext_)⟩
       have c3' : (rw_ != ys) = false := by rw [bne_eq_false_iff_eq]; exact of_decide_eq_true c3
       cases c4 : (ys == 0)
       case true =>
         (go_wp2_with fail; go_quiet ((first | (go_at_call 99; exact Calls.quiet_same (l1In_c _ _ _ _)) | (go_at_call 178; exact Calls.quiet_same (sEntCap_c _ _)))); go_wp2; go_ret)
         exact ⟨ret_b ((Fin.out _ rfl).1 (by rw [DB.out]; simp [(show ys = 0 by simpa using c4)])), (by exact ext_)⟩
       cases ru
       case true =>
         (go_wp2_with fail; go_quiet ((first | (go_at_call 99; exact Calls.quiet_same (l1In_c _ _ _ _)) | (go_at_call 178; exact Calls.quiet_same (sEntCap_c _ _)))); go_wp2; go_ret)
         exact ⟨ret_b ((Fin.out _ rfl).1 (by rw [DB.out]; simp [])), (by exact ext_)⟩
       cases c6 : Sw.inR yp 1 (Sw.entCap rf)
       case false =>
         (go_wp2_with fail; go_quiet ((first | (go_at_call 99; exact Calls.quiet_same (l1In_c _ _ _ _)) | (go_at_call 178; exact Calls.quiet_same (sEntCap_c _ _)))); go_wp2; go_ret)
         exact ⟨ret_b ((Fin.out _ rfl).1 (by rw [DB.out]; simp [c6])), (by exact ext_)⟩
       have c4' : ys ≠ 0 := by simpa using c4
       have C4 := Lib.hid c4'
       clear c4'
       by_cases b0 : yb = 0
       · have b1 : (yb == 0) = true := by simp [b0]
         have b2 : (yb != 0) = false := by simp [b0]
         have B0 := Lib.hid b0
         clear b0
         by_cases d0 : yd = 0
         · have d1 : (yd != 0) = false := by simp [d0]
           have D0 := Lib.hid d0
           clear d0
           (go_wp2_with fail; go_quiet ((first | (go_at_call 99; exact Calls.quiet_same (l1In_c _ _ _ _)) | (go_at_call 178; exact Calls.quiet_same (sEntCap_c _ _)))); go_wp2_with (first | (go_at_call 99; refine (l1In_c _ _ _ _).mono ?_; rintro E w' ⟨rfl, rfl⟩)))
           exact ⟨⟨0 + 1, yt, by omega, by go_num, (by exact ext_), Lst.out, (Fin.out _ rfl).2 (by rw [DB.out]; simp [c3, c6, buyerOk, B0.out, D0.out, C4.out] <;> first | done | omega)⟩, by simp [intOf]; omega⟩
         · have d1 : (yd != 0) = true := by simp [d0]
           have D0 := Lib.hid d0
           clear d0
           (go_wp2_with fail; go_quiet ((first | (go_at_call 99; exact Calls.quiet_same (l1In_c _ _ _ _)) | (go_at_call 178; exact Calls.quiet_same (sEntCap_c _ _)))); go_wp2_with (first | (go_at_call 99; refine (l1In_c _ _ _ _).mono ?_; rintro E w' ⟨rfl, rfl⟩)))
           (go_ret; exact ⟨ret_b ((Fin.out _ rfl).1 (by rw [DB.out]; simp [buyerOk, B0.out, D0.out, C4.out])), (by exact ext_)⟩)
       have b1 : (yb == 0) = false := by simp [b0]
       have b2 : (yb != 0) = true := by simp [b0]
       have B0 := Lib.hid b0
       clear b0
       cases c7 : Sw.inR yb 1 5
       case false =>
         (go_wp2_with fail; go_quiet ((first | (go_at_call 99; exact Calls.quiet_same (l1In_c _ _ _ _)) | (go_at_call 178; exact Calls.quiet_same (sEntCap_c _ _)))); go_wp2_with (first | (go_at_call 99; refine (l1In_c _ _ _ _).mono ?_; rintro E w' ⟨rfl, rfl⟩)))
         (go_ret; exact ⟨ret_b ((Fin.out _ rfl).1 (by rw [DB.out]; simp [buyerOk, B0.out, c7])), (by exact ext_)⟩)
       by_cases d0 : yb = ys
       · have d1 : (yb == ys) = true := by simp [d0]
         have D0 := Lib.hid d0
         clear d0
         (go_wp2_with fail; go_quiet ((first | (go_at_call 99; exact Calls.quiet_same (l1In_c _ _ _ _)) | (go_at_call 178; exact Calls.quiet_same (sEntCap_c _ _)))); go_wp2_with (first | (go_at_call 99; refine (l1In_c _ _ _ _).mono ?_; rintro E w' ⟨rfl, rfl⟩)))
         (go_ret; exact ⟨ret_b ((Fin.out _ rfl).1 (by rw [DB.out]; simp [buyerOk, B0.out, D0.out, C4.out])), (by exact ext_)⟩)
       have d1 : (yb == ys) = false := by simp [d0]
       have D0 := Lib.hid d0
       clear d0
       cases c9 : Sw.inR yd m.clock (m.clock + 5)
       case false =>
         (go_wp2_with fail; go_quiet ((first | (go_at_call 99; exact Calls.quiet_same (l1In_c _ _ _ _)) | (go_at_call 178; exact Calls.quiet_same (sEntCap_c _ _)))); go_wp2_with (first | (go_at_call 99; refine (l1In_c _ _ _ _).mono ?_; rintro E w' ⟨rfl, rfl⟩)))
         (go_ret; exact ⟨ret_b ((Fin.out _ rfl).1 (by rw [DB.out]; simp [buyerOk, B0.out, c9])), (by exact ext_)⟩)
       (go_wp2_with fail; go_quiet ((first | (go_at_call 99; exact Calls.quiet_same (l1In_c _ _ _ _)) | (go_at_call 178; exact Calls.quiet_same (sEntCap_c _ _)))); go_wp2_with (first | (go_at_call 99; refine (l1In_c _ _ _ _).mono ?_; rintro E w' ⟨rfl, rfl⟩)))
       exact ⟨⟨0 + 1, yt, by omega, by go_num, (by exact ext_), Lst.out, (Fin.out _ rfl).2 (by rw [DB.out]; simp [c3, c6, buyerOk, B0.out, D0.out, C4.out, c7, c9] <;> first | done | omega)⟩, by simp [intOf]; omega⟩
     · have t1 : ((j : Int) + 1).toNat = j + 1 := by omega
       have t2 : IntKind.i64.wrap ((j : Int) + 1 - 1) = j := by rw [IntWalk.i64_in _ (by omega)]; omega
       have t3 : (0 : Int) ≤ (j : Int) + 1 := by omega
       have t4 : (j : Int) + 1 < (aDn : Int) := by omega
       have t5 : (j : Int) < (aDn : Int) := by omega
       have t6 : (0 : Int) < (j : Int) + 1 := by omega
       have t7 : decide (yt ≤ pj) = false := by simp; omega
       cases c3 : decide (rw_ = ys)
       case false =>
         have c3' : (rw_ != ys) = true := by rw [bne_iff_ne]; exact of_decide_eq_false c3
         (go_wp2_with fail; go_quiet ((first | (go_at_call 99; exact Calls.quiet_same (l1In_c _ _ _ _)) | (go_at_call 178; exact Calls.quiet_same (sEntCap_c _ _)))); go_wp2; go_ret)
         exact ⟨ret_b ((Fin.out _ rfl).1 (by rw [DB.out]; simp [c3])), (by exact ext_)⟩
       have c3' : (rw_ != ys) = false := by rw [bne_eq_false_iff_eq]; exact of_decide_eq_true c3
       cases c4 : (ys == 0)
       case true =>
         (go_wp2_with fail; go_quiet ((first | (go_at_call 99; exact Calls.quiet_same (l1In_c _ _ _ _)) | (go_at_call 178; exact Calls.quiet_same (sEntCap_c _ _)))); go_wp2; go_ret)
         exact ⟨ret_b ((Fin.out _ rfl).1 (by rw [DB.out]; simp [(show ys = 0 by simpa using c4)])), (by exact ext_)⟩
       cases ru
       case true =>
         (go_wp2_with fail; go_quiet ((first | (go_at_call 99; exact Calls.quiet_same (l1In_c _ _ _ _)) | (go_at_call 178; exact Calls.quiet_same (sEntCap_c _ _)))); go_wp2; go_ret)
         exact ⟨ret_b ((Fin.out _ rfl).1 (by rw [DB.out]; simp [])), (by exact ext_)⟩
       cases c6 : Sw.inR yp 1 (Sw.entCap rf)
       case false =>
         (go_wp2_with fail; go_quiet ((first | (go_at_call 99; exact Calls.quiet_same (l1In_c _ _ _ _)) | (go_at_call 178; exact Calls.quiet_same (sEntCap_c _ _)))); go_wp2; go_ret)
         exact ⟨ret_b ((Fin.out _ rfl).1 (by rw [DB.out]; simp [c6])), (by exact ext_)⟩
       have c4' : ys ≠ 0 := by simpa using c4
       have C4 := Lib.hid c4'
       clear c4'
       by_cases b0 : yb = 0
       · have b1 : (yb == 0) = true := by simp [b0]
         have b2 : (yb != 0) = false := by simp [b0]
         have B0 := Lib.hid b0
         clear b0
         by_cases d0 : yd = 0
         · have d1 : (yd != 0) = false := by simp [d0]
           have D0 := Lib.hid d0
           clear d0
           (go_wp2_with fail; go_quiet ((first | (go_at_call 99; exact Calls.quiet_same (l1In_c _ _ _ _)) | (go_at_call 178; exact Calls.quiet_same (sEntCap_c _ _)))); go_wp2_with (first | (go_at_call 99; refine (l1In_c _ _ _ _).mono ?_; rintro E w' ⟨rfl, rfl⟩)))
           exact ⟨⟨j + 1 + 1, yt, by omega, by go_num, (by exact ext_), Lst.out, (Fin.out _ rfl).2 (by rw [DB.out]; simp [c3, c6, buyerOk, B0.out, D0.out, C4.out] <;> first | done | omega)⟩, by simp [intOf]; omega⟩
         · have d1 : (yd != 0) = true := by simp [d0]
           have D0 := Lib.hid d0
           clear d0
           (go_wp2_with fail; go_quiet ((first | (go_at_call 99; exact Calls.quiet_same (l1In_c _ _ _ _)) | (go_at_call 178; exact Calls.quiet_same (sEntCap_c _ _)))); go_wp2_with (first | (go_at_call 99; refine (l1In_c _ _ _ _).mono ?_; rintro E w' ⟨rfl, rfl⟩)))
           (go_ret; exact ⟨ret_b ((Fin.out _ rfl).1 (by rw [DB.out]; simp [buyerOk, B0.out, D0.out, C4.out])), (by exact ext_)⟩)
       have b1 : (yb == 0) = false := by simp [b0]
       have b2 : (yb != 0) = true := by simp [b0]
       have B0 := Lib.hid b0
       clear b0
       cases c7 : Sw.inR yb 1 5
       case false =>
         (go_wp2_with fail; go_quiet ((first | (go_at_call 99; exact Calls.quiet_same (l1In_c _ _ _ _)) | (go_at_call 178; exact Calls.quiet_same (sEntCap_c _ _)))); go_wp2_with (first | (go_at_call 99; refine (l1In_c _ _ _ _).mono ?_; rintro E w' ⟨rfl, rfl⟩)))
         (go_ret; exact ⟨ret_b ((Fin.out _ rfl).1 (by rw [DB.out]; simp [buyerOk, B0.out, c7])), (by exact ext_)⟩)
       by_cases d0 : yb = ys
       · have d1 : (yb == ys) = true := by simp [d0]
         have D0 := Lib.hid d0
         clear d0
         (go_wp2_with fail; go_quiet ((first | (go_at_call 99; exact Calls.quiet_same (l1In_c _ _ _ _)) | (go_at_call 178; exact Calls.quiet_same (sEntCap_c _ _)))); go_wp2_with (first | (go_at_call 99; refine (l1In_c _ _ _ _).mono ?_; rintro E w' ⟨rfl, rfl⟩)))
         (go_ret; exact ⟨ret_b ((Fin.out _ rfl).1 (by rw [DB.out]; simp [buyerOk, B0.out, D0.out, C4.out])), (by exact ext_)⟩)
       have d1 : (yb == ys) = false := by simp [d0]
       have D0 := Lib.hid d0
       clear d0
       cases c9 : Sw.inR yd m.clock (m.clock + 5)
       case false =>
         (go_wp2_with fail; go_quiet ((first | (go_at_call 99; exact Calls.quiet_same (l1In_c _ _ _ _)) | (go_at_call 178; exact Calls.quiet_same (sEntCap_c _ _)))); go_wp2_with (first | (go_at_call 99; refine (l1In_c _ _ _ _).mono ?_; rintro E w' ⟨rfl, rfl⟩)))
         (go_ret; exact ⟨ret_b ((Fin.out _ rfl).1 (by rw [DB.out]; simp [buyerOk, B0.out, c9])), (by exact ext_)⟩)
       (go_wp2_with fail; go_quiet ((first | (go_at_call 99; exact Calls.quiet_same (l1In_c _ _ _ _)) | (go_at_call 178; exact Calls.quiet_same (sEntCap_c _ _)))); go_wp2_with (first | (go_at_call 99; refine (l1In_c _ _ _ _).mono ?_; rintro E w' ⟨rfl, rfl⟩)))
       exact ⟨⟨j + 1 + 1, yt, by omega, by go_num, (by exact ext_), Lst.out, (Fin.out _ rfl).2 (by rw [DB.out]; simp [c3, c6, buyerOk, B0.out, D0.out, C4.out, c7, c9] <;> first | done | omega)⟩, by simp [intOf]; omega⟩
   · rw [List.drop_of_length_le (by have := l3.out; omega)] at hrel
     have hdk : Sw.DOk m.clock rows m.deals := Sw.dealsOk_iff'.1 hrel
     have hS := Sw.monSum_bd g1
     have hH := Sw.heldSum_bd hdk.1
     rw [← Sw.heldOf_eq hdk (by have := l3.out; omega), ← l3.out] at hH
     have hsum : IntKind.i64.wrap (Sw.monSum m.purses + Sw.mktHeld m) = Sw.monSum m.purses + Sw.mktHeld m := by
       rw [IntWalk.i64_in _ (by unfold Sw.mktHeld; omega)]
     have Hsum := Lib.hid hsum
     have Hrel := Lib.hid hrel; clear hrel hp hdk hS hH hsum
     go_wp2_with fail
     go_loopw [7] (fun i wx => ∃ (k : Nat), k ≤ 5 ∧ i = .int .i64 k ∧ Ex w1 wx ∧ Sw.numsOk m.nums m.said = Sw.numsOk (m.nums.drop k) (m.said.drop k)) (fun i _ => 5 - (intOf i).toNat)
     case atStart => exact ⟨0, Nat.zero_le _, rfl, ext_, rfl⟩
     case round =>
       obtain ⟨k', hk', rfl, hb3, hrel⟩ := hrel
       have hst := xr hb3
       obtain ⟨hc3, hf3, hz3⟩ := hst
       by_cases hlt' : k' < 5
       · obtain ⟨gn, offn, a, rfl, hgn0, hgn, hdn, hyn, hcn⟩ := at_I m4 hlt'
         obtain ⟨gs, offs, b, rfl, hgs0, hgs, hds, hys, hcs⟩ := at_I m5 hlt'
         rw [numsOk_at hdn hds] at hrel
         have HN := Lib.hid hrel
         clear hdn hyn hds hys hrel
         cases c1 : Sw.inR a 0 99999
         case false =>
           go_wp2_with fail
           go_quiet ((first | (go_at_call 99; exact Calls.quiet_same (l1In_c _ _ _ _))))
           go_wp2
           go_ret
           exact ⟨ret_b (by rw [HE.out, HN.out, Sw.numOk, c1]; simp), ext_⟩
         cases c2 : Sw.inR b 0 6
         case false =>
           go_wp2_with fail
           go_quiet ((first | (go_at_call 99; exact Calls.quiet_same (l1In_c _ _ _ _))))
           go_wp2
           go_ret
           exact ⟨ret_b (by rw [HE.out, HN.out, Sw.numOk, c2]; simp), ext_⟩
         cases c3 : (a == 0)
         all_goals cases c4 : (b == 0)
         all_goals
           go_wp2_with fail
           go_quiet ((first | (go_at_call 99; exact Calls.quiet_same (l1In_c _ _ _ _))))
           go_wp2
           first
             | exact ⟨⟨k' + 1, by omega, by go_num, ext_, by rw [HN.out, Sw.numOk, c1, c2, ← beqI, ← beqI, c3, c4]; simp⟩, by simp [intOf]; omega⟩ | (go_ret; exact ⟨ret_b (by rw [HE.out, HN.out, Sw.numOk, ← beqI, ← beqI, c3, c4]; simp), ext_⟩)
       · have HN := Lib.hid hrel; clear hrel
         go_wp2_with fail
         (refine wn_ fun W0 hb0 hc0 hf0 hz0 => ?_; go_region_held3 (fun w' => Held W0 w') ((exact hq_)) ((first | (go_at_call 104; apply Calls.mono; apply sMonSum_c; (exact rd_); rintro E w' ⟨rfl, rfl⟩) | (go_at_call 105; apply Calls.mono; apply sMktHeld_c; ((first | (apply RM.at0; assumption)); exact kf_); rintro E w1 ⟨rfl, hb⟩; obtain ⟨hc, hf, hz⟩ := xy hb))); all_goals (obtain ⟨hb, hc, hf, hz⟩ := xh (by assumption : Held W0 _)))
         go_wp2
         go_ret
         refine ⟨ret_b ?_, ext_⟩
         rw [HE.out, HN.out, Hrel.out, List.drop_of_length_le (by have := l4.out; omega), Hsum.out]
         simp [Sw.dealsOk, Sw.numsOk]
end Go.Proofs.YtnnoiagommiapaaGreat
