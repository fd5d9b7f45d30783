/-
  Walk: the law MktEnds.
-/
import Derived.Test.YtimpagcanengoaaQLawT
namespace Go.Proofs.Ytimpagcanengoaa
set_option maxRecDepth 100000
set_option linter.unusedSimpArgs false
set_option linter.unusedVariables false
open Go.RowKit Go
set_option maxHeartbeats 1000000

theorem box6 {gx : Nat} {wr w6 : World} {o : Obj} {v0 v1 v2 v3 v4 v5 : Value} (hb : Ex wr w6) : Ch (fun i => i = gx) wr (((((((w6.alloc o).setCell ⟨gx, 0, none⟩ v0).setCell ⟨gx, 1, none⟩ v1).setCell ⟨gx, 2, none⟩ v2).setCell ⟨gx, 3, none⟩ v3).setCell ⟨gx, 4, none⟩ v4).setCell ⟨gx, 5, none⟩ v5) := by
  have h0 : Ch (fun i => i = gx) wr (w6.alloc o) := cA (cE hb (cR _ _))
  have h1 := h0.setCell (p := ⟨gx, 0, none⟩) (.inl rfl) v0
  have h2 := h1.setCell (p := ⟨gx, 1, none⟩) (.inl rfl) v1
  have h3 := h2.setCell (p := ⟨gx, 2, none⟩) (.inl rfl) v2
  have h4 := h3.setCell (p := ⟨gx, 3, none⟩) (.inl rfl) v3
  have h5 := h4.setCell (p := ⟨gx, 4, none⟩) (.inl rfl) v4
  exact h5.setCell (p := ⟨gx, 5, none⟩) (.inl rfl) v5
theorem fnMktEnds_c (A : Option Addr) (c n : Nat) (bs : List Int) (w : World) (hxs : RB w 0 A c n bs) (hq : ∀ x ∈ bs, 0 ≤ x ∧ x ≤ 255) : Calls Try.prog 3 #[.slice A n c] w fun E w' => E = .returned (.bool true) ∧ Ex w w' := by

  have hbig := Rs.big hxs
  by_cases hn : n ≤ 1048576
  case neg =>
    go_enter Try.func3, Try.ntmps3
    go_wp2_with fail
    go_ret
    exact ⟨rfl, ext_⟩
  go_enter Try.func3, Try.ntmps3
  go_wp2_with fail
  apply Calls.mono
  apply drawMktTick_c
  · apply Rs.at0 hxs; (exact kf_)
  · exact hq
  rintro E w1 ⟨aL, aLc, aLn, aP, aPc, aPn, aD, aDc, aDn, aN, aNc, aNn, aS, aSc, aSn, m, rfl, ⟨hm, hlen⟩, hb⟩
  have hst := xr hb; (try simp only [zA, zC, zD, zN] at hst); obtain ⟨hc, hf, hz⟩ := hst
  clear hxs hq hbig hn
  obtain ⟨z, hz0⟩ : ∃ z, z = Sw.mktTick m := ⟨_, rfl⟩
  have HZ := Lib.hid hz0
  clear hz0
  have hzz : (z.2 != z.2) = false := by simp
  go_upto_region 8 with (first | (go_at_call 16; apply Calls.mono; apply (iMktTick_c (m := m)); (apply RM.at0 hm; (exact kf_)); omega; rintro E w2 ⟨bL, bLc, bLn, bP, bPc, bPn, bD, bDc, bDn, bN, bNc, bNn, bS, bSc, bSn, τb, rfl, hob, hb⟩; rw [← HZ.out] at hob; rw [← HZ.out]; have hst := xr hb; (try simp only [zA, zC, zD, zN] at hst); obtain ⟨hc, hf, hz⟩ := hst) | (go_at_call 17; apply Calls.mono; apply (sMktTick_c (m := m)); (apply RM.at0 hm; (exact kf_)); omega; rintro E w3 ⟨vL, vLc, vLn, vP, vPc, vPn, vD, vDc, vDn, vN, vNc, vNn, vS, vSc, vSn, τv, rfl, hov, hb⟩; rw [← HZ.out] at hov; rw [← HZ.out]; have hst := xr hb; (try simp only [zA, zC, zD, zN] at hst); obtain ⟨hc, hf, hz⟩ := hst) | (go_at_call 18; apply Calls.mono; apply (swMarket_c (x := z.1) (y := z.1)); (apply OwM.rm0 hob; (exact kf_)); (apply OwM.rm0 hov; (exact kf_)); rintro E w4 ⟨rfl, hb⟩; rw [show decide (z.1 = z.1) = true from decide_eq_true rfl]; have hst := xr hb; (try simp only [zA, zC, zD, zN] at hst); obtain ⟨hc, hf, hz⟩ := hst))
  (refine wp_name ?_; intro W0 hb0; have hst := xr hb0; (try simp only [zA, zC, zD, zN] at hst); obtain ⟨hc0, hf0, hz0⟩ := hst)
  have hA : MktAt W0 w1.heap.size 0 aL aLc aLn aP aPc aPn aD aDc aDn aN aNc aNn aS aSc aSn m.clock := ⟨sz_, (by (go_simp; first | done | simp [*])), (by (go_simp; first | done | simp [*])), (by (go_simp; first | done | simp [*])), (by (go_simp; first | done | simp [*])), (by (go_simp; first | done | simp [*])), (by (go_simp; first | done | simp [*])), fun i => (by (go_simp; first | done | simp [*]))⟩
  have HE1 : ExH w1 W0 := ⟨ext_⟩
  have hg1 : w1.heap.size ≤ w2.heap.size := sz_
  have hX : MktAt W0 w2.heap.size 0 bL bLc bLn bP bPc bPn bD bDc bDn bN bNc bNn bS bSc bSn z.1.clock := ⟨sz_, (by (go_simp; first | done | simp [*])), (by (go_simp; first | done | simp [*])), (by (go_simp; first | done | simp [*])), (by (go_simp; first | done | simp [*])), (by (go_simp; first | done | simp [*])), (by (go_simp; first | done | simp [*])), fun i => (by (go_simp; first | done | simp [*]))⟩
  have hRM : RM W0 0 aL aLc aLn aP aPc aPn aD aDc aDn aN aNc aNn aS aSc aSn m := RM.at0 hm kf_
  have hRX : RM W0 0 bL bLc bLn bP bPc bPn bD bDc bDn bN bNc bNn bS bSc bSn z.1 := OwM.rm0 hob kf_
  have HE : ExH w W0 := ⟨ext_⟩
  obtain ⟨gm, hgm⟩ : ∃ g, g = w1.heap.size := ⟨_, rfl⟩
  obtain ⟨gx, hgx⟩ : ∃ g, g = w2.heap.size := ⟨_, rfl⟩
  rw [← hgm] at hA
  rw [← hgx] at hX hg1
  have hgm1 : w1.heap.size ≤ gm := by omega
  have hgmx : gm < gx := by rw [hgm, hgx]; exact sz_
  (try rw [← hgm])
  (try rw [← hgx])
  clear hgm hgx hob hov hb hb0 hc hc0 hf hf0 hz hz0
  ((repeat (rename Ch _ _ _ => zz; clear zz)); (repeat (rename Rdp _ _ _ => zz; clear zz)); (repeat (rename (∀ (b o : Nat), ¬ ((⟨b, 0, none⟩ : Addr) = ⟨b - _ + _, 0, none⟩) → _) => zz; clear zz)))
  have hb := HE.out
  clear HE
  obtain ⟨a0, a1, a2, a3, a4, a5, a6, af⟩ := hA
  obtain ⟨x0, x1, x2, x3, x4, x5, x6, xf⟩ := hX
  simp only [Nat.zero_add] at a1 a2 a3 a4 a5 a6 x1 x2 x3 x4 x5 x6

  have hzl := Sw.mktTick_len m
  rw [← HZ.out] at hzl
  have hxl := hRX.len
  simp only [Sw.Mkt.len] at hxl
  have hsm : bLn + bPn + bDn + bNn + bSn ≤ 110 := by omega
  have HT := Lib.hid (fun h : z.2 = true => Sw.ticks_first (by rw [← HZ.out]; exact h))
  clear hzl hxl
  have hEw1 := hb
  go_wp2_with fail
  go_loopw [8, 5] (fun i o wr => ∃ (k : Nat) (b : Bool) (eL : Option Addr) (eLc eLn : Nat) (eP : Option Addr) (ePc ePn : Nat) (eD : Option Addr) (eDc eDn : Nat) (eN : Option Addr) (eNc eNn : Nat) (eS : Option Addr) (eSc eSn : Nat) (y : Sw.Mkt), k ≤ 5 ∧ i = .int .i64 k ∧ o = .bool b ∧ Ch (· = gx) W0 wr ∧ MktAt wr gx 0 eL eLc eLn eP ePc ePn eD eDc eDn eN eNc eNn eS eSc eSn y.clock ∧ RM wr 0 eL eLc eLn eP ePc ePn eD eDc eDn eN eNc eNn eS eSc eSn y ∧ eLn + ePn + eDn + eNn + eSn ≤ 110 ∧ (b = true → (∃ rows, Sw.MOk m rows) ∧ Sw.ticks (k + 1) m = some y)) (fun i _ _ => 5 - (intOf i).toNat)
  case atStart => exact ⟨0, z.2, _, _, _, _, _, _, _, _, _, _, _, _, _, _, _, z.1, Nat.zero_le _, rfl, rfl, Ch.refl _ _, ⟨x0, by simpa using x1, by simpa using x2, by simpa using x3, by simpa using x4, by simpa using x5, by simpa using x6, xf⟩, hRX, hsm, fun h => by obtain ⟨h1, h2⟩ := HT.out h; rw [← HZ.out] at h2; exact ⟨h1, h2⟩⟩
  case round =>
    obtain ⟨k, o, eL, eLc, eLn, eP, ePc, ePn, eD, eDc, eDn, eN, eNc, eNn, eS, eSc, eSn, y, hk, rfl, rfl, hb3, hY, hRY, hyl, ht⟩ := hrel
    have Ht := Lib.hid ht
    clear ht hRX x0 x1 x2 x3 x4 x5 x6 xf hsm
    have hst := xc hb3
    (try simp only [zA, zC, zD, zN] at hst)
    obtain ⟨hc3, hf3, hz3⟩ := hst
    obtain ⟨y0, y1, y2, y3, y4, y5, y6, yf⟩ := hY
    simp only [Nat.zero_add] at y1 y2 y3 y4 y5 y6
    have hne : gm ≠ gx := by omega
    have hne' : ¬ gx = gm := by omega
    have HY := Lib.hid hRY
    clear hRY
    have hE1 : Ex w1 wr := Ch.trans' HE1.out hb3 (fun i hi h => by omega)
    have hEw : Ex w wr := Ch.trans' hb hb3 (fun i hi h => by have := hb.size; have := HE1.out.size; have := hEw1.size; omega)
    have HB3 := Lib.hid hb3
    clear hb hb3
    have hRm : RM wr 0 aL aLc aLn aP aPc aPn aD aDc aDn aN aNc aNn aS aSc aSn m := RM.at0 hm (kE hE1 (kR _ _))
    have hb := hEw
    have hbx := hEw
    by_cases hgo : k < 5 ∧ o = true
    · obtain ⟨hlt, rfl⟩ := hgo
      obtain ⟨⟨rows, hok⟩, htk⟩ := Ht.out rfl
      obtain ⟨y2, hy2⟩ : ∃ y2, y2 = Sw.mktTick y := ⟨_, rfl⟩
      have Y2 := Lib.hid hy2
      have hyl2 := Sw.mktTick_len y
      rw [← hy2] at hyl2
      have t2 : (k : Int) < 5 := by omega
      have HT2 := Lib.hid (fun h : y2.2 = true => (by have := Sw.ticks_mktTick hok htk (by rw [← hy2]; exact h); rw [← hy2] at this; exact this : Sw.ticks (k + 1 + 1) m = some y2.1))
      have HOK := Lib.hid hok
      clear hy2 htk hok
      go_wp2_with (go_at_call 16; apply Calls.mono; apply (iMktTick_c (m := y)); (apply RM.at0 HY.out; (exact kf_)); omega; rintro E w6 ⟨fL, fLc, fLn, fP, fPc, fPn, fD, fDc, fDn, fN, fNc, fNn, fS, fSc, fSn, τf, rfl, hof, hb⟩; rw [← Y2.out] at hof; rw [← Y2.out]; have hst := xr hb; (try simp only [zA, zC, zD, zN] at hst); obtain ⟨hc, hf, hz⟩ := hst)
      have hfl := hof.rm.len
      simp only [Sw.Mkt.len] at hfl
      go_roundw
      case rel =>
        refine ⟨k + 1, y2.2, _, _, _, _, _, _, _, _, _, _, _, _, _, _, _, y2.1, by omega, by go_num, rfl, ?_, ⟨sz_, by (go_simp; first | done | simp [*]), by (go_simp; first | done | simp [*]), by (go_simp; first | done | simp [*]), by (go_simp; first | done | simp [*]), by (go_simp; first | done | simp [*]), by (go_simp; first | done | simp [*]), fun i => by (go_simp; first | done | simp [*])⟩, (hof.rm.keep kf_).less (Nat.zero_le _), by omega, fun h => ⟨⟨rows, HOK.out⟩, HT2.out h⟩⟩
        exact Ch.trans' HB3.out (box6 (by assumption)) (fun i _ h => h)
      case measure => simp [intOf]; omega
    · cases o
      case false =>
        clear hgo
        by_cases hlt : k < 5
        all_goals go_wp2_with fail
        all_goals (focus (refine wp_name ?_; intro W0 hb0; have hst := xr hb0; (try simp only [zA, zC, zD, zN] at hst); obtain ⟨hc0, hf0, hz0⟩ := hst; refine wp_regionX [] (S := fun w' => Held W0 w') hdH (fun hHeld => ?_); refine GoesX.take 0 49 [] hHeld (h := ?_); refine GoesX.take 1 50 [] hHeld (h := ?_); refine GoesX.take 2 51 [] hHeld (h := ?_); (first | refine GoesX.take 3 52 [] hHeld (h := ?_) | refine GoesX.skip 3 52 [] hHeld (h := ?_)); refine GoesX.skip 4 53 [5, 6, 7, 8, 9, 10, 11, 12, 13, 14, 15, 16, 17, 18, 19] hHeld (h := ?_); (first | refine GoesX.take 5 54 [] hHeld (h := ?_) | refine GoesX.skip 5 54 [] hHeld (h := ?_)); (first | refine GoesX.take 6 55 [] hHeld (h := ?_) | refine GoesX.skip 6 55 [] hHeld (h := ?_)); (first | refine GoesX.take 7 56 [] hHeld (h := ?_) | refine GoesX.skip 7 56 [] hHeld (h := ?_)); (first | refine GoesX.take 8 57 [] hHeld (h := ?_) | refine GoesX.skip 8 57 [] hHeld (h := ?_)); refine GoesX.skip 9 58 [12, 14, 15, 16, 17, 18, 19] hHeld (h := ?_); (first | refine GoesX.take 10 59 [] hHeld (h := ?_) | refine GoesX.skip 10 59 [] hHeld (h := ?_)); (first | refine GoesX.take 11 60 [] hHeld (h := ?_) | refine GoesX.skip 11 60 [] hHeld (h := ?_)); refine GoesX.skip 12 61 [14, 15, 16, 17, 18, 19] hHeld (h := ?_); (first | refine GoesX.take 13 62 [] hHeld (h := ?_) | refine GoesX.skip 13 62 [] hHeld (h := ?_)); refine GoesX.skip 14 63 [15, 16, 17, 18, 19] hHeld (h := ?_); (first | refine GoesX.take 15 64 [] hHeld (h := ?_) | refine GoesX.skip 15 64 [] hHeld (h := ?_)); (first | refine GoesX.take 16 65 [] hHeld (h := ?_) | refine GoesX.skip 16 65 [] hHeld (h := ?_)); (first | refine GoesX.take 17 66 [] hHeld (h := ?_) | refine GoesX.skip 17 66 [] hHeld (h := ?_)); refine GoesX.take 18 67 [] hHeld (h := ?_); refine GoesX.take 19 2 [] hHeld (h := ?_); refine GoesX.done (by kernel_rfl) ?_ _; all_goals (have hb := And.right (by assumption : Held W0 _); have hst := xr hb; (try simp only [zA, zC, zD, zN] at hst); obtain ⟨hc, hf, hz⟩ := hst)))
        all_goals go_wp2_with fail
        all_goals go_ret
        all_goals exact ⟨rfl, ext_⟩
      case true =>
        obtain rfl : k = 5 := by
          rcases Nat.lt_or_ge k 5 with h | h
          · exact absurd ⟨h, rfl⟩ hgo
          · omega
        clear hgo
        obtain ⟨⟨rows, hok⟩, htk⟩ := Ht.out rfl
        obtain ⟨g1, g2⟩ := Sw.ends hok htk
        obtain ⟨s1, e1⟩ : ∃ s, s = Sw.monSum m.purses := ⟨_, rfl⟩
        obtain ⟨s2, e2⟩ : ∃ s, s = Sw.mktHeld m := ⟨_, rfl⟩
        obtain ⟨s3, e3⟩ : ∃ s, s = Sw.monSum y.purses := ⟨_, rfl⟩
        have b1 := Sw.monSum_bd hok.mon
        have b2 := mktHeld_bd hok
        rw [← e1] at b1
        rw [← e2] at b2
        rw [← e1, ← e2, ← e3] at g2
        have v1 : IntKind.i64.wrap (s1 + s2) = s3 := by rw [IntWalk.i64_in _ (by omega)]; exact g2.symm
        have v2 : (s3 == s3) = true := by simp
        have K1 := Lib.hid e1
        have K2 := Lib.hid e2
        have K3 := Lib.hid e3
        have G1 := Lib.hid g1
        clear e1 e2 e3 g1 g2 b1 b2 hok htk
        go_wp2_with fail
        (focus (refine wp_name ?_; intro W0 hb0; have hst := xr hb0; (try simp only [zA, zC, zD, zN] at hst); obtain ⟨hc0, hf0, hz0⟩ := hst; refine wp_regionX [] (S := fun w' => Held W0 w') hdH (fun hHeld => ?_); refine GoesX.take 0 49 [] hHeld (h := ?_); refine GoesX.take 1 50 [] hHeld (h := ?_); refine GoesX.take 2 51 [] hHeld (h := ?_); (first | refine GoesX.take 3 52 [] hHeld (h := ?_) | refine GoesX.skip 3 52 [] hHeld (h := ?_)); refine GoesX.one 4 (h := fun K hK => ?_); go_simp; (first | (go_at_call 19; apply Calls.mono; with_reducible apply (iMktHeld_c eL eLc eLn eP ePc ePn eD eDc eDn eN eNc eNn eS eSc eSn y); (apply RM.at0 HY.out; (exact kf_)); rintro E w4 ⟨rfl, hb⟩; rw [G1.out]; have hst := xr hb; (try simp only [zA, zC, zD, zN] at hst); obtain ⟨hc, hf, hz⟩ := hst) | (go_at_call 20; apply Calls.mono; with_reducible apply (iMonSum_c eP ePc ePn y.purses); (apply Rs.at0 HY.out.purses; (exact kf_)); rintro E w5 ⟨rfl, rfl⟩; rw [← K3.out]) | (go_at_call 20; apply Calls.mono; with_reducible apply (iMonSum_c aP aPc aPn m.purses); (apply Rs.at0 hRm.purses; (exact kf_)); rintro E w5 ⟨rfl, rfl⟩; rw [← K1.out]) | (go_at_call 19; apply Calls.mono; with_reducible apply (iMktHeld_c aL aLc aLn aP aPc aPn aD aDc aDn aN aNc aNn aS aSc aSn m); (apply RM.at0 hRm; (exact kf_)); rintro E w4 ⟨rfl, hb⟩; rw [← K2.out]; have hst := xr hb; (try simp only [zA, zC, zD, zN] at hst); obtain ⟨hc, hf, hz⟩ := hst)); (try go_wp2_with fail); refine outS hK hdH (h := fun hH2 => ?_); clear hK K hHeld; have hHeld := hH2; clear hH2; (first | refine GoesX.take 5 54 [] hHeld (h := ?_) | refine GoesX.skip 5 54 [] hHeld (h := ?_)); (first | refine GoesX.take 6 55 [] hHeld (h := ?_) | refine GoesX.skip 6 55 [] hHeld (h := ?_)); (first | refine GoesX.take 7 56 [] hHeld (h := ?_) | refine GoesX.skip 7 56 [] hHeld (h := ?_)); (first | refine GoesX.take 8 57 [] hHeld (h := ?_) | refine GoesX.skip 8 57 [] hHeld (h := ?_)); (first | refine GoesX.take 10 59 [] hHeld (h := ?_) | refine GoesX.skip 10 59 [] hHeld (h := ?_)); (first | refine GoesX.take 11 60 [] hHeld (h := ?_) | refine GoesX.skip 11 60 [] hHeld (h := ?_)); (first | refine GoesX.take 13 62 [] hHeld (h := ?_) | refine GoesX.skip 13 62 [] hHeld (h := ?_)); refine GoesX.one 9 (h := fun K hK => ?_); go_simp; (first | (go_at_call 19; apply Calls.mono; with_reducible apply (iMktHeld_c eL eLc eLn eP ePc ePn eD eDc eDn eN eNc eNn eS eSc eSn y); (apply RM.at0 HY.out; (exact kf_)); rintro E w4 ⟨rfl, hb⟩; rw [G1.out]; have hst := xr hb; (try simp only [zA, zC, zD, zN] at hst); obtain ⟨hc, hf, hz⟩ := hst) | (go_at_call 20; apply Calls.mono; with_reducible apply (iMonSum_c eP ePc ePn y.purses); (apply Rs.at0 HY.out.purses; (exact kf_)); rintro E w5 ⟨rfl, rfl⟩; rw [← K3.out]) | (go_at_call 20; apply Calls.mono; with_reducible apply (iMonSum_c aP aPc aPn m.purses); (apply Rs.at0 hRm.purses; (exact kf_)); rintro E w5 ⟨rfl, rfl⟩; rw [← K1.out]) | (go_at_call 19; apply Calls.mono; with_reducible apply (iMktHeld_c aL aLc aLn aP aPc aPn aD aDc aDn aN aNc aNn aS aSc aSn m); (apply RM.at0 hRm; (exact kf_)); rintro E w4 ⟨rfl, hb⟩; rw [← K2.out]; have hst := xr hb; (try simp only [zA, zC, zD, zN] at hst); obtain ⟨hc, hf, hz⟩ := hst)); (try go_wp2_with fail); refine outS hK hdH (h := fun hH2 => ?_); clear hK K hHeld; have hHeld := hH2; clear hH2; refine GoesX.one 12 (h := fun K hK => ?_); go_simp; (first | (go_at_call 19; apply Calls.mono; with_reducible apply (iMktHeld_c eL eLc eLn eP ePc ePn eD eDc eDn eN eNc eNn eS eSc eSn y); (apply RM.at0 HY.out; (exact kf_)); rintro E w4 ⟨rfl, hb⟩; rw [G1.out]; have hst := xr hb; (try simp only [zA, zC, zD, zN] at hst); obtain ⟨hc, hf, hz⟩ := hst) | (go_at_call 20; apply Calls.mono; with_reducible apply (iMonSum_c eP ePc ePn y.purses); (apply Rs.at0 HY.out.purses; (exact kf_)); rintro E w5 ⟨rfl, rfl⟩; rw [← K3.out]) | (go_at_call 20; apply Calls.mono; with_reducible apply (iMonSum_c aP aPc aPn m.purses); (apply Rs.at0 hRm.purses; (exact kf_)); rintro E w5 ⟨rfl, rfl⟩; rw [← K1.out]) | (go_at_call 19; apply Calls.mono; with_reducible apply (iMktHeld_c aL aLc aLn aP aPc aPn aD aDc aDn aN aNc aNn aS aSc aSn m); (apply RM.at0 hRm; (exact kf_)); rintro E w4 ⟨rfl, hb⟩; rw [← K2.out]; have hst := xr hb; (try simp only [zA, zC, zD, zN] at hst); obtain ⟨hc, hf, hz⟩ := hst)); (try go_wp2_with fail); refine outS hK hdH (h := fun hH2 => ?_); clear hK K hHeld; have hHeld := hH2; clear hH2; refine GoesX.one 14 (h := fun K hK => ?_); go_simp; (first | (go_at_call 19; apply Calls.mono; with_reducible apply (iMktHeld_c eL eLc eLn eP ePc ePn eD eDc eDn eN eNc eNn eS eSc eSn y); (apply RM.at0 HY.out; (exact kf_)); rintro E w4 ⟨rfl, hb⟩; rw [G1.out]; have hst := xr hb; (try simp only [zA, zC, zD, zN] at hst); obtain ⟨hc, hf, hz⟩ := hst) | (go_at_call 20; apply Calls.mono; with_reducible apply (iMonSum_c eP ePc ePn y.purses); (apply Rs.at0 HY.out.purses; (exact kf_)); rintro E w5 ⟨rfl, rfl⟩; rw [← K3.out]) | (go_at_call 20; apply Calls.mono; with_reducible apply (iMonSum_c aP aPc aPn m.purses); (apply Rs.at0 hRm.purses; (exact kf_)); rintro E w5 ⟨rfl, rfl⟩; rw [← K1.out]) | (go_at_call 19; apply Calls.mono; with_reducible apply (iMktHeld_c aL aLc aLn aP aPc aPn aD aDc aDn aN aNc aNn aS aSc aSn m); (apply RM.at0 hRm; (exact kf_)); rintro E w4 ⟨rfl, hb⟩; rw [← K2.out]; have hst := xr hb; (try simp only [zA, zC, zD, zN] at hst); obtain ⟨hc, hf, hz⟩ := hst)); (try go_wp2_with fail); refine outS hK hdH (h := fun hH2 => ?_); clear hK K hHeld; have hHeld := hH2; clear hH2; (first | refine GoesX.take 15 64 [] hHeld (h := ?_) | refine GoesX.skip 15 64 [] hHeld (h := ?_)); (first | refine GoesX.take 16 65 [] hHeld (h := ?_) | refine GoesX.skip 16 65 [] hHeld (h := ?_)); (first | refine GoesX.take 17 66 [] hHeld (h := ?_) | refine GoesX.skip 17 66 [] hHeld (h := ?_)); refine GoesX.take 18 67 [] hHeld (h := ?_); refine GoesX.take 19 2 [] hHeld (h := ?_); refine GoesX.done (by kernel_rfl) ?_ _; all_goals (have hb := And.right (by assumption : Held W0 _); have hst := xr hb; (try simp only [zA, zC, zD, zN] at hst); obtain ⟨hc, hf, hz⟩ := hst)))
        all_goals go_wp2_with fail
        all_goals go_ret
        all_goals exact ⟨rfl, ext_⟩
end Go.Proofs.Ytimpagcanengoaa

