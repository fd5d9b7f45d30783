/-
  Walk: the law MktMoney.
-/
import Derived.Test.YtimpagcanengoaaPk17
namespace Go.Proofs.Ytimpagcanengoaa
set_option maxRecDepth 100000
set_option linter.unusedSimpArgs false
set_option linter.unusedVariables false
open Go.RowKit Go
set_option maxHeartbeats 1000000

theorem fnMktMoney_c (A : Option Addr) (c n : Nat) (bs : List Int) (w : World) (hxs : RB w 0 A c n bs) (hq : ∀ x ∈ bs, 0 ≤ x ∧ x ≤ 255) : Calls Try.prog 13 #[.slice A n c] w fun E w' => E = .returned (.bool true) ∧ Ex w w' := by

  have hbig := Rs.big hxs
  by_cases hn : n ≤ 1048576
  case neg =>
    go_enter Try.func13, Try.ntmps13
    go_wp2_with fail
    go_ret
    exact ⟨rfl, ext_⟩
  go_enter Try.func13, Try.ntmps13
  go_wp2_with fail
  apply Calls.mono
  apply drawMktDo_c
  · apply Rs.at0 hxs; (exact kf_)
  · exact hq
  rintro E w1 ⟨aL, aLc, aLn, aP, aPc, aPn, aD, aDc, aDn, aN, aNc, aNn, aS, aSc, aSn, m, rq, rfl, ⟨hm, hlen⟩, hb⟩
  have hst := xr hb; (try simp only [zA, zC, zD, zN] at hst); obtain ⟨hc, hf, hz⟩ := hst
  clear hxs hq hbig hn
  obtain ⟨z, hz0⟩ : ∃ z, z = Sw.mktDo m rq := ⟨_, rfl⟩
  have HZ := Lib.hid hz0
  clear hz0
  have hzz : (z.2 != z.2) = false := by simp
  go_upto_region 8 with (first | (go_at_call 26; apply Calls.mono; apply (iMktDo_c (m := m) (r := rq)); (apply RM.at0 hm; (exact kf_)); omega; rintro E w2 ⟨bL, bLc, bLn, bP, bPc, bPn, bD, bDc, bDn, bN, bNc, bNn, bS, bSc, bSn, τb, rfl, hob, hb⟩; rw [← HZ.out] at hob; rw [← HZ.out]; have hst := xr hb; (try simp only [zA, zC, zD, zN] at hst); obtain ⟨hc, hf, hz⟩ := hst) | (go_at_call 31; apply Calls.mono; apply (sMktDo_c (m := m) (r := rq)); (apply RM.at0 hm; (exact kf_)); omega; rintro E w3 ⟨vL, vLc, vLn, vP, vPc, vPn, vD, vDc, vDn, vN, vNc, vNn, vS, vSc, vSn, τv, rfl, hov, hb⟩; rw [← HZ.out] at hov; rw [← HZ.out]; have hst := xr hb; (try simp only [zA, zC, zD, zN] at hst); obtain ⟨hc, hf, hz⟩ := hst) | (go_at_call 18; apply Calls.mono; apply (swMarket_c (x := z.1) (y := z.1)); (apply OwM.rm0 hob; (exact kf_)); (apply OwM.rm0 hov; (exact kf_)); rintro E w4 ⟨rfl, hb⟩; rw [show decide (z.1 = z.1) = true from decide_eq_true rfl]; have hst := xr hb; (try simp only [zA, zC, zD, zN] at hst); obtain ⟨hc, hf, hz⟩ := hst))
  (refine wp_name ?_; intro W0 hb0; have hst := xr hb0; (try simp only [zA, zC, zD, zN] at hst); obtain ⟨hc0, hf0, hz0⟩ := hst)
  have hA : MktAt W0 w1.heap.size 0 aL aLc aLn aP aPc aPn aD aDc aDn aN aNc aNn aS aSc aSn m.clock := ⟨sz_, (by (go_simp; first | done | simp [*])), (by (go_simp; first | done | simp [*])), (by (go_simp; first | done | simp [*])), (by (go_simp; first | done | simp [*])), (by (go_simp; first | done | simp [*])), (by (go_simp; first | done | simp [*])), fun i => (by (go_simp; first | done | simp [*]))⟩
  have hQ : QAt W0 (w1.heap.size + 1) rq := ⟨sz_, (by (go_simp; first | done | simp [*])), (by (go_simp; first | done | simp [*])), (by (go_simp; first | done | simp [*])), (by (go_simp; first | done | simp [*])), (by (go_simp; first | done | simp [*])), (by (go_simp; first | done | simp [*])), fun i => (by (go_simp; first | done | simp [*]))⟩
  have hX : MktAt W0 w2.heap.size 0 bL bLc bLn bP bPc bPn bD bDc bDn bN bNc bNn bS bSc bSn z.1.clock := ⟨sz_, (by (go_simp; first | done | simp [*])), (by (go_simp; first | done | simp [*])), (by (go_simp; first | done | simp [*])), (by (go_simp; first | done | simp [*])), (by (go_simp; first | done | simp [*])), (by (go_simp; first | done | simp [*])), fun i => (by (go_simp; first | done | simp [*]))⟩
  have hRM : RM W0 0 aL aLc aLn aP aPc aPn aD aDc aDn aN aNc aNn aS aSc aSn m := RM.at0 hm kf_
  have hRX : RM W0 0 bL bLc bLn bP bPc bPn bD bDc bDn bN bNc bNn bS bSc bSn z.1 := OwM.rm0 hob kf_
  have HE : ExH w W0 := ⟨ext_⟩
  obtain ⟨gm, hgm⟩ : ∃ g, g = w1.heap.size := ⟨_, rfl⟩
  obtain ⟨gr, hgr⟩ : ∃ g, g = w1.heap.size + 1 := ⟨_, rfl⟩
  obtain ⟨gx, hgx⟩ : ∃ g, g = w2.heap.size := ⟨_, rfl⟩
  rw [← hgr] at hQ
  rw [← hgm] at hA
  rw [← hgx] at hX
  (try rw [← hgr])
  (try rw [← hgm])
  (try rw [← hgx])
  clear hgm hgr hgx hob hov hm hb hb0 hc hc0 hf hf0 hz hz0
  ((repeat (rename Ch _ _ _ => zz; clear zz)); (repeat (rename Rdp _ _ _ => zz; clear zz)); (repeat (rename (∀ (b o : Nat), ¬ ((⟨b, 0, none⟩ : Addr) = ⟨b - _ + _, 0, none⟩) → _) => zz; clear zz)))
  have hb := HE.out
  clear HE
  obtain ⟨a0, a1, a2, a3, a4, a5, a6, af⟩ := hA
  obtain ⟨r0, r1, r2, r3, r4, r5, r6, rf⟩ := hQ
  obtain ⟨x0, x1, x2, x3, x4, x5, x6, xf⟩ := hX
  simp only [Nat.zero_add] at a1 a2 a3 a4 a5 a6 x1 x2 x3 x4 x5 x6

  rcases Sw.valid m rq with ⟨g0, hd0⟩ | ⟨rows, hok0, g1, g2, hd0, hokx0, n1, n7⟩
  case' inr =>
    rw [← HZ.out] at hd0
    rw [← hd0] at hokx0 n1 n7
    obtain ⟨rowx, hokx0⟩ := hokx0
    have HO := Lib.hid hok0
    have HG := Lib.hid g1
    have HR := Lib.hid g2
    have HD := Lib.hid hd0
    have HX := Lib.hid hokx0
    have HGX := Lib.hid (Sw.mktOk_iff.2 ⟨rowx, hokx0⟩)
    have hzl := mktDo_len m rq
    rw [← HZ.out] at hzl
    have hxl := hRX.len
    clear hok0 g1 g2 hd0 hokx0
  case' inl =>
    rw [← HZ.out] at hd0
    have Z1 := Lib.hid (congrArg Prod.fst hd0)
    have z2 : z.2 = 0 := congrArg Prod.snd hd0
    have G0 := Lib.hid g0
    clear hd0 g0
  · have hb0 : bPn = 0 := hRX.purses.1.trans (by rw [Z1.out]; rfl)
    subst hb0
    go_wp2_with (first | (go_at_call 22; refine (swOk_c _).mono ?_; rintro E w' ⟨rfl, rfl⟩) | fail)
    go_ret
    exact ⟨rfl, ext_⟩
  have z0 : (z.2 == 0) = false := by simp; omega
  have hk := Sw.kept HO.out HR.out
  rw [← HD.out] at hk
  obtain ⟨s1, e1⟩ : ∃ s, s = Sw.monSum m.purses := ⟨_, rfl⟩
  obtain ⟨s2, e2⟩ : ∃ s, s = Sw.mktHeld m := ⟨_, rfl⟩
  obtain ⟨s3, e3⟩ : ∃ s, s = Sw.monSum z.1.purses := ⟨_, rfl⟩
  obtain ⟨s4, e4⟩ : ∃ s, s = Sw.mktHeld z.1 := ⟨_, rfl⟩
  rw [← e1, ← e2, ← e3, ← e4] at hk
  obtain ⟨y, ey⟩ : ∃ y, y = Sw.mktTick z.1 := ⟨_, rfl⟩
  obtain ⟨s5, e5⟩ : ∃ s, s = Sw.monSum y.1.purses := ⟨_, rfl⟩
  obtain ⟨s6, e6⟩ : ∃ s, s = Sw.mktHeld y.1 := ⟨_, rfl⟩
  have hk2 : s5 + s6 = s1 + s2 := by
    rw [e5, e6, ← hk, e3, e4, ey]
    by_cases hc : z.1.clock = 99999
    · rw [show Sw.mktTick z.1 = (z.1, false) from by simp [Sw.mktTick, HGX.out, hc]]
    · rw [show Sw.mktTick z.1 = (Sw.tick z.1, true) from by simp [Sw.mktTick, HGX.out, hc]]
      exact Sw.kept_tick HX.out hc
  have K1 := Lib.hid e1; have K2 := Lib.hid e2; have K3 := Lib.hid e3; have K4 := Lib.hid e4; have K5 := Lib.hid e5; have K6 := Lib.hid e6; have KY := Lib.hid ey
  clear e1 e2 e3 e4 e5 e6 ey
  have ww : (IntKind.i64.wrap (s1 + s2) == IntKind.i64.wrap (s1 + s2)) = true := by simp
  go_wp2_with fail
  (focus (refine wp_name ?_; intro W0 hb0; have hst := xr hb0; (try simp only [zA, zC, zD, zN] at hst); obtain ⟨hc0, hf0, hz0⟩ := hst; refine wp_regionX [] (S := fun w' => Held W0 w') hdH (fun hHeld => ?_); refine GoesX.take 0 50 [] hHeld (h := ?_); refine GoesX.take 1 51 [] hHeld (h := ?_); refine GoesX.take 3 53 [] hHeld (h := ?_); refine GoesX.one 2 (h := fun K hK => ?_); go_simp; (first | (go_at_call 20; apply Calls.mono; with_reducible apply (iMonSum_c aP aPc aPn m.purses); (apply Rs.at0 hRM.purses; (exact kf_)); rintro E w4 ⟨rfl, rfl⟩; rw [← K1.out]) | (go_at_call 19; apply Calls.mono; with_reducible apply (iMktHeld_c aL aLc aLn aP aPc aPn aD aDc aDn aN aNc aNn aS aSc aSn m); (apply RM.at0 hRM; (exact kf_)); rintro E w5 ⟨rfl, hb⟩; rw [← K2.out]; have hst := xr hb; (try simp only [zA, zC, zD, zN] at hst); obtain ⟨hc, hf, hz⟩ := hst)); (try go_wp2_with fail); refine outS hK hdH (h := fun hH2 => ?_); clear hK K hHeld; have hHeld := hH2; clear hH2; refine GoesX.one 4 (h := fun K hK => ?_); go_simp; (first | (go_at_call 20; apply Calls.mono; with_reducible apply (iMonSum_c aP aPc aPn m.purses); (apply Rs.at0 hRM.purses; (exact kf_)); rintro E w4 ⟨rfl, rfl⟩; rw [← K1.out]) | (go_at_call 19; apply Calls.mono; with_reducible apply (iMktHeld_c aL aLc aLn aP aPc aPn aD aDc aDn aN aNc aNn aS aSc aSn m); (apply RM.at0 hRM; (exact kf_)); rintro E w5 ⟨rfl, hb⟩; rw [← K2.out]; have hst := xr hb; (try simp only [zA, zC, zD, zN] at hst); obtain ⟨hc, hf, hz⟩ := hst)); (try go_wp2_with fail); refine outS hK hdH (h := fun hH2 => ?_); clear hK K hHeld; have hHeld := hH2; clear hH2; refine GoesX.take 5 55 [] hHeld (h := ?_); refine GoesX.take 6 9 [] hHeld (h := ?_); refine GoesX.done (by kernel_rfl) ?_ _; all_goals (have hb := And.right (by assumption : Held W0 _); have hst := xr hb; (try simp only [zA, zC, zD, zN] at hst); obtain ⟨hc, hf, hz⟩ := hst)))
  go_wp2_with (go_at_call 16; apply Calls.mono; apply (iMktTick_c (m := z.1)); (apply RM.at0 hRX; (exact kf_)); (simp only [Sw.Mkt.len] at hxl hzl; omega); rintro E w6 ⟨eL, eLc, eLn, eP, ePc, ePn, eD, eDc, eDn, eN, eNc, eNn, eS, eSc, eSn, τe, rfl, hoe, hb⟩; rw [← KY.out] at hoe; rw [← KY.out]; have hst := xr hb; (try simp only [zA, zC, zD, zN] at hst); obtain ⟨hc, hf, hz⟩ := hst)
  cases hy2 : y.2
  · (focus (refine wp_name ?_; intro W0 hb0; have hst := xr hb0; (try simp only [zA, zC, zD, zN] at hst); obtain ⟨hc0, hf0, hz0⟩ := hst; refine wp_regionX [] (S := fun w' => Held W0 w') hdH (fun hHeld => ?_); refine GoesX.take 0 61 [] hHeld (h := ?_); refine GoesX.take 1 62 [] hHeld (h := ?_); refine GoesX.take 3 64 [] hHeld (h := ?_); refine GoesX.take 6 67 [] hHeld (h := ?_); refine GoesX.one 2 (h := fun K hK => ?_); go_simp; (first | (go_at_call 20; apply Calls.mono; with_reducible apply (iMonSum_c bP bPc bPn z.1.purses); (apply Rs.at0 hRX.purses; (exact kf_)); rintro E w4 ⟨rfl, rfl⟩; rw [← K3.out]) | (go_at_call 19; apply Calls.mono; with_reducible apply (iMktHeld_c bL bLc bLn bP bPc bPn bD bDc bDn bN bNc bNn bS bSc bSn z.1); (apply RM.at0 hRX; (exact kf_)); rintro E w5 ⟨rfl, hb⟩; rw [← K4.out]; have hst := xr hb; (try simp only [zA, zC, zD, zN] at hst); obtain ⟨hc, hf, hz⟩ := hst) | (go_at_call 20; apply Calls.mono; with_reducible apply (iMonSum_c eP ePc ePn y.1.purses); (apply Rs.at0 (OwM.rm0 hoe kf_).purses; (exact kf_)); rintro E w4 ⟨rfl, rfl⟩; rw [← K5.out]) | (go_at_call 19; apply Calls.mono; with_reducible apply (iMktHeld_c eL eLc eLn eP ePc ePn eD eDc eDn eN eNc eNn eS eSc eSn y.1); (apply OwM.rm0 hoe; (exact kf_)); rintro E w5 ⟨rfl, hb⟩; rw [← K6.out]; have hst := xr hb; (try simp only [zA, zC, zD, zN] at hst); obtain ⟨hc, hf, hz⟩ := hst)); (try go_wp2_with fail); refine outS hK hdH (h := fun hH2 => ?_); clear hK K hHeld; have hHeld := hH2; clear hH2; refine GoesX.one 4 (h := fun K hK => ?_); go_simp; (first | (go_at_call 20; apply Calls.mono; with_reducible apply (iMonSum_c bP bPc bPn z.1.purses); (apply Rs.at0 hRX.purses; (exact kf_)); rintro E w4 ⟨rfl, rfl⟩; rw [← K3.out]) | (go_at_call 19; apply Calls.mono; with_reducible apply (iMktHeld_c bL bLc bLn bP bPc bPn bD bDc bDn bN bNc bNn bS bSc bSn z.1); (apply RM.at0 hRX; (exact kf_)); rintro E w5 ⟨rfl, hb⟩; rw [← K4.out]; have hst := xr hb; (try simp only [zA, zC, zD, zN] at hst); obtain ⟨hc, hf, hz⟩ := hst) | (go_at_call 20; apply Calls.mono; with_reducible apply (iMonSum_c eP ePc ePn y.1.purses); (apply Rs.at0 (OwM.rm0 hoe kf_).purses; (exact kf_)); rintro E w4 ⟨rfl, rfl⟩; rw [← K5.out]) | (go_at_call 19; apply Calls.mono; with_reducible apply (iMktHeld_c eL eLc eLn eP ePc ePn eD eDc eDn eN eNc eNn eS eSc eSn y.1); (apply OwM.rm0 hoe; (exact kf_)); rintro E w5 ⟨rfl, hb⟩; rw [← K6.out]; have hst := xr hb; (try simp only [zA, zC, zD, zN] at hst); obtain ⟨hc, hf, hz⟩ := hst)); (try go_wp2_with fail); refine outS hK hdH (h := fun hH2 => ?_); clear hK K hHeld; have hHeld := hH2; clear hH2; refine GoesX.take 5 66 [] hHeld (h := ?_); refine GoesX.take 7 68 [] hHeld (h := ?_); refine GoesX.take 8 69 [] hHeld (h := ?_); (first | refine GoesX.take 9 70 [] hHeld (h := ?_) | refine GoesX.skip 9 70 [] hHeld (h := ?_)); (first | refine GoesX.take 10 71 [] hHeld (h := ?_) | refine GoesX.skip 10 71 [] hHeld (h := ?_)); (first | refine GoesX.take 11 72 [] hHeld (h := ?_) | refine GoesX.skip 11 72 [] hHeld (h := ?_)); (first | refine GoesX.take 12 73 [] hHeld (h := ?_) | refine GoesX.skip 12 73 [] hHeld (h := ?_)); (first | refine GoesX.take 13 74 [] hHeld (h := ?_) | refine GoesX.skip 13 74 [] hHeld (h := ?_)); refine GoesX.skip 14 75 [16, 17, 19, 20, 21, 22] hHeld (h := ?_); (first | refine GoesX.take 15 76 [] hHeld (h := ?_) | refine GoesX.skip 15 76 [] hHeld (h := ?_)); refine GoesX.skip 16 77 [17, 19, 20, 21, 22] hHeld (h := ?_); (first | refine GoesX.take 17 78 [] hHeld (h := ?_) | refine GoesX.skip 17 78 [] hHeld (h := ?_)); (first | refine GoesX.take 18 79 [] hHeld (h := ?_) | refine GoesX.skip 18 79 [] hHeld (h := ?_)); (first | refine GoesX.take 19 80 [] hHeld (h := ?_) | refine GoesX.skip 19 80 [] hHeld (h := ?_)); (first | refine GoesX.take 20 81 [] hHeld (h := ?_) | refine GoesX.skip 20 81 [] hHeld (h := ?_)); refine GoesX.take 21 82 [] hHeld (h := ?_); refine GoesX.take 22 2 [] hHeld (h := ?_); refine GoesX.done (by kernel_rfl) ?_ _; all_goals (have hb := And.right (by assumption : Held W0 _); have hst := xr hb; (try simp only [zA, zC, zD, zN] at hst); obtain ⟨hc, hf, hz⟩ := hst)))
    go_wp2_with fail
    go_ret
    exact ⟨rfl, ext_⟩
  · (focus (refine wp_name ?_; intro W0 hb0; have hst := xr hb0; (try simp only [zA, zC, zD, zN] at hst); obtain ⟨hc0, hf0, hz0⟩ := hst; refine wp_regionX [] (S := fun w' => Held W0 w') hdH (fun hHeld => ?_); refine GoesX.take 0 61 [] hHeld (h := ?_); refine GoesX.take 1 62 [] hHeld (h := ?_); refine GoesX.take 3 64 [] hHeld (h := ?_); refine GoesX.take 6 67 [] hHeld (h := ?_); refine GoesX.one 2 (h := fun K hK => ?_); go_simp; (first | (go_at_call 20; apply Calls.mono; with_reducible apply (iMonSum_c bP bPc bPn z.1.purses); (apply Rs.at0 hRX.purses; (exact kf_)); rintro E w4 ⟨rfl, rfl⟩; rw [← K3.out]) | (go_at_call 19; apply Calls.mono; with_reducible apply (iMktHeld_c bL bLc bLn bP bPc bPn bD bDc bDn bN bNc bNn bS bSc bSn z.1); (apply RM.at0 hRX; (exact kf_)); rintro E w5 ⟨rfl, hb⟩; rw [← K4.out]; have hst := xr hb; (try simp only [zA, zC, zD, zN] at hst); obtain ⟨hc, hf, hz⟩ := hst) | (go_at_call 20; apply Calls.mono; with_reducible apply (iMonSum_c eP ePc ePn y.1.purses); (apply Rs.at0 (OwM.rm0 hoe kf_).purses; (exact kf_)); rintro E w4 ⟨rfl, rfl⟩; rw [← K5.out]) | (go_at_call 19; apply Calls.mono; with_reducible apply (iMktHeld_c eL eLc eLn eP ePc ePn eD eDc eDn eN eNc eNn eS eSc eSn y.1); (apply OwM.rm0 hoe; (exact kf_)); rintro E w5 ⟨rfl, hb⟩; rw [← K6.out]; have hst := xr hb; (try simp only [zA, zC, zD, zN] at hst); obtain ⟨hc, hf, hz⟩ := hst)); (try go_wp2_with fail); refine outS hK hdH (h := fun hH2 => ?_); clear hK K hHeld; have hHeld := hH2; clear hH2; refine GoesX.one 4 (h := fun K hK => ?_); go_simp; (first | (go_at_call 20; apply Calls.mono; with_reducible apply (iMonSum_c bP bPc bPn z.1.purses); (apply Rs.at0 hRX.purses; (exact kf_)); rintro E w4 ⟨rfl, rfl⟩; rw [← K3.out]) | (go_at_call 19; apply Calls.mono; with_reducible apply (iMktHeld_c bL bLc bLn bP bPc bPn bD bDc bDn bN bNc bNn bS bSc bSn z.1); (apply RM.at0 hRX; (exact kf_)); rintro E w5 ⟨rfl, hb⟩; rw [← K4.out]; have hst := xr hb; (try simp only [zA, zC, zD, zN] at hst); obtain ⟨hc, hf, hz⟩ := hst) | (go_at_call 20; apply Calls.mono; with_reducible apply (iMonSum_c eP ePc ePn y.1.purses); (apply Rs.at0 (OwM.rm0 hoe kf_).purses; (exact kf_)); rintro E w4 ⟨rfl, rfl⟩; rw [← K5.out]) | (go_at_call 19; apply Calls.mono; with_reducible apply (iMktHeld_c eL eLc eLn eP ePc ePn eD eDc eDn eN eNc eNn eS eSc eSn y.1); (apply OwM.rm0 hoe; (exact kf_)); rintro E w5 ⟨rfl, hb⟩; rw [← K6.out]; have hst := xr hb; (try simp only [zA, zC, zD, zN] at hst); obtain ⟨hc, hf, hz⟩ := hst)); (try go_wp2_with fail); refine outS hK hdH (h := fun hH2 => ?_); clear hK K hHeld; have hHeld := hH2; clear hH2; refine GoesX.take 5 66 [] hHeld (h := ?_); refine GoesX.take 7 68 [] hHeld (h := ?_); refine GoesX.take 8 69 [] hHeld (h := ?_); (first | refine GoesX.take 9 70 [] hHeld (h := ?_) | refine GoesX.skip 9 70 [] hHeld (h := ?_)); (first | refine GoesX.take 10 71 [] hHeld (h := ?_) | refine GoesX.skip 10 71 [] hHeld (h := ?_)); (first | refine GoesX.take 11 72 [] hHeld (h := ?_) | refine GoesX.skip 11 72 [] hHeld (h := ?_)); (first | refine GoesX.take 12 73 [] hHeld (h := ?_) | refine GoesX.skip 12 73 [] hHeld (h := ?_)); (first | refine GoesX.take 13 74 [] hHeld (h := ?_) | refine GoesX.skip 13 74 [] hHeld (h := ?_)); (first | refine GoesX.take 15 76 [] hHeld (h := ?_) | refine GoesX.skip 15 76 [] hHeld (h := ?_)); (first | refine GoesX.take 18 79 [] hHeld (h := ?_) | refine GoesX.skip 18 79 [] hHeld (h := ?_)); refine GoesX.one 14 (h := fun K hK => ?_); go_simp; (first | (go_at_call 20; apply Calls.mono; with_reducible apply (iMonSum_c bP bPc bPn z.1.purses); (apply Rs.at0 hRX.purses; (exact kf_)); rintro E w4 ⟨rfl, rfl⟩; rw [← K3.out]) | (go_at_call 19; apply Calls.mono; with_reducible apply (iMktHeld_c bL bLc bLn bP bPc bPn bD bDc bDn bN bNc bNn bS bSc bSn z.1); (apply RM.at0 hRX; (exact kf_)); rintro E w5 ⟨rfl, hb⟩; rw [← K4.out]; have hst := xr hb; (try simp only [zA, zC, zD, zN] at hst); obtain ⟨hc, hf, hz⟩ := hst) | (go_at_call 20; apply Calls.mono; with_reducible apply (iMonSum_c eP ePc ePn y.1.purses); (apply Rs.at0 (OwM.rm0 hoe kf_).purses; (exact kf_)); rintro E w4 ⟨rfl, rfl⟩; rw [← K5.out]) | (go_at_call 19; apply Calls.mono; with_reducible apply (iMktHeld_c eL eLc eLn eP ePc ePn eD eDc eDn eN eNc eNn eS eSc eSn y.1); (apply OwM.rm0 hoe; (exact kf_)); rintro E w5 ⟨rfl, hb⟩; rw [← K6.out]; have hst := xr hb; (try simp only [zA, zC, zD, zN] at hst); obtain ⟨hc, hf, hz⟩ := hst)); (try go_wp2_with fail); refine outS hK hdH (h := fun hH2 => ?_); clear hK K hHeld; have hHeld := hH2; clear hH2; refine GoesX.one 16 (h := fun K hK => ?_); go_simp; (first | (go_at_call 20; apply Calls.mono; with_reducible apply (iMonSum_c bP bPc bPn z.1.purses); (apply Rs.at0 hRX.purses; (exact kf_)); rintro E w4 ⟨rfl, rfl⟩; rw [← K3.out]) | (go_at_call 19; apply Calls.mono; with_reducible apply (iMktHeld_c bL bLc bLn bP bPc bPn bD bDc bDn bN bNc bNn bS bSc bSn z.1); (apply RM.at0 hRX; (exact kf_)); rintro E w5 ⟨rfl, hb⟩; rw [← K4.out]; have hst := xr hb; (try simp only [zA, zC, zD, zN] at hst); obtain ⟨hc, hf, hz⟩ := hst) | (go_at_call 20; apply Calls.mono; with_reducible apply (iMonSum_c eP ePc ePn y.1.purses); (apply Rs.at0 (OwM.rm0 hoe kf_).purses; (exact kf_)); rintro E w4 ⟨rfl, rfl⟩; rw [← K5.out]) | (go_at_call 19; apply Calls.mono; with_reducible apply (iMktHeld_c eL eLc eLn eP ePc ePn eD eDc eDn eN eNc eNn eS eSc eSn y.1); (apply OwM.rm0 hoe; (exact kf_)); rintro E w5 ⟨rfl, hb⟩; rw [← K6.out]; have hst := xr hb; (try simp only [zA, zC, zD, zN] at hst); obtain ⟨hc, hf, hz⟩ := hst)); (try go_wp2_with fail); refine outS hK hdH (h := fun hH2 => ?_); clear hK K hHeld; have hHeld := hH2; clear hH2; (first | refine GoesX.take 17 78 [] hHeld (h := ?_) | refine GoesX.skip 17 78 [] hHeld (h := ?_)); (first | refine GoesX.take 19 80 [] hHeld (h := ?_) | refine GoesX.skip 19 80 [] hHeld (h := ?_)); (first | refine GoesX.take 20 81 [] hHeld (h := ?_) | refine GoesX.skip 20 81 [] hHeld (h := ?_)); refine GoesX.take 21 82 [] hHeld (h := ?_); refine GoesX.take 22 2 [] hHeld (h := ?_); refine GoesX.done (by kernel_rfl) ?_ _; all_goals (have hb := And.right (by assumption : Held W0 _); have hst := xr hb; (try simp only [zA, zC, zD, zN] at hst); obtain ⟨hc, hf, hz⟩ := hst)))
    go_wp2_with fail
    go_ret
    exact ⟨rfl, ext_⟩
end Go.Proofs.Ytimpagcanengoaa

