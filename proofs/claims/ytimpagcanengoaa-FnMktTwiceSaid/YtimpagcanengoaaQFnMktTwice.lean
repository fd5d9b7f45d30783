/-
  Walk: the law MktTwice.
-/
import Derived.Test.YtimpagcanengoaaPk17
namespace Go.Proofs.Ytimpagcanengoaa
set_option maxRecDepth 100000
set_option linter.unusedSimpArgs false
set_option linter.unusedVariables false
open Go.RowKit Go
set_option maxHeartbeats 1000000

theorem fnMktTwice_c (A : Option Addr) (c n : Nat) (bs : List Int) (w : World) (hxs : RB w 0 A c n bs) (hq : ∀ x ∈ bs, 0 ≤ x ∧ x ≤ 255) : Calls Try.prog 9 #[.slice A n c] w fun E w' => E = .returned (.bool true) ∧ Ex w w' := by

  have hbig := Rs.big hxs
  by_cases hn : n ≤ 1048576
  case neg =>
    go_enter Try.func9, Try.ntmps9
    go_wp2_with fail
    go_ret
    exact ⟨rfl, ext_⟩
  go_enter Try.func9, Try.ntmps9
  go_wp2_with fail
  apply Calls.mono
  apply drawMktDo_c
  · apply Rs.at0 hxs; (exact kf_)
  · exact hq
  rintro E w1 ⟨aL, aLc, aLn, aP, aPc, aPn, aD, aDc, aDn, aN, aNc, aNn, aS, aSc, aSn, m, rq, rfl, ⟨hm, hlen⟩, hb⟩
  have hst := xr hb; (try simp only [zA, zC, zD, zN] at hst); obtain ⟨hc, hf, hz⟩ := hst
  clear hxs hq hbig hn
  obtain ⟨z, hz0⟩ : ∃ z, z = Sw.mktDo m rq := ⟨_, rfl⟩
  have HZ := Lib.hid hz0
  clear hz0
  have hzz : (z.2 != z.2) = false := by simp
  go_upto_region 8 with (first | (go_at_call 26; apply Calls.mono; apply (iMktDo_c (m := m) (r := rq)); (apply RM.at0 hm; (exact kf_)); omega; rintro E w2 ⟨bL, bLc, bLn, bP, bPc, bPn, bD, bDc, bDn, bN, bNc, bNn, bS, bSc, bSn, τb, rfl, hob, hb⟩; rw [← HZ.out] at hob; rw [← HZ.out]; have hst := xr hb; (try simp only [zA, zC, zD, zN] at hst); obtain ⟨hc, hf, hz⟩ := hst) | (go_at_call 31; apply Calls.mono; apply (sMktDo_c (m := m) (r := rq)); (apply RM.at0 hm; (exact kf_)); omega; rintro E w3 ⟨vL, vLc, vLn, vP, vPc, vPn, vD, vDc, vDn, vN, vNc, vNn, vS, vSc, vSn, τv, rfl, hov, hb⟩; rw [← HZ.out] at hov; rw [← HZ.out]; have hst := xr hb; (try simp only [zA, zC, zD, zN] at hst); obtain ⟨hc, hf, hz⟩ := hst) | (go_at_call 18; apply Calls.mono; apply (swMarket_c (x := z.1) (y := z.1)); (apply OwM.rm0 hob; (exact kf_)); (apply OwM.rm0 hov; (exact kf_)); rintro E w4 ⟨rfl, hb⟩; rw [show decide (z.1 = z.1) = true from decide_eq_true rfl]; have hst := xr hb; (try simp only [zA, zC, zD, zN] at hst); obtain ⟨hc, hf, hz⟩ := hst))
  (refine wp_name ?_; intro W0 hb0; have hst := xr hb0; (try simp only [zA, zC, zD, zN] at hst); obtain ⟨hc0, hf0, hz0⟩ := hst)
  have hA : MktAt W0 w1.heap.size 0 aL aLc aLn aP aPc aPn aD aDc aDn aN aNc aNn aS aSc aSn m.clock := ⟨sz_, (by (go_simp; first | done | simp [*])), (by (go_simp; first | done | simp [*])), (by (go_simp; first | done | simp [*])), (by (go_simp; first | done | simp [*])), (by (go_simp; first | done | simp [*])), (by (go_simp; first | done | simp [*])), fun i => (by (go_simp; first | done | simp [*]))⟩
  have hQ : QAt W0 (w1.heap.size + 1) rq := ⟨sz_, (by (go_simp; first | done | simp [*])), (by (go_simp; first | done | simp [*])), (by (go_simp; first | done | simp [*])), (by (go_simp; first | done | simp [*])), (by (go_simp; first | done | simp [*])), (by (go_simp; first | done | simp [*])), fun i => (by (go_simp; first | done | simp [*]))⟩
  have hX : MktAt W0 w2.heap.size 0 bL bLc bLn bP bPc bPn bD bDc bDn bN bNc bNn bS bSc bSn z.1.clock := ⟨sz_, (by (go_simp; first | done | simp [*])), (by (go_simp; first | done | simp [*])), (by (go_simp; first | done | simp [*])), (by (go_simp; first | done | simp [*])), (by (go_simp; first | done | simp [*])), (by (go_simp; first | done | simp [*])), fun i => (by (go_simp; first | done | simp [*]))⟩
  have hRM : RM W0 0 aL aLc aLn aP aPc aPn aD aDc aDn aN aNc aNn aS aSc aSn m := RM.at0 hm kf_
  have hRX : RM W0 0 bL bLc bLn bP bPc bPn bD bDc bDn bN bNc bNn bS bSc bSn z.1 := OwM.rm0 hob kf_
  have HE : ExH w W0 := ⟨ext_⟩
  obtain ⟨gm, hgm⟩ : ∃ g, g = w1.heap.size := ⟨_, rfl⟩
  obtain ⟨gr, hgr⟩ : ∃ g, g = w1.heap.size + 1 := ⟨_, rfl⟩
  obtain ⟨gx, hgx⟩ : ∃ g, g = w2.heap.size := ⟨_, rfl⟩
  rw [← hgr] at hQ
  rw [← hgm] at hA
  rw [← hgx] at hX
  (try rw [← hgr])
  (try rw [← hgm])
  (try rw [← hgx])
  clear hgm hgr hgx hob hov hm hb hb0 hc hc0 hf hf0 hz hz0
  ((repeat (rename Ch _ _ _ => zz; clear zz)); (repeat (rename Rdp _ _ _ => zz; clear zz)); (repeat (rename (∀ (b o : Nat), ¬ ((⟨b, 0, none⟩ : Addr) = ⟨b - _ + _, 0, none⟩) → _) => zz; clear zz)))
  have hb := HE.out
  clear HE
  obtain ⟨a0, a1, a2, a3, a4, a5, a6, af⟩ := hA
  obtain ⟨r0, r1, r2, r3, r4, r5, r6, rf⟩ := hQ
  obtain ⟨x0, x1, x2, x3, x4, x5, x6, xf⟩ := hX
  simp only [Nat.zero_add] at a1 a2 a3 a4 a5 a6 x1 x2 x3 x4 x5 x6

  rcases Sw.valid m rq with ⟨g0, hd0⟩ | ⟨rows, hok0, g1, g2, hd0, hokx0, n1, n7⟩
  case' inr =>
    rw [← HZ.out] at hd0
    rw [← hd0] at hokx0 n1 n7
    obtain ⟨rowx, hokx0⟩ := hokx0
    have HO := Lib.hid hok0
    have HG := Lib.hid g1
    have HR := Lib.hid g2
    have HD := Lib.hid hd0
    have HX := Lib.hid hokx0
    have HGX := Lib.hid (Sw.mktOk_iff.2 ⟨rowx, hokx0⟩)
    have hzl := mktDo_len m rq
    rw [← HZ.out] at hzl
    have hxl := hRX.len
    clear hok0 g1 g2 hd0 hokx0
  case' inl =>
    rw [← HZ.out] at hd0
    have Z1 := Lib.hid (congrArg Prod.fst hd0)
    have z2 : z.2 = 0 := congrArg Prod.snd hd0
    have G0 := Lib.hid g0
    clear hd0 g0
  · have hb0 : bLn = 0 := hRX.log.1.trans (by rw [Z1.out]; rfl)
    subst hb0
    go_wp2_with (first | (go_at_call 22; refine (swOk_c _).mono ?_; rintro E w' ⟨rfl, rfl⟩) | fail)
    go_ret
    exact ⟨rfl, ext_⟩
  have hq := (Sw.reqOk_iff.1 HR.out).1
  obtain ⟨k, hk⟩ : ∃ k : Nat, rq.user = k + 1 := ⟨(rq.user - 1).toNat, by omega⟩
  have hk5 : k < 5 := by omega
  clear hq
  obtain ⟨e1, e2⟩ := Sw.asked HO.out HR.out
  have key : Sw.mktDo z.1 rq = z := by
    rw [Sw.mktDo_y HGX.out HR.out, HD.out]; exact e1
  have KY := Lib.hid key
  clear key e1
  have hnx : bNn = 5 := hRX.nums.1.trans HX.out.nlen
  have hnm : aNn = 5 := hRM.nums.1.trans HO.out.nlen
  subst hnx hnm
  obtain ⟨gX, oX, yX, rfl, hgX0, hgX, -, hyX, hcX⟩ := at_I hRX.nums hk5
  obtain ⟨gM, oM, yM, rfl, hgM0, hgM, -, hyM, hcM⟩ := at_I hRM.nums hk5
  have lX : Sw.lastOf z.1.nums rq.user = yX := by
    unfold Sw.lastOf; rw [hk, show (((k : Int) + 1) - 1).toNat = k from by omega]; exact Sw.getD_of hyX
  have lM : Sw.lastOf m.nums rq.user = yM := by
    unfold Sw.lastOf; rw [hk, show (((k : Int) + 1) - 1).toNat = k from by omega]; exact Sw.getD_of hyM
  rw [← HD.out, lX, lM] at e2
  have z0 : (z.2 == 0) = false := by simp; omega
  have t2 : IntKind.i64.wrap ((k : Int) + 1 - 1) = k := by rw [IntWalk.i64_in _ (by omega)]; omega
  have t3 : IntKind.i64.wrap (k : Int) = k := IntWalk.i64_in _ (by omega)
  clear hyX hyM lX lM
  have HK := Lib.hid hk
  clear hk
  have zz : (z.2 == z.2) = true := by simp
  have t0 : (0 : Int) ≤ (k : Int) := by omega
  have t5 : (k : Int) < 5 := by omega
  rcases e2 with ⟨c1, c2, c3⟩ | ⟨c1, c2, c3⟩
  · have z7 : (z.2 == 7) = true := by simp [c1]
    have hxm := Lib.hid (show decide (z.1 = m) = true from decide_eq_true c2)
    have cn : decide (rq.n < yM) = true := decide_eq_true c3
    clear c1 c2 c3
    go_wp2_with (go_at_call 26; apply Calls.mono; with_reducible apply (iMktDo_c (m := z.1) (r := rq)); (apply RM.at0 hRX; (exact kf_)); (simp only [Sw.Mkt.len] at hxl hzl; omega); rintro E w6 ⟨eL, eLc, eLn, eP, ePc, ePn, eD, eDc, eDn, eN, eNc, eNn, eS, eSc, eSn, τe, rfl, hoe, hb⟩; rw [KY.out] at hoe; rw [KY.out]; have hst := xr hb; (try simp only [zA, zC, zD, zN] at hst); obtain ⟨hc, hf, hz⟩ := hst)
    rw [HK.out] at r1
    (focus (refine wp_name ?_; intro W0 hb0; have hst := xr hb0; (try simp only [zA, zC, zD, zN] at hst); obtain ⟨hc0, hf0, hz0⟩ := hst; refine wp_regionX [] (S := fun w' => Held W0 w') hdH (fun hHeld => ?_); refine GoesX.take 0 57 [] hHeld (h := ?_); refine GoesX.take 1 58 [] hHeld (h := ?_); refine GoesX.take 2 59 [] hHeld (h := ?_); refine GoesX.take 3 60 [] hHeld (h := ?_); (first | refine GoesX.take 4 61 [] hHeld (h := ?_) | refine GoesX.skip 4 61 [] hHeld (h := ?_)); (first | refine GoesX.take 5 62 [] hHeld (h := ?_) | refine GoesX.skip 5 62 [] hHeld (h := ?_)); refine GoesX.one 6 (h := fun K hK => ?_); go_simp; (go_at_call 18; apply Calls.mono; with_reducible apply (swMarket_c bL bLc bLn bP bPc bPn bD bDc bDn (some ⟨gX, oX, none⟩) bNc 5 bS bSc bSn z.1 aL aLc aLn aP aPc aPn aD aDc aDn (some ⟨gM, oM, none⟩) aNc 5 aS aSc aSn m); (apply RM.at0 hRX; (exact kf_)); (apply RM.at0 hRM; (exact kf_)); rintro E w7 ⟨rfl, hb⟩; rw [hxm.out]; have hst := xr hb; (try simp only [zA, zC, zD, zN] at hst); obtain ⟨hc, hf, hz⟩ := hst); (try go_wp2_with fail); refine outS hK hdH (h := fun hH2 => ?_); clear hK K hHeld; have hHeld := hH2; clear hH2; refine GoesX.take 7 64 [] hHeld (h := ?_); refine GoesX.take 8 65 [] hHeld (h := ?_); (first | refine GoesX.take 9 66 [] hHeld (h := ?_) | refine GoesX.skip 9 66 [] hHeld (h := ?_)); (first | refine GoesX.take 10 67 [] hHeld (h := ?_) | refine GoesX.skip 10 67 [] hHeld (h := ?_)); (first | refine GoesX.take 11 68 [] hHeld (h := ?_) | refine GoesX.skip 11 68 [] hHeld (h := ?_)); (first | refine GoesX.take 12 69 [] hHeld (h := ?_) | refine GoesX.skip 12 69 [] hHeld (h := ?_)); (first | refine GoesX.take 13 70 [] hHeld (h := ?_) | refine GoesX.skip 13 70 [] hHeld (h := ?_)); (first | refine GoesX.take 14 71 [] hHeld (h := ?_) | refine GoesX.skip 14 71 [] hHeld (h := ?_)); (first | refine GoesX.take 15 72 [] hHeld (h := ?_) | refine GoesX.skip 15 72 [] hHeld (h := ?_)); (first | refine GoesX.take 16 73 [] hHeld (h := ?_) | refine GoesX.skip 16 73 [] hHeld (h := ?_)); (first | refine GoesX.take 17 74 [] hHeld (h := ?_) | refine GoesX.skip 17 74 [] hHeld (h := ?_)); (first | refine GoesX.take 18 75 [] hHeld (h := ?_) | refine GoesX.skip 18 75 [] hHeld (h := ?_)); refine GoesX.take 19 76 [] hHeld (h := ?_); refine GoesX.take 20 2 [] hHeld (h := ?_); refine GoesX.done (by kernel_rfl) ?_ _; all_goals (have hb := And.right (by assumption : Held W0 _); have hst := xr hb; (try simp only [zA, zC, zD, zN] at hst); obtain ⟨hc, hf, hz⟩ := hst)))
    go_wp2_with fail
    go_ret
    exact ⟨rfl, ext_⟩
  · have z7 : (z.2 == 7) = false := by simpa using c1
    have cx : (yX == rq.n) = true := by simp [c2]
    by_cases cm : rq.n = yM
    · have cm' : (rq.n != yM) = false := by simp [cm]
      have hxm := Lib.hid (show decide (z.1 = m) = true from decide_eq_true (c3 cm))
      clear c1 c2 c3 cm
      go_wp2_with (go_at_call 26; apply Calls.mono; with_reducible apply (iMktDo_c (m := z.1) (r := rq)); (apply RM.at0 hRX; (exact kf_)); (simp only [Sw.Mkt.len] at hxl hzl; omega); rintro E w6 ⟨eL, eLc, eLn, eP, ePc, ePn, eD, eDc, eDn, eN, eNc, eNn, eS, eSc, eSn, τe, rfl, hoe, hb⟩; rw [KY.out] at hoe; rw [KY.out]; have hst := xr hb; (try simp only [zA, zC, zD, zN] at hst); obtain ⟨hc, hf, hz⟩ := hst)
      rw [HK.out] at r1
      (focus (refine wp_name ?_; intro W0 hb0; have hst := xr hb0; (try simp only [zA, zC, zD, zN] at hst); obtain ⟨hc0, hf0, hz0⟩ := hst; refine wp_regionX [] (S := fun w' => Held W0 w') hdH (fun hHeld => ?_); refine GoesX.take 0 77 [] hHeld (h := ?_); refine GoesX.take 1 78 [] hHeld (h := ?_); refine GoesX.take 2 79 [] hHeld (h := ?_); refine GoesX.take 3 80 [] hHeld (h := ?_); (first | refine GoesX.take 4 81 [] hHeld (h := ?_) | refine GoesX.skip 4 81 [] hHeld (h := ?_)); (first | refine GoesX.take 5 82 [] hHeld (h := ?_) | refine GoesX.skip 5 82 [] hHeld (h := ?_)); refine GoesX.one 6 (h := fun K hK => ?_); go_simp; (first | (go_at_call 18; apply Calls.mono; with_reducible apply (swMarket_c bL bLc bLn bP bPc bPn bD bDc bDn (some ⟨gX, oX, none⟩) bNc 5 bS bSc bSn z.1 aL aLc aLn aP aPc aPn aD aDc aDn (some ⟨gM, oM, none⟩) aNc 5 aS aSc aSn m); (apply RM.at0 hRX; (exact kf_)); (apply RM.at0 hRM; (exact kf_)); rintro E w7 ⟨rfl, hb⟩; rw [hxm.out]; have hst := xr hb; (try simp only [zA, zC, zD, zN] at hst); obtain ⟨hc, hf, hz⟩ := hst) | (go_at_call 18; apply Calls.mono; with_reducible apply (swMarket_c eL eLc eLn eP ePc ePn eD eDc eDn eN eNc eNn eS eSc eSn z.1 bL bLc bLn bP bPc bPn bD bDc bDn (some ⟨gX, oX, none⟩) bNc 5 bS bSc bSn z.1); (apply OwM.rm0 hoe; (exact kf_)); (apply RM.at0 hRX; (exact kf_)); rintro E w7 ⟨rfl, hb⟩; rw [show decide (z.1 = z.1) = true from decide_eq_true rfl]; have hst := xr hb; (try simp only [zA, zC, zD, zN] at hst); obtain ⟨hc, hf, hz⟩ := hst)); (try go_wp2_with fail); refine outS hK hdH (h := fun hH2 => ?_); clear hK K hHeld; have hHeld := hH2; clear hH2; refine GoesX.take 7 84 [] hHeld (h := ?_); refine GoesX.take 8 85 [] hHeld (h := ?_); (first | refine GoesX.take 9 86 [] hHeld (h := ?_) | refine GoesX.skip 9 86 [] hHeld (h := ?_)); (first | refine GoesX.take 10 87 [] hHeld (h := ?_) | refine GoesX.skip 10 87 [] hHeld (h := ?_)); (first | refine GoesX.take 11 88 [] hHeld (h := ?_) | refine GoesX.skip 11 88 [] hHeld (h := ?_)); (first | refine GoesX.take 12 89 [] hHeld (h := ?_) | refine GoesX.skip 12 89 [] hHeld (h := ?_)); (first | refine GoesX.take 13 90 [] hHeld (h := ?_) | refine GoesX.skip 13 90 [] hHeld (h := ?_)); (first | refine GoesX.take 14 91 [] hHeld (h := ?_) | refine GoesX.skip 14 91 [] hHeld (h := ?_)); (first | refine GoesX.take 15 92 [] hHeld (h := ?_) | refine GoesX.skip 15 92 [] hHeld (h := ?_)); (first | refine GoesX.take 16 93 [] hHeld (h := ?_) | refine GoesX.skip 16 93 [] hHeld (h := ?_)); (first | refine GoesX.take 17 94 [] hHeld (h := ?_) | refine GoesX.skip 17 94 [] hHeld (h := ?_)); (first | refine GoesX.take 18 95 [] hHeld (h := ?_) | refine GoesX.skip 18 95 [] hHeld (h := ?_)); refine GoesX.take 19 96 [] hHeld (h := ?_); refine GoesX.take 20 97 [] hHeld (h := ?_); (first | refine GoesX.take 21 98 [] hHeld (h := ?_) | refine GoesX.skip 21 98 [] hHeld (h := ?_)); (first | refine GoesX.take 22 99 [] hHeld (h := ?_) | refine GoesX.skip 22 99 [] hHeld (h := ?_)); (first | refine GoesX.take 23 100 [] hHeld (h := ?_) | refine GoesX.skip 23 100 [] hHeld (h := ?_)); (first | refine GoesX.take 24 101 [] hHeld (h := ?_) | refine GoesX.skip 24 101 [] hHeld (h := ?_)); (first | refine GoesX.take 25 102 [] hHeld (h := ?_) | refine GoesX.skip 25 102 [] hHeld (h := ?_)); (first | refine GoesX.take 26 103 [] hHeld (h := ?_) | refine GoesX.skip 26 103 [] hHeld (h := ?_)); (first | refine GoesX.take 27 104 [] hHeld (h := ?_) | refine GoesX.skip 27 104 [] hHeld (h := ?_)); (first | refine GoesX.take 28 105 [] hHeld (h := ?_) | refine GoesX.skip 28 105 [] hHeld (h := ?_)); (first | refine GoesX.take 29 106 [] hHeld (h := ?_) | refine GoesX.skip 29 106 [] hHeld (h := ?_)); (first | refine GoesX.take 30 107 [] hHeld (h := ?_) | refine GoesX.skip 30 107 [] hHeld (h := ?_)); (first | refine GoesX.take 31 108 [] hHeld (h := ?_) | refine GoesX.skip 31 108 [] hHeld (h := ?_)); (first | refine GoesX.take 32 109 [] hHeld (h := ?_) | refine GoesX.skip 32 109 [] hHeld (h := ?_)); (first | refine GoesX.take 33 110 [] hHeld (h := ?_) | refine GoesX.skip 33 110 [] hHeld (h := ?_)); refine GoesX.one 34 (h := fun K hK => ?_); go_simp; (first | (go_at_call 18; apply Calls.mono; with_reducible apply (swMarket_c bL bLc bLn bP bPc bPn bD bDc bDn (some ⟨gX, oX, none⟩) bNc 5 bS bSc bSn z.1 aL aLc aLn aP aPc aPn aD aDc aDn (some ⟨gM, oM, none⟩) aNc 5 aS aSc aSn m); (apply RM.at0 hRX; (exact kf_)); (apply RM.at0 hRM; (exact kf_)); rintro E w7 ⟨rfl, hb⟩; rw [hxm.out]; have hst := xr hb; (try simp only [zA, zC, zD, zN] at hst); obtain ⟨hc, hf, hz⟩ := hst) | (go_at_call 18; apply Calls.mono; with_reducible apply (swMarket_c eL eLc eLn eP ePc ePn eD eDc eDn eN eNc eNn eS eSc eSn z.1 bL bLc bLn bP bPc bPn bD bDc bDn (some ⟨gX, oX, none⟩) bNc 5 bS bSc bSn z.1); (apply OwM.rm0 hoe; (exact kf_)); (apply RM.at0 hRX; (exact kf_)); rintro E w7 ⟨rfl, hb⟩; rw [show decide (z.1 = z.1) = true from decide_eq_true rfl]; have hst := xr hb; (try simp only [zA, zC, zD, zN] at hst); obtain ⟨hc, hf, hz⟩ := hst)); (try go_wp2_with fail); refine outS hK hdH (h := fun hH2 => ?_); clear hK K hHeld; have hHeld := hH2; clear hH2; (first | refine GoesX.take 35 112 [] hHeld (h := ?_) | refine GoesX.skip 35 112 [] hHeld (h := ?_)); refine GoesX.take 36 113 [] hHeld (h := ?_); refine GoesX.take 37 2 [] hHeld (h := ?_); refine GoesX.done (by kernel_rfl) ?_ _; all_goals (have hb := And.right (by assumption : Held W0 _); have hst := xr hb; (try simp only [zA, zC, zD, zN] at hst); obtain ⟨hc, hf, hz⟩ := hst)))
      go_wp2_with fail
      go_ret
      exact ⟨rfl, ext_⟩
    · have cm' : (rq.n != yM) = true := by simp [cm]
      clear c1 c2 c3 cm
      go_wp2_with (go_at_call 26; apply Calls.mono; with_reducible apply (iMktDo_c (m := z.1) (r := rq)); (apply RM.at0 hRX; (exact kf_)); (simp only [Sw.Mkt.len] at hxl hzl; omega); rintro E w6 ⟨eL, eLc, eLn, eP, ePc, ePn, eD, eDc, eDn, eN, eNc, eNn, eS, eSc, eSn, τe, rfl, hoe, hb⟩; rw [KY.out] at hoe; rw [KY.out]; have hst := xr hb; (try simp only [zA, zC, zD, zN] at hst); obtain ⟨hc, hf, hz⟩ := hst)
      rw [HK.out] at r1
      (focus (refine wp_name ?_; intro W0 hb0; have hst := xr hb0; (try simp only [zA, zC, zD, zN] at hst); obtain ⟨hc0, hf0, hz0⟩ := hst; refine wp_regionX [] (S := fun w' => Held W0 w') hdH (fun hHeld => ?_); refine GoesX.take 0 77 [] hHeld (h := ?_); refine GoesX.take 1 78 [] hHeld (h := ?_); refine GoesX.take 2 79 [] hHeld (h := ?_); refine GoesX.take 3 80 [] hHeld (h := ?_); (first | refine GoesX.take 4 81 [] hHeld (h := ?_) | refine GoesX.skip 4 81 [] hHeld (h := ?_)); (first | refine GoesX.take 5 82 [] hHeld (h := ?_) | refine GoesX.skip 5 82 [] hHeld (h := ?_)); refine GoesX.one 6 (h := fun K hK => ?_); go_simp; (go_at_call 18; apply Calls.mono; with_reducible apply (swMarket_c eL eLc eLn eP ePc ePn eD eDc eDn eN eNc eNn eS eSc eSn z.1 bL bLc bLn bP bPc bPn bD bDc bDn (some ⟨gX, oX, none⟩) bNc 5 bS bSc bSn z.1); (apply OwM.rm0 hoe; (exact kf_)); (apply RM.at0 hRX; (exact kf_)); rintro E w7 ⟨rfl, hb⟩; rw [show decide (z.1 = z.1) = true from decide_eq_true rfl]; have hst := xr hb; (try simp only [zA, zC, zD, zN] at hst); obtain ⟨hc, hf, hz⟩ := hst); (try go_wp2_with fail); refine outS hK hdH (h := fun hH2 => ?_); clear hK K hHeld; have hHeld := hH2; clear hH2; refine GoesX.take 7 84 [] hHeld (h := ?_); refine GoesX.take 8 85 [] hHeld (h := ?_); (first | refine GoesX.take 9 86 [] hHeld (h := ?_) | refine GoesX.skip 9 86 [] hHeld (h := ?_)); (first | refine GoesX.take 10 87 [] hHeld (h := ?_) | refine GoesX.skip 10 87 [] hHeld (h := ?_)); (first | refine GoesX.take 11 88 [] hHeld (h := ?_) | refine GoesX.skip 11 88 [] hHeld (h := ?_)); (first | refine GoesX.take 12 89 [] hHeld (h := ?_) | refine GoesX.skip 12 89 [] hHeld (h := ?_)); (first | refine GoesX.take 13 90 [] hHeld (h := ?_) | refine GoesX.skip 13 90 [] hHeld (h := ?_)); (first | refine GoesX.take 14 91 [] hHeld (h := ?_) | refine GoesX.skip 14 91 [] hHeld (h := ?_)); (first | refine GoesX.take 15 92 [] hHeld (h := ?_) | refine GoesX.skip 15 92 [] hHeld (h := ?_)); (first | refine GoesX.take 16 93 [] hHeld (h := ?_) | refine GoesX.skip 16 93 [] hHeld (h := ?_)); (first | refine GoesX.take 17 94 [] hHeld (h := ?_) | refine GoesX.skip 17 94 [] hHeld (h := ?_)); (first | refine GoesX.take 18 95 [] hHeld (h := ?_) | refine GoesX.skip 18 95 [] hHeld (h := ?_)); refine GoesX.take 19 96 [] hHeld (h := ?_); refine GoesX.take 20 97 [] hHeld (h := ?_); (first | refine GoesX.take 21 98 [] hHeld (h := ?_) | refine GoesX.skip 21 98 [] hHeld (h := ?_)); (first | refine GoesX.take 22 99 [] hHeld (h := ?_) | refine GoesX.skip 22 99 [] hHeld (h := ?_)); (first | refine GoesX.take 23 100 [] hHeld (h := ?_) | refine GoesX.skip 23 100 [] hHeld (h := ?_)); (first | refine GoesX.take 24 101 [] hHeld (h := ?_) | refine GoesX.skip 24 101 [] hHeld (h := ?_)); (first | refine GoesX.take 25 102 [] hHeld (h := ?_) | refine GoesX.skip 25 102 [] hHeld (h := ?_)); (first | refine GoesX.take 26 103 [] hHeld (h := ?_) | refine GoesX.skip 26 103 [] hHeld (h := ?_)); (first | refine GoesX.take 27 104 [] hHeld (h := ?_) | refine GoesX.skip 27 104 [] hHeld (h := ?_)); (first | refine GoesX.take 28 105 [] hHeld (h := ?_) | refine GoesX.skip 28 105 [] hHeld (h := ?_)); (first | refine GoesX.take 29 106 [] hHeld (h := ?_) | refine GoesX.skip 29 106 [] hHeld (h := ?_)); (first | refine GoesX.take 30 107 [] hHeld (h := ?_) | refine GoesX.skip 30 107 [] hHeld (h := ?_)); (first | refine GoesX.take 31 108 [] hHeld (h := ?_) | refine GoesX.skip 31 108 [] hHeld (h := ?_)); (first | refine GoesX.take 32 109 [] hHeld (h := ?_) | refine GoesX.skip 32 109 [] hHeld (h := ?_)); (first | refine GoesX.take 33 110 [] hHeld (h := ?_) | refine GoesX.skip 33 110 [] hHeld (h := ?_)); refine GoesX.skip 34 111 [35, 36, 37] hHeld (h := ?_); (first | refine GoesX.take 35 112 [] hHeld (h := ?_) | refine GoesX.skip 35 112 [] hHeld (h := ?_)); refine GoesX.take 36 113 [] hHeld (h := ?_); refine GoesX.take 37 2 [] hHeld (h := ?_); refine GoesX.done (by kernel_rfl) ?_ _; all_goals (have hb := And.right (by assumption : Held W0 _); have hst := xr hb; (try simp only [zA, zC, zD, zN] at hst); obtain ⟨hc, hf, hz⟩ := hst)))
      go_wp2_with fail
      go_ret
      exact ⟨rfl, ext_⟩
end Go.Proofs.Ytimpagcanengoaa

