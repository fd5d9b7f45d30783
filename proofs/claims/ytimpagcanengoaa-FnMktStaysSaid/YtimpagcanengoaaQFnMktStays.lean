/-
  Walk: the law MktStays.
-/
import Derived.Test.YtimpagcanengoaaPk17
namespace Go.Proofs.Ytimpagcanengoaa
set_option maxRecDepth 100000
set_option linter.unusedSimpArgs false
set_option linter.unusedVariables false
open Go.RowKit Go
set_option maxHeartbeats 4000000

theorem fnMktStays_c (A : Option Addr) (c n : Nat) (bs : List Int) (w : World) (hxs : RB w 0 A c n bs) (hq : ∀ x ∈ bs, 0 ≤ x ∧ x ≤ 255) : Calls Try.prog 8 #[.slice A n c] w fun E w' => E = .returned (.bool true) ∧ Ex w w' := by

  have hbig := Rs.big hxs
  by_cases hn : n ≤ 1048576
  case neg =>
    go_enter Try.func8, Try.ntmps8
    go_wp2_with fail
    go_ret
    exact ⟨rfl, ext_⟩
  go_enter Try.func8, Try.ntmps8
  go_wp2_with fail
  apply Calls.mono
  apply drawMktDo_c
  · apply Rs.at0 hxs; (exact kf_)
  · exact hq
  rintro E w1 ⟨aL, aLc, aLn, aP, aPc, aPn, aD, aDc, aDn, aN, aNc, aNn, aS, aSc, aSn, m, rq, rfl, ⟨hm, hlen⟩, hb⟩
  have hst := xr hb; (try simp only [zA, zC, zD, zN] at hst); obtain ⟨hc, hf, hz⟩ := hst
  clear hxs hq hbig hn
  obtain ⟨z, hz0⟩ : ∃ z, z = Sw.mktDo m rq := ⟨_, rfl⟩
  have HZ := Lib.hid hz0
  clear hz0
  have hzz : (z.2 != z.2) = false := by simp
  go_upto_region 8 with (first | (go_at_call 26; apply Calls.mono; apply (iMktDo_c (m := m) (r := rq)); (apply RM.at0 hm; (exact kf_)); omega; rintro E w2 ⟨bL, bLc, bLn, bP, bPc, bPn, bD, bDc, bDn, bN, bNc, bNn, bS, bSc, bSn, τb, rfl, hob, hb⟩; rw [← HZ.out] at hob; rw [← HZ.out]; have hst := xr hb; (try simp only [zA, zC, zD, zN] at hst); obtain ⟨hc, hf, hz⟩ := hst) | (go_at_call 31; apply Calls.mono; apply (sMktDo_c (m := m) (r := rq)); (apply RM.at0 hm; (exact kf_)); omega; rintro E w3 ⟨vL, vLc, vLn, vP, vPc, vPn, vD, vDc, vDn, vN, vNc, vNn, vS, vSc, vSn, τv, rfl, hov, hb⟩; rw [← HZ.out] at hov; rw [← HZ.out]; have hst := xr hb; (try simp only [zA, zC, zD, zN] at hst); obtain ⟨hc, hf, hz⟩ := hst) | (go_at_call 18; apply Calls.mono; apply (swMarket_c (x := z.1) (y := z.1)); (apply OwM.rm0 hob; (exact kf_)); (apply OwM.rm0 hov; (exact kf_)); rintro E w4 ⟨rfl, hb⟩; rw [show decide (z.1 = z.1) = true from decide_eq_true rfl]; have hst := xr hb; (try simp only [zA, zC, zD, zN] at hst); obtain ⟨hc, hf, hz⟩ := hst))
  (refine wp_name ?_; intro W0 hb0; have hst := xr hb0; (try simp only [zA, zC, zD, zN] at hst); obtain ⟨hc0, hf0, hz0⟩ := hst)
  have hA : MktAt W0 w1.heap.size 0 aL aLc aLn aP aPc aPn aD aDc aDn aN aNc aNn aS aSc aSn m.clock := ⟨sz_, (by (go_simp; first | done | simp [*])), (by (go_simp; first | done | simp [*])), (by (go_simp; first | done | simp [*])), (by (go_simp; first | done | simp [*])), (by (go_simp; first | done | simp [*])), (by (go_simp; first | done | simp [*])), fun i => (by (go_simp; first | done | simp [*]))⟩
  have hQ : QAt W0 (w1.heap.size + 1) rq := ⟨sz_, (by (go_simp; first | done | simp [*])), (by (go_simp; first | done | simp [*])), (by (go_simp; first | done | simp [*])), (by (go_simp; first | done | simp [*])), (by (go_simp; first | done | simp [*])), (by (go_simp; first | done | simp [*])), fun i => (by (go_simp; first | done | simp [*]))⟩
  have hX : MktAt W0 w2.heap.size 0 bL bLc bLn bP bPc bPn bD bDc bDn bN bNc bNn bS bSc bSn z.1.clock := ⟨sz_, (by (go_simp; first | done | simp [*])), (by (go_simp; first | done | simp [*])), (by (go_simp; first | done | simp [*])), (by (go_simp; first | done | simp [*])), (by (go_simp; first | done | simp [*])), (by (go_simp; first | done | simp [*])), fun i => (by (go_simp; first | done | simp [*]))⟩
  have hRM : RM W0 0 aL aLc aLn aP aPc aPn aD aDc aDn aN aNc aNn aS aSc aSn m := RM.at0 hm kf_
  have hRX : RM W0 0 bL bLc bLn bP bPc bPn bD bDc bDn bN bNc bNn bS bSc bSn z.1 := OwM.rm0 hob kf_
  have HE : ExH w W0 := ⟨ext_⟩
  obtain ⟨gm, hgm⟩ : ∃ g, g = w1.heap.size := ⟨_, rfl⟩
  obtain ⟨gr, hgr⟩ : ∃ g, g = w1.heap.size + 1 := ⟨_, rfl⟩
  obtain ⟨gx, hgx⟩ : ∃ g, g = w2.heap.size := ⟨_, rfl⟩
  rw [← hgr] at hQ
  rw [← hgm] at hA
  rw [← hgx] at hX
  (try rw [← hgr])
  (try rw [← hgm])
  (try rw [← hgx])
  clear hgm hgr hgx hob hov hm hb hb0 hc hc0 hf hf0 hz hz0
  ((repeat (rename Ch _ _ _ => zz; clear zz)); (repeat (rename Rdp _ _ _ => zz; clear zz)); (repeat (rename (∀ (b o : Nat), ¬ ((⟨b, 0, none⟩ : Addr) = ⟨b - _ + _, 0, none⟩) → _) => zz; clear zz)))
  have hb := HE.out
  clear HE
  obtain ⟨a0, a1, a2, a3, a4, a5, a6, af⟩ := hA
  obtain ⟨r0, r1, r2, r3, r4, r5, r6, rf⟩ := hQ
  obtain ⟨x0, x1, x2, x3, x4, x5, x6, xf⟩ := hX
  simp only [Nat.zero_add] at a1 a2 a3 a4 a5 a6 x1 x2 x3 x4 x5 x6

  rcases Sw.valid m rq with ⟨g0, hd0⟩ | ⟨rows, hok0, g1, g2, hd0, hokx0, n1, n7⟩
  case' inr =>
    rw [← HZ.out] at hd0
    rw [← hd0] at hokx0 n1 n7
    obtain ⟨rowx, hokx0⟩ := hokx0
    have HO := Lib.hid hok0
    have HG := Lib.hid g1
    have HR := Lib.hid g2
    have HD := Lib.hid hd0
    have HX := Lib.hid hokx0
    have HGX := Lib.hid (Sw.mktOk_iff.2 ⟨rowx, hokx0⟩)
    have hzl := mktDo_len m rq
    rw [← HZ.out] at hzl
    have hxl := hRX.len
    clear hok0 g1 g2 hd0 hokx0
  case' inl =>
    rw [← HZ.out] at hd0
    have Z1 := Lib.hid (congrArg Prod.fst hd0)
    have z2 : z.2 = 0 := congrArg Prod.snd hd0
    have G0 := Lib.hid g0
    clear hd0 g0
  · have g0 := G0.out
    cases g1 : Sw.mktOk m <;> rw [g1] at g0
    · go_wp2_with (first | (go_at_call 22; refine (swOk_c _).mono ?_; rintro E w' ⟨rfl, rfl⟩) | (go_at_call 21; apply Calls.mono; apply (sMktOk_c (m := m)); (apply RM.at0 hRM; (exact kf_)); rintro E w5 ⟨rfl, hb⟩; rw [g1]; have hst := xr hb; (try simp only [zA, zC, zD, zN] at hst); obtain ⟨hc, hf, hz⟩ := hst) | (go_at_call 18; apply Calls.mono; apply (swMarketZ_c (x := z.1)); (apply RM.at0 hRX; (exact kf_)); rintro E w7 ⟨rfl, hb⟩; rw [show decide (z.1 = Sw.mktZ) = true from decide_eq_true Z1.out]; have hst := xr hb; (try simp only [zA, zC, zD, zN] at hst); obtain ⟨hc, hf, hz⟩ := hst) | fail)
      go_ret
      exact ⟨rfl, ext_⟩
    · have g2 : Sw.reqOk rq = false := g0
      go_wp2_with (first | (go_at_call 22; refine (swOk_c _).mono ?_; rintro E w' ⟨rfl, rfl⟩) | (go_at_call 21; apply Calls.mono; apply (sMktOk_c (m := m)); (apply RM.at0 hRM; (exact kf_)); rintro E w5 ⟨rfl, hb⟩; rw [g1]; have hst := xr hb; (try simp only [zA, zC, zD, zN] at hst); obtain ⟨hc, hf, hz⟩ := hst) | (go_at_call 35; apply Calls.mono; apply (sReqOk_c rq); rintro E w6 ⟨rfl, hb⟩; rw [g2]; have hst := xr hb; (try simp only [zA, zC, zD, zN] at hst); obtain ⟨hc, hf, hz⟩ := hst) | (go_at_call 18; apply Calls.mono; apply (swMarketZ_c (x := z.1)); (apply RM.at0 hRX; (exact kf_)); rintro E w7 ⟨rfl, hb⟩; rw [show decide (z.1 = Sw.mktZ) = true from decide_eq_true Z1.out]; have hst := xr hb; (try simp only [zA, zC, zD, zN] at hst); obtain ⟨hc, hf, hz⟩ := hst) | fail)
      go_ret
      exact ⟨rfl, ext_⟩
  · obtain ⟨e1, e2, e3⟩ := Sw.grown HO.out HR.out
    have e4 := Sw.doIt_clock HO.out HR.out
    rw [← HD.out] at e1 e2 e3 e4
    have l1 := hRM.log.1
    have l2 := hRX.log.1
    have hk1 : aLn ≤ bLn := by omega
    have hk2 : bLn ≤ aLn + 1 := by omega
    rw [← l1] at e3
    have E3 := Lib.hid e3
    have EC := Lib.hid e4
    have hcl : (z.1.clock == m.clock) = true := by rw [e4]; simp
    have ht := Lib.hid (Rs.take hRX.log (fun _ => rfl) hk1)
    have c1 : decide ((aLn : Int) ≤ bLn) = true := by simp; omega
    have c2 : decide ((bLn : Int) ≤ (aLn : Int) + 1) = true := by simp; omega
    have hcap := hRX.log.2.le
    have t9 : IntKind.i64.wrap ((aLn : Int) + 1) = (aLn : Int) + 1 := IntWalk.i64_in _ (by omega)
    have hcx : (aLn : Int) ≤ bLc := by omega
    clear e1 e2 e3 e4 l1 l2
    go_wp2_with (first | (go_at_call 21; apply Calls.mono; apply (sMktOk_c (m := m)); (apply RM.at0 hRM; (exact kf_)); rintro E w5 ⟨rfl, hb⟩; rw [HG.out]; have hst := xr hb; (try simp only [zA, zC, zD, zN] at hst); obtain ⟨hc, hf, hz⟩ := hst) | (go_at_call 35; apply Calls.mono; apply (sReqOk_c rq); rintro E w6 ⟨rfl, hb⟩; rw [HR.out]; have hst := xr hb; (try simp only [zA, zC, zD, zN] at hst); obtain ⟨hc, hf, hz⟩ := hst) | fail)
    (focus (refine wp_name ?_; intro W0 hb0; have hst := xr hb0; (try simp only [zA, zC, zD, zN] at hst); obtain ⟨hc0, hf0, hz0⟩ := hst; refine wp_regionX [] (S := fun w' => Held W0 w') hdH (fun hHeld => ?_); refine GoesX.take 0 60 [] hHeld (h := ?_); refine GoesX.one 1 (h := fun K hK => ?_); go_simp; (first | (go_at_call 23; apply Calls.mono; apply (iMktOk_c (m := z.1)); (apply RM.at0 hRX; (exact kf_)); rintro E w8 ⟨rfl, hb⟩; rw [HGX.out]; have hst := xr hb; (try simp only [zA, zC, zD, zN] at hst); obtain ⟨hc, hf, hz⟩ := hst) | (go_at_call 24; apply Calls.mono; apply (swEntries_c (xs := z.1.log.take aLn) (ys := m.log)); (apply Rs.at0 ht.out; (exact kf_)); (apply Rs.at0 hRM.log; (exact kf_)); rintro E w9 ⟨rfl, hb⟩; rw [show decide (z.1.log.take aLn = m.log) = true from decide_eq_true E3.out]; have hst := xr hb; (try simp only [zA, zC, zD, zN] at hst); obtain ⟨hc, hf, hz⟩ := hst)); (try go_wp2_with fail); refine outS hK hdH (h := fun hH2 => ?_); clear hK K hHeld; have hHeld := hH2; clear hH2; refine GoesX.take 2 62 [] hHeld (h := ?_); (first | refine GoesX.take 3 63 [] hHeld (h := ?_) | refine GoesX.skip 3 63 [] hHeld (h := ?_)); (first | refine GoesX.take 4 64 [] hHeld (h := ?_) | refine GoesX.skip 4 64 [] hHeld (h := ?_)); (first | refine GoesX.take 5 65 [] hHeld (h := ?_) | refine GoesX.skip 5 65 [] hHeld (h := ?_)); (first | refine GoesX.take 6 66 [] hHeld (h := ?_) | refine GoesX.skip 6 66 [] hHeld (h := ?_)); (first | refine GoesX.take 7 67 [] hHeld (h := ?_) | refine GoesX.skip 7 67 [] hHeld (h := ?_)); refine GoesX.take 8 68 [] hHeld (h := ?_); refine GoesX.take 9 69 [] hHeld (h := ?_); (first | refine GoesX.take 10 70 [] hHeld (h := ?_) | refine GoesX.skip 10 70 [] hHeld (h := ?_)); (first | refine GoesX.take 11 71 [] hHeld (h := ?_) | refine GoesX.skip 11 71 [] hHeld (h := ?_)); (first | refine GoesX.take 12 72 [] hHeld (h := ?_) | refine GoesX.skip 12 72 [] hHeld (h := ?_)); (first | refine GoesX.take 13 73 [] hHeld (h := ?_) | refine GoesX.skip 13 73 [] hHeld (h := ?_)); (first | refine GoesX.take 14 74 [] hHeld (h := ?_) | refine GoesX.skip 14 74 [] hHeld (h := ?_)); (first | refine GoesX.take 15 75 [] hHeld (h := ?_) | refine GoesX.skip 15 75 [] hHeld (h := ?_)); refine GoesX.take 16 76 [] hHeld (h := ?_); refine GoesX.take 17 77 [] hHeld (h := ?_); (first | refine GoesX.take 18 78 [] hHeld (h := ?_) | refine GoesX.skip 18 78 [] hHeld (h := ?_)); (first | refine GoesX.take 19 79 [] hHeld (h := ?_) | refine GoesX.skip 19 79 [] hHeld (h := ?_)); (first | refine GoesX.take 20 80 [] hHeld (h := ?_) | refine GoesX.skip 20 80 [] hHeld (h := ?_)); (first | refine GoesX.take 21 81 [] hHeld (h := ?_) | refine GoesX.skip 21 81 [] hHeld (h := ?_)); (first | refine GoesX.take 22 82 [] hHeld (h := ?_) | refine GoesX.skip 22 82 [] hHeld (h := ?_)); (first | refine GoesX.take 23 83 [] hHeld (h := ?_) | refine GoesX.skip 23 83 [] hHeld (h := ?_)); refine GoesX.one 24 (h := fun K hK => ?_); go_simp; (first | (go_at_call 23; apply Calls.mono; apply (iMktOk_c (m := z.1)); (apply RM.at0 hRX; (exact kf_)); rintro E w8 ⟨rfl, hb⟩; rw [HGX.out]; have hst := xr hb; (try simp only [zA, zC, zD, zN] at hst); obtain ⟨hc, hf, hz⟩ := hst) | (go_at_call 24; apply Calls.mono; apply (swEntries_c (xs := z.1.log.take aLn) (ys := m.log)); (apply Rs.at0 ht.out; (exact kf_)); (apply Rs.at0 hRM.log; (exact kf_)); rintro E w9 ⟨rfl, hb⟩; rw [show decide (z.1.log.take aLn = m.log) = true from decide_eq_true E3.out]; have hst := xr hb; (try simp only [zA, zC, zD, zN] at hst); obtain ⟨hc, hf, hz⟩ := hst)); (try go_wp2_with fail); refine outS hK hdH (h := fun hH2 => ?_); clear hK K hHeld; have hHeld := hH2; clear hH2; refine GoesX.take 25 85 [] hHeld (h := ?_); refine GoesX.take 26 86 [] hHeld (h := ?_); (first | refine GoesX.take 27 87 [] hHeld (h := ?_) | refine GoesX.skip 27 87 [] hHeld (h := ?_)); (first | refine GoesX.take 28 88 [] hHeld (h := ?_) | refine GoesX.skip 28 88 [] hHeld (h := ?_)); (first | refine GoesX.take 29 89 [] hHeld (h := ?_) | refine GoesX.skip 29 89 [] hHeld (h := ?_)); (first | refine GoesX.take 30 90 [] hHeld (h := ?_) | refine GoesX.skip 30 90 [] hHeld (h := ?_)); (first | refine GoesX.take 31 91 [] hHeld (h := ?_) | refine GoesX.skip 31 91 [] hHeld (h := ?_)); refine GoesX.take 32 92 [] hHeld (h := ?_); refine GoesX.take 33 93 [] hHeld (h := ?_); (first | refine GoesX.take 34 94 [] hHeld (h := ?_) | refine GoesX.skip 34 94 [] hHeld (h := ?_)); (first | refine GoesX.take 35 95 [] hHeld (h := ?_) | refine GoesX.skip 35 95 [] hHeld (h := ?_)); refine GoesX.take 36 96 [] hHeld (h := ?_); refine GoesX.take 37 97 [] hHeld (h := ?_); (first | refine GoesX.take 38 98 [] hHeld (h := ?_) | refine GoesX.skip 38 98 [] hHeld (h := ?_)); (first | refine GoesX.take 39 99 [] hHeld (h := ?_) | refine GoesX.skip 39 99 [] hHeld (h := ?_)); refine GoesX.take 40 100 [] hHeld (h := ?_); refine GoesX.take 41 2 [] hHeld (h := ?_); refine GoesX.done (by kernel_rfl) ?_ _; all_goals (have hb := And.right (by assumption : Held W0 _); have hst := xr hb; (try simp only [zA, zC, zD, zN] at hst); obtain ⟨hc, hf, hz⟩ := hst)))
    all_goals go_wp2_with fail
    all_goals go_ret
    all_goals exact ⟨rfl, ext_⟩
end Go.Proofs.Ytimpagcanengoaa

