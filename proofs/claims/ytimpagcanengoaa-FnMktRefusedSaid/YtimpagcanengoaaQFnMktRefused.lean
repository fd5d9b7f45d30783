/-
  Walk: the law MktRefused.
-/
import Derived.Test.YtimpagcanengoaaPk17
namespace Go.Proofs.Ytimpagcanengoaa
set_option maxRecDepth 100000
set_option linter.unusedSimpArgs false
set_option linter.unusedVariables false
open Go.RowKit Go
set_option maxHeartbeats 4000000

theorem fnMktRefused_c (A : Option Addr) (c n : Nat) (bs : List Int) (w : World) (hxs : RB w 0 A c n bs) (hq : ∀ x ∈ bs, 0 ≤ x ∧ x ≤ 255) : Calls Try.prog 7 #[.slice A n c] w fun E w' => E = .returned (.bool true) ∧ Ex w w' := by

  have hbig := Rs.big hxs
  by_cases hn : n ≤ 1048576
  case neg =>
    go_enter Try.func7, Try.ntmps7
    go_wp2_with fail
    go_ret
    exact ⟨rfl, ext_⟩
  go_enter Try.func7, Try.ntmps7
  go_wp2_with fail
  apply Calls.mono
  apply drawMktDo_c
  · apply Rs.at0 hxs; (exact kf_)
  · exact hq
  rintro E w1 ⟨aL, aLc, aLn, aP, aPc, aPn, aD, aDc, aDn, aN, aNc, aNn, aS, aSc, aSn, m, rq, rfl, ⟨hm, hlen⟩, hb⟩
  have hst := xr hb; (try simp only [zA, zC, zD, zN] at hst); obtain ⟨hc, hf, hz⟩ := hst
  clear hxs hq hbig hn
  obtain ⟨z, hz0⟩ : ∃ z, z = Sw.mktDo m rq := ⟨_, rfl⟩
  have HZ := Lib.hid hz0
  clear hz0
  have hzz : (z.2 != z.2) = false := by simp
  go_upto_region 8 with (first | (go_at_call 26; apply Calls.mono; apply (iMktDo_c (m := m) (r := rq)); (apply RM.at0 hm; (exact kf_)); omega; rintro E w2 ⟨bL, bLc, bLn, bP, bPc, bPn, bD, bDc, bDn, bN, bNc, bNn, bS, bSc, bSn, τb, rfl, hob, hb⟩; rw [← HZ.out] at hob; rw [← HZ.out]; have hst := xr hb; (try simp only [zA, zC, zD, zN] at hst); obtain ⟨hc, hf, hz⟩ := hst) | (go_at_call 31; apply Calls.mono; apply (sMktDo_c (m := m) (r := rq)); (apply RM.at0 hm; (exact kf_)); omega; rintro E w3 ⟨vL, vLc, vLn, vP, vPc, vPn, vD, vDc, vDn, vN, vNc, vNn, vS, vSc, vSn, τv, rfl, hov, hb⟩; rw [← HZ.out] at hov; rw [← HZ.out]; have hst := xr hb; (try simp only [zA, zC, zD, zN] at hst); obtain ⟨hc, hf, hz⟩ := hst) | (go_at_call 18; apply Calls.mono; apply (swMarket_c (x := z.1) (y := z.1)); (apply OwM.rm0 hob; (exact kf_)); (apply OwM.rm0 hov; (exact kf_)); rintro E w4 ⟨rfl, hb⟩; rw [show decide (z.1 = z.1) = true from decide_eq_true rfl]; have hst := xr hb; (try simp only [zA, zC, zD, zN] at hst); obtain ⟨hc, hf, hz⟩ := hst))
  (refine wp_name ?_; intro W0 hb0; have hst := xr hb0; (try simp only [zA, zC, zD, zN] at hst); obtain ⟨hc0, hf0, hz0⟩ := hst)
  have hA : MktAt W0 w1.heap.size 0 aL aLc aLn aP aPc aPn aD aDc aDn aN aNc aNn aS aSc aSn m.clock := ⟨sz_, (by (go_simp; first | done | simp [*])), (by (go_simp; first | done | simp [*])), (by (go_simp; first | done | simp [*])), (by (go_simp; first | done | simp [*])), (by (go_simp; first | done | simp [*])), (by (go_simp; first | done | simp [*])), fun i => (by (go_simp; first | done | simp [*]))⟩
  have hQ : QAt W0 (w1.heap.size + 1) rq := ⟨sz_, (by (go_simp; first | done | simp [*])), (by (go_simp; first | done | simp [*])), (by (go_simp; first | done | simp [*])), (by (go_simp; first | done | simp [*])), (by (go_simp; first | done | simp [*])), (by (go_simp; first | done | simp [*])), fun i => (by (go_simp; first | done | simp [*]))⟩
  have hX : MktAt W0 w2.heap.size 0 bL bLc bLn bP bPc bPn bD bDc bDn bN bNc bNn bS bSc bSn z.1.clock := ⟨sz_, (by (go_simp; first | done | simp [*])), (by (go_simp; first | done | simp [*])), (by (go_simp; first | done | simp [*])), (by (go_simp; first | done | simp [*])), (by (go_simp; first | done | simp [*])), (by (go_simp; first | done | simp [*])), fun i => (by (go_simp; first | done | simp [*]))⟩
  have hRM : RM W0 0 aL aLc aLn aP aPc aPn aD aDc aDn aN aNc aNn aS aSc aSn m := RM.at0 hm kf_
  have hRX : RM W0 0 bL bLc bLn bP bPc bPn bD bDc bDn bN bNc bNn bS bSc bSn z.1 := OwM.rm0 hob kf_
  have HE : ExH w W0 := ⟨ext_⟩
  obtain ⟨gm, hgm⟩ : ∃ g, g = w1.heap.size := ⟨_, rfl⟩
  obtain ⟨gr, hgr⟩ : ∃ g, g = w1.heap.size + 1 := ⟨_, rfl⟩
  obtain ⟨gx, hgx⟩ : ∃ g, g = w2.heap.size := ⟨_, rfl⟩
  rw [← hgr] at hQ
  rw [← hgm] at hA
  rw [← hgx] at hX
  (try rw [← hgr])
  (try rw [← hgm])
  (try rw [← hgx])
  clear hgm hgr hgx hob hov hm hb hb0 hc hc0 hf hf0 hz hz0
  ((repeat (rename Ch _ _ _ => zz; clear zz)); (repeat (rename Rdp _ _ _ => zz; clear zz)); (repeat (rename (∀ (b o : Nat), ¬ ((⟨b, 0, none⟩ : Addr) = ⟨b - _ + _, 0, none⟩) → _) => zz; clear zz)))
  have hb := HE.out
  clear HE
  obtain ⟨a0, a1, a2, a3, a4, a5, a6, af⟩ := hA
  obtain ⟨r0, r1, r2, r3, r4, r5, r6, rf⟩ := hQ
  obtain ⟨x0, x1, x2, x3, x4, x5, x6, xf⟩ := hX
  simp only [Nat.zero_add] at a1 a2 a3 a4 a5 a6 x1 x2 x3 x4 x5 x6

  have key : z.2 ≠ 0 → z.2 ≠ 1 → z.1.log = m.log ∧ z.1.purses = m.purses ∧ z.1.deals = m.deals := by
    intro h0 h1
    rw [HZ.out] at h0 h1 ⊢
    cases g1 : Sw.mktOk m
    · rw [Sw.mktDo_n (.inl g1)] at h0; exact absurd rfl h0
    cases g2 : Sw.reqOk rq
    · rw [Sw.mktDo_n (.inr g2)] at h0; exact absurd rfl h0
    obtain ⟨rows, hok⟩ := Sw.mktOk_iff.1 g1
    rw [Sw.mktDo_y g1 g2] at h1 ⊢
    exact Sw.refused hok g2 h1
  have KY := Lib.hid key
  clear key
  by_cases z0 : z.2 = 0
  · have z0' : (z.2 == 0) = true := by simp [z0]
    clear z0
    go_wp2_with (first | (go_at_call 22; refine (swOk_c _).mono ?_; rintro E w' ⟨rfl, rfl⟩) | fail)
    go_ret
    exact ⟨rfl, ext_⟩
  by_cases z1 : z.2 = 1
  · have z0' : (z.2 == 0) = false := by simp [z0]
    have z1' : (z.2 == 1) = true := by simp [z1]
    clear z0 z1
    go_wp2_with (first | (go_at_call 22; refine (swOk_c _).mono ?_; rintro E w' ⟨rfl, rfl⟩) | fail)
    go_ret
    exact ⟨rfl, ext_⟩
  have z0' : (z.2 == 0) = false := by simp [z0]
  have z1' : (z.2 == 1) = false := by simp [z1]
  obtain ⟨e1, e2, e3⟩ := KY.out z0 z1
  clear z0 z1
  have E1 := Lib.hid e1
  have E2 := Lib.hid e2
  have E3 := Lib.hid e3
  clear e1 e2 e3
  go_wp2_with (first | (go_at_call 24; apply Calls.mono; apply (swEntries_c (xs := z.1.log) (ys := m.log)); (apply Rs.at0 hRX.log; (exact kf_)); (apply Rs.at0 hRM.log; (exact kf_)); rintro E w5 ⟨rfl, hb⟩; rw [show decide (z.1.log = m.log) = true from decide_eq_true E1.out]; have hst := xr hb; (try simp only [zA, zC, zD, zN] at hst); obtain ⟨hc, hf, hz⟩ := hst) | (go_at_call 33; apply Calls.mono; apply (swInts_c (xs := z.1.purses) (ys := m.purses)); (apply Rs.at0 hRX.purses; (exact kf_)); (apply Rs.at0 hRM.purses; (exact kf_)); rintro E w6 ⟨rfl, hb⟩; rw [show decide (z.1.purses = m.purses) = true from decide_eq_true E2.out]; have hst := xr hb; (try simp only [zA, zC, zD, zN] at hst); obtain ⟨hc, hf, hz⟩ := hst) | (go_at_call 34; apply Calls.mono; apply (swDeals_c (xs := z.1.deals) (ys := m.deals)); (apply Rs.at0 hRX.deals; (exact kf_)); (apply Rs.at0 hRM.deals; (exact kf_)); rintro E w7 ⟨rfl, hb⟩; rw [show decide (z.1.deals = m.deals) = true from decide_eq_true E3.out]; have hst := xr hb; (try simp only [zA, zC, zD, zN] at hst); obtain ⟨hc, hf, hz⟩ := hst) | fail)
  go_ret
  exact ⟨rfl, ext_⟩
end Go.Proofs.Ytimpagcanengoaa

