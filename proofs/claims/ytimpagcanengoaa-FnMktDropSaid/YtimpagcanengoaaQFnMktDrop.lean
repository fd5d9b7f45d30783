/-
  Walk: the law MktDrop.
-/
import Derived.Test.YtimpagcanengoaaQLawT
namespace Go.Proofs.Ytimpagcanengoaa
set_option maxRecDepth 100000
set_option linter.unusedSimpArgs false
set_option linter.unusedVariables false
open Go.RowKit Go
set_option maxHeartbeats 1000000

theorem fnMktDrop_c (A : Option Addr) (c n : Nat) (bs : List Int) (w : World) (hxs : RB w 0 A c n bs) (hq : ∀ x ∈ bs, 0 ≤ x ∧ x ≤ 255) : Calls Try.prog 11 #[.slice A n c] w fun E w' => E = .returned (.bool true) ∧ Ex w w' := by

  have hbig := Rs.big hxs
  by_cases hn : n ≤ 1048576
  case neg =>
    go_enter Try.func11, Try.ntmps11
    go_wp2_with fail
    go_ret
    exact ⟨rfl, ext_⟩
  go_enter Try.func11, Try.ntmps11
  go_wp2_with fail
  apply Calls.mono
  apply drawMktDo_c
  · apply Rs.at0 hxs; (exact kf_)
  · exact hq
  rintro E w1 ⟨aL, aLc, aLn, aP, aPc, aPn, aD, aDc, aDn, aN, aNc, aNn, aS, aSc, aSn, m, rq, rfl, ⟨hm, hlen⟩, hb⟩
  have hst := xr hb; (try simp only [zA, zC, zD, zN] at hst); obtain ⟨hc, hf, hz⟩ := hst
  clear hxs hq hbig hn
  obtain ⟨z, hz0⟩ : ∃ z, z = Sw.mktDo m rq := ⟨_, rfl⟩
  have HZ := Lib.hid hz0
  clear hz0
  have hzz : (z.2 != z.2) = false := by simp
  go_upto_region 8 with (first | (go_at_call 26; apply Calls.mono; apply (iMktDo_c (m := m) (r := rq)); (apply RM.at0 hm; (exact kf_)); omega; rintro E w2 ⟨bL, bLc, bLn, bP, bPc, bPn, bD, bDc, bDn, bN, bNc, bNn, bS, bSc, bSn, τb, rfl, hob, hb⟩; rw [← HZ.out] at hob; rw [← HZ.out]; have hst := xr hb; (try simp only [zA, zC, zD, zN] at hst); obtain ⟨hc, hf, hz⟩ := hst) | (go_at_call 31; apply Calls.mono; apply (sMktDo_c (m := m) (r := rq)); (apply RM.at0 hm; (exact kf_)); omega; rintro E w3 ⟨vL, vLc, vLn, vP, vPc, vPn, vD, vDc, vDn, vN, vNc, vNn, vS, vSc, vSn, τv, rfl, hov, hb⟩; rw [← HZ.out] at hov; rw [← HZ.out]; have hst := xr hb; (try simp only [zA, zC, zD, zN] at hst); obtain ⟨hc, hf, hz⟩ := hst) | (go_at_call 18; apply Calls.mono; apply (swMarket_c (x := z.1) (y := z.1)); (apply OwM.rm0 hob; (exact kf_)); (apply OwM.rm0 hov; (exact kf_)); rintro E w4 ⟨rfl, hb⟩; rw [show decide (z.1 = z.1) = true from decide_eq_true rfl]; have hst := xr hb; (try simp only [zA, zC, zD, zN] at hst); obtain ⟨hc, hf, hz⟩ := hst))
  (refine wp_name ?_; intro W0 hb0; have hst := xr hb0; (try simp only [zA, zC, zD, zN] at hst); obtain ⟨hc0, hf0, hz0⟩ := hst)
  have hA : MktAt W0 w1.heap.size 0 aL aLc aLn aP aPc aPn aD aDc aDn aN aNc aNn aS aSc aSn m.clock := ⟨sz_, (by (go_simp; first | done | simp [*])), (by (go_simp; first | done | simp [*])), (by (go_simp; first | done | simp [*])), (by (go_simp; first | done | simp [*])), (by (go_simp; first | done | simp [*])), (by (go_simp; first | done | simp [*])), fun i => (by (go_simp; first | done | simp [*]))⟩
  have hQ : QAt W0 (w1.heap.size + 1) rq := ⟨sz_, (by (go_simp; first | done | simp [*])), (by (go_simp; first | done | simp [*])), (by (go_simp; first | done | simp [*])), (by (go_simp; first | done | simp [*])), (by (go_simp; first | done | simp [*])), (by (go_simp; first | done | simp [*])), fun i => (by (go_simp; first | done | simp [*]))⟩
  have hX : MktAt W0 w2.heap.size 0 bL bLc bLn bP bPc bPn bD bDc bDn bN bNc bNn bS bSc bSn z.1.clock := ⟨sz_, (by (go_simp; first | done | simp [*])), (by (go_simp; first | done | simp [*])), (by (go_simp; first | done | simp [*])), (by (go_simp; first | done | simp [*])), (by (go_simp; first | done | simp [*])), (by (go_simp; first | done | simp [*])), fun i => (by (go_simp; first | done | simp [*]))⟩
  have hRM : RM W0 0 aL aLc aLn aP aPc aPn aD aDc aDn aN aNc aNn aS aSc aSn m := RM.at0 hm kf_
  have hRX : RM W0 0 bL bLc bLn bP bPc bPn bD bDc bDn bN bNc bNn bS bSc bSn z.1 := OwM.rm0 hob kf_
  have HE : ExH w W0 := ⟨ext_⟩
  obtain ⟨gm, hgm⟩ : ∃ g, g = w1.heap.size := ⟨_, rfl⟩
  obtain ⟨gr, hgr⟩ : ∃ g, g = w1.heap.size + 1 := ⟨_, rfl⟩
  obtain ⟨gx, hgx⟩ : ∃ g, g = w2.heap.size := ⟨_, rfl⟩
  rw [← hgr] at hQ
  rw [← hgm] at hA
  rw [← hgx] at hX
  (try rw [← hgr])
  (try rw [← hgm])
  (try rw [← hgx])
  clear hgm hgr hgx hob hov hm hb hb0 hc hc0 hf hf0 hz hz0
  ((repeat (rename Ch _ _ _ => zz; clear zz)); (repeat (rename Rdp _ _ _ => zz; clear zz)); (repeat (rename (∀ (b o : Nat), ¬ ((⟨b, 0, none⟩ : Addr) = ⟨b - _ + _, 0, none⟩) → _) => zz; clear zz)))
  have hb := HE.out
  clear HE
  obtain ⟨a0, a1, a2, a3, a4, a5, a6, af⟩ := hA
  obtain ⟨r0, r1, r2, r3, r4, r5, r6, rf⟩ := hQ
  obtain ⟨x0, x1, x2, x3, x4, x5, x6, xf⟩ := hX
  simp only [Nat.zero_add] at a1 a2 a3 a4 a5 a6 x1 x2 x3 x4 x5 x6

  rcases Sw.valid m rq with ⟨g0, hd0⟩ | ⟨rows, hok0, g1, g2, hd0, hokx0, n1, n7⟩
  case' inr =>
    rw [← HZ.out] at hd0
    rw [← hd0] at hokx0 n1 n7
    obtain ⟨rowx, hokx0⟩ := hokx0
    have HO := Lib.hid hok0
    have HG := Lib.hid g1
    have HR := Lib.hid g2
    have HD := Lib.hid hd0
    have HX := Lib.hid hokx0
    have HGX := Lib.hid (Sw.mktOk_iff.2 ⟨rowx, hokx0⟩)
    have hzl := mktDo_len m rq
    rw [← HZ.out] at hzl
    have hxl := hRX.len
    clear hok0 g1 g2 hd0 hokx0
  case' inl =>
    rw [← HZ.out] at hd0
    have Z1 := Lib.hid (congrArg Prod.fst hd0)
    have z2 : z.2 = 0 := congrArg Prod.snd hd0
    have G0 := Lib.hid g0
    clear hd0 g0
  · have z1 : (z.2 != 1) = true := by simp [z2]
    (focus (refine wp_name ?_; intro W0 hb0; have hst := xr hb0; (try simp only [zA, zC, zD, zN] at hst); obtain ⟨hc0, hf0, hz0⟩ := hst; refine wp_regionX [] (S := fun w' => Held W0 w') hdH (fun hHeld => ?_); refine GoesX.take 0 42 [] hHeld (h := ?_); refine GoesX.take 1 43 [] hHeld (h := ?_); refine GoesX.take 2 44 [] hHeld (h := ?_); (first | refine GoesX.take 3 45 [] hHeld (h := ?_) | refine GoesX.skip 3 45 [] hHeld (h := ?_)); (first | refine GoesX.take 4 46 [] hHeld (h := ?_) | refine GoesX.skip 4 46 [] hHeld (h := ?_)); (first | refine GoesX.take 5 47 [] hHeld (h := ?_) | refine GoesX.skip 5 47 [] hHeld (h := ?_)); refine GoesX.take 6 48 [] hHeld (h := ?_); refine GoesX.take 7 49 [] hHeld (h := ?_); (first | refine GoesX.take 8 50 [] hHeld (h := ?_) | refine GoesX.skip 8 50 [] hHeld (h := ?_)); (first | refine GoesX.take 9 51 [] hHeld (h := ?_) | refine GoesX.skip 9 51 [] hHeld (h := ?_)); (first | refine GoesX.take 10 52 [] hHeld (h := ?_) | refine GoesX.skip 10 52 [] hHeld (h := ?_)); (first | refine GoesX.take 11 53 [] hHeld (h := ?_) | refine GoesX.skip 11 53 [] hHeld (h := ?_)); (first | refine GoesX.take 12 54 [] hHeld (h := ?_) | refine GoesX.skip 12 54 [] hHeld (h := ?_)); (first | refine GoesX.take 13 55 [] hHeld (h := ?_) | refine GoesX.skip 13 55 [] hHeld (h := ?_)); (first | refine GoesX.take 14 56 [] hHeld (h := ?_) | refine GoesX.skip 14 56 [] hHeld (h := ?_)); (first | refine GoesX.take 15 57 [] hHeld (h := ?_) | refine GoesX.skip 15 57 [] hHeld (h := ?_)); (first | refine GoesX.take 16 58 [] hHeld (h := ?_) | refine GoesX.skip 16 58 [] hHeld (h := ?_)); (first | refine GoesX.take 17 59 [] hHeld (h := ?_) | refine GoesX.skip 17 59 [] hHeld (h := ?_)); refine GoesX.take 18 60 [] hHeld (h := ?_); refine GoesX.take 19 61 [] hHeld (h := ?_); (first | refine GoesX.take 20 62 [] hHeld (h := ?_) | refine GoesX.skip 20 62 [] hHeld (h := ?_)); (first | refine GoesX.take 21 63 [] hHeld (h := ?_) | refine GoesX.skip 21 63 [] hHeld (h := ?_)); (first | refine GoesX.take 22 64 [] hHeld (h := ?_) | refine GoesX.skip 22 64 [] hHeld (h := ?_)); refine GoesX.take 23 65 [] hHeld (h := ?_); refine GoesX.done (by kernel_rfl) ?_ _; all_goals (have hb := And.right (by assumption : Held W0 _); have hst := xr hb; (try simp only [zA, zC, zD, zN] at hst); obtain ⟨hc, hf, hz⟩ := hst)))
    go_wp2_with (first | (go_at_call 22; refine (swOk_c _).mono ?_; rintro E w' ⟨rfl, rfl⟩) | fail)
    go_ret
    exact ⟨rfl, ext_⟩
  have hq := Sw.reqOk_iff.1 HR.out
  obtain ⟨k, hk⟩ : ∃ k : Nat, rq.user = k + 1 := ⟨(rq.user - 1).toNat, by omega⟩
  have hk5 : k < 5 := by omega
  obtain ⟨t, ht⟩ : ∃ t : Nat, rq.ticket = t := ⟨rq.ticket.toNat, by omega⟩
  have hn0 : 1 ≤ rq.n := by omega
  have hn9 : rq.n ≤ 99999 := by omega
  clear hq
  have hnm : aNn = 5 := hRM.nums.1.trans HO.out.nlen
  subst hnm
  obtain ⟨gM, oM, yM, rfl, hgM0, hgM, -, hyM, hcM⟩ := at_I hRM.nums hk5
  have lM : Sw.lastOf m.nums rq.user = yM := by
    unfold Sw.lastOf; rw [hk, show (((k : Int) + 1) - 1).toNat = k from by omega]; exact Sw.getD_of hyM
  have u2 : IntKind.i64.wrap ((k : Int) + 1 - 1) = k := by rw [IntWalk.i64_in _ (by omega)]; omega
  have u3 : IntKind.i64.wrap (k : Int) = k := IntWalk.i64_in _ (by omega)
  have u0 : (0 : Int) ≤ (k : Int) := by omega
  have u5 : (k : Int) < 5 := by omega
  have HK := Lib.hid hk
  rw [hk] at r1
  clear hyM
  by_cases c1 : z.2 = 1
  case neg =>
    have c1' : (z.2 != 1) = true := by simp [c1]
    clear c1 lM hk ht
    (focus (refine wp_name ?_; intro W0 hb0; have hst := xr hb0; (try simp only [zA, zC, zD, zN] at hst); obtain ⟨hc0, hf0, hz0⟩ := hst; refine wp_regionX [] (S := fun w' => Held W0 w') hdH (fun hHeld => ?_); refine GoesX.take 0 42 [] hHeld (h := ?_); refine GoesX.take 1 43 [] hHeld (h := ?_); refine GoesX.take 2 44 [] hHeld (h := ?_); (first | refine GoesX.take 3 45 [] hHeld (h := ?_) | refine GoesX.skip 3 45 [] hHeld (h := ?_)); (first | refine GoesX.take 4 46 [] hHeld (h := ?_) | refine GoesX.skip 4 46 [] hHeld (h := ?_)); (first | refine GoesX.take 5 47 [] hHeld (h := ?_) | refine GoesX.skip 5 47 [] hHeld (h := ?_)); refine GoesX.take 6 48 [] hHeld (h := ?_); refine GoesX.take 7 49 [] hHeld (h := ?_); (first | refine GoesX.take 8 50 [] hHeld (h := ?_) | refine GoesX.skip 8 50 [] hHeld (h := ?_)); (first | refine GoesX.take 9 51 [] hHeld (h := ?_) | refine GoesX.skip 9 51 [] hHeld (h := ?_)); (first | refine GoesX.take 10 52 [] hHeld (h := ?_) | refine GoesX.skip 10 52 [] hHeld (h := ?_)); (first | refine GoesX.take 11 53 [] hHeld (h := ?_) | refine GoesX.skip 11 53 [] hHeld (h := ?_)); (first | refine GoesX.take 12 54 [] hHeld (h := ?_) | refine GoesX.skip 12 54 [] hHeld (h := ?_)); (first | refine GoesX.take 13 55 [] hHeld (h := ?_) | refine GoesX.skip 13 55 [] hHeld (h := ?_)); (first | refine GoesX.take 14 56 [] hHeld (h := ?_) | refine GoesX.skip 14 56 [] hHeld (h := ?_)); (first | refine GoesX.take 15 57 [] hHeld (h := ?_) | refine GoesX.skip 15 57 [] hHeld (h := ?_)); (first | refine GoesX.take 16 58 [] hHeld (h := ?_) | refine GoesX.skip 16 58 [] hHeld (h := ?_)); (first | refine GoesX.take 17 59 [] hHeld (h := ?_) | refine GoesX.skip 17 59 [] hHeld (h := ?_)); refine GoesX.take 18 60 [] hHeld (h := ?_); refine GoesX.take 19 61 [] hHeld (h := ?_); (first | refine GoesX.take 20 62 [] hHeld (h := ?_) | refine GoesX.skip 20 62 [] hHeld (h := ?_)); (first | refine GoesX.take 21 63 [] hHeld (h := ?_) | refine GoesX.skip 21 63 [] hHeld (h := ?_)); (first | refine GoesX.take 22 64 [] hHeld (h := ?_) | refine GoesX.skip 22 64 [] hHeld (h := ?_)); refine GoesX.take 23 65 [] hHeld (h := ?_); refine GoesX.done (by kernel_rfl) ?_ _; all_goals (have hb := And.right (by assumption : Held W0 _); have hst := xr hb; (try simp only [zA, zC, zD, zN] at hst); obtain ⟨hc, hf, hz⟩ := hst)))
    go_wp2_with (first | (go_at_call 22; refine (swOk_c _).mono ?_; rintro E w' ⟨rfl, rfl⟩) | fail)
    go_ret
    exact ⟨rfl, ext_⟩
  have c1' : (z.2 != 1) = false := by simp [c1]
  by_cases c2 : rq.kind = 2
  case neg =>
    have c2' : (rq.kind != 2) = true := by simp [c2]
    clear c1 c2 lM hk ht
    (focus (refine wp_name ?_; intro W0 hb0; have hst := xr hb0; (try simp only [zA, zC, zD, zN] at hst); obtain ⟨hc0, hf0, hz0⟩ := hst; refine wp_regionX [] (S := fun w' => Held W0 w') hdH (fun hHeld => ?_); refine GoesX.take 0 42 [] hHeld (h := ?_); refine GoesX.take 1 43 [] hHeld (h := ?_); refine GoesX.take 2 44 [] hHeld (h := ?_); (first | refine GoesX.take 3 45 [] hHeld (h := ?_) | refine GoesX.skip 3 45 [] hHeld (h := ?_)); (first | refine GoesX.take 4 46 [] hHeld (h := ?_) | refine GoesX.skip 4 46 [] hHeld (h := ?_)); (first | refine GoesX.take 5 47 [] hHeld (h := ?_) | refine GoesX.skip 5 47 [] hHeld (h := ?_)); refine GoesX.take 6 48 [] hHeld (h := ?_); refine GoesX.take 7 49 [] hHeld (h := ?_); (first | refine GoesX.take 8 50 [] hHeld (h := ?_) | refine GoesX.skip 8 50 [] hHeld (h := ?_)); (first | refine GoesX.take 9 51 [] hHeld (h := ?_) | refine GoesX.skip 9 51 [] hHeld (h := ?_)); (first | refine GoesX.take 10 52 [] hHeld (h := ?_) | refine GoesX.skip 10 52 [] hHeld (h := ?_)); (first | refine GoesX.take 11 53 [] hHeld (h := ?_) | refine GoesX.skip 11 53 [] hHeld (h := ?_)); (first | refine GoesX.take 12 54 [] hHeld (h := ?_) | refine GoesX.skip 12 54 [] hHeld (h := ?_)); (first | refine GoesX.take 13 55 [] hHeld (h := ?_) | refine GoesX.skip 13 55 [] hHeld (h := ?_)); (first | refine GoesX.take 14 56 [] hHeld (h := ?_) | refine GoesX.skip 14 56 [] hHeld (h := ?_)); (first | refine GoesX.take 15 57 [] hHeld (h := ?_) | refine GoesX.skip 15 57 [] hHeld (h := ?_)); (first | refine GoesX.take 16 58 [] hHeld (h := ?_) | refine GoesX.skip 16 58 [] hHeld (h := ?_)); (first | refine GoesX.take 17 59 [] hHeld (h := ?_) | refine GoesX.skip 17 59 [] hHeld (h := ?_)); refine GoesX.take 18 60 [] hHeld (h := ?_); refine GoesX.take 19 61 [] hHeld (h := ?_); (first | refine GoesX.take 20 62 [] hHeld (h := ?_) | refine GoesX.skip 20 62 [] hHeld (h := ?_)); (first | refine GoesX.take 21 63 [] hHeld (h := ?_) | refine GoesX.skip 21 63 [] hHeld (h := ?_)); (first | refine GoesX.take 22 64 [] hHeld (h := ?_) | refine GoesX.skip 22 64 [] hHeld (h := ?_)); refine GoesX.take 23 65 [] hHeld (h := ?_); refine GoesX.done (by kernel_rfl) ?_ _; all_goals (have hb := And.right (by assumption : Held W0 _); have hst := xr hb; (try simp only [zA, zC, zD, zN] at hst); obtain ⟨hc, hf, hz⟩ := hst)))
    go_wp2_with (first | (go_at_call 22; refine (swOk_c _).mono ?_; rintro E w' ⟨rfl, rfl⟩) | fail)
    go_ret
    exact ⟨rfl, ext_⟩
  have c2' : (rq.kind != 2) = false := by simp [c2]
  by_cases c3 : rq.n = yM
  case pos =>
    have c3' : (rq.n == yM) = true := by simp [c3]
    clear c1 c2 c3 lM hk ht
    (focus (refine wp_name ?_; intro W0 hb0; have hst := xr hb0; (try simp only [zA, zC, zD, zN] at hst); obtain ⟨hc0, hf0, hz0⟩ := hst; refine wp_regionX [] (S := fun w' => Held W0 w') hdH (fun hHeld => ?_); refine GoesX.take 0 42 [] hHeld (h := ?_); refine GoesX.take 1 43 [] hHeld (h := ?_); refine GoesX.take 2 44 [] hHeld (h := ?_); (first | refine GoesX.take 3 45 [] hHeld (h := ?_) | refine GoesX.skip 3 45 [] hHeld (h := ?_)); (first | refine GoesX.take 4 46 [] hHeld (h := ?_) | refine GoesX.skip 4 46 [] hHeld (h := ?_)); (first | refine GoesX.take 5 47 [] hHeld (h := ?_) | refine GoesX.skip 5 47 [] hHeld (h := ?_)); refine GoesX.take 6 48 [] hHeld (h := ?_); refine GoesX.take 7 49 [] hHeld (h := ?_); (first | refine GoesX.take 8 50 [] hHeld (h := ?_) | refine GoesX.skip 8 50 [] hHeld (h := ?_)); (first | refine GoesX.take 9 51 [] hHeld (h := ?_) | refine GoesX.skip 9 51 [] hHeld (h := ?_)); (first | refine GoesX.take 10 52 [] hHeld (h := ?_) | refine GoesX.skip 10 52 [] hHeld (h := ?_)); (first | refine GoesX.take 11 53 [] hHeld (h := ?_) | refine GoesX.skip 11 53 [] hHeld (h := ?_)); (first | refine GoesX.take 12 54 [] hHeld (h := ?_) | refine GoesX.skip 12 54 [] hHeld (h := ?_)); (first | refine GoesX.take 13 55 [] hHeld (h := ?_) | refine GoesX.skip 13 55 [] hHeld (h := ?_)); (first | refine GoesX.take 14 56 [] hHeld (h := ?_) | refine GoesX.skip 14 56 [] hHeld (h := ?_)); (first | refine GoesX.take 15 57 [] hHeld (h := ?_) | refine GoesX.skip 15 57 [] hHeld (h := ?_)); (first | refine GoesX.take 16 58 [] hHeld (h := ?_) | refine GoesX.skip 16 58 [] hHeld (h := ?_)); (first | refine GoesX.take 17 59 [] hHeld (h := ?_) | refine GoesX.skip 17 59 [] hHeld (h := ?_)); refine GoesX.take 18 60 [] hHeld (h := ?_); refine GoesX.take 19 61 [] hHeld (h := ?_); (first | refine GoesX.take 20 62 [] hHeld (h := ?_) | refine GoesX.skip 20 62 [] hHeld (h := ?_)); (first | refine GoesX.take 21 63 [] hHeld (h := ?_) | refine GoesX.skip 21 63 [] hHeld (h := ?_)); (first | refine GoesX.take 22 64 [] hHeld (h := ?_) | refine GoesX.skip 22 64 [] hHeld (h := ?_)); refine GoesX.take 23 65 [] hHeld (h := ?_); refine GoesX.done (by kernel_rfl) ?_ _; all_goals (have hb := And.right (by assumption : Held W0 _); have hst := xr hb; (try simp only [zA, zC, zD, zN] at hst); obtain ⟨hc, hf, hz⟩ := hst)))
    go_wp2_with (first | (go_at_call 22; refine (swOk_c _).mono ?_; rintro E w' ⟨rfl, rfl⟩) | fail)
    go_ret
    exact ⟨rfl, ext_⟩
  have c3' : (rq.n == yM) = false := by simp [c3]
  by_cases c4 : rq.n = 99999
  case pos =>
    have c4' : (rq.n == 99999) = true := by simp [c4]
    clear c1 c2 c3 c4 lM hk ht
    (focus (refine wp_name ?_; intro W0 hb0; have hst := xr hb0; (try simp only [zA, zC, zD, zN] at hst); obtain ⟨hc0, hf0, hz0⟩ := hst; refine wp_regionX [] (S := fun w' => Held W0 w') hdH (fun hHeld => ?_); refine GoesX.take 0 42 [] hHeld (h := ?_); refine GoesX.take 1 43 [] hHeld (h := ?_); refine GoesX.take 2 44 [] hHeld (h := ?_); (first | refine GoesX.take 3 45 [] hHeld (h := ?_) | refine GoesX.skip 3 45 [] hHeld (h := ?_)); (first | refine GoesX.take 4 46 [] hHeld (h := ?_) | refine GoesX.skip 4 46 [] hHeld (h := ?_)); (first | refine GoesX.take 5 47 [] hHeld (h := ?_) | refine GoesX.skip 5 47 [] hHeld (h := ?_)); refine GoesX.take 6 48 [] hHeld (h := ?_); refine GoesX.take 7 49 [] hHeld (h := ?_); (first | refine GoesX.take 8 50 [] hHeld (h := ?_) | refine GoesX.skip 8 50 [] hHeld (h := ?_)); (first | refine GoesX.take 9 51 [] hHeld (h := ?_) | refine GoesX.skip 9 51 [] hHeld (h := ?_)); (first | refine GoesX.take 10 52 [] hHeld (h := ?_) | refine GoesX.skip 10 52 [] hHeld (h := ?_)); (first | refine GoesX.take 11 53 [] hHeld (h := ?_) | refine GoesX.skip 11 53 [] hHeld (h := ?_)); (first | refine GoesX.take 12 54 [] hHeld (h := ?_) | refine GoesX.skip 12 54 [] hHeld (h := ?_)); (first | refine GoesX.take 13 55 [] hHeld (h := ?_) | refine GoesX.skip 13 55 [] hHeld (h := ?_)); (first | refine GoesX.take 14 56 [] hHeld (h := ?_) | refine GoesX.skip 14 56 [] hHeld (h := ?_)); (first | refine GoesX.take 15 57 [] hHeld (h := ?_) | refine GoesX.skip 15 57 [] hHeld (h := ?_)); (first | refine GoesX.take 16 58 [] hHeld (h := ?_) | refine GoesX.skip 16 58 [] hHeld (h := ?_)); (first | refine GoesX.take 17 59 [] hHeld (h := ?_) | refine GoesX.skip 17 59 [] hHeld (h := ?_)); refine GoesX.take 18 60 [] hHeld (h := ?_); refine GoesX.take 19 61 [] hHeld (h := ?_); (first | refine GoesX.take 20 62 [] hHeld (h := ?_) | refine GoesX.skip 20 62 [] hHeld (h := ?_)); (first | refine GoesX.take 21 63 [] hHeld (h := ?_) | refine GoesX.skip 21 63 [] hHeld (h := ?_)); (first | refine GoesX.take 22 64 [] hHeld (h := ?_) | refine GoesX.skip 22 64 [] hHeld (h := ?_)); refine GoesX.take 23 65 [] hHeld (h := ?_); refine GoesX.done (by kernel_rfl) ?_ _; all_goals (have hb := And.right (by assumption : Held W0 _); have hst := xr hb; (try simp only [zA, zC, zD, zN] at hst); obtain ⟨hc, hf, hz⟩ := hst)))
    go_wp2_with (first | (go_at_call 22; refine (swOk_c _).mono ?_; rintro E w' ⟨rfl, rfl⟩) | fail)
    go_ret
    exact ⟨rfl, ext_⟩
  have c4' : (rq.n == 99999) = false := by simp [c4]
  obtain ⟨d0, d1, d2, d3, d4, d5⟩ := Sw.dropped HO.out HR.out (by rw [← HD.out]; exact c1) c2 (by rw [lM]; exact c3) c4
  rw [← HD.out] at d1 d2 d3 d4 d5
  rw [hk, ht] at d0 d1 d2 d3 d4 d5
  obtain ⟨y, hy⟩ : ∃ y, y = Sw.mktDo z.1 ⟨(k : Int) + 1, rq.n + 1, 3, (t : Int), 0, 0⟩ := ⟨_, rfl⟩
  have hy' : y = Sw.doIt z.1 ⟨(k : Int) + 1, rq.n + 1, 3, (t : Int), 0, 0⟩ := by rw [hy]; exact Sw.mktDo_y HGX.out d0
  rw [← hy'] at d2 d3 d4 d5
  have Y := Lib.hid hy
  have D1 := Lib.hid d1
  have e2 : (y.2 == 1) = true := by simp [d2]
  have D3 := Lib.hid (show decide (y.1.deals = m.deals) = true from decide_eq_true d3)
  have D4 := Lib.hid (show decide (y.1.log = m.log) = true from decide_eq_true d4)
  have D5 := Lib.hid (show decide (y.1.purses = m.purses) = true from decide_eq_true d5)
  have e6 : IntKind.i64.wrap (rq.n + 1) = rq.n + 1 := IntWalk.i64_in _ (by omega)
  have e7 : ((k : Int) + 1 == (k : Int) + 1) = true := by simp
  have e8 : (rq.price == rq.price) = true := by simp
  rw [ht] at r4
  clear c1 c2 c3 c4 lM hk ht d0 d1 d2 d3 d4 d5 hy hy'
  (focus (refine wp_name ?_; intro W0 hb0; have hst := xr hb0; (try simp only [zA, zC, zD, zN] at hst); obtain ⟨hc0, hf0, hz0⟩ := hst; refine wp_regionX [] (S := fun w' => Held W0 w') hdH (fun hHeld => ?_); refine GoesX.take 0 42 [] hHeld (h := ?_); refine GoesX.take 1 43 [] hHeld (h := ?_); refine GoesX.take 2 44 [] hHeld (h := ?_); (first | refine GoesX.take 3 45 [] hHeld (h := ?_) | refine GoesX.skip 3 45 [] hHeld (h := ?_)); (first | refine GoesX.take 4 46 [] hHeld (h := ?_) | refine GoesX.skip 4 46 [] hHeld (h := ?_)); (first | refine GoesX.take 5 47 [] hHeld (h := ?_) | refine GoesX.skip 5 47 [] hHeld (h := ?_)); refine GoesX.take 6 48 [] hHeld (h := ?_); refine GoesX.take 7 49 [] hHeld (h := ?_); (first | refine GoesX.take 8 50 [] hHeld (h := ?_) | refine GoesX.skip 8 50 [] hHeld (h := ?_)); (first | refine GoesX.take 9 51 [] hHeld (h := ?_) | refine GoesX.skip 9 51 [] hHeld (h := ?_)); (first | refine GoesX.take 10 52 [] hHeld (h := ?_) | refine GoesX.skip 10 52 [] hHeld (h := ?_)); (first | refine GoesX.take 11 53 [] hHeld (h := ?_) | refine GoesX.skip 11 53 [] hHeld (h := ?_)); (first | refine GoesX.take 12 54 [] hHeld (h := ?_) | refine GoesX.skip 12 54 [] hHeld (h := ?_)); (first | refine GoesX.take 13 55 [] hHeld (h := ?_) | refine GoesX.skip 13 55 [] hHeld (h := ?_)); (first | refine GoesX.take 14 56 [] hHeld (h := ?_) | refine GoesX.skip 14 56 [] hHeld (h := ?_)); (first | refine GoesX.take 15 57 [] hHeld (h := ?_) | refine GoesX.skip 15 57 [] hHeld (h := ?_)); (first | refine GoesX.take 16 58 [] hHeld (h := ?_) | refine GoesX.skip 16 58 [] hHeld (h := ?_)); (first | refine GoesX.take 17 59 [] hHeld (h := ?_) | refine GoesX.skip 17 59 [] hHeld (h := ?_)); refine GoesX.take 18 60 [] hHeld (h := ?_); refine GoesX.take 19 61 [] hHeld (h := ?_); (first | refine GoesX.take 20 62 [] hHeld (h := ?_) | refine GoesX.skip 20 62 [] hHeld (h := ?_)); (first | refine GoesX.take 21 63 [] hHeld (h := ?_) | refine GoesX.skip 21 63 [] hHeld (h := ?_)); (first | refine GoesX.take 22 64 [] hHeld (h := ?_) | refine GoesX.skip 22 64 [] hHeld (h := ?_)); refine GoesX.take 23 65 [] hHeld (h := ?_); refine GoesX.done (by kernel_rfl) ?_ _; all_goals (have hb := And.right (by assumption : Held W0 _); have hst := xr hb; (try simp only [zA, zC, zD, zN] at hst); obtain ⟨hc, hf, hz⟩ := hst)))
  go_wp2_with (first | (go_at_call 26; apply Calls.mono; with_reducible apply (iMktDo_c bL bLc bLn bP bPc bPn bD bDc bDn bN bNc bNn bS bSc bSn z.1 ⟨(k : Int) + 1, rq.n + 1, 3, (t : Int), 0, 0⟩); (apply RM.at0 hRX; (exact kf_)); (simp only [Sw.Mkt.len] at hxl hzl; omega); rintro E w6 ⟨eL, eLc, eLn, eP, ePc, ePn, eD, eDc, eDn, eN, eNc, eNn, eS, eSc, eSn, τe, rfl, hoe, hb⟩; rw [← Y.out] at hoe; rw [← Y.out]; have hst := xr hb; (try simp only [zA, zC, zD, zN] at hst); obtain ⟨hc, hf, hz⟩ := hst) | (go_at_call 36; apply Calls.mono; apply (iDealS_c bL bLc bLn bP bPc bPn bD bDc bDn bN bNc bNn bS bSc bSn z.1 (t : Int) ⟨(t : Int), (k : Int) + 1, rq.price, 0, 0⟩); (apply Rs.at0 hRX.deals; (exact kf_)); (exact D1.out); rintro E wf ⟨rfl, hb⟩; have hst := xr hb; (try simp only [zA, zC, zD, zN] at hst); obtain ⟨hc, hf, hz⟩ := hst) | (go_at_call 34; apply Calls.mono; apply (swDeals_c (xs := y.1.deals) (ys := m.deals)); (apply Rs.at0 hoe.deals.ow.rs; (exact kf_)); (apply Rs.at0 hRM.deals; (exact kf_)); rintro E wg ⟨rfl, hb⟩; rw [D3.out]; have hst := xr hb; (try simp only [zA, zC, zD, zN] at hst); obtain ⟨hc, hf, hz⟩ := hst) | (go_at_call 24; apply Calls.mono; apply (swEntries_c (xs := y.1.log) (ys := m.log)); (apply Rs.at0 hoe.log.ow.rs; (exact kf_)); (apply Rs.at0 hRM.log; (exact kf_)); rintro E wh ⟨rfl, hb⟩; rw [D4.out]; have hst := xr hb; (try simp only [zA, zC, zD, zN] at hst); obtain ⟨hc, hf, hz⟩ := hst) | (go_at_call 33; apply Calls.mono; apply (swInts_c (xs := y.1.purses) (ys := m.purses)); (apply Rs.at0 hoe.purses.ow.rs; (exact kf_)); (apply Rs.at0 hRM.purses; (exact kf_)); rintro E wi ⟨rfl, hb⟩; rw [D5.out]; have hst := xr hb; (try simp only [zA, zC, zD, zN] at hst); obtain ⟨hc, hf, hz⟩ := hst) | fail)
  go_ret
  exact ⟨rfl, ext_⟩
end Go.Proofs.Ytimpagcanengoaa

