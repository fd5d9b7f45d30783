/-
  Walk: the law MktOk.
-/
import Derived.Test.YtimpagcanengoaaQLawT
namespace Go.Proofs.Ytimpagcanengoaa
set_option maxRecDepth 100000
set_option linter.unusedSimpArgs false
set_option linter.unusedVariables false
open Go.RowKit Go
set_option maxHeartbeats 8000000

theorem deals_rise {clock : Int} {rows : List Sw.Row} {ds : List Sw.Deal} (h : Sw.DOk clock rows ds) {k : Nat} {d e : Sw.Deal} (hd : ds[k]? = some d) (he : ds[k + 1]? = some e) : d.ticket < e.ticket := by
  obtain ⟨h1, rfl⟩ := List.getElem?_eq_some_iff.1 hd
  obtain ⟨h2, rfl⟩ := List.getElem?_eq_some_iff.1 he
  exact List.pairwise_iff_getElem.1 h.2 k (k + 1) h1 h2 (Nat.lt_succ_self k)
theorem fnMktOk_c (A : Option Addr) (c n : Nat) (bs : List Int) (w : World) (hxs : RB w 0 A c n bs) (hq : ∀ x ∈ bs, 0 ≤ x ∧ x ≤ 255) : Calls Try.prog 5 #[.slice A n c] w fun E w' => E = .returned (.bool true) ∧ Ex w w' := by
  have hbig := Rs.big hxs
  by_cases hn : n ≤ 1048576
  case neg =>
    go_enter Try.func5, Try.ntmps5
    go_wp2_with fail
    go_ret
    exact ⟨rfl, ext_⟩
  go_enter Try.func5, Try.ntmps5
  go_wp2_with fail
  apply Calls.mono
  apply drawMktOk_c
  · apply Rs.at0 hxs; (exact kf_)
  · exact hq
  rintro E w1 ⟨aL, aLc, aLn, aP, aPc, aPn, aD, aDc, aDn, aN, aNc, aNn, aS, aSc, aSn, m, rfl, ⟨hm, hlen⟩, hb⟩
  have hst := xr hb; (try simp only [zA, zC, zD, zN] at hst); obtain ⟨hc, hf, hz⟩ := hst
  clear hxs hq hbig hn
  cases g1 : Sw.mktOk m
  · obtain ⟨z, hz0⟩ : ∃ z, z = Sw.mktDo m ⟨1, 1, 3, 0, 0, 0⟩ := ⟨_, rfl⟩
    have hz1 : z = (Sw.mktZ, 0) := by rw [hz0]; exact Sw.mktDo_n (.inl g1)
    have Z1 := Lib.hid (show decide (z.1 = Sw.mktZ) = true from decide_eq_true (by rw [hz1]))
    have z2 : z.2 = 0 := by rw [hz1]
    have HZ := Lib.hid hz0
    have G1 := Lib.hid g1
    clear hz0 hz1 g1
    go_wp2_with (first | (go_at_call 22; refine (swOk_c _).mono ?_; rintro E w' ⟨rfl, rfl⟩) | (go_at_call 21; apply Calls.mono; apply (sMktOk_c (m := m)); (apply RM.at0 hm; (exact kf_)); rintro E w5 ⟨rfl, hb⟩; rw [G1.out]; have hst := xr hb; (try simp only [zA, zC, zD, zN] at hst); obtain ⟨hc, hf, hz⟩ := hst) | (go_at_call 23; apply Calls.mono; apply (iMktOk_c (m := m)); (apply RM.at0 hm; (exact kf_)); rintro E w6 ⟨rfl, hb⟩; rw [G1.out]; have hst := xr hb; (try simp only [zA, zC, zD, zN] at hst); obtain ⟨hc, hf, hz⟩ := hst) | (go_at_call 26; apply Calls.mono; apply (iMktDo_c aL aLc aLn aP aPc aPn aD aDc aDn aN aNc aNn aS aSc aSn m ⟨1, 1, 3, 0, 0, 0⟩); (apply RM.at0 hm; (exact kf_)); omega; rintro E w7 ⟨eL, eLc, eLn, eP, ePc, ePn, eD, eDc, eDn, eN, eNc, eNn, eS, eSc, eSn, τe, rfl, hoe, hb⟩; rw [← HZ.out] at hoe; rw [← HZ.out]; have hst := xr hb; (try simp only [zA, zC, zD, zN] at hst); obtain ⟨hc, hf, hz⟩ := hst) | (go_at_call 18; apply Calls.mono; apply (swMarketZ_c (x := z.1)); (apply OwM.rm0 hoe; (exact kf_)); rintro E w8 ⟨rfl, hb⟩; rw [Z1.out]; have hst := xr hb; (try simp only [zA, zC, zD, zN] at hst); obtain ⟨hc, hf, hz⟩ := hst) | fail)
    go_ret
    exact ⟨rfl, ext_⟩
  obtain ⟨rows, hok⟩ := Sw.mktOk_iff.1 g1
  have G1 := Lib.hid g1
  have HO := Lib.hid hok
  have h8 := Sw.ownOk_len (Sw.ownFold_ok hok.fold)
  have H8 := Lib.hid h8
  clear g1 hok h8
  have hDM := Lib.hid hm.deals
  go_wp2_with (first | (go_at_call 21; apply Calls.mono; apply (sMktOk_c (m := m)); (apply RM.at0 hm; (exact kf_)); rintro E w5 ⟨rfl, hb⟩; rw [G1.out]; have hst := xr hb; (try simp only [zA, zC, zD, zN] at hst); obtain ⟨hc, hf, hz⟩ := hst) | (go_at_call 23; apply Calls.mono; apply (iMktOk_c (m := m)); (apply RM.at0 hm; (exact kf_)); rintro E w6 ⟨rfl, hb⟩; rw [G1.out]; have hst := xr hb; (try simp only [zA, zC, zD, zN] at hst); obtain ⟨hc, hf, hz⟩ := hst) | (go_at_call 27; apply Calls.mono; apply (iOwnFold_c (xs := m.log)); (apply Rs.at0 hm.log; (exact kf_)); rintro E w7 ⟨Ra, Rac, Ran, rfl, hor, hb⟩; rw [HO.out.fold] at hor; rw [HO.out.fold]; have hst := xr hb; (try simp only [zA, zC, zD, zN] at hst); obtain ⟨hc, hf, hz⟩ := hst))
  have hR : RR w7 0 Ra Rac Ran rows := hor.rs.at0 (kR _ _)
  have hr8 : Ran = 8 := hR.1.trans H8.out
  subst hr8
  go_loopw [9] (fun i wr => ∃ k : Nat, k ≤ aDn ∧ i = .int .i64 k ∧ Ex w7 wr) (fun i _ => aDn - (intOf i).toNat)
  case atStart => exact ⟨0, Nat.zero_le _, rfl, Ch.refl _ _⟩
  case round =>
    obtain ⟨k, hk, rfl, hb3⟩ := hrel
    have hst := xr hb3
    (try simp only [zA, zC, zD, zN] at hst)
    obtain ⟨hc3, hf3, hz3⟩ := hst
    by_cases hlt : k < aDn
    · have t1 : (0 : Int) ≤ (k : Int) := by omega
      have t2 : (k : Int) < aDn := by omega
      obtain ⟨ga, oa, d, rfl, hga0, hga, -, hya, ca0, ca1, ca2, ca3, ca4⟩ := at_D hDM.out hlt
      have hdo := Sw.dealOk_iff.1 (HO.out.deals.get hya)
      obtain ⟨t, ht⟩ : ∃ t : Nat, d.ticket = t := ⟨d.ticket.toNat, by omega⟩
      have ht8 : t < 8 := by omega
      have ht8i : (t : Int) < 8 := by omega
      have ht0 : (0 : Int) ≤ (t : Int) := by omega
      obtain ⟨gr, orr, r, rfl, hgr0, hgr, -, hyr, cr0, cr1, cr2⟩ := at_R hR ht8
      have hrow : Sw.rowAt rows d.ticket = r := by rw [ht]; exact rowAt_of hyr
      rw [hrow] at hdo
      obtain ⟨q1, q2, q3, q4, q5, q6⟩ := hdo
      have v1 : (r.who != d.seller) = false := by simp [q3]
      have v3 : decide (Sw.entCap r.face < d.price) = false := by simp; omega
      have v4 : (d.buyer == d.seller) = false := by
        rcases q6 with ⟨h1, _⟩ | ⟨_, h1, _⟩
        · simp; omega
        · simpa using h1
      rw [ht] at ca0
      by_cases hk0 : k = 0
      · have hkk : decide ((0 : Int) < (k : Int)) = false := by simp; omega
        have hkl : decide (0 < k) = false := by simp; omega
        clear q1 q2 q3 q5 q6 hrow hyr hya hk0
        go_wp2_with fail
        (focus (refine wp_name ?_; intro W0 hb0; have hst := xr hb0; (try simp only [zA, zC, zD, zN] at hst); obtain ⟨hc0, hf0, hz0⟩ := hst; refine wp_regionX [] (S := fun w' => Held W0 w') hdH (fun hHeld => ?_); refine GoesX.take 0 64 [] hHeld (h := ?_); refine GoesX.take 1 65 [] hHeld (h := ?_); refine GoesX.take 2 66 [] hHeld (h := ?_); refine GoesX.take 3 67 [] hHeld (h := ?_); refine GoesX.take 4 68 [] hHeld (h := ?_); refine GoesX.take 5 69 [] hHeld (h := ?_); (first | refine GoesX.take 6 70 [] hHeld (h := ?_) | refine GoesX.skip 6 70 [] hHeld (h := ?_)); (first | refine GoesX.take 7 71 [] hHeld (h := ?_) | refine GoesX.skip 7 71 [] hHeld (h := ?_)); refine GoesX.take 8 72 [] hHeld (h := ?_); refine GoesX.take 9 73 [] hHeld (h := ?_); (first | refine GoesX.take 10 74 [] hHeld (h := ?_) | refine GoesX.skip 10 74 [] hHeld (h := ?_)); (first | refine GoesX.take 11 75 [] hHeld (h := ?_) | refine GoesX.skip 11 75 [] hHeld (h := ?_)); (first | refine GoesX.take 12 76 [] hHeld (h := ?_) | refine GoesX.skip 12 76 [] hHeld (h := ?_)); (first | refine GoesX.take 13 77 [] hHeld (h := ?_) | refine GoesX.skip 13 77 [] hHeld (h := ?_)); refine GoesX.one 14 (h := fun K hK => ?_); go_simp; (go_at_call 28; refine (iEntCap_c _ _).mono ?_; rintro E w' ⟨rfl, rfl⟩); (try go_wp2_with fail); refine outS hK hdH (h := fun hH2 => ?_); clear hK K hHeld; have hHeld := hH2; clear hH2; (first | refine GoesX.take 15 79 [] hHeld (h := ?_) | refine GoesX.skip 15 79 [] hHeld (h := ?_)); refine GoesX.take 16 80 [] hHeld (h := ?_); refine GoesX.take 17 81 [] hHeld (h := ?_); (first | refine GoesX.take 18 82 [] hHeld (h := ?_) | refine GoesX.skip 18 82 [] hHeld (h := ?_)); (first | refine GoesX.take 19 83 [] hHeld (h := ?_) | refine GoesX.skip 19 83 [] hHeld (h := ?_)); (first | refine GoesX.take 20 84 [] hHeld (h := ?_) | refine GoesX.skip 20 84 [] hHeld (h := ?_)); (first | refine GoesX.take 21 85 [] hHeld (h := ?_) | refine GoesX.skip 21 85 [] hHeld (h := ?_)); (first | refine GoesX.take 22 86 [] hHeld (h := ?_) | refine GoesX.skip 22 86 [] hHeld (h := ?_)); refine GoesX.take 23 87 [] hHeld (h := ?_); refine GoesX.take 24 88 [] hHeld (h := ?_); (first | refine GoesX.take 25 89 [] hHeld (h := ?_) | refine GoesX.skip 25 89 [] hHeld (h := ?_)); (first | refine GoesX.take 26 90 [] hHeld (h := ?_) | refine GoesX.skip 26 90 [] hHeld (h := ?_)); (first | refine GoesX.take 27 91 [] hHeld (h := ?_) | refine GoesX.skip 27 91 [] hHeld (h := ?_)); (first | refine GoesX.take 28 92 [] hHeld (h := ?_) | refine GoesX.skip 28 92 [] hHeld (h := ?_)); (first | refine GoesX.take 29 93 [] hHeld (h := ?_) | refine GoesX.skip 29 93 [] hHeld (h := ?_)); (first | refine GoesX.take 30 94 [] hHeld (h := ?_) | refine GoesX.skip 30 94 [] hHeld (h := ?_)); (first | refine GoesX.take 31 95 [] hHeld (h := ?_) | refine GoesX.skip 31 95 [] hHeld (h := ?_)); (first | refine GoesX.take 32 96 [] hHeld (h := ?_) | refine GoesX.skip 32 96 [] hHeld (h := ?_)); (first | refine GoesX.take 33 97 [] hHeld (h := ?_) | refine GoesX.skip 33 97 [] hHeld (h := ?_)); (first | refine GoesX.take 34 98 [] hHeld (h := ?_) | refine GoesX.skip 34 98 [] hHeld (h := ?_)); (first | refine GoesX.take 35 99 [] hHeld (h := ?_) | refine GoesX.skip 35 99 [] hHeld (h := ?_)); (first | refine GoesX.take 36 100 [] hHeld (h := ?_) | refine GoesX.skip 36 100 [] hHeld (h := ?_)); (first | refine GoesX.take 37 101 [] hHeld (h := ?_) | refine GoesX.skip 37 101 [] hHeld (h := ?_)); (first | refine GoesX.take 38 102 [] hHeld (h := ?_) | refine GoesX.skip 38 102 [] hHeld (h := ?_)); refine GoesX.take 39 103 [] hHeld (h := ?_); refine GoesX.done (by kernel_rfl) ?_ _; all_goals (have hb := And.right (by assumption : Held W0 _); have hst := xr hb; (try simp only [zA, zC, zD, zN] at hst); obtain ⟨hc, hf, hz⟩ := hst)))
        all_goals (go_wp2_with fail; go_roundw)
        all_goals (first | exact ⟨k + 1, by omega, by go_num, ext_⟩ | (simp [intOf]; omega))
      · obtain ⟨j, hkj⟩ : ∃ j, k = j + 1 := ⟨k - 1, by omega⟩
        obtain ⟨gb, ob, e, he0, hgb0, hgb, -, hyb, cb0, cb1, cb2, cb3, cb4⟩ := at_D hDM.out (show j < aDn by omega)
        have hlt2 := deals_rise HO.out.deals hyb (by rw [← hkj]; exact hya)
        obtain ⟨rfl, rfl⟩ : ga = gb ∧ oa = ob := by injection he0 with h; injection h with h1 h2; exact ⟨h1, h2⟩
        have v5 : decide ((t : Int) ≤ e.ticket) = false := by simp; omega
        have v6 : IntKind.i64.wrap ((k : Int) - 1) = (j : Int) := by rw [IntWalk.i64_in _ (by omega)]; omega
        have v9 : decide ((0 : Int) < (k : Int)) = true := by simp; omega
        have v10 : decide (0 < k) = true := by simp; omega
        have t3 : (0 : Int) ≤ (j : Int) := by omega
        have t4 : (j : Int) < aDn := by omega
        clear q1 q2 q3 q5 q6 hrow hyr hya hyb hlt2 hkj hk0
        go_wp2_with fail
        (focus (refine wp_name ?_; intro W0 hb0; have hst := xr hb0; (try simp only [zA, zC, zD, zN] at hst); obtain ⟨hc0, hf0, hz0⟩ := hst; refine wp_regionX [] (S := fun w' => Held W0 w') hdH (fun hHeld => ?_); refine GoesX.take 0 64 [] hHeld (h := ?_); refine GoesX.take 1 65 [] hHeld (h := ?_); refine GoesX.take 2 66 [] hHeld (h := ?_); refine GoesX.take 3 67 [] hHeld (h := ?_); refine GoesX.take 4 68 [] hHeld (h := ?_); refine GoesX.take 5 69 [] hHeld (h := ?_); (first | refine GoesX.take 6 70 [] hHeld (h := ?_) | refine GoesX.skip 6 70 [] hHeld (h := ?_)); (first | refine GoesX.take 7 71 [] hHeld (h := ?_) | refine GoesX.skip 7 71 [] hHeld (h := ?_)); refine GoesX.take 8 72 [] hHeld (h := ?_); refine GoesX.take 9 73 [] hHeld (h := ?_); (first | refine GoesX.take 10 74 [] hHeld (h := ?_) | refine GoesX.skip 10 74 [] hHeld (h := ?_)); (first | refine GoesX.take 11 75 [] hHeld (h := ?_) | refine GoesX.skip 11 75 [] hHeld (h := ?_)); (first | refine GoesX.take 12 76 [] hHeld (h := ?_) | refine GoesX.skip 12 76 [] hHeld (h := ?_)); (first | refine GoesX.take 13 77 [] hHeld (h := ?_) | refine GoesX.skip 13 77 [] hHeld (h := ?_)); refine GoesX.one 14 (h := fun K hK => ?_); go_simp; (go_at_call 28; refine (iEntCap_c _ _).mono ?_; rintro E w' ⟨rfl, rfl⟩); (try go_wp2_with fail); refine outS hK hdH (h := fun hH2 => ?_); clear hK K hHeld; have hHeld := hH2; clear hH2; (first | refine GoesX.take 15 79 [] hHeld (h := ?_) | refine GoesX.skip 15 79 [] hHeld (h := ?_)); refine GoesX.take 16 80 [] hHeld (h := ?_); refine GoesX.take 17 81 [] hHeld (h := ?_); (first | refine GoesX.take 18 82 [] hHeld (h := ?_) | refine GoesX.skip 18 82 [] hHeld (h := ?_)); (first | refine GoesX.take 19 83 [] hHeld (h := ?_) | refine GoesX.skip 19 83 [] hHeld (h := ?_)); (first | refine GoesX.take 20 84 [] hHeld (h := ?_) | refine GoesX.skip 20 84 [] hHeld (h := ?_)); (first | refine GoesX.take 21 85 [] hHeld (h := ?_) | refine GoesX.skip 21 85 [] hHeld (h := ?_)); (first | refine GoesX.take 22 86 [] hHeld (h := ?_) | refine GoesX.skip 22 86 [] hHeld (h := ?_)); refine GoesX.take 23 87 [] hHeld (h := ?_); refine GoesX.take 24 88 [] hHeld (h := ?_); (first | refine GoesX.take 25 89 [] hHeld (h := ?_) | refine GoesX.skip 25 89 [] hHeld (h := ?_)); (first | refine GoesX.take 26 90 [] hHeld (h := ?_) | refine GoesX.skip 26 90 [] hHeld (h := ?_)); (first | refine GoesX.take 27 91 [] hHeld (h := ?_) | refine GoesX.skip 27 91 [] hHeld (h := ?_)); (first | refine GoesX.take 28 92 [] hHeld (h := ?_) | refine GoesX.skip 28 92 [] hHeld (h := ?_)); (first | refine GoesX.take 29 93 [] hHeld (h := ?_) | refine GoesX.skip 29 93 [] hHeld (h := ?_)); (first | refine GoesX.take 30 94 [] hHeld (h := ?_) | refine GoesX.skip 30 94 [] hHeld (h := ?_)); (first | refine GoesX.take 31 95 [] hHeld (h := ?_) | refine GoesX.skip 31 95 [] hHeld (h := ?_)); (first | refine GoesX.take 32 96 [] hHeld (h := ?_) | refine GoesX.skip 32 96 [] hHeld (h := ?_)); (first | refine GoesX.take 33 97 [] hHeld (h := ?_) | refine GoesX.skip 33 97 [] hHeld (h := ?_)); (first | refine GoesX.take 34 98 [] hHeld (h := ?_) | refine GoesX.skip 34 98 [] hHeld (h := ?_)); (first | refine GoesX.take 35 99 [] hHeld (h := ?_) | refine GoesX.skip 35 99 [] hHeld (h := ?_)); (first | refine GoesX.take 36 100 [] hHeld (h := ?_) | refine GoesX.skip 36 100 [] hHeld (h := ?_)); (first | refine GoesX.take 37 101 [] hHeld (h := ?_) | refine GoesX.skip 37 101 [] hHeld (h := ?_)); (first | refine GoesX.take 38 102 [] hHeld (h := ?_) | refine GoesX.skip 38 102 [] hHeld (h := ?_)); refine GoesX.take 39 103 [] hHeld (h := ?_); refine GoesX.done (by kernel_rfl) ?_ _; all_goals (have hb := And.right (by assumption : Held W0 _); have hst := xr hb; (try simp only [zA, zC, zD, zN] at hst); obtain ⟨hc, hf, hz⟩ := hst)))
        all_goals (go_wp2_with fail; go_roundw)
        all_goals (first | exact ⟨k + 1, by omega, by go_num, ext_⟩ | (simp [intOf]; omega))
    · obtain ⟨s1, e1⟩ : ∃ s, s = Sw.monSum m.purses := ⟨_, rfl⟩
      obtain ⟨s2, e2⟩ : ∃ s, s = Sw.mktHeld m := ⟨_, rfl⟩
      have b0 := HO.out.sum
      have b3 := HO.out.total
      have b1 := Sw.monSum_bd HO.out.mon
      have b2 := mktHeld_bd HO.out
      rw [← e1, ← e2] at b3
      rw [← e1] at b1
      rw [← e2] at b2
      have v1 : IntKind.i64.wrap (s1 + s2) = s1 + s2 := IntWalk.i64_in _ (by omega)
      have v2 : decide (s1 + s2 ≤ 100000) = true := decide_eq_true (by omega)
      have K1 := Lib.hid e1
      have K2 := Lib.hid e2
      clear e1 e2 b0 b1 b2 b3
      go_wp2_with fail
      (focus (refine wp_name ?_; intro W0 hb0; have hst := xr hb0; (try simp only [zA, zC, zD, zN] at hst); obtain ⟨hc0, hf0, hz0⟩ := hst; refine wp_regionX [] (S := fun w' => Held W0 w') hdH (fun hHeld => ?_); refine GoesX.take 0 104 [] hHeld (h := ?_); refine GoesX.take 1 105 [] hHeld (h := ?_); (first | refine GoesX.take 2 106 [] hHeld (h := ?_) | refine GoesX.skip 2 106 [] hHeld (h := ?_)); (first | refine GoesX.take 3 107 [] hHeld (h := ?_) | refine GoesX.skip 3 107 [] hHeld (h := ?_)); refine GoesX.one 4 (h := fun K hK => ?_); go_simp; (first | (go_at_call 29; apply Calls.mono; apply (iMonOk_c (xs := m.purses)); (apply Rs.at0 hm.purses; (exact kf_)); rintro E w8 ⟨rfl, hb⟩; rw [HO.out.mon]; have hst := xr hb; (try simp only [zA, zC, zD, zN] at hst); obtain ⟨hc, hf, hz⟩ := hst) | (go_at_call 20; apply Calls.mono; apply (iMonSum_c (xs := m.purses)); (apply Rs.at0 hm.purses; (exact kf_)); rintro E w9 ⟨rfl, rfl⟩; rw [← K1.out]) | (go_at_call 19; apply Calls.mono; apply (iMktHeld_c (m := m)); (apply RM.at0 hm; (exact kf_)); rintro E w10 ⟨rfl, hb⟩; rw [← K2.out]; have hst := xr hb; (try simp only [zA, zC, zD, zN] at hst); obtain ⟨hc, hf, hz⟩ := hst)); (try go_wp2_with fail); refine outS hK hdH (h := fun hH2 => ?_); clear hK K hHeld; have hHeld := hH2; clear hH2; refine GoesX.take 5 109 [] hHeld (h := ?_); refine GoesX.take 6 110 [] hHeld (h := ?_); (first | refine GoesX.take 7 111 [] hHeld (h := ?_) | refine GoesX.skip 7 111 [] hHeld (h := ?_)); (first | refine GoesX.take 8 112 [] hHeld (h := ?_) | refine GoesX.skip 8 112 [] hHeld (h := ?_)); (first | refine GoesX.take 10 114 [] hHeld (h := ?_) | refine GoesX.skip 10 114 [] hHeld (h := ?_)); refine GoesX.one 9 (h := fun K hK => ?_); go_simp; (first | (go_at_call 29; apply Calls.mono; apply (iMonOk_c (xs := m.purses)); (apply Rs.at0 hm.purses; (exact kf_)); rintro E w8 ⟨rfl, hb⟩; rw [HO.out.mon]; have hst := xr hb; (try simp only [zA, zC, zD, zN] at hst); obtain ⟨hc, hf, hz⟩ := hst) | (go_at_call 20; apply Calls.mono; apply (iMonSum_c (xs := m.purses)); (apply Rs.at0 hm.purses; (exact kf_)); rintro E w9 ⟨rfl, rfl⟩; rw [← K1.out]) | (go_at_call 19; apply Calls.mono; apply (iMktHeld_c (m := m)); (apply RM.at0 hm; (exact kf_)); rintro E w10 ⟨rfl, hb⟩; rw [← K2.out]; have hst := xr hb; (try simp only [zA, zC, zD, zN] at hst); obtain ⟨hc, hf, hz⟩ := hst)); (try go_wp2_with fail); refine outS hK hdH (h := fun hH2 => ?_); clear hK K hHeld; have hHeld := hH2; clear hH2; refine GoesX.one 11 (h := fun K hK => ?_); go_simp; (first | (go_at_call 29; apply Calls.mono; apply (iMonOk_c (xs := m.purses)); (apply Rs.at0 hm.purses; (exact kf_)); rintro E w8 ⟨rfl, hb⟩; rw [HO.out.mon]; have hst := xr hb; (try simp only [zA, zC, zD, zN] at hst); obtain ⟨hc, hf, hz⟩ := hst) | (go_at_call 20; apply Calls.mono; apply (iMonSum_c (xs := m.purses)); (apply Rs.at0 hm.purses; (exact kf_)); rintro E w9 ⟨rfl, rfl⟩; rw [← K1.out]) | (go_at_call 19; apply Calls.mono; apply (iMktHeld_c (m := m)); (apply RM.at0 hm; (exact kf_)); rintro E w10 ⟨rfl, hb⟩; rw [← K2.out]; have hst := xr hb; (try simp only [zA, zC, zD, zN] at hst); obtain ⟨hc, hf, hz⟩ := hst)); (try go_wp2_with fail); refine outS hK hdH (h := fun hH2 => ?_); clear hK K hHeld; have hHeld := hH2; clear hH2; (first | refine GoesX.take 12 116 [] hHeld (h := ?_) | refine GoesX.skip 12 116 [] hHeld (h := ?_)); (first | refine GoesX.take 13 117 [] hHeld (h := ?_) | refine GoesX.skip 13 117 [] hHeld (h := ?_)); refine GoesX.take 14 118 [] hHeld (h := ?_); refine GoesX.take 15 2 [] hHeld (h := ?_); refine GoesX.done (by kernel_rfl) ?_ _; all_goals (have hb := And.right (by assumption : Held W0 _); have hst := xr hb; (try simp only [zA, zC, zD, zN] at hst); obtain ⟨hc, hf, hz⟩ := hst)))
      all_goals go_wp2_with fail
      all_goals go_ret
      all_goals exact ⟨rfl, ext_⟩
end Go.Proofs.Ytimpagcanengoaa

