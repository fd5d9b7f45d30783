/-
  Walk: the law MktApart.
-/
import Derived.Test.YtimpagcanengoaaQLawT
namespace Go.Proofs.Ytimpagcanengoaa
set_option maxRecDepth 100000
set_option linter.unusedSimpArgs false
set_option linter.unusedVariables false
open Go.RowKit Go
set_option maxHeartbeats 1000000

theorem fnMktApart_c (A : Option Addr) (c n : Nat) (bs : List Int) (w : World) (hxs : RB w 0 A c n bs) (hq : ∀ x ∈ bs, 0 ≤ x ∧ x ≤ 255) : Calls Try.prog 10 #[.slice A n c] w fun E w' => E = .returned (.bool true) ∧ Ex w w' := by

  have hbig := Rs.big hxs
  by_cases hn : n ≤ 1048576
  case neg =>
    go_enter Try.func10, Try.ntmps10
    go_wp2_with fail
    go_ret
    exact ⟨rfl, ext_⟩
  go_enter Try.func10, Try.ntmps10
  go_wp2_with fail
  apply Calls.mono
  apply drawMktDo_c
  · apply Rs.at0 hxs; (exact kf_)
  · exact hq
  rintro E w1 ⟨aL, aLc, aLn, aP, aPc, aPn, aD, aDc, aDn, aN, aNc, aNn, aS, aSc, aSn, m, rq, rfl, ⟨hm, hlen⟩, hb⟩
  have hst := xr hb; (try simp only [zA, zC, zD, zN] at hst); obtain ⟨hc, hf, hz⟩ := hst
  clear hxs hq hbig hn
  obtain ⟨z, hz0⟩ : ∃ z, z = Sw.mktDo m rq := ⟨_, rfl⟩
  have HZ := Lib.hid hz0
  clear hz0
  have hzz : (z.2 != z.2) = false := by simp
  go_upto_region 8 with (first | (go_at_call 26; apply Calls.mono; apply (iMktDo_c (m := m) (r := rq)); (apply RM.at0 hm; (exact kf_)); omega; rintro E w2 ⟨bL, bLc, bLn, bP, bPc, bPn, bD, bDc, bDn, bN, bNc, bNn, bS, bSc, bSn, τb, rfl, hob, hb⟩; rw [← HZ.out] at hob; rw [← HZ.out]; have hst := xr hb; (try simp only [zA, zC, zD, zN] at hst); obtain ⟨hc, hf, hz⟩ := hst) | (go_at_call 31; apply Calls.mono; apply (sMktDo_c (m := m) (r := rq)); (apply RM.at0 hm; (exact kf_)); omega; rintro E w3 ⟨vL, vLc, vLn, vP, vPc, vPn, vD, vDc, vDn, vN, vNc, vNn, vS, vSc, vSn, τv, rfl, hov, hb⟩; rw [← HZ.out] at hov; rw [← HZ.out]; have hst := xr hb; (try simp only [zA, zC, zD, zN] at hst); obtain ⟨hc, hf, hz⟩ := hst) | (go_at_call 18; apply Calls.mono; apply (swMarket_c (x := z.1) (y := z.1)); (apply OwM.rm0 hob; (exact kf_)); (apply OwM.rm0 hov; (exact kf_)); rintro E w4 ⟨rfl, hb⟩; rw [show decide (z.1 = z.1) = true from decide_eq_true rfl]; have hst := xr hb; (try simp only [zA, zC, zD, zN] at hst); obtain ⟨hc, hf, hz⟩ := hst))
  (refine wp_name ?_; intro W0 hb0; have hst := xr hb0; (try simp only [zA, zC, zD, zN] at hst); obtain ⟨hc0, hf0, hz0⟩ := hst)
  have hA : MktAt W0 w1.heap.size 0 aL aLc aLn aP aPc aPn aD aDc aDn aN aNc aNn aS aSc aSn m.clock := ⟨sz_, (by (go_simp; first | done | simp [*])), (by (go_simp; first | done | simp [*])), (by (go_simp; first | done | simp [*])), (by (go_simp; first | done | simp [*])), (by (go_simp; first | done | simp [*])), (by (go_simp; first | done | simp [*])), fun i => (by (go_simp; first | done | simp [*]))⟩
  have hQ : QAt W0 (w1.heap.size + 1) rq := ⟨sz_, (by (go_simp; first | done | simp [*])), (by (go_simp; first | done | simp [*])), (by (go_simp; first | done | simp [*])), (by (go_simp; first | done | simp [*])), (by (go_simp; first | done | simp [*])), (by (go_simp; first | done | simp [*])), fun i => (by (go_simp; first | done | simp [*]))⟩
  have hX : MktAt W0 w2.heap.size 0 bL bLc bLn bP bPc bPn bD bDc bDn bN bNc bNn bS bSc bSn z.1.clock := ⟨sz_, (by (go_simp; first | done | simp [*])), (by (go_simp; first | done | simp [*])), (by (go_simp; first | done | simp [*])), (by (go_simp; first | done | simp [*])), (by (go_simp; first | done | simp [*])), (by (go_simp; first | done | simp [*])), fun i => (by (go_simp; first | done | simp [*]))⟩
  have hRM : RM W0 0 aL aLc aLn aP aPc aPn aD aDc aDn aN aNc aNn aS aSc aSn m := RM.at0 hm kf_
  have hRX : RM W0 0 bL bLc bLn bP bPc bPn bD bDc bDn bN bNc bNn bS bSc bSn z.1 := OwM.rm0 hob kf_
  have HE : ExH w W0 := ⟨ext_⟩
  obtain ⟨gm, hgm⟩ : ∃ g, g = w1.heap.size := ⟨_, rfl⟩
  obtain ⟨gr, hgr⟩ : ∃ g, g = w1.heap.size + 1 := ⟨_, rfl⟩
  obtain ⟨gx, hgx⟩ : ∃ g, g = w2.heap.size := ⟨_, rfl⟩
  rw [← hgr] at hQ
  rw [← hgm] at hA
  rw [← hgx] at hX
  (try rw [← hgr])
  (try rw [← hgm])
  (try rw [← hgx])
  clear hgm hgr hgx hob hov hm hb hb0 hc hc0 hf hf0 hz hz0
  ((repeat (rename Ch _ _ _ => zz; clear zz)); (repeat (rename Rdp _ _ _ => zz; clear zz)); (repeat (rename (∀ (b o : Nat), ¬ ((⟨b, 0, none⟩ : Addr) = ⟨b - _ + _, 0, none⟩) → _) => zz; clear zz)))
  have hb := HE.out
  clear HE
  obtain ⟨a0, a1, a2, a3, a4, a5, a6, af⟩ := hA
  obtain ⟨r0, r1, r2, r3, r4, r5, r6, rf⟩ := hQ
  obtain ⟨x0, x1, x2, x3, x4, x5, x6, xf⟩ := hX
  simp only [Nat.zero_add] at a1 a2 a3 a4 a5 a6 x1 x2 x3 x4 x5 x6

  rcases Sw.valid m rq with ⟨g0, hd0⟩ | ⟨rows, hok0, g1, g2, hd0, hokx0, n1, n7⟩
  case' inr =>
    rw [← HZ.out] at hd0
    rw [← hd0] at hokx0 n1 n7
    obtain ⟨rowx, hokx0⟩ := hokx0
    have HO := Lib.hid hok0
    have HG := Lib.hid g1
    have HR := Lib.hid g2
    have HD := Lib.hid hd0
    have HX := Lib.hid hokx0
    have HGX := Lib.hid (Sw.mktOk_iff.2 ⟨rowx, hokx0⟩)
    have hzl := mktDo_len m rq
    rw [← HZ.out] at hzl
    have hxl := hRX.len
    clear hok0 g1 g2 hd0 hokx0
  case' inl =>
    rw [← HZ.out] at hd0
    have Z1 := Lib.hid (congrArg Prod.fst hd0)
    have z2 : z.2 = 0 := congrArg Prod.snd hd0
    have G0 := Lib.hid g0
    clear hd0 g0
  · have hb0 : bSn = 0 := hRX.said.1.trans (by rw [Z1.out]; rfl)
    subst hb0
    go_wp2_with (first | (go_at_call 22; refine (swOk_c _).mono ?_; rintro E w' ⟨rfl, rfl⟩) | fail)
    go_ret
    exact ⟨rfl, ext_⟩
  have z0 : (z.2 == 0) = false := by simp; omega
  have key : ∀ t : Int, 0 ≤ t → t ≠ rq.ticket → Sw.rowAt (Sw.mktRows z.1) t = Sw.rowAt (Sw.mktRows m) t ∧ Sw.dealOf z.1.deals t = Sw.dealOf m.deals t := fun t h0 ht => by
    rw [HD.out]; exact Sw.apart HO.out HR.out h0 ht
  have KY := Lib.hid key
  clear key
  go_wp2_with fail
  (focus (refine wp_name ?_; intro W0 hb0; have hst := xr hb0; (try simp only [zA, zC, zD, zN] at hst); obtain ⟨hc0, hf0, hz0⟩ := hst; refine wp_regionX [] (S := fun w' => Held W0 w') hdH (fun hHeld => ?_); refine GoesX.take 0 54 [] hHeld (h := ?_); refine GoesX.take 2 56 [] hHeld (h := ?_); refine GoesX.one 1 (h := fun K hK => ?_); go_simp; (first | (go_at_call 32; apply Calls.mono; with_reducible apply (iRows_c aL aLc aLn aP aPc aPn aD aDc aDn aN aNc aNn aS aSc aSn m); (apply Rs.at0 hRM.log; (exact kf_)); rintro E w8 ⟨Ra, Rac, Ran, rfl, hoa, hb⟩; have hst := xr hb; (try simp only [zA, zC, zD, zN] at hst); obtain ⟨hc, hf, hz⟩ := hst) | (go_at_call 32; apply Calls.mono; with_reducible apply (iRows_c bL bLc bLn bP bPc bPn bD bDc bDn bN bNc bNn bS bSc bSn z.1); (apply Rs.at0 hRX.log; (exact kf_)); rintro E w9 ⟨Rb, Rbc, Rbn, rfl, hob, hb⟩; have hst := xr hb; (try simp only [zA, zC, zD, zN] at hst); obtain ⟨hc, hf, hz⟩ := hst)); (try go_wp2_with fail); refine outS hK hdH (h := fun hH2 => ?_); clear hK K hHeld; have hHeld := hH2; clear hH2; refine GoesX.one 3 (h := fun K hK => ?_); go_simp; (first | (go_at_call 32; apply Calls.mono; with_reducible apply (iRows_c aL aLc aLn aP aPc aPn aD aDc aDn aN aNc aNn aS aSc aSn m); (apply Rs.at0 hRM.log; (exact kf_)); rintro E w8 ⟨Ra, Rac, Ran, rfl, hoa, hb⟩; have hst := xr hb; (try simp only [zA, zC, zD, zN] at hst); obtain ⟨hc, hf, hz⟩ := hst) | (go_at_call 32; apply Calls.mono; with_reducible apply (iRows_c bL bLc bLn bP bPc bPn bD bDc bDn bN bNc bNn bS bSc bSn z.1); (apply Rs.at0 hRX.log; (exact kf_)); rintro E w9 ⟨Rb, Rbc, Rbn, rfl, hob, hb⟩; have hst := xr hb; (try simp only [zA, zC, zD, zN] at hst); obtain ⟨hc, hf, hz⟩ := hst)); (try go_wp2_with fail); refine outS hK hdH (h := fun hH2 => ?_); clear hK K hHeld; have hHeld := hH2; clear hH2; refine GoesX.take 4 9 [] hHeld (h := ?_); refine GoesX.take 5 10 [] hHeld (h := ?_); refine GoesX.done (by kernel_rfl) ?_ _; all_goals (have hb := And.right (by assumption : Held W0 _); have hst := xr hb; (try simp only [zA, zC, zD, zN] at hst); obtain ⟨hc, hf, hz⟩ := hst)))
  go_wp2_with fail
  have hra : RR w9 0 Ra Rac Ran (Sw.mktRows m) := Ow.rs0 hoa (kE (by assumption : Ex w8 w9) (kR _ _))
  have hrb : RR w9 0 Rb Rbc Rbn (Sw.mktRows z.1) := Ow.rs0 hob (kR _ _)
  have la : Ran = 8 := hra.1.trans (Sw.mktRows_len HO.out)
  have lb : Rbn = 8 := hrb.1.trans (Sw.mktRows_len HX.out)
  subst la lb
  go_loopw [11] (fun i wr => ∃ k : Nat, k ≤ 8 ∧ i = .int .i64 k ∧ Ex w9 wr) (fun i _ => 8 - (intOf i).toNat)
  case atStart => exact ⟨0, by omega, rfl, Ch.refl _ _⟩
  case round =>
    obtain ⟨k, hk, rfl, hb3⟩ := hrel
    have hst := xr hb3
    (try simp only [zA, zC, zD, zN] at hst)
    obtain ⟨hc3, hf3, hz3⟩ := hst
    by_cases hlt : k < 8
    · have t1 : (0 : Int) ≤ (k : Int) := by omega
      have t2 : (k : Int) < 8 := by omega
      obtain ⟨ga, oa, ya, rfl, hga0, hga, -, hya, ca0, ca1, ca2⟩ := at_R hra hlt
      obtain ⟨gb, ob, yb, rfl, hgb0, hgb, -, hyb, cb0, cb1, cb2⟩ := at_R hrb hlt
      obtain ⟨o, ho⟩ : ∃ o, Sw.dealOf m.deals (k : Int) = o := ⟨_, rfl⟩
      obtain ⟨o2, ho2⟩ : ∃ o, Sw.dealOf z.1.deals (k : Int) = o := ⟨_, rfl⟩
      have HA := Lib.hid ho
      have HB := Lib.hid ho2
      by_cases hkt : (k : Int) = rq.ticket
      · have hkt' : ((k : Int) != rq.ticket) = false := by simp [hkt]
        clear hkt ho ho2 hya hyb
        go_wp2_with (first | (go_at_call 36; apply Calls.mono; with_reducible apply (iDealOf_c aL aLc aLn aP aPc aPn aD aDc aDn aN aNc aNn aS aSc aSn m (k : Int) o); (apply Rs.at0 hRM.deals; (exact kf_)); (exact HA.out); rintro E wf ⟨rfl, hb⟩; have hst := xr hb; (try simp only [zA, zC, zD, zN] at hst); obtain ⟨hc, hf, hz⟩ := hst) | (go_at_call 36; apply Calls.mono; with_reducible apply (iDealOf_c bL bLc bLn bP bPc bPn bD bDc bDn bN bNc bNn bS bSc bSn z.1 (k : Int) o2); (apply Rs.at0 hRX.deals; (exact kf_)); (exact HB.out); rintro E wg ⟨rfl, hb⟩; have hst := xr hb; (try simp only [zA, zC, zD, zN] at hst); obtain ⟨hc, hf, hz⟩ := hst))
        (focus (refine wp_name ?_; intro W0 hb0; have hst := xr hb0; (try simp only [zA, zC, zD, zN] at hst); obtain ⟨hc0, hf0, hz0⟩ := hst; refine wp_regionX [] (S := fun w' => Held W0 w') hdH (fun hHeld => ?_); refine GoesX.take 0 74 [] hHeld (h := ?_); refine GoesX.take 1 75 [] hHeld (h := ?_); refine GoesX.take 2 76 [] hHeld (h := ?_); refine GoesX.take 3 77 [] hHeld (h := ?_); refine GoesX.take 4 78 [] hHeld (h := ?_); (first | refine GoesX.take 5 79 [] hHeld (h := ?_) | refine GoesX.skip 5 79 [] hHeld (h := ?_)); (first | refine GoesX.take 6 80 [] hHeld (h := ?_) | refine GoesX.skip 6 80 [] hHeld (h := ?_)); (first | refine GoesX.take 7 81 [] hHeld (h := ?_) | refine GoesX.skip 7 81 [] hHeld (h := ?_)); (first | refine GoesX.take 8 82 [] hHeld (h := ?_) | refine GoesX.skip 8 82 [] hHeld (h := ?_)); (first | refine GoesX.take 9 83 [] hHeld (h := ?_) | refine GoesX.skip 9 83 [] hHeld (h := ?_)); (first | refine GoesX.take 10 84 [] hHeld (h := ?_) | refine GoesX.skip 10 84 [] hHeld (h := ?_)); (first | refine GoesX.take 11 85 [] hHeld (h := ?_) | refine GoesX.skip 11 85 [] hHeld (h := ?_)); (first | refine GoesX.take 12 86 [] hHeld (h := ?_) | refine GoesX.skip 12 86 [] hHeld (h := ?_)); (first | refine GoesX.take 13 87 [] hHeld (h := ?_) | refine GoesX.skip 13 87 [] hHeld (h := ?_)); (first | refine GoesX.take 14 88 [] hHeld (h := ?_) | refine GoesX.skip 14 88 [] hHeld (h := ?_)); (first | refine GoesX.take 15 89 [] hHeld (h := ?_) | refine GoesX.skip 15 89 [] hHeld (h := ?_)); (first | refine GoesX.take 16 90 [] hHeld (h := ?_) | refine GoesX.skip 16 90 [] hHeld (h := ?_)); (first | refine GoesX.take 17 91 [] hHeld (h := ?_) | refine GoesX.skip 17 91 [] hHeld (h := ?_)); (first | refine GoesX.take 18 92 [] hHeld (h := ?_) | refine GoesX.skip 18 92 [] hHeld (h := ?_)); (first | refine GoesX.take 19 93 [] hHeld (h := ?_) | refine GoesX.skip 19 93 [] hHeld (h := ?_)); (first | refine GoesX.take 20 94 [] hHeld (h := ?_) | refine GoesX.skip 20 94 [] hHeld (h := ?_)); (first | refine GoesX.take 21 95 [] hHeld (h := ?_) | refine GoesX.skip 21 95 [] hHeld (h := ?_)); (first | refine GoesX.take 22 96 [] hHeld (h := ?_) | refine GoesX.skip 22 96 [] hHeld (h := ?_)); (first | refine GoesX.take 23 97 [] hHeld (h := ?_) | refine GoesX.skip 23 97 [] hHeld (h := ?_)); refine GoesX.take 24 98 [] hHeld (h := ?_); refine GoesX.done (by kernel_rfl) ?_ _; all_goals (have hb := And.right (by assumption : Held W0 _); have hst := xr hb; (try simp only [zA, zC, zD, zN] at hst); obtain ⟨hc, hf, hz⟩ := hst)))
        go_wp2_with fail
        go_roundw
        case rel => exact ⟨k + 1, by omega, by go_num, ext_⟩
        case measure => simp [intOf]; omega
      · have hkt' : ((k : Int) != rq.ticket) = true := by simp [hkt]
        obtain ⟨e1, e2⟩ := KY.out k t1 hkt
        rw [rowAt_of hyb, rowAt_of hya] at e1
        rw [ho, ho2] at e2
        subst e1 e2
        have vr0 : (yb.who == yb.who) = true := by simp
        have vr1 : (yb.face == yb.face) = true := by simp
        have vr2 : (yb.used == yb.used) = true := by simp
        have vd0 : ((o2.getD Sw.dealZ).ticket == (o2.getD Sw.dealZ).ticket) = true := by simp
        have vd1 : ((o2.getD Sw.dealZ).seller == (o2.getD Sw.dealZ).seller) = true := by simp
        have vd2 : ((o2.getD Sw.dealZ).price == (o2.getD Sw.dealZ).price) = true := by simp
        have vd3 : ((o2.getD Sw.dealZ).buyer == (o2.getD Sw.dealZ).buyer) = true := by simp
        have vd4 : ((o2.getD Sw.dealZ).due == (o2.getD Sw.dealZ).due) = true := by simp
        have vs : (o2.isSome != o2.isSome) = false := by simp
        clear hkt ho ho2 hya hyb
        go_wp2_with (first | (go_at_call 36; apply Calls.mono; with_reducible apply (iDealOf_c aL aLc aLn aP aPc aPn aD aDc aDn aN aNc aNn aS aSc aSn m (k : Int) o2); (apply Rs.at0 hRM.deals; (exact kf_)); (exact HA.out); rintro E wf ⟨rfl, hb⟩; have hst := xr hb; (try simp only [zA, zC, zD, zN] at hst); obtain ⟨hc, hf, hz⟩ := hst) | (go_at_call 36; apply Calls.mono; with_reducible apply (iDealOf_c bL bLc bLn bP bPc bPn bD bDc bDn bN bNc bNn bS bSc bSn z.1 (k : Int) o2); (apply Rs.at0 hRX.deals; (exact kf_)); (exact HB.out); rintro E wg ⟨rfl, hb⟩; have hst := xr hb; (try simp only [zA, zC, zD, zN] at hst); obtain ⟨hc, hf, hz⟩ := hst))
        (focus (refine wp_name ?_; intro W0 hb0; have hst := xr hb0; (try simp only [zA, zC, zD, zN] at hst); obtain ⟨hc0, hf0, hz0⟩ := hst; refine wp_regionX [] (S := fun w' => Held W0 w') hdH (fun hHeld => ?_); refine GoesX.take 0 74 [] hHeld (h := ?_); refine GoesX.take 1 75 [] hHeld (h := ?_); refine GoesX.take 2 76 [] hHeld (h := ?_); refine GoesX.take 3 77 [] hHeld (h := ?_); refine GoesX.take 4 78 [] hHeld (h := ?_); (first | refine GoesX.take 5 79 [] hHeld (h := ?_) | refine GoesX.skip 5 79 [] hHeld (h := ?_)); (first | refine GoesX.take 6 80 [] hHeld (h := ?_) | refine GoesX.skip 6 80 [] hHeld (h := ?_)); (first | refine GoesX.take 7 81 [] hHeld (h := ?_) | refine GoesX.skip 7 81 [] hHeld (h := ?_)); (first | refine GoesX.take 8 82 [] hHeld (h := ?_) | refine GoesX.skip 8 82 [] hHeld (h := ?_)); (first | refine GoesX.take 9 83 [] hHeld (h := ?_) | refine GoesX.skip 9 83 [] hHeld (h := ?_)); (first | refine GoesX.take 10 84 [] hHeld (h := ?_) | refine GoesX.skip 10 84 [] hHeld (h := ?_)); (first | refine GoesX.take 11 85 [] hHeld (h := ?_) | refine GoesX.skip 11 85 [] hHeld (h := ?_)); (first | refine GoesX.take 12 86 [] hHeld (h := ?_) | refine GoesX.skip 12 86 [] hHeld (h := ?_)); (first | refine GoesX.take 13 87 [] hHeld (h := ?_) | refine GoesX.skip 13 87 [] hHeld (h := ?_)); (first | refine GoesX.take 14 88 [] hHeld (h := ?_) | refine GoesX.skip 14 88 [] hHeld (h := ?_)); (first | refine GoesX.take 15 89 [] hHeld (h := ?_) | refine GoesX.skip 15 89 [] hHeld (h := ?_)); (first | refine GoesX.take 16 90 [] hHeld (h := ?_) | refine GoesX.skip 16 90 [] hHeld (h := ?_)); (first | refine GoesX.take 17 91 [] hHeld (h := ?_) | refine GoesX.skip 17 91 [] hHeld (h := ?_)); (first | refine GoesX.take 18 92 [] hHeld (h := ?_) | refine GoesX.skip 18 92 [] hHeld (h := ?_)); (first | refine GoesX.take 19 93 [] hHeld (h := ?_) | refine GoesX.skip 19 93 [] hHeld (h := ?_)); (first | refine GoesX.take 20 94 [] hHeld (h := ?_) | refine GoesX.skip 20 94 [] hHeld (h := ?_)); (first | refine GoesX.take 21 95 [] hHeld (h := ?_) | refine GoesX.skip 21 95 [] hHeld (h := ?_)); (first | refine GoesX.take 22 96 [] hHeld (h := ?_) | refine GoesX.skip 22 96 [] hHeld (h := ?_)); (first | refine GoesX.take 23 97 [] hHeld (h := ?_) | refine GoesX.skip 23 97 [] hHeld (h := ?_)); refine GoesX.take 24 98 [] hHeld (h := ?_); refine GoesX.done (by kernel_rfl) ?_ _; all_goals (have hb := And.right (by assumption : Held W0 _); have hst := xr hb; (try simp only [zA, zC, zD, zN] at hst); obtain ⟨hc, hf, hz⟩ := hst)))
        go_wp2_with fail
        go_roundw
        case rel => exact ⟨k + 1, by omega, by go_num, ext_⟩
        case measure => simp [intOf]; omega
    · go_wp2_with fail
      go_ret
      exact ⟨rfl, ext_⟩
end Go.Proofs.Ytimpagcanengoaa

