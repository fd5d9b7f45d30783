/-
  Walk: the law MktTick.
-/
import Derived.Test.YtimpagcanengoaaQLawT
namespace Go.Proofs.Ytimpagcanengoaa
set_option maxRecDepth 100000
set_option linter.unusedSimpArgs false
set_option linter.unusedVariables false
open Go.RowKit Go
set_option maxHeartbeats 1000000

theorem fnMktTick_c (A : Option Addr) (c n : Nat) (bs : List Int) (w : World) (hxs : RB w 0 A c n bs) (hq : ∀ x ∈ bs, 0 ≤ x ∧ x ≤ 255) : Calls Try.prog 4 #[.slice A n c] w fun E w' => E = .returned (.bool true) ∧ Ex w w' := by

  have hbig := Rs.big hxs
  by_cases hn : n ≤ 1048576
  case neg =>
    go_enter Try.func4, Try.ntmps4
    go_wp2_with fail
    go_ret
    exact ⟨rfl, ext_⟩
  go_enter Try.func4, Try.ntmps4
  go_wp2_with fail
  apply Calls.mono
  apply drawMktTick_c
  · apply Rs.at0 hxs; (exact kf_)
  · exact hq
  rintro E w1 ⟨aL, aLc, aLn, aP, aPc, aPn, aD, aDc, aDn, aN, aNc, aNn, aS, aSc, aSn, m, rfl, ⟨hm, hlen⟩, hb⟩
  have hst := xr hb; (try simp only [zA, zC, zD, zN] at hst); obtain ⟨hc, hf, hz⟩ := hst
  clear hxs hq hbig hn
  obtain ⟨z, hz0⟩ : ∃ z, z = Sw.mktTick m := ⟨_, rfl⟩
  have HZ := Lib.hid hz0
  clear hz0
  have hzz : (z.2 != z.2) = false := by simp
  go_upto_region 8 with (first | (go_at_call 16; apply Calls.mono; apply (iMktTick_c (m := m)); (apply RM.at0 hm; (exact kf_)); omega; rintro E w2 ⟨bL, bLc, bLn, bP, bPc, bPn, bD, bDc, bDn, bN, bNc, bNn, bS, bSc, bSn, τb, rfl, hob, hb⟩; rw [← HZ.out] at hob; rw [← HZ.out]; have hst := xr hb; (try simp only [zA, zC, zD, zN] at hst); obtain ⟨hc, hf, hz⟩ := hst) | (go_at_call 17; apply Calls.mono; apply (sMktTick_c (m := m)); (apply RM.at0 hm; (exact kf_)); omega; rintro E w3 ⟨vL, vLc, vLn, vP, vPc, vPn, vD, vDc, vDn, vN, vNc, vNn, vS, vSc, vSn, τv, rfl, hov, hb⟩; rw [← HZ.out] at hov; rw [← HZ.out]; have hst := xr hb; (try simp only [zA, zC, zD, zN] at hst); obtain ⟨hc, hf, hz⟩ := hst) | (go_at_call 18; apply Calls.mono; apply (swMarket_c (x := z.1) (y := z.1)); (apply OwM.rm0 hob; (exact kf_)); (apply OwM.rm0 hov; (exact kf_)); rintro E w4 ⟨rfl, hb⟩; rw [show decide (z.1 = z.1) = true from decide_eq_true rfl]; have hst := xr hb; (try simp only [zA, zC, zD, zN] at hst); obtain ⟨hc, hf, hz⟩ := hst))
  (refine wp_name ?_; intro W0 hb0; have hst := xr hb0; (try simp only [zA, zC, zD, zN] at hst); obtain ⟨hc0, hf0, hz0⟩ := hst)
  have hA : MktAt W0 w1.heap.size 0 aL aLc aLn aP aPc aPn aD aDc aDn aN aNc aNn aS aSc aSn m.clock := ⟨sz_, (by (go_simp; first | done | simp [*])), (by (go_simp; first | done | simp [*])), (by (go_simp; first | done | simp [*])), (by (go_simp; first | done | simp [*])), (by (go_simp; first | done | simp [*])), (by (go_simp; first | done | simp [*])), fun i => (by (go_simp; first | done | simp [*]))⟩
  have HE1 : ExH w1 W0 := ⟨ext_⟩
  have hg1 : w1.heap.size ≤ w2.heap.size := sz_
  have hX : MktAt W0 w2.heap.size 0 bL bLc bLn bP bPc bPn bD bDc bDn bN bNc bNn bS bSc bSn z.1.clock := ⟨sz_, (by (go_simp; first | done | simp [*])), (by (go_simp; first | done | simp [*])), (by (go_simp; first | done | simp [*])), (by (go_simp; first | done | simp [*])), (by (go_simp; first | done | simp [*])), (by (go_simp; first | done | simp [*])), fun i => (by (go_simp; first | done | simp [*]))⟩
  have hRM : RM W0 0 aL aLc aLn aP aPc aPn aD aDc aDn aN aNc aNn aS aSc aSn m := RM.at0 hm kf_
  have hRX : RM W0 0 bL bLc bLn bP bPc bPn bD bDc bDn bN bNc bNn bS bSc bSn z.1 := OwM.rm0 hob kf_
  have HE : ExH w W0 := ⟨ext_⟩
  obtain ⟨gm, hgm⟩ : ∃ g, g = w1.heap.size := ⟨_, rfl⟩
  obtain ⟨gx, hgx⟩ : ∃ g, g = w2.heap.size := ⟨_, rfl⟩
  rw [← hgm] at hA
  rw [← hgx] at hX hg1
  have hgm1 : w1.heap.size ≤ gm := by omega
  have hgmx : gm < gx := by rw [hgm, hgx]; exact sz_
  (try rw [← hgm])
  (try rw [← hgx])
  clear hgm hgx hob hov hb hb0 hc hc0 hf hf0 hz hz0
  ((repeat (rename Ch _ _ _ => zz; clear zz)); (repeat (rename Rdp _ _ _ => zz; clear zz)); (repeat (rename (∀ (b o : Nat), ¬ ((⟨b, 0, none⟩ : Addr) = ⟨b - _ + _, 0, none⟩) → _) => zz; clear zz)))
  have hb := HE.out
  clear HE
  obtain ⟨a0, a1, a2, a3, a4, a5, a6, af⟩ := hA
  obtain ⟨x0, x1, x2, x3, x4, x5, x6, xf⟩ := hX
  simp only [Nat.zero_add] at a1 a2 a3 a4 a5 a6 x1 x2 x3 x4 x5 x6

  clear HE1 hg1 hgm1 hgmx hm
  cases g1 : Sw.mktOk m
  · have e : z = (Sw.mktZ, false) := by rw [HZ.out]; simp [Sw.mktTick, g1]
    have Z1 := Lib.hid (show decide (z.1 = Sw.mktZ) = true from decide_eq_true (by rw [e]))
    have z2 : z.2 = false := by rw [e]
    have G1 := Lib.hid g1
    clear e g1
    go_wp2_with (first | (go_at_call 22; refine (swOk_c _).mono ?_; rintro E w' ⟨rfl, rfl⟩) | (go_at_call 21; apply Calls.mono; apply (sMktOk_c (m := m)); (apply RM.at0 hRM; (exact kf_)); rintro E w5 ⟨rfl, hb⟩; rw [G1.out]; have hst := xr hb; (try simp only [zA, zC, zD, zN] at hst); obtain ⟨hc, hf, hz⟩ := hst) | (go_at_call 18; apply Calls.mono; apply (swMarketZ_c (x := z.1)); (apply RM.at0 hRX; (exact kf_)); rintro E w7 ⟨rfl, hb⟩; rw [Z1.out]; have hst := xr hb; (try simp only [zA, zC, zD, zN] at hst); obtain ⟨hc, hf, hz⟩ := hst) | fail)
    go_ret
    exact ⟨rfl, ext_⟩
  obtain ⟨rows, hok⟩ := Sw.mktOk_iff.1 g1
  have G1 := Lib.hid g1
  have HO := Lib.hid hok
  clear hok
  by_cases g2 : m.clock = 99999
  · have e : z = (m, false) := by rw [HZ.out]; simp [Sw.mktTick, g1, g2]
    have Z1 := Lib.hid (show decide (z.1 = m) = true from decide_eq_true (by rw [e]))
    have z2 : z.2 = false := by rw [e]
    have g2' : (m.clock == 99999) = true := by simp [g2]
    clear e g1 g2
    go_wp2_with (first | (go_at_call 21; apply Calls.mono; apply (sMktOk_c (m := m)); (apply RM.at0 hRM; (exact kf_)); rintro E w5 ⟨rfl, hb⟩; rw [G1.out]; have hst := xr hb; (try simp only [zA, zC, zD, zN] at hst); obtain ⟨hc, hf, hz⟩ := hst) | (go_at_call 18; apply Calls.mono; apply (swMarket_c (x := z.1) (y := m)); (apply RM.at0 hRX; (exact kf_)); (apply RM.at0 hRM; (exact kf_)); rintro E w7 ⟨rfl, hb⟩; rw [Z1.out]; have hst := xr hb; (try simp only [zA, zC, zD, zN] at hst); obtain ⟨hc, hf, hz⟩ := hst) | fail)
    go_ret
    exact ⟨rfl, ext_⟩
  have e : z = (Sw.tick m, true) := by rw [HZ.out]; simp [Sw.mktTick, g1, g2]
  have z2 : z.2 = true := by rw [e]
  have hz1 : z.1 = Sw.tick m := by rw [e]
  have Z1 := Lib.hid hz1
  have Z3 := Lib.hid (show Sw.mktOk z.1 = true by rw [hz1]; exact Sw.tick_mktOk g1 g2)
  have Z4 := Lib.hid (show decide (z.1.log = m.log) = true from decide_eq_true (by rw [hz1]; rfl))
  have hck : z.1.clock = m.clock + 1 := by rw [hz1]; rfl
  have hdl : bDn = aDn := by rw [hRX.deals.1, hRM.deals.1, hz1]; simp [Sw.tick]
  subst hdl
  have hdk : z.1.deals = m.deals.map (Sw.backDeal (m.clock + 1)) := by rw [hz1]; rfl
  have hck2 := HO.out.clk
  have t9 : IntKind.i64.wrap (m.clock + 1) = m.clock + 1 := IntWalk.i64_in _ (by omega)
  have HDK := Lib.hid hdk
  have vc : (z.1.clock == m.clock + 1) = true := by rw [hck]; simp
  have vn : ((bDn : Int) == (bDn : Int)) = true := by simp
  have HCK := Lib.hid hck
  have G2 := Lib.hid g2
  have hDR := Lib.hid hRX.deals
  have hDM := Lib.hid hRM.deals
  clear e g1 g2 hz1 hck hdk hck2
  go_wp2_with (go_at_call 21; apply Calls.mono; apply (sMktOk_c (m := m)); (apply RM.at0 hRM; (exact kf_)); rintro E w5 ⟨rfl, hb⟩; rw [G1.out]; have hst := xr hb; (try simp only [zA, zC, zD, zN] at hst); obtain ⟨hc, hf, hz⟩ := hst)
  go_loopw [8] (fun i wr => ∃ k : Nat, k ≤ bDn ∧ i = .int .i64 k ∧ Ex w5 wr) (fun i _ => bDn - (intOf i).toNat)
  case atStart => exact ⟨0, Nat.zero_le _, rfl, Ch.refl _ _⟩
  case round =>
    obtain ⟨k, hk, rfl, hb3⟩ := hrel
    have hst := xr hb3
    (try simp only [zA, zC, zD, zN] at hst)
    obtain ⟨hc3, hf3, hz3⟩ := hst
    by_cases hlt : k < bDn
    · have t1 : (0 : Int) ≤ (k : Int) := by omega
      have t2 : (k : Int) < bDn := by omega
      obtain ⟨ga, oa, d, rfl, hga0, hga, -, hya, ca0, ca1, ca2, ca3, ca4⟩ := at_D hDM.out hlt
      obtain ⟨gb, ob, e, rfl, hgb0, hgb, -, hyb, cb0, cb1, cb2, cb3, cb4⟩ := at_D hDR.out hlt
      have he : e = Sw.backDeal (m.clock + 1) d := by
        rw [HDK.out, List.getElem?_map, hya] at hyb
        simpa using hyb.symm
      obtain ⟨p1, p2, p3, p4, p5⟩ := Sw.tick_deal HO.out (List.mem_of_getElem? hya)
      rw [← he] at p1 p2 p3 p4 p5
      have v1 : (d.ticket != e.ticket) = false := by simp [p1]
      have v2 : (d.price != e.price) = false := by simp [p2]
      by_cases h1 : 0 < d.buyer ∧ d.due = m.clock
      · have v3 : decide (0 < d.buyer) = true := decide_eq_true h1.1
        have v4 : (d.due == m.clock) = true := by simp [h1.2]
        have hb0 := p3 h1.1 h1.2
        have v5 : (e.buyer != 0) = false := by simp [hb0]
        have v7 : decide (0 < e.buyer) = false := by simp [hb0]
        clear p1 p2 p3 p4 p5 h1 hb0 he hya hyb
        go_wp2_with fail
        (focus (refine wp_name ?_; intro W0 hb0; have hst := xr hb0; (try simp only [zA, zC, zD, zN] at hst); obtain ⟨hc0, hf0, hz0⟩ := hst; refine wp_regionX [] (S := fun w' => Held W0 w') hdH (fun hHeld => ?_); refine GoesX.take 0 66 [] hHeld (h := ?_); refine GoesX.take 1 67 [] hHeld (h := ?_); refine GoesX.take 2 68 [] hHeld (h := ?_); refine GoesX.take 3 69 [] hHeld (h := ?_); refine GoesX.take 4 70 [] hHeld (h := ?_); refine GoesX.take 5 71 [] hHeld (h := ?_); refine GoesX.take 6 72 [] hHeld (h := ?_); refine GoesX.take 7 73 [] hHeld (h := ?_); refine GoesX.take 8 74 [] hHeld (h := ?_); refine GoesX.take 9 75 [] hHeld (h := ?_); refine GoesX.ready (rs := [10, 11]) (by kernel_rfl) (by simp) ?_; refine EachX.cons rfl (fun K hK => ?_) ?_; rotate_left; refine EachX.cons rfl (fun K hK => ?_) EachX.nil; (focus (go_simp; refine outS hK hdH (h := fun hH2 => ?_); clear hK K hHeld; have hHeld := hH2; clear hH2; refine GoesX.one 10 (h := fun K hK => ?_); go_simp; refine outS hK hdH (h := fun hH2 => ?_); clear hK K hHeld; have hHeld := hH2; clear hH2; refine GoesX.one 12 (h := fun K hK => ?_); go_simp; refine outS hK hdH (h := fun hH2 => ?_); clear hK K hHeld; have hHeld := hH2; clear hH2; refine GoesX.one 13 (h := fun K hK => ?_); go_simp; refine outS hK hdH (h := fun hH2 => ?_); clear hK K hHeld; have hHeld := hH2; clear hH2; refine GoesX.done (by kernel_rfl) ?_ _; all_goals (have hb := And.right (by assumption : Held W0 _); have hst := xr hb; (try simp only [zA, zC, zD, zN] at hst); obtain ⟨hc, hf, hz⟩ := hst))); rotate_right 1; (focus (go_simp; refine outS hK hdH (h := fun hH2 => ?_); clear hK K hHeld; have hHeld := hH2; clear hH2; refine GoesX.one 11 (h := fun K hK => ?_); go_simp; refine outS hK hdH (h := fun hH2 => ?_); clear hK K hHeld; have hHeld := hH2; clear hH2; refine GoesX.one 12 (h := fun K hK => ?_); go_simp; refine outS hK hdH (h := fun hH2 => ?_); clear hK K hHeld; have hHeld := hH2; clear hH2; refine GoesX.one 13 (h := fun K hK => ?_); go_simp; refine outS hK hdH (h := fun hH2 => ?_); clear hK K hHeld; have hHeld := hH2; clear hH2; refine GoesX.done (by kernel_rfl) ?_ _; all_goals (have hb := And.right (by assumption : Held W0 _); have hst := xr hb; (try simp only [zA, zC, zD, zN] at hst); obtain ⟨hc, hf, hz⟩ := hst)))))
        all_goals (go_wp2_with fail; go_roundw)
        all_goals (first | exact ⟨k + 1, by omega, by go_num, ext_⟩ | (simp [intOf]; omega))
      · have hde := p4 h1
        subst hde
        have w0 : (e.ticket == e.ticket) = true := by simp
        have w1 : (e.seller == e.seller) = true := by simp
        have w2 : (e.price == e.price) = true := by simp
        have w3 : (e.buyer == e.buyer) = true := by simp
        have w4 : (e.due == e.due) = true := by simp
        by_cases h2 : 0 < e.buyer
        · have v3 : decide (0 < e.buyer) = true := decide_eq_true h2
          have v4 : (e.due == m.clock) = false := by simp; exact fun hc => h1 ⟨h2, hc⟩
          have v5 : decide (e.due < z.1.clock) = false := by rw [HCK.out]; have := p5 h2; simp; omega
          clear p1 p2 p3 p4 p5 h1 h2 he hya hyb
          go_wp2_with fail
          (focus (refine wp_name ?_; intro W0 hb0; have hst := xr hb0; (try simp only [zA, zC, zD, zN] at hst); obtain ⟨hc0, hf0, hz0⟩ := hst; refine wp_regionX [] (S := fun w' => Held W0 w') hdH (fun hHeld => ?_); refine GoesX.take 0 66 [] hHeld (h := ?_); refine GoesX.take 1 67 [] hHeld (h := ?_); refine GoesX.take 2 68 [] hHeld (h := ?_); refine GoesX.take 3 69 [] hHeld (h := ?_); refine GoesX.take 4 70 [] hHeld (h := ?_); refine GoesX.take 5 71 [] hHeld (h := ?_); refine GoesX.take 6 72 [] hHeld (h := ?_); refine GoesX.take 7 73 [] hHeld (h := ?_); refine GoesX.take 8 74 [] hHeld (h := ?_); refine GoesX.take 9 75 [] hHeld (h := ?_); refine GoesX.ready (rs := [10, 11]) (by kernel_rfl) (by simp) ?_; refine EachX.cons rfl (fun K hK => ?_) ?_; rotate_left; refine EachX.cons rfl (fun K hK => ?_) EachX.nil; (focus (go_simp; refine outS hK hdH (h := fun hH2 => ?_); clear hK K hHeld; have hHeld := hH2; clear hH2; refine GoesX.one 10 (h := fun K hK => ?_); go_simp; refine outS hK hdH (h := fun hH2 => ?_); clear hK K hHeld; have hHeld := hH2; clear hH2; refine GoesX.one 12 (h := fun K hK => ?_); go_simp; refine outS hK hdH (h := fun hH2 => ?_); clear hK K hHeld; have hHeld := hH2; clear hH2; refine GoesX.one 13 (h := fun K hK => ?_); go_simp; refine outS hK hdH (h := fun hH2 => ?_); clear hK K hHeld; have hHeld := hH2; clear hH2; refine GoesX.done (by kernel_rfl) ?_ _; all_goals (have hb := And.right (by assumption : Held W0 _); have hst := xr hb; (try simp only [zA, zC, zD, zN] at hst); obtain ⟨hc, hf, hz⟩ := hst))); rotate_right 1; (focus (go_simp; refine outS hK hdH (h := fun hH2 => ?_); clear hK K hHeld; have hHeld := hH2; clear hH2; refine GoesX.one 11 (h := fun K hK => ?_); go_simp; refine outS hK hdH (h := fun hH2 => ?_); clear hK K hHeld; have hHeld := hH2; clear hH2; refine GoesX.one 12 (h := fun K hK => ?_); go_simp; refine outS hK hdH (h := fun hH2 => ?_); clear hK K hHeld; have hHeld := hH2; clear hH2; refine GoesX.one 13 (h := fun K hK => ?_); go_simp; refine outS hK hdH (h := fun hH2 => ?_); clear hK K hHeld; have hHeld := hH2; clear hH2; refine GoesX.done (by kernel_rfl) ?_ _; all_goals (have hb := And.right (by assumption : Held W0 _); have hst := xr hb; (try simp only [zA, zC, zD, zN] at hst); obtain ⟨hc, hf, hz⟩ := hst)))))
          all_goals (go_wp2_with fail; go_roundw)
          all_goals (first | exact ⟨k + 1, by omega, by go_num, ext_⟩ | (simp [intOf]; omega))
        · have v3 : decide (0 < e.buyer) = false := decide_eq_false h2
          clear p1 p2 p3 p4 p5 h1 h2 he hya hyb
          go_wp2_with fail
          (focus (refine wp_name ?_; intro W0 hb0; have hst := xr hb0; (try simp only [zA, zC, zD, zN] at hst); obtain ⟨hc0, hf0, hz0⟩ := hst; refine wp_regionX [] (S := fun w' => Held W0 w') hdH (fun hHeld => ?_); refine GoesX.take 0 66 [] hHeld (h := ?_); refine GoesX.take 1 67 [] hHeld (h := ?_); refine GoesX.take 2 68 [] hHeld (h := ?_); refine GoesX.take 3 69 [] hHeld (h := ?_); refine GoesX.take 4 70 [] hHeld (h := ?_); refine GoesX.take 5 71 [] hHeld (h := ?_); refine GoesX.take 6 72 [] hHeld (h := ?_); refine GoesX.take 7 73 [] hHeld (h := ?_); refine GoesX.take 8 74 [] hHeld (h := ?_); refine GoesX.take 9 75 [] hHeld (h := ?_); refine GoesX.ready (rs := [10, 11]) (by kernel_rfl) (by simp) ?_; refine EachX.cons rfl (fun K hK => ?_) ?_; rotate_left; refine EachX.cons rfl (fun K hK => ?_) EachX.nil; (focus (go_simp; refine outS hK hdH (h := fun hH2 => ?_); clear hK K hHeld; have hHeld := hH2; clear hH2; refine GoesX.one 10 (h := fun K hK => ?_); go_simp; refine outS hK hdH (h := fun hH2 => ?_); clear hK K hHeld; have hHeld := hH2; clear hH2; refine GoesX.one 12 (h := fun K hK => ?_); go_simp; refine outS hK hdH (h := fun hH2 => ?_); clear hK K hHeld; have hHeld := hH2; clear hH2; refine GoesX.one 13 (h := fun K hK => ?_); go_simp; refine outS hK hdH (h := fun hH2 => ?_); clear hK K hHeld; have hHeld := hH2; clear hH2; refine GoesX.done (by kernel_rfl) ?_ _; all_goals (have hb := And.right (by assumption : Held W0 _); have hst := xr hb; (try simp only [zA, zC, zD, zN] at hst); obtain ⟨hc, hf, hz⟩ := hst))); rotate_right 1; (focus (go_simp; refine outS hK hdH (h := fun hH2 => ?_); clear hK K hHeld; have hHeld := hH2; clear hH2; refine GoesX.one 11 (h := fun K hK => ?_); go_simp; refine outS hK hdH (h := fun hH2 => ?_); clear hK K hHeld; have hHeld := hH2; clear hH2; refine GoesX.one 12 (h := fun K hK => ?_); go_simp; refine outS hK hdH (h := fun hH2 => ?_); clear hK K hHeld; have hHeld := hH2; clear hH2; refine GoesX.one 13 (h := fun K hK => ?_); go_simp; refine outS hK hdH (h := fun hH2 => ?_); clear hK K hHeld; have hHeld := hH2; clear hH2; refine GoesX.done (by kernel_rfl) ?_ _; all_goals (have hb := And.right (by assumption : Held W0 _); have hst := xr hb; (try simp only [zA, zC, zD, zN] at hst); obtain ⟨hc, hf, hz⟩ := hst)))))
          all_goals (go_wp2_with fail; go_roundw)
          all_goals (first | exact ⟨k + 1, by omega, by go_num, ext_⟩ | (simp [intOf]; omega))
    · go_wp2_with (first | (go_at_call 23; apply Calls.mono; apply (iMktOk_c (m := z.1)); (apply RM.at0 hRX; (exact kf_)); rintro E w8 ⟨rfl, hb⟩; rw [Z3.out]; have hst := xr hb; (try simp only [zA, zC, zD, zN] at hst); obtain ⟨hc, hf, hz⟩ := hst) | (go_at_call 24; apply Calls.mono; apply (swEntries_c (xs := z.1.log) (ys := m.log)); (apply Rs.at0 hRX.log; (exact kf_)); (apply Rs.at0 hRM.log; (exact kf_)); rintro E w9 ⟨rfl, hb⟩; rw [Z4.out]; have hst := xr hb; (try simp only [zA, zC, zD, zN] at hst); obtain ⟨hc, hf, hz⟩ := hst) | fail)
      go_ret
      exact ⟨rfl, ext_⟩
end Go.Proofs.Ytimpagcanengoaa

