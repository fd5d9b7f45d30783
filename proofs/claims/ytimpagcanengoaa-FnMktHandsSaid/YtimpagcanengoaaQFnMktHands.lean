/-
  Walk: the law MktHands.
-/
import Derived.Test.YtimpagcanengoaaPk17
namespace Go.Proofs.Ytimpagcanengoaa
set_option maxRecDepth 100000
set_option linter.unusedSimpArgs false
set_option linter.unusedVariables false
open Go.RowKit Go
set_option maxHeartbeats 4000000

theorem fnMktHands_c (A : Option Addr) (c n : Nat) (bs : List Int) (w : World) (hxs : RB w 0 A c n bs) (hq : ∀ x ∈ bs, 0 ≤ x ∧ x ≤ 255) : Calls Try.prog 6 #[.slice A n c] w fun E w' => E = .returned (.bool true) ∧ Ex w w' := by

  have hbig := Rs.big hxs
  by_cases hn : n ≤ 1048576
  case neg =>
    go_enter Try.func6, Try.ntmps6
    go_wp2_with fail
    go_ret
    exact ⟨rfl, ext_⟩
  go_enter Try.func6, Try.ntmps6
  go_wp2_with fail
  apply Calls.mono
  apply drawMktDo_c
  · apply Rs.at0 hxs; (exact kf_)
  · exact hq
  rintro E w1 ⟨aL, aLc, aLn, aP, aPc, aPn, aD, aDc, aDn, aN, aNc, aNn, aS, aSc, aSn, m, rq, rfl, ⟨hm, hlen⟩, hb⟩
  have hst := xr hb; (try simp only [zA, zC, zD, zN] at hst); obtain ⟨hc, hf, hz⟩ := hst
  clear hxs hq hbig hn
  obtain ⟨z, hz0⟩ : ∃ z, z = Sw.mktDo m rq := ⟨_, rfl⟩
  have HZ := Lib.hid hz0
  clear hz0
  have hzz : (z.2 != z.2) = false := by simp
  go_upto_region 8 with (first | (go_at_call 26; apply Calls.mono; apply (iMktDo_c (m := m) (r := rq)); (apply RM.at0 hm; (exact kf_)); omega; rintro E w2 ⟨bL, bLc, bLn, bP, bPc, bPn, bD, bDc, bDn, bN, bNc, bNn, bS, bSc, bSn, τb, rfl, hob, hb⟩; rw [← HZ.out] at hob; rw [← HZ.out]; have hst := xr hb; (try simp only [zA, zC, zD, zN] at hst); obtain ⟨hc, hf, hz⟩ := hst) | (go_at_call 31; apply Calls.mono; apply (sMktDo_c (m := m) (r := rq)); (apply RM.at0 hm; (exact kf_)); omega; rintro E w3 ⟨vL, vLc, vLn, vP, vPc, vPn, vD, vDc, vDn, vN, vNc, vNn, vS, vSc, vSn, τv, rfl, hov, hb⟩; rw [← HZ.out] at hov; rw [← HZ.out]; have hst := xr hb; (try simp only [zA, zC, zD, zN] at hst); obtain ⟨hc, hf, hz⟩ := hst) | (go_at_call 18; apply Calls.mono; apply (swMarket_c (x := z.1) (y := z.1)); (apply OwM.rm0 hob; (exact kf_)); (apply OwM.rm0 hov; (exact kf_)); rintro E w4 ⟨rfl, hb⟩; rw [show decide (z.1 = z.1) = true from decide_eq_true rfl]; have hst := xr hb; (try simp only [zA, zC, zD, zN] at hst); obtain ⟨hc, hf, hz⟩ := hst))
  (refine wp_name ?_; intro W0 hb0; have hst := xr hb0; (try simp only [zA, zC, zD, zN] at hst); obtain ⟨hc0, hf0, hz0⟩ := hst)
  have hA : MktAt W0 w1.heap.size 0 aL aLc aLn aP aPc aPn aD aDc aDn aN aNc aNn aS aSc aSn m.clock := ⟨sz_, (by (go_simp; first | done | simp [*])), (by (go_simp; first | done | simp [*])), (by (go_simp; first | done | simp [*])), (by (go_simp; first | done | simp [*])), (by (go_simp; first | done | simp [*])), (by (go_simp; first | done | simp [*])), fun i => (by (go_simp; first | done | simp [*]))⟩
  have hQ : QAt W0 (w1.heap.size + 1) rq := ⟨sz_, (by (go_simp; first | done | simp [*])), (by (go_simp; first | done | simp [*])), (by (go_simp; first | done | simp [*])), (by (go_simp; first | done | simp [*])), (by (go_simp; first | done | simp [*])), (by (go_simp; first | done | simp [*])), fun i => (by (go_simp; first | done | simp [*]))⟩
  have hX : MktAt W0 w2.heap.size 0 bL bLc bLn bP bPc bPn bD bDc bDn bN bNc bNn bS bSc bSn z.1.clock := ⟨sz_, (by (go_simp; first | done | simp [*])), (by (go_simp; first | done | simp [*])), (by (go_simp; first | done | simp [*])), (by (go_simp; first | done | simp [*])), (by (go_simp; first | done | simp [*])), (by (go_simp; first | done | simp [*])), fun i => (by (go_simp; first | done | simp [*]))⟩
  have hRM : RM W0 0 aL aLc aLn aP aPc aPn aD aDc aDn aN aNc aNn aS aSc aSn m := RM.at0 hm kf_
  have hRX : RM W0 0 bL bLc bLn bP bPc bPn bD bDc bDn bN bNc bNn bS bSc bSn z.1 := OwM.rm0 hob kf_
  have HE : ExH w W0 := ⟨ext_⟩
  obtain ⟨gm, hgm⟩ : ∃ g, g = w1.heap.size := ⟨_, rfl⟩
  obtain ⟨gr, hgr⟩ : ∃ g, g = w1.heap.size + 1 := ⟨_, rfl⟩
  obtain ⟨gx, hgx⟩ : ∃ g, g = w2.heap.size := ⟨_, rfl⟩
  rw [← hgr] at hQ
  rw [← hgm] at hA
  rw [← hgx] at hX
  (try rw [← hgr])
  (try rw [← hgm])
  (try rw [← hgx])
  clear hgm hgr hgx hob hov hm hb hb0 hc hc0 hf hf0 hz hz0
  ((repeat (rename Ch _ _ _ => zz; clear zz)); (repeat (rename Rdp _ _ _ => zz; clear zz)); (repeat (rename (∀ (b o : Nat), ¬ ((⟨b, 0, none⟩ : Addr) = ⟨b - _ + _, 0, none⟩) → _) => zz; clear zz)))
  have hb := HE.out
  clear HE
  obtain ⟨a0, a1, a2, a3, a4, a5, a6, af⟩ := hA
  obtain ⟨r0, r1, r2, r3, r4, r5, r6, rf⟩ := hQ
  obtain ⟨x0, x1, x2, x3, x4, x5, x6, xf⟩ := hX
  simp only [Nat.zero_add] at a1 a2 a3 a4 a5 a6 x1 x2 x3 x4 x5 x6

  rcases Sw.valid m rq with ⟨g0, hd0⟩ | ⟨rows, hok0, g1, g2, hd0, hokx0, n1, n7⟩
  case' inr =>
    rw [← HZ.out] at hd0
    rw [← hd0] at hokx0 n1 n7
    obtain ⟨rowx, hokx0⟩ := hokx0
    have HO := Lib.hid hok0
    have HG := Lib.hid g1
    have HR := Lib.hid g2
    have HD := Lib.hid hd0
    have HX := Lib.hid hokx0
    have HGX := Lib.hid (Sw.mktOk_iff.2 ⟨rowx, hokx0⟩)
    have hzl := mktDo_len m rq
    rw [← HZ.out] at hzl
    have hxl := hRX.len
    clear hok0 g1 g2 hd0 hokx0
  case' inl =>
    rw [← HZ.out] at hd0
    have Z1 := Lib.hid (congrArg Prod.fst hd0)
    have z2 : z.2 = 0 := congrArg Prod.snd hd0
    have G0 := Lib.hid g0
    clear hd0 g0
  · go_wp2_with (first | (go_at_call 22; refine (swOk_c _).mono ?_; rintro E w' ⟨rfl, rfl⟩) | fail)
    go_ret
    exact ⟨rfl, ext_⟩
  have hq := (Sw.reqOk_iff.1 HR.out).2.2.2.1
  obtain ⟨t, ht⟩ : ∃ t : Nat, rq.ticket = t := ⟨rq.ticket.toNat, by omega⟩
  have ht8 : t < 8 := by omega
  have ht8i : (t : Int) < 8 := by omega
  clear hq
  by_cases z1 : z.2 = 1
  case neg =>
    have z1' : (z.2 != 1) = true := by simp [z1]
    clear z1
    go_wp2_with (first | (go_at_call 22; refine (swOk_c _).mono ?_; rintro E w' ⟨rfl, rfl⟩) | fail)
    go_ret
    exact ⟨rfl, ext_⟩
  have z1' : (z.2 != 1) = false := by simp [z1]
  by_cases hxm : z.1 = m
  · have hxm' := Lib.hid (show decide (z.1 = m) = true from decide_eq_true hxm)
    clear hxm z1
    go_wp2_with (first | (go_at_call 22; refine (swOk_c _).mono ?_; rintro E w' ⟨rfl, rfl⟩) | (go_at_call 18; apply Calls.mono; apply (swMarket_c (x := z.1) (y := m)); (apply RM.at0 hRX; (exact kf_)); (apply RM.at0 hRM; (exact kf_)); rintro E w7 ⟨rfl, hb⟩; rw [hxm'.out]; have hst := xr hb; (try simp only [zA, zC, zD, zN] at hst); obtain ⟨hc, hf, hz⟩ := hst))
    go_ret
    exact ⟨rfl, ext_⟩
  have hxm' := Lib.hid (show decide (z.1 = m) = false from decide_eq_false hxm)
  obtain ⟨h1, h4, h0⟩ := Sw.hands HO.out HR.out (by rw [← HD.out]; exact z1) (by rw [← HD.out]; exact hxm)
  rw [← HD.out, Sw.mktRows_of HX.out.fold, Sw.mktRows_of HO.out.fold, ht] at h1
  rw [Sw.mktRows_of HO.out.fold, ht] at h4 h0
  rw [ht] at r4
  obtain ⟨hw, ehw⟩ : ∃ x, x = (Sw.rowAt rows t).who := ⟨_, rfl⟩
  rw [← ehw] at h1 h4 h0
  have EW := Lib.hid ehw
  obtain ⟨hv, ehv⟩ : ∃ x, x = (Sw.rowAt rowx t).who := ⟨_, rfl⟩
  rw [← ehv] at h1
  have EV := Lib.hid ehv
  clear hxm z1 ehw ehv
  have H1 := Lib.hid h1
  have H4 := Lib.hid h4
  have H0 := Lib.hid h0
  clear h1 h4 h0
  go_wp2_with (go_at_call 18; apply Calls.mono; apply (swMarket_c (x := z.1) (y := m)); (apply RM.at0 hRX; (exact kf_)); (apply RM.at0 hRM; (exact kf_)); rintro E w7 ⟨rfl, hb⟩; rw [hxm'.out]; have hst := xr hb; (try simp only [zA, zC, zD, zN] at hst); obtain ⟨hc, hf, hz⟩ := hst)
  (focus (refine wp_name ?_; intro W0 hb0; have hst := xr hb0; (try simp only [zA, zC, zD, zN] at hst); obtain ⟨hc0, hf0, hz0⟩ := hst; refine wp_regionX [] (S := fun w' => Held W0 w') hdH (fun hHeld => ?_); refine GoesX.take 0 47 [] hHeld (h := ?_); refine GoesX.take 2 49 [] hHeld (h := ?_); refine GoesX.take 3 50 [] hHeld (h := ?_); refine GoesX.one 1 (h := fun K hK => ?_); go_simp; ((go_at_call 32; apply Calls.mono; apply (iRowsT_c (m := m) (rows := rows) (t := t)); (apply Rs.at0 hRM.log; (exact kf_)); (exact HO.out.fold); (exact ht8); rintro E w8 ⟨gA, cA, rfl, ⟨hoA, hlA, hgA, p0, p1, p2⟩, hb⟩; have hst := xr hb; (try simp only [zA, zC, zD, zN] at hst); obtain ⟨hc, hf, hz⟩ := hst); rw [← EW.out] at p0); (try go_wp2_with fail); refine outS hK hdH (h := fun hH2 => ?_); clear hK K hHeld; have hHeld := hH2; clear hH2; refine GoesX.take 4 51 [] hHeld (h := ?_); refine GoesX.take 5 52 [] hHeld (h := ?_); refine GoesX.one 6 (h := fun K hK => ?_); go_simp; refine outS hK hdH (h := fun hH2 => ?_); clear hK K hHeld; have hHeld := hH2; clear hH2; refine GoesX.take 7 9 [] hHeld (h := ?_); refine GoesX.done (by kernel_rfl) ?_ _; all_goals (have hb := And.right (by assumption : Held W0 _); have hst := xr hb; (try simp only [zA, zC, zD, zN] at hst); obtain ⟨hc, hf, hz⟩ := hst)))
  by_cases k1 : rq.kind = 1
  · have k1' : (rq.kind == 1) = true := by simp [k1]
    obtain ⟨j1, j2, j3⟩ := H1.out k1
    have u1 : (rq.user == 1) = true := by simp [j1]
    have u2 : (hw == 0) = true := by simp [j2]
    have u3 : (hv == rq.who) = true := by simp [j3]
    clear k1 j1 j2 j3
    go_wp2_with fail
    (focus (refine wp_name ?_; intro W0 hb0; have hst := xr hb0; (try simp only [zA, zC, zD, zN] at hst); obtain ⟨hc0, hf0, hz0⟩ := hst; refine wp_regionX [] (S := fun w' => Held W0 w') hdH (fun hHeld => ?_); refine GoesX.take 0 58 [] hHeld (h := ?_); refine GoesX.take 1 59 [] hHeld (h := ?_); refine GoesX.take 2 60 [] hHeld (h := ?_); refine GoesX.take 3 61 [] hHeld (h := ?_); (first | refine GoesX.take 4 62 [] hHeld (h := ?_) | refine GoesX.skip 4 62 [] hHeld (h := ?_)); (first | refine GoesX.take 5 63 [] hHeld (h := ?_) | refine GoesX.skip 5 63 [] hHeld (h := ?_)); refine GoesX.take 6 64 [] hHeld (h := ?_); refine GoesX.take 7 65 [] hHeld (h := ?_); (first | refine GoesX.take 8 66 [] hHeld (h := ?_) | refine GoesX.skip 8 66 [] hHeld (h := ?_)); (first | refine GoesX.take 10 68 [] hHeld (h := ?_) | refine GoesX.skip 10 68 [] hHeld (h := ?_)); (first | refine GoesX.take 11 69 [] hHeld (h := ?_) | refine GoesX.skip 11 69 [] hHeld (h := ?_)); (first | refine GoesX.take 15 73 [] hHeld (h := ?_) | refine GoesX.skip 15 73 [] hHeld (h := ?_)); (first | refine GoesX.take 16 74 [] hHeld (h := ?_) | refine GoesX.skip 16 74 [] hHeld (h := ?_)); refine GoesX.one 9 (h := fun K hK => ?_); go_simp; ((go_at_call 32; apply Calls.mono; apply (iRowsT_c (m := z.1) (rows := rowx) (t := t)); (apply Rs.at0 hRX.log; (exact kf_)); (exact HX.out.fold); (exact ht8); rintro E w9 ⟨gB, cB, rfl, ⟨hoB, hlB, hgB, q0, q1, q2⟩, hb⟩; have hst := xr hb; (try simp only [zA, zC, zD, zN] at hst); obtain ⟨hc, hf, hz⟩ := hst); rw [← EV.out] at q0); (try go_wp2_with fail); refine outS hK hdH (h := fun hH2 => ?_); clear hK K hHeld; have hHeld := hH2; clear hH2; (first | refine GoesX.take 12 70 [] hHeld (h := ?_) | refine GoesX.skip 12 70 [] hHeld (h := ?_)); (first | refine GoesX.take 13 71 [] hHeld (h := ?_) | refine GoesX.skip 13 71 [] hHeld (h := ?_)); refine GoesX.one 14 (h := fun K hK => ?_); go_simp; refine outS hK hdH (h := fun hH2 => ?_); clear hK K hHeld; have hHeld := hH2; clear hH2; (first | refine GoesX.take 17 75 [] hHeld (h := ?_) | refine GoesX.skip 17 75 [] hHeld (h := ?_)); refine GoesX.take 18 76 [] hHeld (h := ?_); refine GoesX.take 19 2 [] hHeld (h := ?_); refine GoesX.done (by kernel_rfl) ?_ _; all_goals (have hb := And.right (by assumption : Held W0 _); have hst := xr hb; (try simp only [zA, zC, zD, zN] at hst); obtain ⟨hc, hf, hz⟩ := hst)))
    go_wp2_with fail
    go_ret
    exact ⟨rfl, ext_⟩
  by_cases k4 : rq.kind = 4
  · have k1' : (rq.kind == 1) = false := by simp [k1]
    have k4' : (rq.kind == 4) = true := by simp [k4]
    obtain ⟨j1, j2⟩ := H4.out k4
    have u1 : (rq.user != hw) = true := by simp [j1]
    have u2 : (hw != 0) = true := by simp [j2]
    clear k1 k4 j1 j2
    go_wp2_with fail
    go_ret
    exact ⟨rfl, ext_⟩
  have k1' : (rq.kind == 1) = false := by simp [k1]
  have k4' : (rq.kind == 4) = false := by simp [k4]
  have j := H0.out k1 k4
  have u1 : (rq.user == hw) = true := by simp [j]
  clear k1 k4 j
  go_wp2_with fail
  go_ret
  exact ⟨rfl, ext_⟩
end Go.Proofs.Ytimpagcanengoaa

