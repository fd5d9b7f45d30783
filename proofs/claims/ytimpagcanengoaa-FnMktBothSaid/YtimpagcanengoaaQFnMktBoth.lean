/-
  Walk: the law MktBoth.
-/
import Derived.Test.YtimpagcanengoaaQLawT
namespace Go.Proofs.Ytimpagcanengoaa
set_option maxRecDepth 100000
set_option linter.unusedSimpArgs false
set_option linter.unusedVariables false
open Go.RowKit Go
set_option maxHeartbeats 8000000

theorem fnMktBoth_c (A : Option Addr) (c n : Nat) (bs : List Int) (w : World) (hxs : RB w 0 A c n bs) (hq : ∀ x ∈ bs, 0 ≤ x ∧ x ≤ 255) : Calls Try.prog 12 #[.slice A n c] w fun E w' => E = .returned (.bool true) ∧ Ex w w' := by

  have hbig := Rs.big hxs
  by_cases hn : n ≤ 1048576
  case neg =>
    go_enter Try.func12, Try.ntmps12
    go_wp2_with fail
    go_ret
    exact ⟨rfl, ext_⟩
  go_enter Try.func12, Try.ntmps12
  go_wp2_with fail
  apply Calls.mono
  apply drawMktDo_c
  · apply Rs.at0 hxs; (exact kf_)
  · exact hq
  rintro E w1 ⟨aL, aLc, aLn, aP, aPc, aPn, aD, aDc, aDn, aN, aNc, aNn, aS, aSc, aSn, m, rq, rfl, ⟨hm, hlen⟩, hb⟩
  have hst := xr hb; (try simp only [zA, zC, zD, zN] at hst); obtain ⟨hc, hf, hz⟩ := hst
  clear hxs hq hbig hn
  obtain ⟨z, hz0⟩ : ∃ z, z = Sw.mktDo m rq := ⟨_, rfl⟩
  have HZ := Lib.hid hz0
  clear hz0
  have hzz : (z.2 != z.2) = false := by simp
  go_upto_region 8 with (first | (go_at_call 26; apply Calls.mono; apply (iMktDo_c (m := m) (r := rq)); (apply RM.at0 hm; (exact kf_)); omega; rintro E w2 ⟨bL, bLc, bLn, bP, bPc, bPn, bD, bDc, bDn, bN, bNc, bNn, bS, bSc, bSn, τb, rfl, hob, hb⟩; rw [← HZ.out] at hob; rw [← HZ.out]; have hst := xr hb; (try simp only [zA, zC, zD, zN] at hst); obtain ⟨hc, hf, hz⟩ := hst) | (go_at_call 31; apply Calls.mono; apply (sMktDo_c (m := m) (r := rq)); (apply RM.at0 hm; (exact kf_)); omega; rintro E w3 ⟨vL, vLc, vLn, vP, vPc, vPn, vD, vDc, vDn, vN, vNc, vNn, vS, vSc, vSn, τv, rfl, hov, hb⟩; rw [← HZ.out] at hov; rw [← HZ.out]; have hst := xr hb; (try simp only [zA, zC, zD, zN] at hst); obtain ⟨hc, hf, hz⟩ := hst) | (go_at_call 18; apply Calls.mono; apply (swMarket_c (x := z.1) (y := z.1)); (apply OwM.rm0 hob; (exact kf_)); (apply OwM.rm0 hov; (exact kf_)); rintro E w4 ⟨rfl, hb⟩; rw [show decide (z.1 = z.1) = true from decide_eq_true rfl]; have hst := xr hb; (try simp only [zA, zC, zD, zN] at hst); obtain ⟨hc, hf, hz⟩ := hst))
  (refine wp_name ?_; intro W0 hb0; have hst := xr hb0; (try simp only [zA, zC, zD, zN] at hst); obtain ⟨hc0, hf0, hz0⟩ := hst)
  have hA : MktAt W0 w1.heap.size 0 aL aLc aLn aP aPc aPn aD aDc aDn aN aNc aNn aS aSc aSn m.clock := ⟨sz_, (by (go_simp; first | done | simp [*])), (by (go_simp; first | done | simp [*])), (by (go_simp; first | done | simp [*])), (by (go_simp; first | done | simp [*])), (by (go_simp; first | done | simp [*])), (by (go_simp; first | done | simp [*])), fun i => (by (go_simp; first | done | simp [*]))⟩
  have hQ : QAt W0 (w1.heap.size + 1) rq := ⟨sz_, (by (go_simp; first | done | simp [*])), (by (go_simp; first | done | simp [*])), (by (go_simp; first | done | simp [*])), (by (go_simp; first | done | simp [*])), (by (go_simp; first | done | simp [*])), (by (go_simp; first | done | simp [*])), fun i => (by (go_simp; first | done | simp [*]))⟩
  have hX : MktAt W0 w2.heap.size 0 bL bLc bLn bP bPc bPn bD bDc bDn bN bNc bNn bS bSc bSn z.1.clock := ⟨sz_, (by (go_simp; first | done | simp [*])), (by (go_simp; first | done | simp [*])), (by (go_simp; first | done | simp [*])), (by (go_simp; first | done | simp [*])), (by (go_simp; first | done | simp [*])), (by (go_simp; first | done | simp [*])), fun i => (by (go_simp; first | done | simp [*]))⟩
  have hRM : RM W0 0 aL aLc aLn aP aPc aPn aD aDc aDn aN aNc aNn aS aSc aSn m := RM.at0 hm kf_
  have hRX : RM W0 0 bL bLc bLn bP bPc bPn bD bDc bDn bN bNc bNn bS bSc bSn z.1 := OwM.rm0 hob kf_
  have HE : ExH w W0 := ⟨ext_⟩
  obtain ⟨gm, hgm⟩ : ∃ g, g = w1.heap.size := ⟨_, rfl⟩
  obtain ⟨gr, hgr⟩ : ∃ g, g = w1.heap.size + 1 := ⟨_, rfl⟩
  obtain ⟨gx, hgx⟩ : ∃ g, g = w2.heap.size := ⟨_, rfl⟩
  rw [← hgr] at hQ
  rw [← hgm] at hA
  rw [← hgx] at hX
  (try rw [← hgr])
  (try rw [← hgm])
  (try rw [← hgx])
  clear hgm hgr hgx hob hov hm hb hb0 hc hc0 hf hf0 hz hz0
  ((repeat (rename Ch _ _ _ => zz; clear zz)); (repeat (rename Rdp _ _ _ => zz; clear zz)); (repeat (rename (∀ (b o : Nat), ¬ ((⟨b, 0, none⟩ : Addr) = ⟨b - _ + _, 0, none⟩) → _) => zz; clear zz)))
  have hb := HE.out
  clear HE
  obtain ⟨a0, a1, a2, a3, a4, a5, a6, af⟩ := hA
  obtain ⟨r0, r1, r2, r3, r4, r5, r6, rf⟩ := hQ
  obtain ⟨x0, x1, x2, x3, x4, x5, x6, xf⟩ := hX
  simp only [Nat.zero_add] at a1 a2 a3 a4 a5 a6 x1 x2 x3 x4 x5 x6

  rcases Sw.valid m rq with ⟨g0, hd0⟩ | ⟨rows, hok0, g1, g2, hd0, hokx0, n1, n7⟩
  case' inr =>
    rw [← HZ.out] at hd0
    rw [← hd0] at hokx0 n1 n7
    obtain ⟨rowx, hokx0⟩ := hokx0
    have HO := Lib.hid hok0
    have HG := Lib.hid g1
    have HR := Lib.hid g2
    have HD := Lib.hid hd0
    have HX := Lib.hid hokx0
    have HGX := Lib.hid (Sw.mktOk_iff.2 ⟨rowx, hokx0⟩)
    have hzl := mktDo_len m rq
    rw [← HZ.out] at hzl
    have hxl := hRX.len
    clear hok0 g1 g2 hd0 hokx0
  case' inl =>
    rw [← HZ.out] at hd0
    have Z1 := Lib.hid (congrArg Prod.fst hd0)
    have z2 : z.2 = 0 := congrArg Prod.snd hd0
    have G0 := Lib.hid g0
    clear hd0 g0
  · have hb0 : bDn = 0 := hRX.deals.1.trans (by rw [Z1.out]; rfl)
    subst hb0
    go_wp2_with (first | (go_at_call 22; refine (swOk_c _).mono ?_; rintro E w' ⟨rfl, rfl⟩) | fail)
    go_ret
    exact ⟨rfl, ext_⟩
  have z0 : (z.2 == 0) = false := by simp; omega
  have hq := Sw.reqOk_iff.1 HR.out
  obtain ⟨k, hk⟩ : ∃ k : Nat, rq.user = k + 1 := ⟨(rq.user - 1).toNat, by omega⟩
  have hk5 : k < 5 := by omega
  obtain ⟨t, ht⟩ : ∃ t : Nat, rq.ticket = t := ⟨rq.ticket.toNat, by omega⟩
  have ht8 : t < 8 := by omega
  have ht8i : (t : Int) < 8 := by omega
  clear hq
  have hnm : aNn = 5 := hRM.nums.1.trans HO.out.nlen
  subst hnm
  have hl1 := hRM.log.1
  have hl2 := hRX.log.1
  obtain ⟨gM, oM, yM, rfl, hgM0, hgM, -, hyM, hcM⟩ := at_I hRM.nums hk5
  have lM : Sw.lastOf m.nums rq.user = yM := by
    unfold Sw.lastOf; rw [hk, show (((k : Int) + 1) - 1).toNat = k from by omega]; exact Sw.getD_of hyM
  have hbo := Sw.both HO.out HR.out
  rw [← HD.out, lM] at hbo
  have u2 : IntKind.i64.wrap ((k : Int) + 1 - 1) = k := by rw [IntWalk.i64_in _ (by omega)]; omega
  have u3 : IntKind.i64.wrap (k : Int) = k := IntWalk.i64_in _ (by omega)
  have u0 : (0 : Int) ≤ (k : Int) := by omega
  have u5 : (k : Int) < 5 := by omega
  rw [hk] at r1
  clear hyM lM hk
  rcases hbo with ⟨hno, hlog⟩ | ⟨e, d, hs⟩
  · have hend : (decide ((aLn : Int) < bLn) = false ∧ decide (aLn < bLn) = false) ∨ ∃ g off y, bL = some ⟨g, off, none⟩ ∧ g < W0.heap.size ∧ W0.cell? ⟨g, off + aLn * 4, none⟩ = some (.int .i64 y) ∧ (y == 2) = false ∧ decide ((aLn : Int) < bLn) = true ∧ decide (aLn < bLn) = true ∧ aLn < bLn ∧ (aLn : Int) < bLn := by
      rcases hlog with hl | ⟨e, hl, he⟩
      · left; rw [hl2, hl1, hl]; constructor <;> simp
      · right
        have hlt : aLn < bLn := by rw [hl2, hl1, hl]; simp
        obtain ⟨g, off, y, h1, h2, h3, -, h4, h5, -⟩ := at_E hRX.log hlt
        have hy : y = e := by
          rw [hl, hl1, List.getElem?_append_right (Nat.le_refl _)] at h4
          simpa using h4.symm
        exact ⟨g, off, y.kind, h1, h3, h5, by rw [hy]; simpa using he, by simp; omega, by simp; omega, hlt, by omega⟩
    have HNO := Lib.hid hno
    clear hno hlog hl1 hl2
    rcases hend with ⟨hd, hd'⟩ | ⟨g, off, y, rfl, hg, hyc, hy2, hd, hd', hd2, hd3⟩
    · go_wp2_with fail
      cases ck : (rq.kind != 5)
      · cases cn : (z.2 != 1)
        · have hle : decide (rq.n ≤ yM) = true := by
            rcases HNO.out with h | h | h
            · simp [h] at ck
            · simp [h] at cn
            · exact decide_eq_true h
          (focus (refine wp_name ?_; intro W0 hb0; have hst := xr hb0; (try simp only [zA, zC, zD, zN] at hst); obtain ⟨hc0, hf0, hz0⟩ := hst; refine wp_regionX [] (S := fun w' => Held W0 w') hdH (fun hHeld => ?_); refine GoesX.take 0 73 [] hHeld (h := ?_); refine GoesX.take 1 74 [] hHeld (h := ?_); refine GoesX.take 2 75 [] hHeld (h := ?_); refine GoesX.take 3 76 [] hHeld (h := ?_); (first | refine GoesX.take 4 77 [] hHeld (h := ?_) | refine GoesX.skip 4 77 [] hHeld (h := ?_)); (first | refine GoesX.take 5 78 [] hHeld (h := ?_) | refine GoesX.skip 5 78 [] hHeld (h := ?_)); refine GoesX.take 6 79 [] hHeld (h := ?_); refine GoesX.take 7 80 [] hHeld (h := ?_); (first | refine GoesX.take 8 81 [] hHeld (h := ?_) | refine GoesX.skip 8 81 [] hHeld (h := ?_)); (first | refine GoesX.take 9 82 [] hHeld (h := ?_) | refine GoesX.skip 9 82 [] hHeld (h := ?_)); (first | refine GoesX.take 10 83 [] hHeld (h := ?_) | refine GoesX.skip 10 83 [] hHeld (h := ?_)); (first | refine GoesX.take 11 84 [] hHeld (h := ?_) | refine GoesX.skip 11 84 [] hHeld (h := ?_)); (first | refine GoesX.take 12 85 [] hHeld (h := ?_) | refine GoesX.skip 12 85 [] hHeld (h := ?_)); (first | refine GoesX.take 13 86 [] hHeld (h := ?_) | refine GoesX.skip 13 86 [] hHeld (h := ?_)); (first | refine GoesX.take 14 87 [] hHeld (h := ?_) | refine GoesX.skip 14 87 [] hHeld (h := ?_)); (first | refine GoesX.take 15 88 [] hHeld (h := ?_) | refine GoesX.skip 15 88 [] hHeld (h := ?_)); (first | refine GoesX.take 16 89 [] hHeld (h := ?_) | refine GoesX.skip 16 89 [] hHeld (h := ?_)); (first | refine GoesX.take 17 90 [] hHeld (h := ?_) | refine GoesX.skip 17 90 [] hHeld (h := ?_)); refine GoesX.take 18 91 [] hHeld (h := ?_); refine GoesX.take 19 2 [] hHeld (h := ?_); refine GoesX.done (by kernel_rfl) ?_ _; all_goals (have hb := And.right (by assumption : Held W0 _); have hst := xr hb; (try simp only [zA, zC, zD, zN] at hst); obtain ⟨hc, hf, hz⟩ := hst)))
          go_wp2_with fail
          go_ret
          exact ⟨rfl, ext_⟩
        · (focus (refine wp_name ?_; intro W0 hb0; have hst := xr hb0; (try simp only [zA, zC, zD, zN] at hst); obtain ⟨hc0, hf0, hz0⟩ := hst; refine wp_regionX [] (S := fun w' => Held W0 w') hdH (fun hHeld => ?_); refine GoesX.take 0 73 [] hHeld (h := ?_); refine GoesX.take 1 74 [] hHeld (h := ?_); refine GoesX.take 2 75 [] hHeld (h := ?_); refine GoesX.take 3 76 [] hHeld (h := ?_); (first | refine GoesX.take 4 77 [] hHeld (h := ?_) | refine GoesX.skip 4 77 [] hHeld (h := ?_)); (first | refine GoesX.take 5 78 [] hHeld (h := ?_) | refine GoesX.skip 5 78 [] hHeld (h := ?_)); refine GoesX.take 6 79 [] hHeld (h := ?_); refine GoesX.take 7 80 [] hHeld (h := ?_); (first | refine GoesX.take 8 81 [] hHeld (h := ?_) | refine GoesX.skip 8 81 [] hHeld (h := ?_)); (first | refine GoesX.take 9 82 [] hHeld (h := ?_) | refine GoesX.skip 9 82 [] hHeld (h := ?_)); (first | refine GoesX.take 10 83 [] hHeld (h := ?_) | refine GoesX.skip 10 83 [] hHeld (h := ?_)); (first | refine GoesX.take 11 84 [] hHeld (h := ?_) | refine GoesX.skip 11 84 [] hHeld (h := ?_)); (first | refine GoesX.take 12 85 [] hHeld (h := ?_) | refine GoesX.skip 12 85 [] hHeld (h := ?_)); (first | refine GoesX.take 13 86 [] hHeld (h := ?_) | refine GoesX.skip 13 86 [] hHeld (h := ?_)); (first | refine GoesX.take 14 87 [] hHeld (h := ?_) | refine GoesX.skip 14 87 [] hHeld (h := ?_)); (first | refine GoesX.take 15 88 [] hHeld (h := ?_) | refine GoesX.skip 15 88 [] hHeld (h := ?_)); (first | refine GoesX.take 16 89 [] hHeld (h := ?_) | refine GoesX.skip 16 89 [] hHeld (h := ?_)); (first | refine GoesX.take 17 90 [] hHeld (h := ?_) | refine GoesX.skip 17 90 [] hHeld (h := ?_)); refine GoesX.take 18 91 [] hHeld (h := ?_); refine GoesX.take 19 2 [] hHeld (h := ?_); refine GoesX.done (by kernel_rfl) ?_ _; all_goals (have hb := And.right (by assumption : Held W0 _); have hst := xr hb; (try simp only [zA, zC, zD, zN] at hst); obtain ⟨hc, hf, hz⟩ := hst)))
          go_wp2_with fail
          go_ret
          exact ⟨rfl, ext_⟩
      · (focus (refine wp_name ?_; intro W0 hb0; have hst := xr hb0; (try simp only [zA, zC, zD, zN] at hst); obtain ⟨hc0, hf0, hz0⟩ := hst; refine wp_regionX [] (S := fun w' => Held W0 w') hdH (fun hHeld => ?_); refine GoesX.take 0 73 [] hHeld (h := ?_); refine GoesX.take 1 74 [] hHeld (h := ?_); refine GoesX.take 2 75 [] hHeld (h := ?_); refine GoesX.take 3 76 [] hHeld (h := ?_); (first | refine GoesX.take 4 77 [] hHeld (h := ?_) | refine GoesX.skip 4 77 [] hHeld (h := ?_)); (first | refine GoesX.take 5 78 [] hHeld (h := ?_) | refine GoesX.skip 5 78 [] hHeld (h := ?_)); refine GoesX.take 6 79 [] hHeld (h := ?_); refine GoesX.take 7 80 [] hHeld (h := ?_); (first | refine GoesX.take 8 81 [] hHeld (h := ?_) | refine GoesX.skip 8 81 [] hHeld (h := ?_)); (first | refine GoesX.take 9 82 [] hHeld (h := ?_) | refine GoesX.skip 9 82 [] hHeld (h := ?_)); (first | refine GoesX.take 10 83 [] hHeld (h := ?_) | refine GoesX.skip 10 83 [] hHeld (h := ?_)); (first | refine GoesX.take 11 84 [] hHeld (h := ?_) | refine GoesX.skip 11 84 [] hHeld (h := ?_)); (first | refine GoesX.take 12 85 [] hHeld (h := ?_) | refine GoesX.skip 12 85 [] hHeld (h := ?_)); (first | refine GoesX.take 13 86 [] hHeld (h := ?_) | refine GoesX.skip 13 86 [] hHeld (h := ?_)); (first | refine GoesX.take 14 87 [] hHeld (h := ?_) | refine GoesX.skip 14 87 [] hHeld (h := ?_)); (first | refine GoesX.take 15 88 [] hHeld (h := ?_) | refine GoesX.skip 15 88 [] hHeld (h := ?_)); (first | refine GoesX.take 16 89 [] hHeld (h := ?_) | refine GoesX.skip 16 89 [] hHeld (h := ?_)); (first | refine GoesX.take 17 90 [] hHeld (h := ?_) | refine GoesX.skip 17 90 [] hHeld (h := ?_)); refine GoesX.take 18 91 [] hHeld (h := ?_); refine GoesX.take 19 2 [] hHeld (h := ?_); refine GoesX.done (by kernel_rfl) ?_ _; all_goals (have hb := And.right (by assumption : Held W0 _); have hst := xr hb; (try simp only [zA, zC, zD, zN] at hst); obtain ⟨hc, hf, hz⟩ := hst)))
        go_wp2_with fail
        go_ret
        exact ⟨rfl, ext_⟩
    · go_wp2_with fail
      cases ck : (rq.kind != 5)
      · cases cn : (z.2 != 1)
        · have hle : decide (rq.n ≤ yM) = true := by
            rcases HNO.out with h | h | h
            · simp [h] at ck
            · simp [h] at cn
            · exact decide_eq_true h
          (focus (refine wp_name ?_; intro W0 hb0; have hst := xr hb0; (try simp only [zA, zC, zD, zN] at hst); obtain ⟨hc0, hf0, hz0⟩ := hst; refine wp_regionX [] (S := fun w' => Held W0 w') hdH (fun hHeld => ?_); refine GoesX.take 0 73 [] hHeld (h := ?_); refine GoesX.take 1 74 [] hHeld (h := ?_); refine GoesX.take 2 75 [] hHeld (h := ?_); refine GoesX.take 3 76 [] hHeld (h := ?_); (first | refine GoesX.take 4 77 [] hHeld (h := ?_) | refine GoesX.skip 4 77 [] hHeld (h := ?_)); (first | refine GoesX.take 5 78 [] hHeld (h := ?_) | refine GoesX.skip 5 78 [] hHeld (h := ?_)); refine GoesX.take 6 79 [] hHeld (h := ?_); refine GoesX.take 7 80 [] hHeld (h := ?_); (first | refine GoesX.take 8 81 [] hHeld (h := ?_) | refine GoesX.skip 8 81 [] hHeld (h := ?_)); (first | refine GoesX.take 9 82 [] hHeld (h := ?_) | refine GoesX.skip 9 82 [] hHeld (h := ?_)); (first | refine GoesX.take 10 83 [] hHeld (h := ?_) | refine GoesX.skip 10 83 [] hHeld (h := ?_)); (first | refine GoesX.take 11 84 [] hHeld (h := ?_) | refine GoesX.skip 11 84 [] hHeld (h := ?_)); (first | refine GoesX.take 12 85 [] hHeld (h := ?_) | refine GoesX.skip 12 85 [] hHeld (h := ?_)); (first | refine GoesX.take 13 86 [] hHeld (h := ?_) | refine GoesX.skip 13 86 [] hHeld (h := ?_)); (first | refine GoesX.take 14 87 [] hHeld (h := ?_) | refine GoesX.skip 14 87 [] hHeld (h := ?_)); (first | refine GoesX.take 15 88 [] hHeld (h := ?_) | refine GoesX.skip 15 88 [] hHeld (h := ?_)); (first | refine GoesX.take 16 89 [] hHeld (h := ?_) | refine GoesX.skip 16 89 [] hHeld (h := ?_)); (first | refine GoesX.take 17 90 [] hHeld (h := ?_) | refine GoesX.skip 17 90 [] hHeld (h := ?_)); refine GoesX.take 18 91 [] hHeld (h := ?_); refine GoesX.take 19 2 [] hHeld (h := ?_); refine GoesX.done (by kernel_rfl) ?_ _; all_goals (have hb := And.right (by assumption : Held W0 _); have hst := xr hb; (try simp only [zA, zC, zD, zN] at hst); obtain ⟨hc, hf, hz⟩ := hst)))
          go_wp2_with fail
          go_ret
          exact ⟨rfl, ext_⟩
        · (focus (refine wp_name ?_; intro W0 hb0; have hst := xr hb0; (try simp only [zA, zC, zD, zN] at hst); obtain ⟨hc0, hf0, hz0⟩ := hst; refine wp_regionX [] (S := fun w' => Held W0 w') hdH (fun hHeld => ?_); refine GoesX.take 0 73 [] hHeld (h := ?_); refine GoesX.take 1 74 [] hHeld (h := ?_); refine GoesX.take 2 75 [] hHeld (h := ?_); refine GoesX.take 3 76 [] hHeld (h := ?_); (first | refine GoesX.take 4 77 [] hHeld (h := ?_) | refine GoesX.skip 4 77 [] hHeld (h := ?_)); (first | refine GoesX.take 5 78 [] hHeld (h := ?_) | refine GoesX.skip 5 78 [] hHeld (h := ?_)); refine GoesX.take 6 79 [] hHeld (h := ?_); refine GoesX.take 7 80 [] hHeld (h := ?_); (first | refine GoesX.take 8 81 [] hHeld (h := ?_) | refine GoesX.skip 8 81 [] hHeld (h := ?_)); (first | refine GoesX.take 9 82 [] hHeld (h := ?_) | refine GoesX.skip 9 82 [] hHeld (h := ?_)); (first | refine GoesX.take 10 83 [] hHeld (h := ?_) | refine GoesX.skip 10 83 [] hHeld (h := ?_)); (first | refine GoesX.take 11 84 [] hHeld (h := ?_) | refine GoesX.skip 11 84 [] hHeld (h := ?_)); (first | refine GoesX.take 12 85 [] hHeld (h := ?_) | refine GoesX.skip 12 85 [] hHeld (h := ?_)); (first | refine GoesX.take 13 86 [] hHeld (h := ?_) | refine GoesX.skip 13 86 [] hHeld (h := ?_)); (first | refine GoesX.take 14 87 [] hHeld (h := ?_) | refine GoesX.skip 14 87 [] hHeld (h := ?_)); (first | refine GoesX.take 15 88 [] hHeld (h := ?_) | refine GoesX.skip 15 88 [] hHeld (h := ?_)); (first | refine GoesX.take 16 89 [] hHeld (h := ?_) | refine GoesX.skip 16 89 [] hHeld (h := ?_)); (first | refine GoesX.take 17 90 [] hHeld (h := ?_) | refine GoesX.skip 17 90 [] hHeld (h := ?_)); refine GoesX.take 18 91 [] hHeld (h := ?_); refine GoesX.take 19 2 [] hHeld (h := ?_); refine GoesX.done (by kernel_rfl) ?_ _; all_goals (have hb := And.right (by assumption : Held W0 _); have hst := xr hb; (try simp only [zA, zC, zD, zN] at hst); obtain ⟨hc, hf, hz⟩ := hst)))
          go_wp2_with fail
          go_ret
          exact ⟨rfl, ext_⟩
      · (focus (refine wp_name ?_; intro W0 hb0; have hst := xr hb0; (try simp only [zA, zC, zD, zN] at hst); obtain ⟨hc0, hf0, hz0⟩ := hst; refine wp_regionX [] (S := fun w' => Held W0 w') hdH (fun hHeld => ?_); refine GoesX.take 0 73 [] hHeld (h := ?_); refine GoesX.take 1 74 [] hHeld (h := ?_); refine GoesX.take 2 75 [] hHeld (h := ?_); refine GoesX.take 3 76 [] hHeld (h := ?_); (first | refine GoesX.take 4 77 [] hHeld (h := ?_) | refine GoesX.skip 4 77 [] hHeld (h := ?_)); (first | refine GoesX.take 5 78 [] hHeld (h := ?_) | refine GoesX.skip 5 78 [] hHeld (h := ?_)); refine GoesX.take 6 79 [] hHeld (h := ?_); refine GoesX.take 7 80 [] hHeld (h := ?_); (first | refine GoesX.take 8 81 [] hHeld (h := ?_) | refine GoesX.skip 8 81 [] hHeld (h := ?_)); (first | refine GoesX.take 9 82 [] hHeld (h := ?_) | refine GoesX.skip 9 82 [] hHeld (h := ?_)); (first | refine GoesX.take 10 83 [] hHeld (h := ?_) | refine GoesX.skip 10 83 [] hHeld (h := ?_)); (first | refine GoesX.take 11 84 [] hHeld (h := ?_) | refine GoesX.skip 11 84 [] hHeld (h := ?_)); (first | refine GoesX.take 12 85 [] hHeld (h := ?_) | refine GoesX.skip 12 85 [] hHeld (h := ?_)); (first | refine GoesX.take 13 86 [] hHeld (h := ?_) | refine GoesX.skip 13 86 [] hHeld (h := ?_)); (first | refine GoesX.take 14 87 [] hHeld (h := ?_) | refine GoesX.skip 14 87 [] hHeld (h := ?_)); (first | refine GoesX.take 15 88 [] hHeld (h := ?_) | refine GoesX.skip 15 88 [] hHeld (h := ?_)); (first | refine GoesX.take 16 89 [] hHeld (h := ?_) | refine GoesX.skip 16 89 [] hHeld (h := ?_)); (first | refine GoesX.take 17 90 [] hHeld (h := ?_) | refine GoesX.skip 17 90 [] hHeld (h := ?_)); refine GoesX.take 18 91 [] hHeld (h := ?_); refine GoesX.take 19 2 [] hHeld (h := ?_); refine GoesX.done (by kernel_rfl) ?_ _; all_goals (have hb := And.right (by assumption : Held W0 _); have hst := xr hb; (try simp only [zA, zC, zD, zN] at hst); obtain ⟨hc, hf, hz⟩ := hst)))
        go_wp2_with fail
        go_ret
        exact ⟨rfl, ext_⟩
  · obtain ⟨q1, q2, q3, q4, q5, q6, q7, q8, q9, q10⟩ := hs
    have hlt : aLn < bLn := by rw [hl2, hl1, q1]; simp
    obtain ⟨g, off, y, rfl, hg0, hg, -, h4, hc0, hc1, hc2, hc3⟩ := at_E hRX.log hlt
    have hy : y = e := by
      rw [q1, hl1, List.getElem?_append_right (Nat.le_refl _)] at h4
      simpa using h4.symm
    subst hy
    have hd : decide ((aLn : Int) < bLn) = true := by simp; omega
    have hd' : decide (aLn < bLn) = true := by simp; omega
    have hd3 : (aLn : Int) < bLn := by omega
    have v1 : (y.kind == 2) = true := by simp [q2]
    have v2 : (y.price == d.price) = true := by simp [q3]
    have v3 : (rq.kind == 5) = true := by simp [q4]
    have v4 : decide (0 < d.buyer) = true := decide_eq_true q7
    rw [ht] at q5 q6 q8 r4
    rw [Sw.mktRows_of HX.out.fold] at q8
    obtain ⟨hw, ehw⟩ : ∃ x, x = (Sw.rowAt rowx t).who := ⟨_, rfl⟩
    rw [← ehw] at q8
    have EW := Lib.hid ehw
    have v5 : (hw == d.buyer) = true := by simp [q8]
    obtain ⟨s1, e1⟩ : ∃ s, s = Sw.monHas z.1.purses d.seller := ⟨_, rfl⟩
    obtain ⟨s2, e2⟩ : ∃ s, s = Sw.monHas m.purses d.seller := ⟨_, rfl⟩
    obtain ⟨s3, e3⟩ : ∃ s, s = Sw.mktHeld z.1 := ⟨_, rfl⟩
    obtain ⟨s4, e4⟩ : ∃ s, s = Sw.mktHeld m := ⟨_, rfl⟩
    have b1 := monHas_bd z.1.purses d.seller
    have b3 := mktHeld_bd HX.out
    rw [← e1] at b1
    rw [← e3] at b3
    rw [← e1, ← e2] at q9
    rw [← e3, ← e4] at q10
    have w1 : IntKind.i64.wrap (s2 + d.price) = s1 := by rw [IntWalk.i64_in _ (by omega)]; exact q9.symm
    have w2 : IntKind.i64.wrap (s4 - d.price) = s3 := by rw [IntWalk.i64_in _ (by omega)]; exact q10.symm
    have ww1 : (s1 == s1) = true := by simp
    have ww3 : (s3 == s3) = true := by simp
    have K1 := Lib.hid e1; have K2 := Lib.hid e2; have K3 := Lib.hid e3; have K4 := Lib.hid e4
    have Q5 := Lib.hid q5
    have Q6 := Lib.hid q6
    clear q1 q2 q3 q4 q5 q6 q7 q8 q9 q10 h4 hl1 hl2 ehw e1 e2 e3 e4 b1 b3 ht
    go_wp2_with (first | (go_at_call 36; apply Calls.mono; with_reducible apply (iDealS_c aL aLc aLn aP aPc aPn aD aDc aDn (some ⟨gM, oM, none⟩) aNc 5 aS aSc aSn m (t : Int) d); (apply Rs.at0 hRM.deals; (exact kf_)); (exact Q5.out); rintro E wf ⟨rfl, hb⟩; have hst := xr hb; (try simp only [zA, zC, zD, zN] at hst); obtain ⟨hc, hf, hz⟩ := hst) | (go_at_call 36; apply Calls.mono; with_reducible apply (iDealN_c (some ⟨g, off, none⟩) bLc bLn bP bPc bPn bD bDc bDn bN bNc bNn bS bSc bSn z.1 (t : Int)); (apply Rs.at0 hRX.deals; (exact kf_)); (exact Q6.out); rintro E wg ⟨rfl, hb⟩; have hst := xr hb; (try simp only [zA, zC, zD, zN] at hst); obtain ⟨hc, hf, hz⟩ := hst) | (go_at_call 32; apply Calls.mono; with_reducible apply (iRowsT_c (m := z.1) (rows := rowx) (t := t)); (apply Rs.at0 hRX.log; (exact kf_)); (exact HX.out.fold); (exact ht8); rintro E w9 ⟨gB, cB, rfl, ⟨hoB, hlB, hgB, q0, q1, q2⟩, hb⟩; rw [← EW.out] at q0; have hst := xr hb; (try simp only [zA, zC, zD, zN] at hst); obtain ⟨hc, hf, hz⟩ := hst) | fail)
    (focus (refine wp_name ?_; intro W0 hb0; have hst := xr hb0; (try simp only [zA, zC, zD, zN] at hst); obtain ⟨hc0, hf0, hz0⟩ := hst; refine wp_regionX [] (S := fun w' => Held W0 w') hdH (fun hHeld => ?_); refine GoesX.take 0 108 [] hHeld (h := ?_); refine GoesX.take 1 109 [] hHeld (h := ?_); (first | refine GoesX.take 2 110 [] hHeld (h := ?_) | refine GoesX.skip 2 110 [] hHeld (h := ?_)); (first | refine GoesX.take 3 111 [] hHeld (h := ?_) | refine GoesX.skip 3 111 [] hHeld (h := ?_)); refine GoesX.take 4 112 [] hHeld (h := ?_); refine GoesX.take 5 113 [] hHeld (h := ?_); (first | refine GoesX.take 6 114 [] hHeld (h := ?_) | refine GoesX.skip 6 114 [] hHeld (h := ?_)); (first | refine GoesX.take 7 115 [] hHeld (h := ?_) | refine GoesX.skip 7 115 [] hHeld (h := ?_)); (first | refine GoesX.take 8 116 [] hHeld (h := ?_) | refine GoesX.skip 8 116 [] hHeld (h := ?_)); refine GoesX.take 9 117 [] hHeld (h := ?_); refine GoesX.take 10 118 [] hHeld (h := ?_); (first | refine GoesX.take 11 119 [] hHeld (h := ?_) | refine GoesX.skip 11 119 [] hHeld (h := ?_)); (first | refine GoesX.take 12 120 [] hHeld (h := ?_) | refine GoesX.skip 12 120 [] hHeld (h := ?_)); (first | refine GoesX.take 13 121 [] hHeld (h := ?_) | refine GoesX.skip 13 121 [] hHeld (h := ?_)); refine GoesX.take 14 122 [] hHeld (h := ?_); refine GoesX.take 15 123 [] hHeld (h := ?_); (first | refine GoesX.take 16 124 [] hHeld (h := ?_) | refine GoesX.skip 16 124 [] hHeld (h := ?_)); (first | refine GoesX.take 17 125 [] hHeld (h := ?_) | refine GoesX.skip 17 125 [] hHeld (h := ?_)); (first | refine GoesX.take 18 126 [] hHeld (h := ?_) | refine GoesX.skip 18 126 [] hHeld (h := ?_)); (first | refine GoesX.take 19 127 [] hHeld (h := ?_) | refine GoesX.skip 19 127 [] hHeld (h := ?_)); (first | refine GoesX.take 20 128 [] hHeld (h := ?_) | refine GoesX.skip 20 128 [] hHeld (h := ?_)); (first | refine GoesX.take 21 129 [] hHeld (h := ?_) | refine GoesX.skip 21 129 [] hHeld (h := ?_)); (first | refine GoesX.take 22 130 [] hHeld (h := ?_) | refine GoesX.skip 22 130 [] hHeld (h := ?_)); (first | refine GoesX.take 23 131 [] hHeld (h := ?_) | refine GoesX.skip 23 131 [] hHeld (h := ?_)); (first | refine GoesX.take 24 132 [] hHeld (h := ?_) | refine GoesX.skip 24 132 [] hHeld (h := ?_)); refine GoesX.take 25 133 [] hHeld (h := ?_); refine GoesX.take 26 134 [] hHeld (h := ?_); (first | refine GoesX.take 27 135 [] hHeld (h := ?_) | refine GoesX.skip 27 135 [] hHeld (h := ?_)); (first | refine GoesX.take 28 136 [] hHeld (h := ?_) | refine GoesX.skip 28 136 [] hHeld (h := ?_)); (first | refine GoesX.take 29 137 [] hHeld (h := ?_) | refine GoesX.skip 29 137 [] hHeld (h := ?_)); (first | refine GoesX.take 30 138 [] hHeld (h := ?_) | refine GoesX.skip 30 138 [] hHeld (h := ?_)); (first | refine GoesX.take 32 140 [] hHeld (h := ?_) | refine GoesX.skip 32 140 [] hHeld (h := ?_)); (first | refine GoesX.take 33 141 [] hHeld (h := ?_) | refine GoesX.skip 33 141 [] hHeld (h := ?_)); (first | refine GoesX.take 34 142 [] hHeld (h := ?_) | refine GoesX.skip 34 142 [] hHeld (h := ?_)); (first | refine GoesX.take 35 143 [] hHeld (h := ?_) | refine GoesX.skip 35 143 [] hHeld (h := ?_)); (first | refine GoesX.take 37 145 [] hHeld (h := ?_) | refine GoesX.skip 37 145 [] hHeld (h := ?_)); (first | refine GoesX.take 38 146 [] hHeld (h := ?_) | refine GoesX.skip 38 146 [] hHeld (h := ?_)); refine GoesX.one 31 (h := fun K hK => ?_); go_simp; (first | (go_at_call 37; apply Calls.mono; with_reducible apply (iMonHas_c bP bPc bPn z.1.purses d.seller); (apply Rs.at0 hRX.purses; (exact kf_)); rintro E wh ⟨rfl, hb⟩; rw [← K1.out]; have hst := xr hb; (try simp only [zA, zC, zD, zN] at hst); obtain ⟨hc, hf, hz⟩ := hst) | (go_at_call 37; apply Calls.mono; with_reducible apply (iMonHas_c aP aPc aPn m.purses d.seller); (apply Rs.at0 hRM.purses; (exact kf_)); rintro E wi ⟨rfl, hb⟩; rw [← K2.out]; have hst := xr hb; (try simp only [zA, zC, zD, zN] at hst); obtain ⟨hc, hf, hz⟩ := hst) | (go_at_call 19; apply Calls.mono; with_reducible apply (iMktHeld_c (some ⟨g, off, none⟩) bLc bLn bP bPc bPn bD bDc bDn bN bNc bNn bS bSc bSn z.1); (apply RM.at0 hRX; (exact kf_)); rintro E wj ⟨rfl, hb⟩; rw [← K3.out]; have hst := xr hb; (try simp only [zA, zC, zD, zN] at hst); obtain ⟨hc, hf, hz⟩ := hst) | (go_at_call 19; apply Calls.mono; with_reducible apply (iMktHeld_c aL aLc aLn aP aPc aPn aD aDc aDn (some ⟨gM, oM, none⟩) aNc 5 aS aSc aSn m); (apply RM.at0 hRM; (exact kf_)); rintro E wk ⟨rfl, hb⟩; rw [← K4.out]; have hst := xr hb; (try simp only [zA, zC, zD, zN] at hst); obtain ⟨hc, hf, hz⟩ := hst)); (try go_wp2_with fail); refine outS hK hdH (h := fun hH2 => ?_); clear hK K hHeld; have hHeld := hH2; clear hH2; refine GoesX.one 36 (h := fun K hK => ?_); go_simp; (first | (go_at_call 37; apply Calls.mono; with_reducible apply (iMonHas_c bP bPc bPn z.1.purses d.seller); (apply Rs.at0 hRX.purses; (exact kf_)); rintro E wh ⟨rfl, hb⟩; rw [← K1.out]; have hst := xr hb; (try simp only [zA, zC, zD, zN] at hst); obtain ⟨hc, hf, hz⟩ := hst) | (go_at_call 37; apply Calls.mono; with_reducible apply (iMonHas_c aP aPc aPn m.purses d.seller); (apply Rs.at0 hRM.purses; (exact kf_)); rintro E wi ⟨rfl, hb⟩; rw [← K2.out]; have hst := xr hb; (try simp only [zA, zC, zD, zN] at hst); obtain ⟨hc, hf, hz⟩ := hst) | (go_at_call 19; apply Calls.mono; with_reducible apply (iMktHeld_c (some ⟨g, off, none⟩) bLc bLn bP bPc bPn bD bDc bDn bN bNc bNn bS bSc bSn z.1); (apply RM.at0 hRX; (exact kf_)); rintro E wj ⟨rfl, hb⟩; rw [← K3.out]; have hst := xr hb; (try simp only [zA, zC, zD, zN] at hst); obtain ⟨hc, hf, hz⟩ := hst) | (go_at_call 19; apply Calls.mono; with_reducible apply (iMktHeld_c aL aLc aLn aP aPc aPn aD aDc aDn (some ⟨gM, oM, none⟩) aNc 5 aS aSc aSn m); (apply RM.at0 hRM; (exact kf_)); rintro E wk ⟨rfl, hb⟩; rw [← K4.out]; have hst := xr hb; (try simp only [zA, zC, zD, zN] at hst); obtain ⟨hc, hf, hz⟩ := hst)); (try go_wp2_with fail); refine outS hK hdH (h := fun hH2 => ?_); clear hK K hHeld; have hHeld := hH2; clear hH2; (first | refine GoesX.take 39 147 [] hHeld (h := ?_) | refine GoesX.skip 39 147 [] hHeld (h := ?_)); (first | refine GoesX.take 40 148 [] hHeld (h := ?_) | refine GoesX.skip 40 148 [] hHeld (h := ?_)); refine GoesX.take 41 149 [] hHeld (h := ?_); refine GoesX.take 42 150 [] hHeld (h := ?_); (first | refine GoesX.take 43 151 [] hHeld (h := ?_) | refine GoesX.skip 43 151 [] hHeld (h := ?_)); (first | refine GoesX.take 45 153 [] hHeld (h := ?_) | refine GoesX.skip 45 153 [] hHeld (h := ?_)); (first | refine GoesX.take 47 155 [] hHeld (h := ?_) | refine GoesX.skip 47 155 [] hHeld (h := ?_)); (first | refine GoesX.take 48 156 [] hHeld (h := ?_) | refine GoesX.skip 48 156 [] hHeld (h := ?_)); refine GoesX.one 44 (h := fun K hK => ?_); go_simp; (first | (go_at_call 37; apply Calls.mono; with_reducible apply (iMonHas_c bP bPc bPn z.1.purses d.seller); (apply Rs.at0 hRX.purses; (exact kf_)); rintro E wh ⟨rfl, hb⟩; rw [← K1.out]; have hst := xr hb; (try simp only [zA, zC, zD, zN] at hst); obtain ⟨hc, hf, hz⟩ := hst) | (go_at_call 37; apply Calls.mono; with_reducible apply (iMonHas_c aP aPc aPn m.purses d.seller); (apply Rs.at0 hRM.purses; (exact kf_)); rintro E wi ⟨rfl, hb⟩; rw [← K2.out]; have hst := xr hb; (try simp only [zA, zC, zD, zN] at hst); obtain ⟨hc, hf, hz⟩ := hst) | (go_at_call 19; apply Calls.mono; with_reducible apply (iMktHeld_c (some ⟨g, off, none⟩) bLc bLn bP bPc bPn bD bDc bDn bN bNc bNn bS bSc bSn z.1); (apply RM.at0 hRX; (exact kf_)); rintro E wj ⟨rfl, hb⟩; rw [← K3.out]; have hst := xr hb; (try simp only [zA, zC, zD, zN] at hst); obtain ⟨hc, hf, hz⟩ := hst) | (go_at_call 19; apply Calls.mono; with_reducible apply (iMktHeld_c aL aLc aLn aP aPc aPn aD aDc aDn (some ⟨gM, oM, none⟩) aNc 5 aS aSc aSn m); (apply RM.at0 hRM; (exact kf_)); rintro E wk ⟨rfl, hb⟩; rw [← K4.out]; have hst := xr hb; (try simp only [zA, zC, zD, zN] at hst); obtain ⟨hc, hf, hz⟩ := hst)); (try go_wp2_with fail); refine outS hK hdH (h := fun hH2 => ?_); clear hK K hHeld; have hHeld := hH2; clear hH2; refine GoesX.one 46 (h := fun K hK => ?_); go_simp; (first | (go_at_call 37; apply Calls.mono; with_reducible apply (iMonHas_c bP bPc bPn z.1.purses d.seller); (apply Rs.at0 hRX.purses; (exact kf_)); rintro E wh ⟨rfl, hb⟩; rw [← K1.out]; have hst := xr hb; (try simp only [zA, zC, zD, zN] at hst); obtain ⟨hc, hf, hz⟩ := hst) | (go_at_call 37; apply Calls.mono; with_reducible apply (iMonHas_c aP aPc aPn m.purses d.seller); (apply Rs.at0 hRM.purses; (exact kf_)); rintro E wi ⟨rfl, hb⟩; rw [← K2.out]; have hst := xr hb; (try simp only [zA, zC, zD, zN] at hst); obtain ⟨hc, hf, hz⟩ := hst) | (go_at_call 19; apply Calls.mono; with_reducible apply (iMktHeld_c (some ⟨g, off, none⟩) bLc bLn bP bPc bPn bD bDc bDn bN bNc bNn bS bSc bSn z.1); (apply RM.at0 hRX; (exact kf_)); rintro E wj ⟨rfl, hb⟩; rw [← K3.out]; have hst := xr hb; (try simp only [zA, zC, zD, zN] at hst); obtain ⟨hc, hf, hz⟩ := hst) | (go_at_call 19; apply Calls.mono; with_reducible apply (iMktHeld_c aL aLc aLn aP aPc aPn aD aDc aDn (some ⟨gM, oM, none⟩) aNc 5 aS aSc aSn m); (apply RM.at0 hRM; (exact kf_)); rintro E wk ⟨rfl, hb⟩; rw [← K4.out]; have hst := xr hb; (try simp only [zA, zC, zD, zN] at hst); obtain ⟨hc, hf, hz⟩ := hst)); (try go_wp2_with fail); refine outS hK hdH (h := fun hH2 => ?_); clear hK K hHeld; have hHeld := hH2; clear hH2; (first | refine GoesX.take 49 157 [] hHeld (h := ?_) | refine GoesX.skip 49 157 [] hHeld (h := ?_)); (first | refine GoesX.take 50 158 [] hHeld (h := ?_) | refine GoesX.skip 50 158 [] hHeld (h := ?_)); refine GoesX.take 51 159 [] hHeld (h := ?_); refine GoesX.take 52 160 [] hHeld (h := ?_); (first | refine GoesX.take 53 161 [] hHeld (h := ?_) | refine GoesX.skip 53 161 [] hHeld (h := ?_)); (first | refine GoesX.take 54 162 [] hHeld (h := ?_) | refine GoesX.skip 54 162 [] hHeld (h := ?_)); (first | refine GoesX.take 55 163 [] hHeld (h := ?_) | refine GoesX.skip 55 163 [] hHeld (h := ?_)); (first | refine GoesX.take 56 164 [] hHeld (h := ?_) | refine GoesX.skip 56 164 [] hHeld (h := ?_)); (first | refine GoesX.take 57 165 [] hHeld (h := ?_) | refine GoesX.skip 57 165 [] hHeld (h := ?_)); (first | refine GoesX.take 58 166 [] hHeld (h := ?_) | refine GoesX.skip 58 166 [] hHeld (h := ?_)); (first | refine GoesX.take 59 167 [] hHeld (h := ?_) | refine GoesX.skip 59 167 [] hHeld (h := ?_)); (first | refine GoesX.take 60 168 [] hHeld (h := ?_) | refine GoesX.skip 60 168 [] hHeld (h := ?_)); (first | refine GoesX.take 61 169 [] hHeld (h := ?_) | refine GoesX.skip 61 169 [] hHeld (h := ?_)); (first | refine GoesX.take 62 170 [] hHeld (h := ?_) | refine GoesX.skip 62 170 [] hHeld (h := ?_)); (first | refine GoesX.take 63 171 [] hHeld (h := ?_) | refine GoesX.skip 63 171 [] hHeld (h := ?_)); refine GoesX.take 64 172 [] hHeld (h := ?_); refine GoesX.take 65 2 [] hHeld (h := ?_); refine GoesX.done (by kernel_rfl) ?_ _; all_goals (have hb := And.right (by assumption : Held W0 _); have hst := xr hb; (try simp only [zA, zC, zD, zN] at hst); obtain ⟨hc, hf, hz⟩ := hst)))
    go_wp2_with fail
    go_ret
    exact ⟨rfl, ext_⟩
end Go.Proofs.Ytimpagcanengoaa

