/-
  Walk: the law GatHonest.
-/
import Derived.Test.YtdbnbembjebfhaaGreatQHon
namespace Go.Proofs.YtdbnbembjebfhaaGreat
set_option maxRecDepth 100000
set_option linter.unusedSimpArgs false
set_option linter.unusedVariables false
open Go.RowKit Go
set_option maxHeartbeats 8000000

theorem gatShow_may {g : Sw.Gate} {t who : Int} {r : Sw.Row} {p : List Int} (h : Sw.gatOk g = true) : (Sw.gatShow g t who r p).2 = Sw.gatMay g t who r p := by
  cases hm : Sw.gatMay g t who r p
  · rw [Sw.gatShow_no h hm]
  · rw [Sw.gatShow_yes h hm]
theorem rowAt_ofH {rows : List Sw.Row} {k : Nat} {y : Sw.Row} (h : rows[k]? = some y) : Sw.rowAt rows (k : Int) = y := by
  unfold Sw.rowAt
  rw [Int.toNat_natCast]
  exact Sw.getD_of h
theorem honest_pre {rows : List Sw.Row} (h : Sw.ownOk rows = true) {t : Nat} (ht : t < 8) {row y : Sw.Row} {ps : List Int} {hd : Sw.Head} {who : Int} (he : hd.own = Sw.ownRoot rows) (hy : Sw.rowAt rows (t : Int) = y)
    (hm : Sw.gatMay ⟨hd, []⟩ (t : Int) who row ps = true) (hne : Sw.ownLeaf (t : Int) row ≠ Sw.ownLeaf (t : Int) y) :
    Sw.treOk (Sw.ownLeaves rows) = true ∧ Sw.treOk ps = true ∧ Sw.mixOk (Sw.ownLeaf (t : Int) row) = true ∧ Sw.treCheck (Sw.treRoot (Sw.ownLeaves rows)) (8 : Nat) (t : Int) (Sw.ownLeaf (t : Int) row) ps = true ∧
      (Sw.ownLeaves rows)[t]? = some (Sw.ownLeaf (t : Int) y) ∧ ∃ a b c d, Sw.clashR 40 (Sw.ownLeaves rows) t (Sw.ownLeaf (t : Int) row) ps.reverse = some (a, b, c, d) ∧ (a ≠ c ∨ b ≠ d) ∧ Sw.mixPair a b = Sw.mixPair c d := by
  have h8 := Sw.ownOk_len h
  have hti : (0 : Int) ≤ (t : Int) ∧ (t : Int) ≤ 7 := by omega
  have h1 : Sw.treOk (Sw.ownLeaves rows) = true := by rw [Sw.treOk, Sw.ownLeaves_mix, Sw.ownLeaves_len, h8]; rfl
  rw [Sw.gatMay_parts, Bool.and_eq_true] at hm
  have hoc := hm.2
  dsimp only at hoc
  rw [he] at hoc
  have hoc2 := hoc
  unfold Sw.ownCheck at hoc2
  rw [Bool.and_eq_true] at hoc2
  have hroot : Sw.treRoot (Sw.ownLeaves rows) = Sw.ownRoot rows := by unfold Sw.treRoot Sw.ownRoot; rw [if_pos h1, if_pos h]
  have hps : Sw.treOk ps = true := by
    have hu := hoc2.2
    unfold Sw.treCheck at hu
    have hu := eq_of_beq hu
    unfold Sw.treUp at hu
    split at hu
    · rename_i hg
      simp only [Bool.and_eq_true] at hg
      exact hg.1.2
    · cases hu
  refine ⟨h1, hps, Sw.ownLeaf_mix _ _, by rw [hroot]; exact hoc2.2, ?_, ?_⟩
  · have hr := Sw.rowAt_get h hti
    rw [Int.toNat_natCast, hy] at hr
    have hk := Sw.leavesFrom_get rows 0 t _ hr
    rw [Int.zero_add] at hk
    exact hk
  · have := Sw.honest_clash h hti hoc (by rw [hy]; exact hne)
    rwa [Int.toNat_natCast] at this
theorem fnGatHonest_c (A : Option Addr) (c n : Nat) (bs : List Int) (A9 : Option Addr) (c9 n9 : Nat) (bs9 : List Int) (w : World) (hxs : RB w 0 A c n bs) (hq : ∀ x ∈ bs, 0 ≤ x ∧ x ≤ 255) (hxs2 : RB w 0 A9 c9 n9 bs9) (hq2 : ∀ x ∈ bs9, 0 ≤ x ∧ x ≤ 255) : Calls Tryz.prog 3 #[.slice A n c, .slice A9 n9 c9] w fun E w' => E = .returned (.bool true) ∧ Ex w w' := by
  have hbig := Rs.big hxs
  have hbig2 := Rs.big hxs2
  by_cases hn : n ≤ 1048576
  case neg =>
    go_enter Tryz.func3, Tryz.ntmps3
    go_wp2_with fail
    go_ret
    exact ⟨rfl, ext_⟩
  by_cases hn2 : n9 ≤ 1048576
  case neg =>
    go_enter Tryz.func3, Tryz.ntmps3
    go_wp2_with fail
    go_ret
    exact ⟨rfl, ext_⟩
  go_enter Tryz.func3, Tryz.ntmps3
  go_wp2_with fail
  apply Calls.mono
  apply drawHedOf_c
  · apply Rs.at0 hxs; (exact kf_)
  · exact hq
  rintro E w1 ⟨L, Lc, Ln, es, rfl, hes, hb⟩
  have hst := xr hb; (try simp only [zA, zC, zD, zN] at hst); obtain ⟨hc, hf, hz⟩ := hst
  go_wp2_with fail
  apply Calls.mono
  apply drawGatShow_c
  · apply Rs.at0 hxs2; (exact kf_)
  · exact hq2
  rintro E w2 ⟨t1, t2, t3, B, d, m, xs, t, who, r1, r2, r3, D, e, k, ps, rfl, ⟨hg, hp, ht8⟩, hb⟩
  have hst := xr hb; (try simp only [zA, zC, zD, zN] at hst); obtain ⟨hc, hf, hz⟩ := hst
  clear hxs hq hxs2 hq2 hg
  obtain ⟨hd, ehd⟩ : ∃ x, x = (Sw.hedOf es).getD Sw.headZ := ⟨_, rfl⟩
  obtain ⟨ho, eho⟩ : ∃ x, x = (Sw.hedOf es).isSome := ⟨_, rfl⟩
  have EH := Lib.hid ehd
  have EO := Lib.hid eho
  clear ehd eho
  have l1 : (hd.size == hd.size) = true := by simp
  have l2 : (hd.log == hd.log) = true := by simp
  have l3 : (hd.own == hd.own) = true := by simp
  have l4 : (ho != ho) = false := by simp
  go_upto_region 9 with (first | (go_at_call 8; apply Calls.mono; apply (iHedOf_c (xs := es)); (apply Rs.at0 hes; (exact kf_)); rintro E w3 ⟨rfl, hb⟩; rw [← EH.out, ← EO.out]; have hst := xr hb; (try simp only [zA, zC, zD, zN] at hst); obtain ⟨hc, hf, hz⟩ := hst) | (go_at_call 9; apply Calls.mono; apply (sHedOf_c (xs := es)); (apply Rs.at0 hes; (exact kf_)); rintro E w4 ⟨rfl, hb⟩; rw [← EH.out, ← EO.out]; have hst := xr hb; (try simp only [zA, zC, zD, zN] at hst); obtain ⟨hc, hf, hz⟩ := hst))
  cases ho
  case false =>
    have hz : hd = Sw.headZ := by
      rw [EH.out]
      cases h : Sw.hedOf es with
      | none => rfl
      | some x => have := EO.out; rw [h] at this; cases this
    have z1 : (hd.size == 0) = true := by rw [hz]; rfl
    have z2 : (hd.log == 0) = true := by rw [hz]; rfl
    have z3 : (hd.own == 0) = true := by rw [hz]; rfl
    clear hz
    go_wp2_with (first | (go_at_call 10; refine (swOk_c _).mono ?_; rintro E w' ⟨rfl, rfl⟩) | fail)
    go_ret
    exact ⟨rfl, ext_⟩
  obtain ⟨x0, hx0⟩ := Option.isSome_iff_exists.1 EO.out.symm
  have hdx : hd = x0 := by rw [EH.out, hx0]; rfl
  subst hdx
  obtain ⟨rows, hfold, hshape⟩ := Sw.hedOf_some.1 hx0
  have hrok := Sw.ownFold_ok hfold
  have hokh := (Sw.hedOf_ok hx0).1
  have hown : hd.own = Sw.ownRoot rows := by rw [hshape]
  have h8 := Sw.ownOk_len hrok
  have HF := Lib.hid hfold
  have HRK := Lib.hid hrok
  have HOW := Lib.hid hown
  have gok : Sw.gatOk ⟨hd, []⟩ = true := by
    unfold Sw.gatOk; rw [hokh]; rfl
  have GOK := Lib.hid gok
  have H8 := Lib.hid h8
  clear hx0 hfold hshape hrok hokh hown gok h8 l1 l2 l3 l4
  go_wp2_with fail
  apply Calls.mono
  apply (iOwnFold_c (xs := es))
  · apply Rs.at0 hes; (exact kf_)
  rintro E w5 ⟨R, Rc, Rn, rfl, hor, hb⟩
  rw [HF.out] at hor
  rw [HF.out]
  have hst := xr hb; (try simp only [zA, zC, zD, zN] at hst); obtain ⟨hc, hf, hz⟩ := hst
  have hR : RR w5 0 R Rc Rn rows := hor.rs.at0 (kR _ _)
  have hr8 : Rn = 8 := hR.1.trans H8.out
  subst hr8
  obtain ⟨gr, orr, y, rfl, hgr0, hgr, -, hyr, cr0, cr1, cr2⟩ := at_R hR ht8
  have ht8i : (t : Int) < 8 := by omega
  have ht0 : (0 : Int) ≤ (t : Int) := by omega
  have hrow := rowAt_ofH hyr
  have HROW := Lib.hid hrow
  have hin := Sw.honest_in HRK.out (t := (t : Int)) ⟨ht0, by omega⟩ HOW.out
  rw [hrow, ← gatShow_may GOK.out] at hin
  obtain ⟨v1, v2, v3, zs, b, he⟩ : ∃ v1 v2 v3 zs b, Sw.gatShow ⟨hd, []⟩ (t : Int) y.who y (Sw.ownProof rows t) = (⟨⟨v1, v2, v3⟩, zs⟩, b) := ⟨_, _, _, _, _, rfl⟩
  rw [he] at hin
  dsimp only at hin
  have HE := Lib.hid he
  have HIN := Lib.hid hin
  obtain ⟨u1, u2, u3, us, b2, he2⟩ : ∃ v1 v2 v3 zs b, Sw.gatShow ⟨hd, []⟩ (t : Int) who ⟨r1, r2, r3⟩ ps = (⟨⟨v1, v2, v3⟩, zs⟩, b) := ⟨_, _, _, _, _, rfl⟩
  have hb2 : b2 = Sw.gatMay ⟨hd, []⟩ (t : Int) who ⟨r1, r2, r3⟩ ps := by rw [← gatShow_may GOK.out, he2]
  have HE2 := Lib.hid he2
  have HB2 := Lib.hid hb2
  clear hyr hrow hin he he2 hb2
  go_wp2_with fail
  (refine wp_name ?_; intro W0 hb0; have hst := xr hb0; (try simp only [zA, zC, zD, zN] at hst); obtain ⟨hc0, hf0, hz0⟩ := hst)
  go_cut [20] (fun u wx => u = .bool b ∧ Ex W0 wx)
  case first =>
    (focus (refine wp_name ?_; intro W0 hb0; have hst := xr hb0; (try simp only [zA, zC, zD, zN] at hst); obtain ⟨hc0, hf0, hz0⟩ := hst; refine wp_regionX [] (S := fun w' => Held W0 w') hdH (fun hHeld => ?_); refine GoesX.take 0 80 [] hHeld (h := ?_); refine GoesX.take 1 81 [] hHeld (h := ?_); refine GoesX.take 2 82 [] hHeld (h := ?_); refine GoesX.take 3 83 [] hHeld (h := ?_); refine GoesX.take 4 84 [] hHeld (h := ?_); refine GoesX.take 5 85 [] hHeld (h := ?_); refine GoesX.take 6 86 [] hHeld (h := ?_); refine GoesX.ready (rs := [7, 12]) (by kernel_rfl) (by simp) ?_; refine EachX.cons rfl (fun K hK => ?_) ?_; rotate_left; refine EachX.cons rfl (fun K hK => ?_) EachX.nil; (focus (go_simp; refine outS hK hdH (h := fun hH2 => ?_); clear hK K hHeld; have hHeld := hH2; clear hH2; refine GoesX.one 7 (h := fun K hK => ?_); go_simp; (first | (go_at_call 13; apply Calls.mono; apply (iOwnProof_c (xs := rows) (t := (t : Int))); (apply Rs.at0 hR; (exact kf_)); omega; rintro E w6 ⟨D2, dc2, dn2, rfl, hop, hb⟩; have hst := xr hb; (try simp only [zA, zC, zD, zN] at hst); obtain ⟨hc, hf, hz⟩ := hst) | (go_at_call 12; apply Calls.mono; apply (iGatShow_v (t1 := hd.size) (t2 := hd.log) (t3 := hd.own) (r1 := y.who) (r2 := y.face) (r3 := y.used) (xs := []) (he := HE.out)); (exact ⟨rfl, Rd.none_ _ _ _⟩); (exact Ow.rs0 hop kf_); rintro E w7 ⟨A7, c7, n7, rfl, ho7, hb⟩; have hst := xr hb; (try simp only [zA, zC, zD, zN] at hst); obtain ⟨hc, hf, hz⟩ := hst)); (try go_wp2_with fail); refine outS hK hdH (h := fun hH2 => ?_); clear hK K hHeld; have hHeld := hH2; clear hH2; refine GoesX.one 8 (h := fun K hK => ?_); go_simp; (first | (go_at_call 13; apply Calls.mono; apply (iOwnProof_c (xs := rows) (t := (t : Int))); (apply Rs.at0 hR; (exact kf_)); omega; rintro E w6 ⟨D2, dc2, dn2, rfl, hop, hb⟩; have hst := xr hb; (try simp only [zA, zC, zD, zN] at hst); obtain ⟨hc, hf, hz⟩ := hst) | (go_at_call 12; apply Calls.mono; apply (iGatShow_v (t1 := hd.size) (t2 := hd.log) (t3 := hd.own) (r1 := y.who) (r2 := y.face) (r3 := y.used) (xs := []) (he := HE.out)); (exact ⟨rfl, Rd.none_ _ _ _⟩); (exact Ow.rs0 hop kf_); rintro E w7 ⟨A7, c7, n7, rfl, ho7, hb⟩; have hst := xr hb; (try simp only [zA, zC, zD, zN] at hst); obtain ⟨hc, hf, hz⟩ := hst)); (try go_wp2_with fail); refine outS hK hdH (h := fun hH2 => ?_); clear hK K hHeld; have hHeld := hH2; clear hH2; refine GoesX.take 9 79 [] hHeld (h := ?_); refine GoesX.take 10 89 [] hHeld (h := ?_); refine GoesX.take 11 90 [] hHeld (h := ?_); refine GoesX.one 13 (h := fun K hK => ?_); go_simp; refine outS hK hdH (h := fun hH2 => ?_); clear hK K hHeld; have hHeld := hH2; clear hH2; refine GoesX.take 14 20 [] hHeld (h := ?_); refine GoesX.done (by kernel_rfl) ?_ _; all_goals (have hb := And.right (by assumption : Held W0 _); have hst := xr hb; (try simp only [zA, zC, zD, zN] at hst); obtain ⟨hc, hf, hz⟩ := hst))); rotate_right 1; (focus (go_simp; (first | (go_at_call 13; apply Calls.mono; apply (iOwnProof_c (xs := rows) (t := (t : Int))); (apply Rs.at0 hR; (exact kf_)); omega; rintro E w6 ⟨D2, dc2, dn2, rfl, hop, hb⟩; have hst := xr hb; (try simp only [zA, zC, zD, zN] at hst); obtain ⟨hc, hf, hz⟩ := hst) | (go_at_call 12; apply Calls.mono; apply (iGatShow_v (t1 := hd.size) (t2 := hd.log) (t3 := hd.own) (r1 := y.who) (r2 := y.face) (r3 := y.used) (xs := []) (he := HE.out)); (exact ⟨rfl, Rd.none_ _ _ _⟩); (exact Ow.rs0 hop kf_); rintro E w7 ⟨A7, c7, n7, rfl, ho7, hb⟩; have hst := xr hb; (try simp only [zA, zC, zD, zN] at hst); obtain ⟨hc, hf, hz⟩ := hst)); (try go_wp2_with fail); refine outS hK hdH (h := fun hH2 => ?_); clear hK K hHeld; have hHeld := hH2; clear hH2; refine GoesX.ready (rs := [8, 12]) (by kernel_rfl) (by simp) ?_; refine EachX.cons rfl (fun K hK => ?_) ?_; rotate_left; refine EachX.cons rfl (fun K hK => ?_) EachX.nil; (focus (go_simp; refine outS hK hdH (h := fun hH2 => ?_); clear hK K hHeld; have hHeld := hH2; clear hH2; refine GoesX.one 8 (h := fun K hK => ?_); go_simp; (first | (go_at_call 13; apply Calls.mono; apply (iOwnProof_c (xs := rows) (t := (t : Int))); (apply Rs.at0 hR; (exact kf_)); omega; rintro E w6 ⟨D2, dc2, dn2, rfl, hop, hb⟩; have hst := xr hb; (try simp only [zA, zC, zD, zN] at hst); obtain ⟨hc, hf, hz⟩ := hst) | (go_at_call 12; apply Calls.mono; apply (iGatShow_v (t1 := hd.size) (t2 := hd.log) (t3 := hd.own) (r1 := y.who) (r2 := y.face) (r3 := y.used) (xs := []) (he := HE.out)); (exact ⟨rfl, Rd.none_ _ _ _⟩); (exact Ow.rs0 hop kf_); rintro E w7 ⟨A7, c7, n7, rfl, ho7, hb⟩; have hst := xr hb; (try simp only [zA, zC, zD, zN] at hst); obtain ⟨hc, hf, hz⟩ := hst)); (try go_wp2_with fail); refine outS hK hdH (h := fun hH2 => ?_); clear hK K hHeld; have hHeld := hH2; clear hH2; refine GoesX.take 9 79 [] hHeld (h := ?_); refine GoesX.take 10 89 [] hHeld (h := ?_); refine GoesX.take 11 90 [] hHeld (h := ?_); refine GoesX.one 13 (h := fun K hK => ?_); go_simp; refine outS hK hdH (h := fun hH2 => ?_); clear hK K hHeld; have hHeld := hH2; clear hH2; refine GoesX.take 14 20 [] hHeld (h := ?_); refine GoesX.done (by kernel_rfl) ?_ _; all_goals (have hb := And.right (by assumption : Held W0 _); have hst := xr hb; (try simp only [zA, zC, zD, zN] at hst); obtain ⟨hc, hf, hz⟩ := hst))); rotate_right 1; (focus (go_simp; (first | (go_at_call 13; apply Calls.mono; apply (iOwnProof_c (xs := rows) (t := (t : Int))); (apply Rs.at0 hR; (exact kf_)); omega; rintro E w6 ⟨D2, dc2, dn2, rfl, hop, hb⟩; have hst := xr hb; (try simp only [zA, zC, zD, zN] at hst); obtain ⟨hc, hf, hz⟩ := hst) | (go_at_call 12; apply Calls.mono; apply (iGatShow_v (t1 := hd.size) (t2 := hd.log) (t3 := hd.own) (r1 := y.who) (r2 := y.face) (r3 := y.used) (xs := []) (he := HE.out)); (exact ⟨rfl, Rd.none_ _ _ _⟩); (exact Ow.rs0 hop kf_); rintro E w7 ⟨A7, c7, n7, rfl, ho7, hb⟩; have hst := xr hb; (try simp only [zA, zC, zD, zN] at hst); obtain ⟨hc, hf, hz⟩ := hst)); (try go_wp2_with fail); refine outS hK hdH (h := fun hH2 => ?_); clear hK K hHeld; have hHeld := hH2; clear hH2; refine GoesX.take 9 79 [] hHeld (h := ?_); refine GoesX.take 10 89 [] hHeld (h := ?_); refine GoesX.take 11 90 [] hHeld (h := ?_); refine GoesX.one 12 (h := fun K hK => ?_); go_simp; refine outS hK hdH (h := fun hH2 => ?_); clear hK K hHeld; have hHeld := hH2; clear hH2; refine GoesX.one 13 (h := fun K hK => ?_); go_simp; refine outS hK hdH (h := fun hH2 => ?_); clear hK K hHeld; have hHeld := hH2; clear hH2; refine GoesX.take 14 20 [] hHeld (h := ?_); refine GoesX.done (by kernel_rfl) ?_ _; all_goals (have hb := And.right (by assumption : Held W0 _); have hst := xr hb; (try simp only [zA, zC, zD, zN] at hst); obtain ⟨hc, hf, hz⟩ := hst)))))))
    all_goals go_wp2_with fail
    all_goals go_meet
    all_goals exact ⟨rfl, ext_⟩
  case rest =>
  obtain ⟨rfl, hb8⟩ := hcut
  have hst := xr hb8
  (try simp only [zA, zC, zD, zN] at hst)
  obtain ⟨hc8, hf8, hz8⟩ := hst
  go_upto_region 15 with fail
  (refine wp_name ?_; intro W0 hb0; have hst := xr hb0; (try simp only [zA, zC, zD, zN] at hst); obtain ⟨hc0, hf0, hz0⟩ := hst)
  go_cut [100] (fun u wx => u = .bool false ∧ Ex W0 wx)
  case first =>
    by_cases hw : 0 < y.who
    · have dw : decide (0 < y.who) = true := decide_eq_true hw
      have hbe : b = !y.used := by rw [HIN.out, dw]; simp
      have HBE := Lib.hid hbe
      clear hbe hw
      obtain ⟨uu, huu⟩ : ∃ x, x = y.used := ⟨_, rfl⟩
      cases b
      · have : y.used = true := by have := HBE.out; simpa using this.symm
        go_wp2_with fail
        go_meet
        exact ⟨by simp [this], ext_⟩
      · have : y.used = false := by have := HBE.out; simpa using this.symm
        go_wp2_with fail
        go_meet
        exact ⟨by simp [this], ext_⟩
    · have dw : decide (0 < y.who) = false := decide_eq_false hw
      obtain rfl : b = false := by rw [HIN.out, dw]; rfl
      clear hw
      go_wp2_with fail
      go_meet
      exact ⟨by simp, ext_⟩
  case rest =>
    obtain ⟨rfl, hb9⟩ := hcut
    have hst := xr hb9
    (try simp only [zA, zC, zD, zN] at hst)
    obtain ⟨hc9, hf9, hz9⟩ := hst
    go_upto_region 18 with (go_at_call 12; apply Calls.mono; apply (iGatShow_v (t1 := hd.size) (t2 := hd.log) (t3 := hd.own) (r1 := r1) (r2 := r2) (r3 := r3) (xs := []) (he := HE2.out)); (exact ⟨rfl, Rd.none_ _ _ _⟩); (apply Rs.at0 hp; (exact kf_)); rintro E w8 ⟨A8, c8, n8, rfl, ho8, hb⟩; have hst := xr hb; (try simp only [zA, zC, zD, zN] at hst); obtain ⟨hc, hf, hz⟩ := hst)
    (refine wp_name ?_; intro W0 hb0; have hst := xr hb0; (try simp only [zA, zC, zD, zN] at hst); obtain ⟨hc0, hf0, hz0⟩ := hst)
    go_cut [116] (fun u wx => ∃ bb : Bool, u = .bool bb ∧ (bb = false → b2 = true) ∧ Ex W0 wx)
    case first =>
      cases b2
      · go_wp2_with fail
        go_meet
        exact ⟨_, rfl, fun h => (by cases h), ext_⟩
      · go_wp2_with fail
        all_goals go_meet
        all_goals exact ⟨_, rfl, fun _ => (by trivial), ext_⟩
    case rest =>
    obtain ⟨bb, rfl, hbb, hb10⟩ := hcut
    have hst := xr hb10
    (try simp only [zA, zC, zD, zN] at hst)
    obtain ⟨hc10, hf10, hz10⟩ := hst
    cases bb
    case true =>
      go_wp2_with (first | (go_at_call 10; refine (swOk_c _).mono ?_; rintro E w' ⟨rfl, rfl⟩) | fail)
      go_ret
      exact ⟨rfl, ext_⟩
    case false =>
    have hb2t := hbb rfl
    have hgm := HB2.out.symm.trans hb2t
    obtain ⟨p1, ep1⟩ : ∃ x, x = Sw.ownLeaf (t : Int) ⟨r1, r2, r3⟩ := ⟨_, rfl⟩
    obtain ⟨p2, ep2⟩ : ∃ x, x = Sw.ownLeaf (t : Int) y := ⟨_, rfl⟩
    have P1 := Lib.hid ep1
    have P2 := Lib.hid ep2
    have HGM := Lib.hid hgm
    clear ep1 ep2 hgm hb2t hbb
    by_cases hpq : p1 = p2
    · have e1 : (p1 == p2) = true := by simp [hpq]
      clear hpq
      go_wp2_with fail
      (focus (refine wp_name ?_; intro W0 hb0; have hst := xr hb0; (try simp only [zA, zC, zD, zN] at hst); obtain ⟨hc0, hf0, hz0⟩ := hst; refine wp_regionX [] (S := fun w' => Held W0 w') hdH (fun hHeld => ?_); refine GoesX.take 0 118 [] hHeld (h := ?_); refine GoesX.take 1 119 [] hHeld (h := ?_); refine GoesX.take 3 121 [] hHeld (h := ?_); refine GoesX.take 4 122 [] hHeld (h := ?_); refine GoesX.one 2 (h := fun K hK => ?_); go_simp; (first | (go_at_call 14; apply Calls.mono; with_reducible apply (iOwnLeaf_c (t : Int) ⟨r1, r2, r3⟩); rintro E wl ⟨rfl, hb⟩; rw [← P1.out]; have hst := xr hb; (try simp only [zA, zC, zD, zN] at hst); obtain ⟨hc, hf, hz⟩ := hst) | (go_at_call 14; apply Calls.mono; with_reducible apply (iOwnLeaf_c (t : Int) y); rintro E wm ⟨rfl, hb⟩; rw [← P2.out]; have hst := xr hb; (try simp only [zA, zC, zD, zN] at hst); obtain ⟨hc, hf, hz⟩ := hst)); (try go_wp2_with fail); refine outS hK hdH (h := fun hH2 => ?_); clear hK K hHeld; have hHeld := hH2; clear hH2; refine GoesX.one 5 (h := fun K hK => ?_); go_simp; (first | (go_at_call 14; apply Calls.mono; with_reducible apply (iOwnLeaf_c (t : Int) ⟨r1, r2, r3⟩); rintro E wl ⟨rfl, hb⟩; rw [← P1.out]; have hst := xr hb; (try simp only [zA, zC, zD, zN] at hst); obtain ⟨hc, hf, hz⟩ := hst) | (go_at_call 14; apply Calls.mono; with_reducible apply (iOwnLeaf_c (t : Int) y); rintro E wm ⟨rfl, hb⟩; rw [← P2.out]; have hst := xr hb; (try simp only [zA, zC, zD, zN] at hst); obtain ⟨hc, hf, hz⟩ := hst)); (try go_wp2_with fail); refine outS hK hdH (h := fun hH2 => ?_); clear hK K hHeld; have hHeld := hH2; clear hH2; refine GoesX.take 6 124 [] hHeld (h := ?_); refine GoesX.done (by kernel_rfl) ?_ _; all_goals (have hb := And.right (by assumption : Held W0 _); have hst := xr hb; (try simp only [zA, zC, zD, zN] at hst); obtain ⟨hc, hf, hz⟩ := hst)))
      all_goals go_wp2_with (first | (go_at_call 10; refine (swOk_c _).mono ?_; rintro E w' ⟨rfl, rfl⟩) | fail)
      all_goals go_ret
      all_goals exact ⟨rfl, ext_⟩
    · have e1 : (p1 == p2) = false := by simpa using hpq
      obtain ⟨f1, f2, f3, f4, f5, q1, q2, q3, q4, f6, f7, f8⟩ := honest_pre HRK.out ht8 HOW.out HROW.out HGM.out (by rw [← P1.out, ← P2.out]; exact hpq)
      rw [← P1.out] at f3 f4 f6
      rw [← P2.out] at f5
      obtain ⟨s1, es1⟩ : ∃ s, s = Sw.mixPair q1 q2 := ⟨_, rfl⟩
      have S1 := Lib.hid es1
      have S2 := Lib.hid (es1.trans f8)
      have sss : (s1 == s1) = true := by simp
      have hpq2 : p2 ≠ p1 := fun h => hpq h.symm
      have F1 := Lib.hid f1
      have F2 := Lib.hid f2
      have F3 := Lib.hid f3
      have F4 := Lib.hid f4
      have F5 := Lib.hid f5
      have F6 := Lib.hid f6
      have HPQ := Lib.hid hpq2
      clear f1 f2 f3 f4 f5 f6 f8 es1 hpq hpq2
      go_wp2_with fail
      (focus (refine wp_name ?_; intro W0 hb0; have hst := xr hb0; (try simp only [zA, zC, zD, zN] at hst); obtain ⟨hc0, hf0, hz0⟩ := hst; refine wp_regionX [] (S := fun w' => Held W0 w') hdH (fun hHeld => ?_); refine GoesX.take 0 118 [] hHeld (h := ?_); refine GoesX.take 1 119 [] hHeld (h := ?_); refine GoesX.take 3 121 [] hHeld (h := ?_); refine GoesX.take 4 122 [] hHeld (h := ?_); refine GoesX.one 2 (h := fun K hK => ?_); go_simp; (first | (go_at_call 14; apply Calls.mono; with_reducible apply (iOwnLeaf_c (t : Int) ⟨r1, r2, r3⟩); rintro E wl ⟨rfl, hb⟩; rw [← P1.out]; have hst := xr hb; (try simp only [zA, zC, zD, zN] at hst); obtain ⟨hc, hf, hz⟩ := hst) | (go_at_call 14; apply Calls.mono; with_reducible apply (iOwnLeaf_c (t : Int) y); rintro E wm ⟨rfl, hb⟩; rw [← P2.out]; have hst := xr hb; (try simp only [zA, zC, zD, zN] at hst); obtain ⟨hc, hf, hz⟩ := hst)); (try go_wp2_with fail); refine outS hK hdH (h := fun hH2 => ?_); clear hK K hHeld; have hHeld := hH2; clear hH2; refine GoesX.one 5 (h := fun K hK => ?_); go_simp; (first | (go_at_call 14; apply Calls.mono; with_reducible apply (iOwnLeaf_c (t : Int) ⟨r1, r2, r3⟩); rintro E wl ⟨rfl, hb⟩; rw [← P1.out]; have hst := xr hb; (try simp only [zA, zC, zD, zN] at hst); obtain ⟨hc, hf, hz⟩ := hst) | (go_at_call 14; apply Calls.mono; with_reducible apply (iOwnLeaf_c (t : Int) y); rintro E wm ⟨rfl, hb⟩; rw [← P2.out]; have hst := xr hb; (try simp only [zA, zC, zD, zN] at hst); obtain ⟨hc, hf, hz⟩ := hst)); (try go_wp2_with fail); refine outS hK hdH (h := fun hH2 => ?_); clear hK K hHeld; have hHeld := hH2; clear hH2; refine GoesX.take 6 124 [] hHeld (h := ?_); refine GoesX.done (by kernel_rfl) ?_ _; all_goals (have hb := And.right (by assumption : Held W0 _); have hst := xr hb; (try simp only [zA, zC, zD, zN] at hst); obtain ⟨hc, hf, hz⟩ := hst)))
      go_wp2_with fail
      (focus (refine wp_name ?_; intro W0 hb0; have hst := xr hb0; (try simp only [zA, zC, zD, zN] at hst); obtain ⟨hc0, hf0, hz0⟩ := hst; refine wp_regionX [] (S := fun w' => Held W0 w') hdH (fun hHeld => ?_); refine GoesX.take 0 126 [] hHeld (h := ?_); refine GoesX.take 2 128 [] hHeld (h := ?_); refine GoesX.take 3 129 [] hHeld (h := ?_); refine GoesX.take 4 130 [] hHeld (h := ?_); refine GoesX.take 6 132 [] hHeld (h := ?_); refine GoesX.one 1 (h := fun K hK => ?_); go_simp; (first | (go_at_call 16; apply Calls.mono; apply (swLeaves_c (xs := rows)); (apply Rs.at0 hR; (exact kf_)); omega; rintro E wn ⟨Al, cl, rfl, hol, hb⟩; have hst := xr hb; (try simp only [zA, zC, zD, zN] at hst); obtain ⟨hc, hf, hz⟩ := hst) | (go_at_call 14; apply Calls.mono; with_reducible apply (iOwnLeaf_c (t : Int) ⟨r1, r2, r3⟩); rintro E wo ⟨rfl, hb⟩; rw [← P1.out]; have hst := xr hb; (try simp only [zA, zC, zD, zN] at hst); obtain ⟨hc, hf, hz⟩ := hst) | (go_at_call 15; apply Calls.mono; apply (iTreClash_c (k := t) (leaf := p1) (y := p2) (xs := Sw.ownLeaves rows) (ps := ps) (q1 := q1) (q2 := q2) (q3 := q3) (q4 := q4)); (exact Ow.rs0 hol kf_); (apply Rs.at0 hp; (exact kf_)); (exact F1.out); (exact F2.out); (exact F3.out); (exact ht8); (exact F4.out); (exact F5.out); (exact HPQ.out); (exact F6.out); rintro E wp ⟨Aq, cq, rfl, hoq, hb⟩; have hst := xr hb; (try simp only [zA, zC, zD, zN] at hst); obtain ⟨hc, hf, hz⟩ := hst)); (try go_wp2_with fail); refine outS hK hdH (h := fun hH2 => ?_); clear hK K hHeld; have hHeld := hH2; clear hH2; refine GoesX.one 5 (h := fun K hK => ?_); go_simp; (first | (go_at_call 16; apply Calls.mono; apply (swLeaves_c (xs := rows)); (apply Rs.at0 hR; (exact kf_)); omega; rintro E wn ⟨Al, cl, rfl, hol, hb⟩; have hst := xr hb; (try simp only [zA, zC, zD, zN] at hst); obtain ⟨hc, hf, hz⟩ := hst) | (go_at_call 14; apply Calls.mono; with_reducible apply (iOwnLeaf_c (t : Int) ⟨r1, r2, r3⟩); rintro E wo ⟨rfl, hb⟩; rw [← P1.out]; have hst := xr hb; (try simp only [zA, zC, zD, zN] at hst); obtain ⟨hc, hf, hz⟩ := hst) | (go_at_call 15; apply Calls.mono; apply (iTreClash_c (k := t) (leaf := p1) (y := p2) (xs := Sw.ownLeaves rows) (ps := ps) (q1 := q1) (q2 := q2) (q3 := q3) (q4 := q4)); (exact Ow.rs0 hol kf_); (apply Rs.at0 hp; (exact kf_)); (exact F1.out); (exact F2.out); (exact F3.out); (exact ht8); (exact F4.out); (exact F5.out); (exact HPQ.out); (exact F6.out); rintro E wp ⟨Aq, cq, rfl, hoq, hb⟩; have hst := xr hb; (try simp only [zA, zC, zD, zN] at hst); obtain ⟨hc, hf, hz⟩ := hst)); (try go_wp2_with fail); refine outS hK hdH (h := fun hH2 => ?_); clear hK K hHeld; have hHeld := hH2; clear hH2; refine GoesX.one 7 (h := fun K hK => ?_); go_simp; (first | (go_at_call 16; apply Calls.mono; apply (swLeaves_c (xs := rows)); (apply Rs.at0 hR; (exact kf_)); omega; rintro E wn ⟨Al, cl, rfl, hol, hb⟩; have hst := xr hb; (try simp only [zA, zC, zD, zN] at hst); obtain ⟨hc, hf, hz⟩ := hst) | (go_at_call 14; apply Calls.mono; with_reducible apply (iOwnLeaf_c (t : Int) ⟨r1, r2, r3⟩); rintro E wo ⟨rfl, hb⟩; rw [← P1.out]; have hst := xr hb; (try simp only [zA, zC, zD, zN] at hst); obtain ⟨hc, hf, hz⟩ := hst) | (go_at_call 15; apply Calls.mono; apply (iTreClash_c (k := t) (leaf := p1) (y := p2) (xs := Sw.ownLeaves rows) (ps := ps) (q1 := q1) (q2 := q2) (q3 := q3) (q4 := q4)); (exact Ow.rs0 hol kf_); (apply Rs.at0 hp; (exact kf_)); (exact F1.out); (exact F2.out); (exact F3.out); (exact ht8); (exact F4.out); (exact F5.out); (exact HPQ.out); (exact F6.out); rintro E wp ⟨Aq, cq, rfl, hoq, hb⟩; have hst := xr hb; (try simp only [zA, zC, zD, zN] at hst); obtain ⟨hc, hf, hz⟩ := hst)); (try go_wp2_with fail); refine outS hK hdH (h := fun hH2 => ?_); clear hK K hHeld; have hHeld := hH2; clear hH2; refine GoesX.take 8 23 [] hHeld (h := ?_); refine GoesX.done (by kernel_rfl) ?_ _; all_goals (have hb := And.right (by assumption : Held W0 _); have hst := xr hb; (try simp only [zA, zC, zD, zN] at hst); obtain ⟨hc, hf, hz⟩ := hst)))
      go_wp2_with fail
      have hxq := hoq.rs
      obtain ⟨gx, ox, y1, rfl, -, hgx, -, hy1, cz1⟩ := at_I hxq (show 0 < 4 by omega)
      obtain ⟨gx2, ox2, y2, hA2, -, -, -, hy2, cz2⟩ := at_I hxq (show 1 < 4 by omega)
      obtain ⟨gx3, ox3, y3, hA3, -, -, -, hy3, cz3⟩ := at_I hxq (show 2 < 4 by omega)
      obtain ⟨gx4, ox4, y4, hA4, -, -, -, hy4, cz4⟩ := at_I hxq (show 3 < 4 by omega)
      cases hA2
      cases hA3
      cases hA4
      obtain rfl : q1 = y1 := by simpa using hy1
      obtain rfl : q2 = y2 := by simpa using hy2
      obtain rfl : q3 = y3 := by simpa using hy3
      obtain rfl : q4 = y4 := by simpa using hy4
      simp only [Nat.add_zero] at cz1
      clear hy1 hy2 hy3 hy4
      by_cases hqq : q1 = q3
      · have d1 : (q1 != q3) = false := by simp [hqq]
        have d2 : (q2 != q4) = true := by
          rcases f7 with h | h
          · exact absurd hqq h
          · simpa using h
        clear hqq f7
        (focus (refine wp_name ?_; intro W0 hb0; have hst := xr hb0; (try simp only [zA, zC, zD, zN] at hst); obtain ⟨hc0, hf0, hz0⟩ := hst; refine wp_regionX [] (S := fun w' => Held W0 w') hdH (fun hHeld => ?_); refine GoesX.take 0 134 [] hHeld (h := ?_); refine GoesX.take 1 135 [] hHeld (h := ?_); refine GoesX.take 2 136 [] hHeld (h := ?_); refine GoesX.take 3 137 [] hHeld (h := ?_); (first | refine GoesX.take 4 138 [] hHeld (h := ?_) | refine GoesX.skip 4 138 [] hHeld (h := ?_)); (first | refine GoesX.take 5 139 [] hHeld (h := ?_) | refine GoesX.skip 5 139 [] hHeld (h := ?_)); (first | refine GoesX.take 6 140 [] hHeld (h := ?_) | refine GoesX.skip 6 140 [] hHeld (h := ?_)); (first | refine GoesX.take 7 141 [] hHeld (h := ?_) | refine GoesX.skip 7 141 [] hHeld (h := ?_)); (first | refine GoesX.take 8 142 [] hHeld (h := ?_) | refine GoesX.skip 8 142 [] hHeld (h := ?_)); (first | refine GoesX.take 9 143 [] hHeld (h := ?_) | refine GoesX.skip 9 143 [] hHeld (h := ?_)); (first | refine GoesX.take 10 144 [] hHeld (h := ?_) | refine GoesX.skip 10 144 [] hHeld (h := ?_)); (first | refine GoesX.take 11 145 [] hHeld (h := ?_) | refine GoesX.skip 11 145 [] hHeld (h := ?_)); (first | refine GoesX.take 12 146 [] hHeld (h := ?_) | refine GoesX.skip 12 146 [] hHeld (h := ?_)); (first | refine GoesX.take 13 147 [] hHeld (h := ?_) | refine GoesX.skip 13 147 [] hHeld (h := ?_)); (first | refine GoesX.take 14 148 [] hHeld (h := ?_) | refine GoesX.skip 14 148 [] hHeld (h := ?_)); (first | refine GoesX.take 15 149 [] hHeld (h := ?_) | refine GoesX.skip 15 149 [] hHeld (h := ?_)); (first | refine GoesX.take 16 150 [] hHeld (h := ?_) | refine GoesX.skip 16 150 [] hHeld (h := ?_)); (first | refine GoesX.take 17 151 [] hHeld (h := ?_) | refine GoesX.skip 17 151 [] hHeld (h := ?_)); (first | refine GoesX.take 18 152 [] hHeld (h := ?_) | refine GoesX.skip 18 152 [] hHeld (h := ?_)); (first | refine GoesX.take 19 153 [] hHeld (h := ?_) | refine GoesX.skip 19 153 [] hHeld (h := ?_)); refine GoesX.take 20 154 [] hHeld (h := ?_); refine GoesX.take 21 155 [] hHeld (h := ?_); (first | refine GoesX.take 22 156 [] hHeld (h := ?_) | refine GoesX.skip 22 156 [] hHeld (h := ?_)); (first | refine GoesX.take 23 157 [] hHeld (h := ?_) | refine GoesX.skip 23 157 [] hHeld (h := ?_)); (first | refine GoesX.take 24 158 [] hHeld (h := ?_) | refine GoesX.skip 24 158 [] hHeld (h := ?_)); (first | refine GoesX.take 25 159 [] hHeld (h := ?_) | refine GoesX.skip 25 159 [] hHeld (h := ?_)); (first | refine GoesX.take 26 160 [] hHeld (h := ?_) | refine GoesX.skip 26 160 [] hHeld (h := ?_)); (first | refine GoesX.take 27 161 [] hHeld (h := ?_) | refine GoesX.skip 27 161 [] hHeld (h := ?_)); (first | refine GoesX.take 29 163 [] hHeld (h := ?_) | refine GoesX.skip 29 163 [] hHeld (h := ?_)); (first | refine GoesX.take 30 164 [] hHeld (h := ?_) | refine GoesX.skip 30 164 [] hHeld (h := ?_)); (first | refine GoesX.take 31 165 [] hHeld (h := ?_) | refine GoesX.skip 31 165 [] hHeld (h := ?_)); (first | refine GoesX.take 32 166 [] hHeld (h := ?_) | refine GoesX.skip 32 166 [] hHeld (h := ?_)); (first | refine GoesX.take 33 167 [] hHeld (h := ?_) | refine GoesX.skip 33 167 [] hHeld (h := ?_)); (first | refine GoesX.take 34 168 [] hHeld (h := ?_) | refine GoesX.skip 34 168 [] hHeld (h := ?_)); refine GoesX.one 28 (h := fun K hK => ?_); go_simp; (first | (go_at_call 17; apply Calls.mono; with_reducible apply (iMixPair_c q1 q2); rintro E wq ⟨rfl, hb⟩; rw [← S1.out]; have hst := xr hb; (try simp only [zA, zC, zD, zN] at hst); obtain ⟨hc, hf, hz⟩ := hst) | (go_at_call 17; apply Calls.mono; with_reducible apply (iMixPair_c q3 q4); rintro E wr ⟨rfl, hb⟩; rw [← S2.out]; have hst := xr hb; (try simp only [zA, zC, zD, zN] at hst); obtain ⟨hc, hf, hz⟩ := hst)); (try go_wp2_with fail); refine outS hK hdH (h := fun hH2 => ?_); clear hK K hHeld; have hHeld := hH2; clear hH2; refine GoesX.one 35 (h := fun K hK => ?_); go_simp; (first | (go_at_call 17; apply Calls.mono; with_reducible apply (iMixPair_c q1 q2); rintro E wq ⟨rfl, hb⟩; rw [← S1.out]; have hst := xr hb; (try simp only [zA, zC, zD, zN] at hst); obtain ⟨hc, hf, hz⟩ := hst) | (go_at_call 17; apply Calls.mono; with_reducible apply (iMixPair_c q3 q4); rintro E wr ⟨rfl, hb⟩; rw [← S2.out]; have hst := xr hb; (try simp only [zA, zC, zD, zN] at hst); obtain ⟨hc, hf, hz⟩ := hst)); (try go_wp2_with fail); refine outS hK hdH (h := fun hH2 => ?_); clear hK K hHeld; have hHeld := hH2; clear hH2; (first | refine GoesX.take 36 170 [] hHeld (h := ?_) | refine GoesX.skip 36 170 [] hHeld (h := ?_)); refine GoesX.take 37 171 [] hHeld (h := ?_); refine GoesX.take 38 4 [] hHeld (h := ?_); refine GoesX.done (by kernel_rfl) ?_ _; all_goals (have hb := And.right (by assumption : Held W0 _); have hst := xr hb; (try simp only [zA, zC, zD, zN] at hst); obtain ⟨hc, hf, hz⟩ := hst)))
        go_wp2_with fail
        go_ret
        exact ⟨rfl, ext_⟩
      · have d1 : (q1 != q3) = true := by simpa using hqq
        clear hqq f7
        (focus (refine wp_name ?_; intro W0 hb0; have hst := xr hb0; (try simp only [zA, zC, zD, zN] at hst); obtain ⟨hc0, hf0, hz0⟩ := hst; refine wp_regionX [] (S := fun w' => Held W0 w') hdH (fun hHeld => ?_); refine GoesX.take 0 134 [] hHeld (h := ?_); refine GoesX.take 1 135 [] hHeld (h := ?_); refine GoesX.take 2 136 [] hHeld (h := ?_); refine GoesX.take 3 137 [] hHeld (h := ?_); (first | refine GoesX.take 4 138 [] hHeld (h := ?_) | refine GoesX.skip 4 138 [] hHeld (h := ?_)); (first | refine GoesX.take 5 139 [] hHeld (h := ?_) | refine GoesX.skip 5 139 [] hHeld (h := ?_)); (first | refine GoesX.take 6 140 [] hHeld (h := ?_) | refine GoesX.skip 6 140 [] hHeld (h := ?_)); (first | refine GoesX.take 7 141 [] hHeld (h := ?_) | refine GoesX.skip 7 141 [] hHeld (h := ?_)); (first | refine GoesX.take 8 142 [] hHeld (h := ?_) | refine GoesX.skip 8 142 [] hHeld (h := ?_)); (first | refine GoesX.take 9 143 [] hHeld (h := ?_) | refine GoesX.skip 9 143 [] hHeld (h := ?_)); (first | refine GoesX.take 10 144 [] hHeld (h := ?_) | refine GoesX.skip 10 144 [] hHeld (h := ?_)); (first | refine GoesX.take 11 145 [] hHeld (h := ?_) | refine GoesX.skip 11 145 [] hHeld (h := ?_)); (first | refine GoesX.take 12 146 [] hHeld (h := ?_) | refine GoesX.skip 12 146 [] hHeld (h := ?_)); (first | refine GoesX.take 13 147 [] hHeld (h := ?_) | refine GoesX.skip 13 147 [] hHeld (h := ?_)); (first | refine GoesX.take 14 148 [] hHeld (h := ?_) | refine GoesX.skip 14 148 [] hHeld (h := ?_)); (first | refine GoesX.take 15 149 [] hHeld (h := ?_) | refine GoesX.skip 15 149 [] hHeld (h := ?_)); (first | refine GoesX.take 16 150 [] hHeld (h := ?_) | refine GoesX.skip 16 150 [] hHeld (h := ?_)); (first | refine GoesX.take 17 151 [] hHeld (h := ?_) | refine GoesX.skip 17 151 [] hHeld (h := ?_)); (first | refine GoesX.take 18 152 [] hHeld (h := ?_) | refine GoesX.skip 18 152 [] hHeld (h := ?_)); (first | refine GoesX.take 19 153 [] hHeld (h := ?_) | refine GoesX.skip 19 153 [] hHeld (h := ?_)); refine GoesX.take 20 154 [] hHeld (h := ?_); refine GoesX.take 21 155 [] hHeld (h := ?_); (first | refine GoesX.take 22 156 [] hHeld (h := ?_) | refine GoesX.skip 22 156 [] hHeld (h := ?_)); (first | refine GoesX.take 23 157 [] hHeld (h := ?_) | refine GoesX.skip 23 157 [] hHeld (h := ?_)); (first | refine GoesX.take 24 158 [] hHeld (h := ?_) | refine GoesX.skip 24 158 [] hHeld (h := ?_)); (first | refine GoesX.take 25 159 [] hHeld (h := ?_) | refine GoesX.skip 25 159 [] hHeld (h := ?_)); (first | refine GoesX.take 26 160 [] hHeld (h := ?_) | refine GoesX.skip 26 160 [] hHeld (h := ?_)); (first | refine GoesX.take 27 161 [] hHeld (h := ?_) | refine GoesX.skip 27 161 [] hHeld (h := ?_)); (first | refine GoesX.take 29 163 [] hHeld (h := ?_) | refine GoesX.skip 29 163 [] hHeld (h := ?_)); (first | refine GoesX.take 30 164 [] hHeld (h := ?_) | refine GoesX.skip 30 164 [] hHeld (h := ?_)); (first | refine GoesX.take 31 165 [] hHeld (h := ?_) | refine GoesX.skip 31 165 [] hHeld (h := ?_)); (first | refine GoesX.take 32 166 [] hHeld (h := ?_) | refine GoesX.skip 32 166 [] hHeld (h := ?_)); (first | refine GoesX.take 33 167 [] hHeld (h := ?_) | refine GoesX.skip 33 167 [] hHeld (h := ?_)); (first | refine GoesX.take 34 168 [] hHeld (h := ?_) | refine GoesX.skip 34 168 [] hHeld (h := ?_)); refine GoesX.one 28 (h := fun K hK => ?_); go_simp; (first | (go_at_call 17; apply Calls.mono; with_reducible apply (iMixPair_c q1 q2); rintro E wq ⟨rfl, hb⟩; rw [← S1.out]; have hst := xr hb; (try simp only [zA, zC, zD, zN] at hst); obtain ⟨hc, hf, hz⟩ := hst) | (go_at_call 17; apply Calls.mono; with_reducible apply (iMixPair_c q3 q4); rintro E wr ⟨rfl, hb⟩; rw [← S2.out]; have hst := xr hb; (try simp only [zA, zC, zD, zN] at hst); obtain ⟨hc, hf, hz⟩ := hst)); (try go_wp2_with fail); refine outS hK hdH (h := fun hH2 => ?_); clear hK K hHeld; have hHeld := hH2; clear hH2; refine GoesX.one 35 (h := fun K hK => ?_); go_simp; (first | (go_at_call 17; apply Calls.mono; with_reducible apply (iMixPair_c q1 q2); rintro E wq ⟨rfl, hb⟩; rw [← S1.out]; have hst := xr hb; (try simp only [zA, zC, zD, zN] at hst); obtain ⟨hc, hf, hz⟩ := hst) | (go_at_call 17; apply Calls.mono; with_reducible apply (iMixPair_c q3 q4); rintro E wr ⟨rfl, hb⟩; rw [← S2.out]; have hst := xr hb; (try simp only [zA, zC, zD, zN] at hst); obtain ⟨hc, hf, hz⟩ := hst)); (try go_wp2_with fail); refine outS hK hdH (h := fun hH2 => ?_); clear hK K hHeld; have hHeld := hH2; clear hH2; (first | refine GoesX.take 36 170 [] hHeld (h := ?_) | refine GoesX.skip 36 170 [] hHeld (h := ?_)); refine GoesX.take 37 171 [] hHeld (h := ?_); refine GoesX.take 38 4 [] hHeld (h := ?_); refine GoesX.done (by kernel_rfl) ?_ _; all_goals (have hb := And.right (by assumption : Held W0 _); have hst := xr hb; (try simp only [zA, zC, zD, zN] at hst); obtain ⟨hc, hf, hz⟩ := hst)))
        go_wp2_with fail
        go_ret
        exact ⟨rfl, ext_⟩
end Go.Proofs.YtdbnbembjebfhaaGreat

