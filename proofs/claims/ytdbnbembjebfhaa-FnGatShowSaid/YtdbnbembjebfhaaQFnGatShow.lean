/-
  Walk: the law GatShow.
-/
import Derived.Test.YtdbnbembjebfhaaPg9
import Derived.Test.YtdbnbembjebfhaaPg14
import Derived.Test.YtdbnbembjebfhaaPg13
import Derived.Test.YtdbnbembjebfhaaPg10
namespace Go.Proofs.Ytdbnbembjebfhaa
set_option maxRecDepth 100000
set_option linter.unusedSimpArgs false
set_option linter.unusedVariables false
open Go.RowKit Go
set_option maxHeartbeats 1000000

theorem swGateEq2_c (p q r : Int) (A : Option Addr) (c n : Nat) (xs : List Int) (B : Option Addr) (d m : Nat) (w : World) (hxs : RI w 0 A c n xs) (hys : RI w 0 B d m xs) :
    Calls Try.prog 8 #[.agg #[.int .i64 p, .int .i64 q, .int .i64 r, .slice A n c], .agg #[.int .i64 p, .int .i64 q, .int .i64 r, .slice B m d]] w fun E w' => E = .returned (.bool true) ∧ Ex w w' := by
  refine (swGate_c ⟨p, q, r⟩ A c n xs ⟨p, q, r⟩ B d m xs w hxs hys).mono ?_
  rintro E w' ⟨rfl, hb⟩
  exact ⟨by simp, hb⟩
theorem iGatShow_v (t1 t2 t3 k who r1 r2 : Int) (r3 : Bool) (v1 v2 v3 : Int) (A : Option Addr) (c n : Nat) (xs : List Int) (B : Option Addr) (d m : Nat) (ps zs : List Int) (b : Bool) (w : World) (hxs : RI w 0 A c n xs) (hps : RI w 0 B d m ps) (he : Sw.gatShow ⟨⟨t1, t2, t3⟩, xs⟩ k who ⟨r1, r2, r3⟩ ps = (⟨⟨v1, v2, v3⟩, zs⟩, b)) :
    Calls Try.prog 6 #[.agg #[.int .i64 t1, .int .i64 t2, .int .i64 t3, .slice A n c], .int .i64 k, .int .i64 who, .agg #[.int .i64 r1, .int .i64 r2, .bool r3], .slice B m d] w fun E w' => ∃ A' c' n', E = .returned (.tuple #[.agg #[.int .i64 v1, .int .i64 v2, .int .i64 v3, .slice A' n' c'], .bool b]) ∧ OwI w' w.heap.size A' c' n' zs ∧ Ex w w' := by
  have := iGatShow_c ⟨t1, t2, t3⟩ A c n xs k who ⟨r1, r2, r3⟩ B d m ps w hxs hps
  rw [he] at this
  exact this
theorem sGatShow_v (t1 t2 t3 k who r1 r2 : Int) (r3 : Bool) (v1 v2 v3 : Int) (A : Option Addr) (c n : Nat) (xs : List Int) (B : Option Addr) (d m : Nat) (ps zs : List Int) (b : Bool) (w : World) (hxs : RI w 0 A c n xs) (hps : RI w 0 B d m ps) (he : Sw.gatShow ⟨⟨t1, t2, t3⟩, xs⟩ k who ⟨r1, r2, r3⟩ ps = (⟨⟨v1, v2, v3⟩, zs⟩, b)) :
    Calls Try.prog 7 #[.agg #[.int .i64 t1, .int .i64 t2, .int .i64 t3, .slice A n c], .int .i64 k, .int .i64 who, .agg #[.int .i64 r1, .int .i64 r2, .bool r3], .slice B m d] w fun E w' => ∃ A' c' n', E = .returned (.tuple #[.agg #[.int .i64 v1, .int .i64 v2, .int .i64 v3, .slice A' n' c'], .bool b]) ∧ OwI w' w.heap.size A' c' n' zs ∧ Ex w w' := by
  have := sGatShow_c ⟨t1, t2, t3⟩ A c n xs k who ⟨r1, r2, r3⟩ B d m ps w hxs hps
  rw [he] at this
  exact this
theorem swHasG_c (A : Option Addr) (c n : Nat) (xs : List Int) (t : Int) (w : World) (hxs : RI w 0 A c n xs) : Calls Try.prog 11 #[.slice A n c, .int .i64 t] w fun E w' => E = .returned (.bool (decide (t ∈ xs))) ∧ w = w' := by
  have hl := Lib.hid hxs.1
  have hbig := Rs.big hxs
  go_enter Try.func11, Try.ntmps11
  go_wp2
  go_loop [5] (fun i => ∃ k : Nat, k ≤ n ∧ i = .int .i64 k ∧ decide (t ∈ xs) = decide (t ∈ xs.drop k)) (fun i => n - (intOf i).toNat)
  case atStart => exact ⟨0, Nat.zero_le _, rfl, rfl⟩
  case round =>
    obtain ⟨k, hk, rfl, hrel⟩ := hrel
    by_cases hlt : k < n
    · obtain ⟨g, off, y, rfl, hg0, hg, hd, hy, hc⟩ := at_I hxs hlt
      rw [hd] at hrel
      have Hrel := Lib.hid hrel; clear hrel hd hy
      cases hyt : (y == t)
      · go_wp2
        go_round
        case rel => exact ⟨k + 1, by omega, by go_num, by rw [Hrel.out]; have : y ≠ t := by simpa using hyt
                                                          simp [Ne.symm this]⟩
        case measure => simp [intOf]; omega
      · go_wp2
        go_ret
        exact ⟨ret_b (by rw [Hrel.out]; have : y = t := by simpa using hyt
                         simp [this]), rfl⟩
    · have Hrel := Lib.hid hrel; clear hrel
      go_wp2
      go_ret
      refine ⟨ret_b ?_, rfl⟩
      rw [Hrel.out, List.drop_of_length_le (by have := hl.out; omega)]
      simp
theorem fnGatShow_c (A : Option Addr) (c n : Nat) (bs : List Int) (w : World) (hxs : RB w 0 A c n bs) (hq : ∀ x ∈ bs, 0 ≤ x ∧ x ≤ 255) : Calls Try.prog 3 #[.slice A n c] w fun E w' => E = .returned (.bool true) ∧ Ex w w' := by
  have hbig := Rs.big hxs
  by_cases hn : n ≤ 1048576
  case neg =>
    go_enter Try.func3, Try.ntmps3
    go_wp2_with fail
    go_ret
    exact ⟨rfl, ext_⟩
  go_enter Try.func3, Try.ntmps3
  go_wp2_with fail
  apply Calls.mono
  apply drawGatShow_c
  · apply Rs.at0 hxs; (exact kf_)
  · exact hq
  rintro E w1 ⟨t1, t2, t3, B, d, m, xs, t, who, r1, r2, r3, D, e, k, ps, rfl, ⟨hg, hp, ht8⟩, hb⟩
  have hst := xr hb; (try simp only [zA, zC, zD, zN] at hst); obtain ⟨hc, hf, hz⟩ := hst
  clear hxs hq
  obtain ⟨v1, v2, v3, zs, b, he⟩ : ∃ v1 v2 v3 zs b, Sw.gatShow ⟨⟨t1, t2, t3⟩, xs⟩ (t : Int) who ⟨r1, r2, r3⟩ ps = (⟨⟨v1, v2, v3⟩, zs⟩, b) := ⟨_, _, _, _, _, rfl⟩
  have He := Lib.hid he
  clear he
  have hgg : ∀ x : Bool, (x != x) = false := by simp
  go_upto_region 8 with (first | (go_at_call 6; apply Calls.mono; apply (iGatShow_v (he := He.out)); (apply Rs.at0 hg; (exact kf_)); (apply Rs.at0 hp; (exact kf_)); rintro E w2 ⟨A2, c2, n2, rfl, ho2, hb⟩; have hst := xr hb; (try simp only [zA, zC, zD, zN] at hst); obtain ⟨hc, hf, hz⟩ := hst) | (go_at_call 7; apply Calls.mono; apply (sGatShow_v (he := He.out)); (apply Rs.at0 hg; (exact kf_)); (apply Rs.at0 hp; (exact kf_)); rintro E w3 ⟨A3, c3, n3, rfl, ho3, hb⟩; have hst := xr hb; (try simp only [zA, zC, zD, zN] at hst); obtain ⟨hc, hf, hz⟩ := hst) | (go_at_call 8; apply Calls.mono; apply (swGateEq2_c (xs := zs)); (apply Rs.at0 ho2.rs; (exact kf_)); (apply Rs.at0 ho3.rs; (exact kf_)); rintro E w4 ⟨rfl, hb⟩; have hst := xr hb; (try simp only [zA, zC, zD, zN] at hst); obtain ⟨hc, hf, hz⟩ := hst))
  have hl := Lib.hid hg.1
  have hl2 := Lib.hid ho2.1
  cases g1 : Sw.gatOk ⟨⟨t1, t2, t3⟩, xs⟩
  case false =>
    obtain ⟨rfl, rfl, rfl, rfl, rfl⟩ : v1 = 0 ∧ v2 = 0 ∧ v3 = 0 ∧ zs = [] ∧ b = false := by
      have h := He.out
      rw [Sw.gatShow_bad g1] at h
      simp [Sw.gateZ, Sw.headZ] at h
      obtain ⟨⟨⟨h1, h2, h3⟩, h4⟩, h5⟩ := h
      exact ⟨h1.symm, h2.symm, h3.symm, h4, h5⟩
    have G1 := Lib.hid g1
    clear g1
    go_wp2_with (first | (go_at_call 9; apply Calls.mono; apply (sGatOk_c ⟨t1, t2, t3⟩ (xs := xs)); (apply Rs.at0 hg; (exact kf_)); rintro E w6 ⟨rfl, hb⟩; rw [G1.out]; have hst := xr hb; (try simp only [zA, zC, zD, zN] at hst); obtain ⟨hc, hf, hz⟩ := hst) | (go_at_call 8; apply Calls.mono; apply (swGateEq2_c (xs := [])); (apply Rs.at0 ho2.rs; (exact kf_)); (exact ⟨rfl, Rd.none_ _ _ _⟩); rintro E w4 ⟨rfl, hb⟩; have hst := xr hb; (try simp only [zA, zC, zD, zN] at hst); obtain ⟨hc, hf, hz⟩ := hst) | (go_at_call 10; refine (swOk_c _).mono ?_; rintro E w' ⟨rfl, rfl⟩) | fail)
    go_ret
    exact ⟨rfl, ext_⟩
  have G1 := Lib.hid g1
  obtain ⟨may, hmay⟩ : ∃ x, x = Sw.gatMay ⟨⟨t1, t2, t3⟩, xs⟩ (t : Int) who ⟨r1, r2, r3⟩ ps := ⟨_, rfl⟩
  have hmp := Sw.gatMay_parts ⟨⟨t1, t2, t3⟩, xs⟩ (t : Int) who ⟨r1, r2, r3⟩ ps
  rw [← hmay] at hmp
  dsimp only at hmp
  obtain ⟨hs, ehs⟩ : ∃ x, x = decide ((t : Int) ∈ xs) := ⟨_, rfl⟩
  obtain ⟨oc, eoc⟩ : ∃ x, x = Sw.ownCheck t3 (t : Int) ⟨r1, r2, r3⟩ ps := ⟨_, rfl⟩
  rw [← ehs, ← eoc] at hmp
  have EH := Lib.hid ehs
  have EO := Lib.hid eoc
  have HM := Lib.hid hmay
  have HP := Lib.hid hmp
  clear ehs eoc hmay hmp g1
  go_upto_region 10 with (go_at_call 9; apply Calls.mono; apply (sGatOk_c ⟨t1, t2, t3⟩ (xs := xs)); (apply Rs.at0 hg; (exact kf_)); rintro E w6 ⟨rfl, hb⟩; rw [G1.out]; have hst := xr hb; (try simp only [zA, zC, zD, zN] at hst); obtain ⟨hc, hf, hz⟩ := hst)
  go_cut [12] (fun u wx => u = .bool may ∧ Ex w6 wx)
  case first =>
    by_cases c1 : who < 1
    · have m0 : may = false := by rw [HP.out, Sw.inR_no.2 (.inl c1)]; rfl
      have d1 : decide (1 ≤ who) = false := by simp; omega
      subst m0
      go_wp2_with fail
      go_meet
      exact ⟨rfl, ext_⟩
    have d1 : decide (1 ≤ who) = true := by simp; omega
    by_cases c2 : 5 < who
    · have m0 : may = false := by rw [HP.out, Sw.inR_no.2 (.inr c2)]; rfl
      have d2 : decide (who ≤ 5) = false := by simp; omega
      subst m0
      go_wp2_with fail
      go_meet
      exact ⟨rfl, ext_⟩
    have d2 : decide (who ≤ 5) = true := by simp; omega
    have i1 : Sw.inR who 1 5 = true := Sw.inR_iff.2 ⟨by omega, by omega⟩
    by_cases c3 : who = r1
    case neg =>
      have m0 : may = false := by rw [HP.out, i1, decide_eq_false c3]; rfl
      have d3 : (r1 == who) = false := by simp; exact fun h => c3 h.symm
      have M0 := Lib.hid m0
      subst m0
      clear i1 c3
      go_wp2_with fail
      go_meet
      exact ⟨rfl, ext_⟩
    have d3 : (r1 == who) = true := by simp [c3]
    have e1 : may = (!r3 && !hs && oc) := by rw [HP.out, i1, decide_eq_true c3]; simp
    have E1 := Lib.hid e1
    clear i1 c3 e1
    cases r3
    case true =>
      obtain rfl : may = false := by rw [E1.out]; rfl
      go_wp2_with fail
      go_meet
      exact ⟨rfl, ext_⟩
    cases hs
    case true =>
      obtain rfl : may = false := by rw [E1.out]; rfl
      go_wp2_with (go_at_call 11; apply Calls.mono; apply (swHasG_c (xs := xs) (t := (t : Int))); (apply Rs.at0 hg; (exact kf_)); rintro E w7 ⟨rfl, rfl⟩; rw [← EH.out])
      go_meet
      exact ⟨rfl, ext_⟩
    obtain rfl : may = oc := by rw [E1.out]; rfl
    go_wp2_with (first | (go_at_call 11; apply Calls.mono; apply (swHasG_c (xs := xs) (t := (t : Int))); (apply Rs.at0 hg; (exact kf_)); rintro E w7 ⟨rfl, rfl⟩; rw [← EH.out]) | (go_at_call 12; apply Calls.mono; apply (iOwnCheck_c t3 (t : Int) ⟨r1, r2, false⟩ (xs := ps)); (apply Rs.at0 hp; (exact kf_)); rintro E w8 ⟨rfl, hb⟩; rw [← EO.out]; have hst := xr hb; (try simp only [zA, zC, zD, zN] at hst); obtain ⟨hc, hf, hz⟩ := hst))
    go_meet
    exact ⟨rfl, ext_⟩
  case rest =>
    obtain ⟨rfl, hb9⟩ := hcut
    have hst := xr hb9
    (try simp only [zA, zC, zD, zN] at hst)
    obtain ⟨hc9, hf9, hz9⟩ := hst
    have hbc := hb9
    cases may
    · have h := He.out
      rw [Sw.gatShow_no G1.out HM.out.symm] at h
      injection h with h1 h2
      injection h1 with h3 h4
      injection h3 with h5 h6 h7
      subst h2 h4 h5 h6 h7
      go_wp2_with (first | (go_at_call 8; apply Calls.mono; apply (swGateEq2_c (xs := xs)); (apply Rs.at0 ho2.rs; (exact kf_)); (apply Rs.at0 hg; (exact kf_)); rintro E w4 ⟨rfl, hb⟩; have hst := xr hb; (try simp only [zA, zC, zD, zN] at hst); obtain ⟨hc, hf, hz⟩ := hst) | fail)
      go_ret
      exact ⟨rfl, ext_⟩
    · have h := He.out
      rw [Sw.gatShow_yes G1.out HM.out.symm] at h
      injection h with h1 h2
      injection h1 with h3 h4
      injection h3 with h5 h6 h7
      subst h2 h4 h5 h6 h7
      obtain ⟨a1, a2, a3⟩ := Sw.gatShow_again G1.out HM.out.symm
      dsimp only at a1 a2 a3
      have A1 := Lib.hid a1
      have A2' := Lib.hid a2
      have A3' := Lib.hid (show decide ((t : Int) ∈ Sw.insert (t : Int) xs) = true from decide_eq_true a3)
      have ln : n2 = m + 1 := by rw [hl2.out, Sw.insert_len, hl.out]
      subst ln
      have hbg := Rs.big hg
      have l1 : IntKind.i64.wrap ((m : Int) + 1) = (m : Int) + 1 := IntWalk.i64_in _ (by have := Rs.big ho2.rs; omega)
      have l2 : ((m : Int) + 1 == (m : Int) + 1) = true := by simp
      have l3 : (t1 == t1) = true := by simp
      have l4 : (t2 == t2) = true := by simp
      have l5 : (t3 == t3) = true := by simp
      clear a1 a2 a3
      go_wp2_with (first | (go_at_call 6; apply Calls.mono; apply (iGatShow_v (he := A2'.out)); (apply Rs.at0 ho2.rs; (exact kf_)); (apply Rs.at0 hp; (exact kf_)); rintro E w10 ⟨A4, c4, n4, rfl, ho4, hb⟩; have hst := xr hb; (try simp only [zA, zC, zD, zN] at hst); obtain ⟨hc, hf, hz⟩ := hst) | (go_at_call 11; apply Calls.mono; apply (swHasG_c (xs := Sw.insert (t : Int) xs) (t := (t : Int))); (apply Rs.at0 ho2.rs; (exact kf_)); rintro E w11 ⟨rfl, rfl⟩; rw [A3'.out]) | (go_at_call 13; apply Calls.mono; apply (iGatOk_c ⟨t1, t2, t3⟩ (xs := Sw.insert (t : Int) xs)); (apply Rs.at0 ho2.rs; (exact kf_)); rintro E w12 ⟨rfl, hb⟩; rw [A1.out]; have hst := xr hb; (try simp only [zA, zC, zD, zN] at hst); obtain ⟨hc, hf, hz⟩ := hst) | fail)
      go_ret
      exact ⟨rfl, ext_⟩
end Go.Proofs.Ytdbnbembjebfhaa

