/-
  Texts joined: ImpE, Impl5, WldA, ImpF, LawTo, LawTo2, LawTo3.
-/
import Derived.Test.YtgceeggfdomdjaaPkW4
import Derived.Test.YtgceeggfdomdjaaPkW3
namespace Go.Proofs.Ytgceeggfdomdjaa
set_option maxRecDepth 100000
set_option linter.unusedSimpArgs false
set_option linter.unusedVariables false
open Go.RowKit Go
set_option maxHeartbeats 8000000

theorem iMktOk_c (aL : Option Addr) (aLc aLn : Nat) (aP : Option Addr) (aPc aPn : Nat) (aD : Option Addr) (aDc aDn : Nat) (aN : Option Addr) (aNc aNn : Nat) (aS : Option Addr) (aSc aSn : Nat) (m : Sw.Mkt) (w : World) (hm : RM w 0 aL aLc aLn aP aPc aPn aD aDc aDn aN aNc aNn aS aSc aSn m) : Calls Try.prog 46 #[.agg #[.slice aL aLn aLc, .slice aP aPn aPc, .slice aD aDn aDc, .int .i64 m.clock, .slice aN aNn aNc, .slice aS aSn aSc]] w fun E w' => E = .returned (.bool (Sw.mktOk m)) ∧ Ex w w' := by
  obtain ⟨m1, m2, m3, m4, m5⟩ := hm
  have hm' : RM w 0 aL aLc aLn aP aPc aPn aD aDc aDn aN aNc aNn aS aSc aSn m := ⟨m1, m2, m3, m4, m5⟩
  have b3 := Rs.big m3
  have b4 := Rs.big m4
  have b5 := Rs.big m5
  have l3 := Lib.hid m3.1
  have l4 := Lib.hid m4.1
  have l5 := Lib.hid m5.1
  have e := mktOk_parts m
  have He := Lib.hid e; clear e
  cases hfs : (Sw.ownFold m.log).isSome
  case false =>
    go_enter Try.func46, Try.ntmps46
    go_wp2_with (first | (go_at_call 57; apply Calls.mono; apply iOwnFold_c; ((first | (apply Rs.at0; assumption) | (apply Ow.rs0; assumption) | (apply OwT.rs0; assumption)); exact kf_); rintro E w1 ⟨A', c', n', rfl, hr, hb⟩; have hst := xr hb; (try simp only [zA, zC, zD, zN] at hst); obtain ⟨hc, hf, hz⟩ := hst))
    go_ret
    exact ⟨ret_b (by rw [He.out]; simp [mktGate, hfs]), ext_⟩
  cases g1 : Sw.monOk m.purses
  case false =>
    go_enter Try.func46, Try.ntmps46
    go_wp2_with (first | (go_at_call 57; apply Calls.mono; apply iOwnFold_c; ((first | (apply Rs.at0; assumption) | (apply Ow.rs0; assumption) | (apply OwT.rs0; assumption)); exact kf_); rintro E w1 ⟨A', c', n', rfl, hr, hb⟩; have hst := xr hb; (try simp only [zA, zC, zD, zN] at hst); obtain ⟨hc, hf, hz⟩ := hst) | (go_at_call 59; apply Calls.mono; apply iMonOk_c; ((first | (apply Rs.at0; assumption) | (apply Ow.rs0; assumption) | (apply OwT.rs0; assumption)); exact kf_); rintro E w1 ⟨rfl, hb⟩; have hst := xr hb; (try simp only [zA, zC, zD, zN] at hst); obtain ⟨hc, hf, hz⟩ := hst))
    go_ret
    exact ⟨ret_b (by rw [He.out]; simp [mktGate, g1]), ext_⟩
  by_cases g2 : aDn ≤ 8
  case neg =>
    go_enter Try.func46, Try.ntmps46
    go_wp2_with (first | (go_at_call 57; apply Calls.mono; apply iOwnFold_c; ((first | (apply Rs.at0; assumption) | (apply Ow.rs0; assumption) | (apply OwT.rs0; assumption)); exact kf_); rintro E w1 ⟨A', c', n', rfl, hr, hb⟩; have hst := xr hb; (try simp only [zA, zC, zD, zN] at hst); obtain ⟨hc, hf, hz⟩ := hst) | (go_at_call 59; apply Calls.mono; apply iMonOk_c; ((first | (apply Rs.at0; assumption) | (apply Ow.rs0; assumption) | (apply OwT.rs0; assumption)); exact kf_); rintro E w1 ⟨rfl, hb⟩; have hst := xr hb; (try simp only [zA, zC, zD, zN] at hst); obtain ⟨hc, hf, hz⟩ := hst))
    go_ret
    exact ⟨ret_b (by rw [He.out, mktGate, ← l3.out]; simp [g2]), ext_⟩
  cases g3 : Sw.inR m.clock 0 99999
  case false =>
    go_enter Try.func46, Try.ntmps46
    go_wp2_with (first | (go_at_call 57; apply Calls.mono; apply iOwnFold_c; ((first | (apply Rs.at0; assumption) | (apply Ow.rs0; assumption) | (apply OwT.rs0; assumption)); exact kf_); rintro E w1 ⟨A', c', n', rfl, hr, hb⟩; have hst := xr hb; (try simp only [zA, zC, zD, zN] at hst); obtain ⟨hc, hf, hz⟩ := hst) | (go_at_call 59; apply Calls.mono; apply iMonOk_c; ((first | (apply Rs.at0; assumption) | (apply Ow.rs0; assumption) | (apply OwT.rs0; assumption)); exact kf_); rintro E w1 ⟨rfl, hb⟩; have hst := xr hb; (try simp only [zA, zC, zD, zN] at hst); obtain ⟨hc, hf, hz⟩ := hst) | (go_at_call 96; refine (in_c _ _ _ _).mono ?_; rintro E w' ⟨rfl, rfl⟩))
    go_ret
    exact ⟨ret_b (by rw [He.out, mktGate, g3]; simp), ext_⟩
  by_cases g4 : aNn = 5
  case neg =>
    have q4 : ((aNn : Int) != 5) = true := by rw [bne_iff_ne]; omega
    go_enter Try.func46, Try.ntmps46
    go_wp2_with (first | (go_at_call 57; apply Calls.mono; apply iOwnFold_c; ((first | (apply Rs.at0; assumption) | (apply Ow.rs0; assumption) | (apply OwT.rs0; assumption)); exact kf_); rintro E w1 ⟨A', c', n', rfl, hr, hb⟩; have hst := xr hb; (try simp only [zA, zC, zD, zN] at hst); obtain ⟨hc, hf, hz⟩ := hst) | (go_at_call 59; apply Calls.mono; apply iMonOk_c; ((first | (apply Rs.at0; assumption) | (apply Ow.rs0; assumption) | (apply OwT.rs0; assumption)); exact kf_); rintro E w1 ⟨rfl, hb⟩; have hst := xr hb; (try simp only [zA, zC, zD, zN] at hst); obtain ⟨hc, hf, hz⟩ := hst) | (go_at_call 96; refine (in_c _ _ _ _).mono ?_; rintro E w' ⟨rfl, rfl⟩))
    go_ret
    exact ⟨ret_b (by rw [He.out, mktGate, ← l4.out]; simp [g4]), ext_⟩
  subst g4
  by_cases g5 : aSn = 5
  case neg =>
    have q5 : ((aSn : Int) != 5) = true := by rw [bne_iff_ne]; omega
    go_enter Try.func46, Try.ntmps46
    go_wp2_with (first | (go_at_call 57; apply Calls.mono; apply iOwnFold_c; ((first | (apply Rs.at0; assumption) | (apply Ow.rs0; assumption) | (apply OwT.rs0; assumption)); exact kf_); rintro E w1 ⟨A', c', n', rfl, hr, hb⟩; have hst := xr hb; (try simp only [zA, zC, zD, zN] at hst); obtain ⟨hc, hf, hz⟩ := hst) | (go_at_call 59; apply Calls.mono; apply iMonOk_c; ((first | (apply Rs.at0; assumption) | (apply Ow.rs0; assumption) | (apply OwT.rs0; assumption)); exact kf_); rintro E w1 ⟨rfl, hb⟩; have hst := xr hb; (try simp only [zA, zC, zD, zN] at hst); obtain ⟨hc, hf, hz⟩ := hst) | (go_at_call 96; refine (in_c _ _ _ _).mono ?_; rintro E w' ⟨rfl, rfl⟩))
    go_ret
    exact ⟨ret_b (by rw [He.out, mktGate, ← l5.out]; simp [g5]), ext_⟩
  subst g5
  have hgate : mktGate m = true := by simp [mktGate, hfs, g1, g3, ← l3.out, ← l4.out, ← l5.out, g2]
  obtain ⟨rows, hrows⟩ := Option.isSome_iff_exists.1 hfs
  have hro := Sw.ownFold_ok hrows
  have h8 := Sw.ownOk_len hro
  have hg : (Sw.ownFold m.log).getD [] = rows := by rw [hrows]; rfl
  have e2 := He.out
  rw [hgate, Sw.mktRows_of hrows, Bool.true_and] at e2
  have HE := Lib.hid e2
  have HG := Lib.hid hg
  have H8 := Lib.hid h8
  have HR := Lib.hid hrows
  have HO := Lib.hid hro
  obtain ⟨ck0, ck1⟩ := Sw.inR_iff.1 g3
  clear e2 hg h8 He hgate hrows hro
  go_enter Try.func46, Try.ntmps46
  go_wp2_with (first | (go_at_call 57; apply Calls.mono; apply iOwnFold_c; ((first | (apply Rs.at0; assumption) | (apply Ow.rs0; assumption) | (apply OwT.rs0; assumption)); exact kf_); rintro E w1 ⟨A1, c1, n1, rfl, ho1, hb⟩; rw [HG.out] at ho1; have hst := xr hb; (try simp only [zA, zC, zD] at hst); obtain ⟨hc, hf, hz⟩ := hst; obtain rfl : n1 = 8 := by rw [ho1.1, H8.out]) | (go_at_call 59; apply Calls.mono; apply iMonOk_c; ((first | (apply Rs.at0; assumption) | (apply Ow.rs0; assumption) | (apply OwT.rs0; assumption)); exact kf_); rintro E w2 ⟨rfl, hb⟩; have hst := xr hb; (try simp only [zA, zC, zD, zN] at hst); obtain ⟨hc, hf, hz⟩ := hst) | (go_at_call 96; refine (in_c _ _ _ _).mono ?_; rintro E w' ⟨rfl, rfl⟩))
  have hrr := Ow.rs0 ho1 (w := w2) (by (exact kf_))
  go_loopw [50, 63] (fun i s wr => ∃ (k : Nat) (p : Int), k ≤ aDn ∧ i = .int .i64 k ∧ (k = 0 ∧ s = .tuple #[] ∨ k = 1 ∧ s = .bool false ∨ 2 ≤ k ∧ s = .bool true) ∧ Ex w2 wr ∧ LastAt m.deals k p ∧ Sw.dealsOk m.clock rows (-1) m.deals = Sw.dealsOk m.clock rows p (m.deals.drop k)) (fun i _ _ => aDn - (intOf i).toNat)
  case atStart => exact ⟨0, -1, Nat.zero_le _, rfl, .inl ⟨rfl, rfl⟩, Ch.refl _ _, .inl ⟨rfl, rfl⟩, rfl⟩
  case round =>
    obtain ⟨k, p, hk, rfl, hs, hb2, hp, hrel⟩ := hrel
    have hst := xr hb2
    obtain ⟨hc2, hf2, hz2⟩ := hst
    by_cases hlt : k < aDn
    · obtain ⟨g, off, y, rfl, hg0, hg, hd, hy, q0, q1, q2, q3, q4⟩ := at_D m3 hlt
      rw [hd, dealsOk_cons] at hrel
      have Hrel := Lib.hid hrel
      have Hy := Lib.hid hy
      clear hd hy hrel
      rcases hp with ⟨rfl, rfl⟩ | ⟨j, yj, rfl, hj, rfl, hj0⟩
      · rcases hs with ⟨hz, rfl⟩ | ⟨h, _⟩ | ⟨h, _⟩
        case inr.inl => omega
        case inr.inr => omega
        clear hz
        simp only [Nat.zero_mul, Nat.add_zero] at q0 q1 q2 q3 q4
        cases c1 : Sw.dealOk m.clock rows y
        case false =>
          go_wp2_with fail
          (refine wp_name ?_; intro W0 hb0; have hst := xr hb0; (try simp only [zA, zC, zD, zN] at hst); obtain ⟨hc0, hf0, hz0⟩ := hst; refine wp_region_held_drew (S := fun w' => Held W0 w') (by kernel_rfl) ?_ (fun hHeld => ?_); (focus ((try dsimp only); (first | with_reducible assumption | with_reducible exact Held.start _ | with_reducible exact Held.of (by assumption) | with_reducible exact Held.ex (by assumption) (by assumption) | ((repeat (first | with_reducible refine Held.set ?_ (by simp only [zA, zC, zD, zN]; omega) | with_reducible refine Held.alloc ?_ _ | with_reducible refine Held.drew ?_)); (first | with_reducible assumption | with_reducible exact Held.refl _ | with_reducible exact Held.of (by assumption) | with_reducible exact Held.ex (by assumption) (by assumption))) | exact Held.of (by exact ext_)))); refine regT 0 55 (v := ?_) rfl rfl (by kernel_rfl) (by kernel_rfl) (by kernel_rfl) (fun _ _ _ h => h) (by rfl) ?_ (by assumption) ?_; rotate_left; (focus (intro w hSw; (try dsimp only at hSw); go_simp; (try with_reducible rfl))); (try simp only [Act.put, List.setIfInBounds_toArray, List.set_cons_zero, List.set_cons_succ]); refine regT 1 56 (v := ?_) rfl rfl (by kernel_rfl) (by kernel_rfl) (by kernel_rfl) (fun _ _ _ h => h) (by rfl) ?_ (by assumption) ?_; rotate_left; (focus (intro w hSw; (try dsimp only at hSw); go_simp; (try with_reducible rfl))); (try simp only [Act.put, List.setIfInBounds_toArray, List.set_cons_zero, List.set_cons_succ]); refine regT 2 57 (v := ?_) rfl rfl (by kernel_rfl) (by kernel_rfl) (by kernel_rfl) (fun _ _ _ h => h) (by rfl) ?_ (by assumption) ?_; rotate_left; (focus (intro w hSw; (try dsimp only at hSw); go_simp; (try with_reducible rfl))); (try simp only [Act.put, List.setIfInBounds_toArray, List.set_cons_zero, List.set_cons_succ]); refine wpAnyH_ready (rs := [3]) (by kernel_rfl) (by simp) ?_; refine AllReadyH.cons rfl (fun K hK => ?_) ?_; rotate_left; (focus exact AllReadyH.nil); go_simp; (go_at_call 110; apply Calls.mono; apply iDealOk_c; ((first | (apply Rs.at0; assumption) | (apply Ow.rs0; assumption) | (apply OwT.rs0; assumption)); exact kf_); (first | assumption | omega); (first | assumption | omega); rintro E w1 ⟨rfl, hb⟩; have hst := xr hb; (try simp only [zA, zC, zD, zN] at hst); obtain ⟨hc, hf, hz⟩ := hst); (try go_wp2_with fail); refine hK.out _ _ ?_ (fun hHeld => ?_); (focus ((try dsimp only); (first | with_reducible assumption | with_reducible exact Held.start _ | with_reducible exact Held.of (by assumption) | with_reducible exact Held.ex (by assumption) (by assumption) | ((repeat (first | with_reducible refine Held.set ?_ (by simp only [zA, zC, zD, zN]; omega) | with_reducible refine Held.alloc ?_ _ | with_reducible refine Held.drew ?_)); (first | with_reducible assumption | with_reducible exact Held.refl _ | with_reducible exact Held.of (by assumption) | with_reducible exact Held.ex (by assumption) (by assumption))) | exact Held.of (by exact ext_)))); clear hK K; (try simp only [Act.put, List.setIfInBounds_toArray, List.set_cons_zero, List.set_cons_succ]); refine regT 4 59 (v := ?_) rfl rfl (by kernel_rfl) (by kernel_rfl) (by kernel_rfl) (fun _ _ _ h => h) (by rfl) ?_ (by assumption) ?_; rotate_left; (focus (intro w hSw; (try dsimp only at hSw); go_simp; (try with_reducible rfl))); (try simp only [Act.put, List.setIfInBounds_toArray, List.set_cons_zero, List.set_cons_succ]); refine regT 5 60 (v := ?_) rfl rfl (by kernel_rfl) (by kernel_rfl) (by kernel_rfl) (fun _ _ _ h => h) (by rfl) ?_ (by assumption) ?_; rotate_left; (focus (intro w hSw; (try dsimp only at hSw); go_simp; (try with_reducible rfl))); (try simp only [Act.put, List.setIfInBounds_toArray, List.set_cons_zero, List.set_cons_succ]); refine regU 6 61 rfl rfl (by kernel_rfl) (by kernel_rfl) (by kernel_rfl) (fun _ _ _ h => h) (by rfl) (by assumption) ?_; (try simp only [Act.put, List.setIfInBounds_toArray, List.set_cons_zero, List.set_cons_succ]); refine regU 7 62 rfl rfl (by kernel_rfl) (by kernel_rfl) (by kernel_rfl) (fun _ _ _ h => h) (by rfl) (by assumption) ?_; (try simp only [Act.put, List.setIfInBounds_toArray, List.set_cons_zero, List.set_cons_succ]); refine regU 8 63 rfl rfl (by kernel_rfl) (by kernel_rfl) (by kernel_rfl) (fun _ _ _ h => h) (by rfl) (by assumption) ?_; (try simp only [Act.put, List.setIfInBounds_toArray, List.set_cons_zero, List.set_cons_succ]); refine regU 9 64 rfl rfl (by kernel_rfl) (by kernel_rfl) (by kernel_rfl) (fun _ _ _ h => h) (by rfl) (by assumption) ?_; (try simp only [Act.put, List.setIfInBounds_toArray, List.set_cons_zero, List.set_cons_succ]); refine regU 10 65 rfl rfl (by kernel_rfl) (by kernel_rfl) (by kernel_rfl) (fun _ _ _ h => h) (by rfl) (by assumption) ?_; (try simp only [Act.put, List.setIfInBounds_toArray, List.set_cons_zero, List.set_cons_succ]); refine regU 11 66 rfl rfl (by kernel_rfl) (by kernel_rfl) (by kernel_rfl) (fun _ _ _ h => h) (by rfl) (by assumption) ?_; (try simp only [Act.put, List.setIfInBounds_toArray, List.set_cons_zero, List.set_cons_succ]); refine regU 12 67 rfl rfl (by kernel_rfl) (by kernel_rfl) (by kernel_rfl) (fun _ _ _ h => h) (by rfl) (by assumption) ?_; (try simp only [Act.put, List.setIfInBounds_toArray, List.set_cons_zero, List.set_cons_succ]); refine regU 13 68 rfl rfl (by kernel_rfl) (by kernel_rfl) (by kernel_rfl) (fun _ _ _ h => h) (by rfl) (by assumption) ?_; (try simp only [Act.put, List.setIfInBounds_toArray, List.set_cons_zero, List.set_cons_succ]); refine regU 14 69 rfl rfl (by kernel_rfl) (by kernel_rfl) (by kernel_rfl) (fun _ _ _ h => h) (by rfl) (by assumption) ?_; (try simp only [Act.put, List.setIfInBounds_toArray, List.set_cons_zero, List.set_cons_succ]); refine regU 15 70 rfl rfl (by kernel_rfl) (by kernel_rfl) (by kernel_rfl) (fun _ _ _ h => h) (by rfl) (by assumption) ?_; (try simp only [Act.put, List.setIfInBounds_toArray, List.set_cons_zero, List.set_cons_succ]); refine regU 16 71 rfl rfl (by kernel_rfl) (by kernel_rfl) (by kernel_rfl) (fun _ _ _ h => h) (by rfl) (by assumption) ?_; (try simp only [Act.put, List.setIfInBounds_toArray, List.set_cons_zero, List.set_cons_succ]); refine regU 17 72 rfl rfl (by kernel_rfl) (by kernel_rfl) (by kernel_rfl) (fun _ _ _ h => h) (by rfl) (by assumption) ?_; (try simp only [Act.put, List.setIfInBounds_toArray, List.set_cons_zero, List.set_cons_succ]); refine regU 18 73 rfl rfl (by kernel_rfl) (by kernel_rfl) (by kernel_rfl) (fun _ _ _ h => h) (by rfl) (by assumption) ?_; (try simp only [Act.put, List.setIfInBounds_toArray, List.set_cons_zero, List.set_cons_succ]); refine regU 19 74 rfl rfl (by kernel_rfl) (by kernel_rfl) (by kernel_rfl) (fun _ _ _ h => h) (by rfl) (by assumption) ?_; (try simp only [Act.put, List.setIfInBounds_toArray, List.set_cons_zero, List.set_cons_succ]); refine regT 20 75 (v := ?_) rfl rfl (by kernel_rfl) (by kernel_rfl) (by kernel_rfl) (fun _ _ _ h => h) (by rfl) ?_ (by assumption) ?_; rotate_left; (focus (intro w hSw; (try dsimp only at hSw); go_simp; (try with_reducible rfl))); (try simp only [Act.put, List.setIfInBounds_toArray, List.set_cons_zero, List.set_cons_succ]); refine wpAnyH_done (by kernel_rfl) ?_ _; all_goals (have hb := And.right (by assumption : Held W0 _); have hst := xr hb; (try simp only [zA, zC, zD, zN] at hst); obtain ⟨hc, hf, hz⟩ := hst))
          all_goals go_wp2
          go_ret
          exact ⟨ret_b (by rw [HE.out, Hrel.out, c1]; simp), ext_⟩
        case true =>
          have yt0 : 0 ≤ y.ticket := (Sw.dealOk_iff.1 c1).1.1
          have Lst : LastAt m.deals (0 + 1) y.ticket := .inr ⟨0, _, rfl, Hy.out, rfl, yt0⟩
          have Lst := Lib.hid Lst
          have Yt := Lib.hid yt0; clear yt0
          go_wp2_with fail
          (refine wp_name ?_; intro W0 hb0; have hst := xr hb0; (try simp only [zA, zC, zD, zN] at hst); obtain ⟨hc0, hf0, hz0⟩ := hst; refine wp_region_held_drew (S := fun w' => Held W0 w') (by kernel_rfl) ?_ (fun hHeld => ?_); (focus ((try dsimp only); (first | with_reducible assumption | with_reducible exact Held.start _ | with_reducible exact Held.of (by assumption) | with_reducible exact Held.ex (by assumption) (by assumption) | ((repeat (first | with_reducible refine Held.set ?_ (by simp only [zA, zC, zD, zN]; omega) | with_reducible refine Held.alloc ?_ _ | with_reducible refine Held.drew ?_)); (first | with_reducible assumption | with_reducible exact Held.refl _ | with_reducible exact Held.of (by assumption) | with_reducible exact Held.ex (by assumption) (by assumption))) | exact Held.of (by exact ext_)))); refine regT 0 55 (v := ?_) rfl rfl (by kernel_rfl) (by kernel_rfl) (by kernel_rfl) (fun _ _ _ h => h) (by rfl) ?_ (by assumption) ?_; rotate_left; (focus (intro w hSw; (try dsimp only at hSw); go_simp; (try with_reducible rfl))); (try simp only [Act.put, List.setIfInBounds_toArray, List.set_cons_zero, List.set_cons_succ]); refine regT 1 56 (v := ?_) rfl rfl (by kernel_rfl) (by kernel_rfl) (by kernel_rfl) (fun _ _ _ h => h) (by rfl) ?_ (by assumption) ?_; rotate_left; (focus (intro w hSw; (try dsimp only at hSw); go_simp; (try with_reducible rfl))); (try simp only [Act.put, List.setIfInBounds_toArray, List.set_cons_zero, List.set_cons_succ]); refine regT 2 57 (v := ?_) rfl rfl (by kernel_rfl) (by kernel_rfl) (by kernel_rfl) (fun _ _ _ h => h) (by rfl) ?_ (by assumption) ?_; rotate_left; (focus (intro w hSw; (try dsimp only at hSw); go_simp; (try with_reducible rfl))); (try simp only [Act.put, List.setIfInBounds_toArray, List.set_cons_zero, List.set_cons_succ]); refine wpAnyH_ready (rs := [3]) (by kernel_rfl) (by simp) ?_; refine AllReadyH.cons rfl (fun K hK => ?_) ?_; rotate_left; (focus exact AllReadyH.nil); go_simp; (go_at_call 110; apply Calls.mono; apply iDealOk_c; ((first | (apply Rs.at0; assumption) | (apply Ow.rs0; assumption) | (apply OwT.rs0; assumption)); exact kf_); (first | assumption | omega); (first | assumption | omega); rintro E w1 ⟨rfl, hb⟩; have hst := xr hb; (try simp only [zA, zC, zD, zN] at hst); obtain ⟨hc, hf, hz⟩ := hst); (try go_wp2_with fail); refine hK.out _ _ ?_ (fun hHeld => ?_); (focus ((try dsimp only); (first | with_reducible assumption | with_reducible exact Held.start _ | with_reducible exact Held.of (by assumption) | with_reducible exact Held.ex (by assumption) (by assumption) | ((repeat (first | with_reducible refine Held.set ?_ (by simp only [zA, zC, zD, zN]; omega) | with_reducible refine Held.alloc ?_ _ | with_reducible refine Held.drew ?_)); (first | with_reducible assumption | with_reducible exact Held.refl _ | with_reducible exact Held.of (by assumption) | with_reducible exact Held.ex (by assumption) (by assumption))) | exact Held.of (by exact ext_)))); clear hK K; (try simp only [Act.put, List.setIfInBounds_toArray, List.set_cons_zero, List.set_cons_succ]); refine regT 4 59 (v := ?_) rfl rfl (by kernel_rfl) (by kernel_rfl) (by kernel_rfl) (fun _ _ _ h => h) (by rfl) ?_ (by assumption) ?_; rotate_left; (focus (intro w hSw; (try dsimp only at hSw); go_simp; (try with_reducible rfl))); (try simp only [Act.put, List.setIfInBounds_toArray, List.set_cons_zero, List.set_cons_succ]); refine regT 5 60 (v := ?_) rfl rfl (by kernel_rfl) (by kernel_rfl) (by kernel_rfl) (fun _ _ _ h => h) (by rfl) ?_ (by assumption) ?_; rotate_left; (focus (intro w hSw; (try dsimp only at hSw); go_simp; (try with_reducible rfl))); (try simp only [Act.put, List.setIfInBounds_toArray, List.set_cons_zero, List.set_cons_succ]); refine regT 6 61 (v := ?_) rfl rfl (by kernel_rfl) (by kernel_rfl) (by kernel_rfl) (fun _ _ _ h => h) (by rfl) ?_ (by assumption) ?_; rotate_left; (focus (intro w hSw; (try dsimp only at hSw); go_simp; (try with_reducible rfl))); (try simp only [Act.put, List.setIfInBounds_toArray, List.set_cons_zero, List.set_cons_succ]); refine regT 7 62 (v := ?_) rfl rfl (by kernel_rfl) (by kernel_rfl) (by kernel_rfl) (fun _ _ _ h => h) (by rfl) ?_ (by assumption) ?_; rotate_left; (focus (intro w hSw; (try dsimp only at hSw); go_simp; (try with_reducible rfl))); (try simp only [Act.put, List.setIfInBounds_toArray, List.set_cons_zero, List.set_cons_succ]); refine regT 8 63 (v := ?_) rfl rfl (by kernel_rfl) (by kernel_rfl) (by kernel_rfl) (fun _ _ _ h => h) (by rfl) ?_ (by assumption) ?_; rotate_left; (focus (intro w hSw; (try dsimp only at hSw); go_simp; (try with_reducible rfl))); (try simp only [Act.put, List.setIfInBounds_toArray, List.set_cons_zero, List.set_cons_succ]); refine regU 9 64 rfl rfl (by kernel_rfl) (by kernel_rfl) (by kernel_rfl) (fun _ _ _ h => h) (by rfl) (by assumption) ?_; (try simp only [Act.put, List.setIfInBounds_toArray, List.set_cons_zero, List.set_cons_succ]); refine regU 10 65 rfl rfl (by kernel_rfl) (by kernel_rfl) (by kernel_rfl) (fun _ _ _ h => h) (by rfl) (by assumption) ?_; (try simp only [Act.put, List.setIfInBounds_toArray, List.set_cons_zero, List.set_cons_succ]); refine regU 11 66 rfl rfl (by kernel_rfl) (by kernel_rfl) (by kernel_rfl) (fun _ _ _ h => h) (by rfl) (by assumption) ?_; (try simp only [Act.put, List.setIfInBounds_toArray, List.set_cons_zero, List.set_cons_succ]); refine regU 12 67 rfl rfl (by kernel_rfl) (by kernel_rfl) (by kernel_rfl) (fun _ _ _ h => h) (by rfl) (by assumption) ?_; (try simp only [Act.put, List.setIfInBounds_toArray, List.set_cons_zero, List.set_cons_succ]); refine regU 13 68 rfl rfl (by kernel_rfl) (by kernel_rfl) (by kernel_rfl) (fun _ _ _ h => h) (by rfl) (by assumption) ?_; (try simp only [Act.put, List.setIfInBounds_toArray, List.set_cons_zero, List.set_cons_succ]); refine regU 14 69 rfl rfl (by kernel_rfl) (by kernel_rfl) (by kernel_rfl) (fun _ _ _ h => h) (by rfl) (by assumption) ?_; (try simp only [Act.put, List.setIfInBounds_toArray, List.set_cons_zero, List.set_cons_succ]); refine regU 15 70 rfl rfl (by kernel_rfl) (by kernel_rfl) (by kernel_rfl) (fun _ _ _ h => h) (by rfl) (by assumption) ?_; (try simp only [Act.put, List.setIfInBounds_toArray, List.set_cons_zero, List.set_cons_succ]); refine regU 16 71 rfl rfl (by kernel_rfl) (by kernel_rfl) (by kernel_rfl) (fun _ _ _ h => h) (by rfl) (by assumption) ?_; (try simp only [Act.put, List.setIfInBounds_toArray, List.set_cons_zero, List.set_cons_succ]); refine regU 17 72 rfl rfl (by kernel_rfl) (by kernel_rfl) (by kernel_rfl) (fun _ _ _ h => h) (by rfl) (by assumption) ?_; (try simp only [Act.put, List.setIfInBounds_toArray, List.set_cons_zero, List.set_cons_succ]); refine regU 18 73 rfl rfl (by kernel_rfl) (by kernel_rfl) (by kernel_rfl) (fun _ _ _ h => h) (by rfl) (by assumption) ?_; (try simp only [Act.put, List.setIfInBounds_toArray, List.set_cons_zero, List.set_cons_succ]); refine regT 19 74 (v := ?_) rfl rfl (by kernel_rfl) (by kernel_rfl) (by kernel_rfl) (fun _ _ _ h => h) (by rfl) ?_ (by assumption) ?_; rotate_left; (focus (intro w hSw; (try dsimp only at hSw); go_simp; (try with_reducible rfl))); (try simp only [Act.put, List.setIfInBounds_toArray, List.set_cons_zero, List.set_cons_succ]); refine regT 20 75 (v := ?_) rfl rfl (by kernel_rfl) (by kernel_rfl) (by kernel_rfl) (fun _ _ _ h => h) (by rfl) ?_ (by assumption) ?_; rotate_left; (focus (intro w hSw; (try dsimp only at hSw); go_simp; (try with_reducible rfl))); (try simp only [Act.put, List.setIfInBounds_toArray, List.set_cons_zero, List.set_cons_succ]); refine wpAnyH_done (by kernel_rfl) ?_ _; all_goals (have hb := And.right (by assumption : Held W0 _); have hst := xr hb; (try simp only [zA, zC, zD, zN] at hst); obtain ⟨hc, hf, hz⟩ := hst))
          all_goals go_wp2
          go_roundw
          case rel => exact ⟨0 + 1, y.ticket, by omega, by go_num, .inr (.inl ⟨rfl, by first | rfl | simp⟩), ext_, Lst.out, by have := Yt.out; rw [Hrel.out, c1]; simp; omega⟩
          case measure => simp [intOf]; omega
      · obtain ⟨g', off', yj', hA', _, _, _, hyj', p0, _⟩ := at_D m3 (show j < aDn by omega)
        cases hA'
        obtain rfl : yj' = yj := by rw [hj] at hyj'; exact (Option.some.inj hyj').symm
        clear hj hyj'
        have t1 : ((j : Int) + 1).toNat = j + 1 := by omega
        have t2 : IntKind.i64.wrap ((j : Int) + 1 - 1) = j := by rw [IntWalk.i64_in _ (by omega)]; omega
        have t2' : IntKind.i64.wrap (j : Int) = j := IntWalk.i64_in _ (by omega)
        have t3 : (0 : Int) ≤ (j : Int) + 1 := by omega
        have t4 : (j : Int) + 1 < (aDn : Int) := by omega
        have t5 : (j : Int) < (aDn : Int) := by omega
        have t6 : (0 : Int) < (j : Int) + 1 := by omega
        cases c1 : Sw.dealOk m.clock rows y
        case false =>
          rcases hs with ⟨h, _⟩ | ⟨hz, rfl⟩ | ⟨hz, rfl⟩
          case inl => omega
          all_goals
            clear hz
            go_wp2_with fail
            (refine wp_name ?_; intro W0 hb0; have hst := xr hb0; (try simp only [zA, zC, zD, zN] at hst); obtain ⟨hc0, hf0, hz0⟩ := hst; refine wp_region_held_drew (S := fun w' => Held W0 w') (by kernel_rfl) ?_ (fun hHeld => ?_); (focus ((try dsimp only); (first | with_reducible assumption | with_reducible exact Held.start _ | with_reducible exact Held.of (by assumption) | with_reducible exact Held.ex (by assumption) (by assumption) | ((repeat (first | with_reducible refine Held.set ?_ (by simp only [zA, zC, zD, zN]; omega) | with_reducible refine Held.alloc ?_ _ | with_reducible refine Held.drew ?_)); (first | with_reducible assumption | with_reducible exact Held.refl _ | with_reducible exact Held.of (by assumption) | with_reducible exact Held.ex (by assumption) (by assumption))) | exact Held.of (by exact ext_)))); refine regT 0 55 (v := ?_) rfl rfl (by kernel_rfl) (by kernel_rfl) (by kernel_rfl) (fun _ _ _ h => h) (by rfl) ?_ (by assumption) ?_; rotate_left; (focus (intro w hSw; (try dsimp only at hSw); go_simp; (try with_reducible rfl))); (try simp only [Act.put, List.setIfInBounds_toArray, List.set_cons_zero, List.set_cons_succ]); refine regT 1 56 (v := ?_) rfl rfl (by kernel_rfl) (by kernel_rfl) (by kernel_rfl) (fun _ _ _ h => h) (by rfl) ?_ (by assumption) ?_; rotate_left; (focus (intro w hSw; (try dsimp only at hSw); go_simp; (try with_reducible rfl))); (try simp only [Act.put, List.setIfInBounds_toArray, List.set_cons_zero, List.set_cons_succ]); refine regT 2 57 (v := ?_) rfl rfl (by kernel_rfl) (by kernel_rfl) (by kernel_rfl) (fun _ _ _ h => h) (by rfl) ?_ (by assumption) ?_; rotate_left; (focus (intro w hSw; (try dsimp only at hSw); go_simp; (try with_reducible rfl))); (try simp only [Act.put, List.setIfInBounds_toArray, List.set_cons_zero, List.set_cons_succ]); refine wpAnyH_ready (rs := [3]) (by kernel_rfl) (by simp) ?_; refine AllReadyH.cons rfl (fun K hK => ?_) ?_; rotate_left; (focus exact AllReadyH.nil); go_simp; (go_at_call 110; apply Calls.mono; apply iDealOk_c; ((first | (apply Rs.at0; assumption) | (apply Ow.rs0; assumption) | (apply OwT.rs0; assumption)); exact kf_); (first | assumption | omega); (first | assumption | omega); rintro E w1 ⟨rfl, hb⟩; have hst := xr hb; (try simp only [zA, zC, zD, zN] at hst); obtain ⟨hc, hf, hz⟩ := hst); (try go_wp2_with fail); refine hK.out _ _ ?_ (fun hHeld => ?_); (focus ((try dsimp only); (first | with_reducible assumption | with_reducible exact Held.start _ | with_reducible exact Held.of (by assumption) | with_reducible exact Held.ex (by assumption) (by assumption) | ((repeat (first | with_reducible refine Held.set ?_ (by simp only [zA, zC, zD, zN]; omega) | with_reducible refine Held.alloc ?_ _ | with_reducible refine Held.drew ?_)); (first | with_reducible assumption | with_reducible exact Held.refl _ | with_reducible exact Held.of (by assumption) | with_reducible exact Held.ex (by assumption) (by assumption))) | exact Held.of (by exact ext_)))); clear hK K; (try simp only [Act.put, List.setIfInBounds_toArray, List.set_cons_zero, List.set_cons_succ]); refine regT 4 59 (v := ?_) rfl rfl (by kernel_rfl) (by kernel_rfl) (by kernel_rfl) (fun _ _ _ h => h) (by rfl) ?_ (by assumption) ?_; rotate_left; (focus (intro w hSw; (try dsimp only at hSw); go_simp; (try with_reducible rfl))); (try simp only [Act.put, List.setIfInBounds_toArray, List.set_cons_zero, List.set_cons_succ]); refine regT 5 60 (v := ?_) rfl rfl (by kernel_rfl) (by kernel_rfl) (by kernel_rfl) (fun _ _ _ h => h) (by rfl) ?_ (by assumption) ?_; rotate_left; (focus (intro w hSw; (try dsimp only at hSw); go_simp; (try with_reducible rfl))); (try simp only [Act.put, List.setIfInBounds_toArray, List.set_cons_zero, List.set_cons_succ]); refine regU 6 61 rfl rfl (by kernel_rfl) (by kernel_rfl) (by kernel_rfl) (fun _ _ _ h => h) (by rfl) (by assumption) ?_; (try simp only [Act.put, List.setIfInBounds_toArray, List.set_cons_zero, List.set_cons_succ]); refine regU 7 62 rfl rfl (by kernel_rfl) (by kernel_rfl) (by kernel_rfl) (fun _ _ _ h => h) (by rfl) (by assumption) ?_; (try simp only [Act.put, List.setIfInBounds_toArray, List.set_cons_zero, List.set_cons_succ]); refine regU 8 63 rfl rfl (by kernel_rfl) (by kernel_rfl) (by kernel_rfl) (fun _ _ _ h => h) (by rfl) (by assumption) ?_; (try simp only [Act.put, List.setIfInBounds_toArray, List.set_cons_zero, List.set_cons_succ]); refine regU 9 64 rfl rfl (by kernel_rfl) (by kernel_rfl) (by kernel_rfl) (fun _ _ _ h => h) (by rfl) (by assumption) ?_; (try simp only [Act.put, List.setIfInBounds_toArray, List.set_cons_zero, List.set_cons_succ]); refine regU 10 65 rfl rfl (by kernel_rfl) (by kernel_rfl) (by kernel_rfl) (fun _ _ _ h => h) (by rfl) (by assumption) ?_; (try simp only [Act.put, List.setIfInBounds_toArray, List.set_cons_zero, List.set_cons_succ]); refine regU 11 66 rfl rfl (by kernel_rfl) (by kernel_rfl) (by kernel_rfl) (fun _ _ _ h => h) (by rfl) (by assumption) ?_; (try simp only [Act.put, List.setIfInBounds_toArray, List.set_cons_zero, List.set_cons_succ]); refine regU 12 67 rfl rfl (by kernel_rfl) (by kernel_rfl) (by kernel_rfl) (fun _ _ _ h => h) (by rfl) (by assumption) ?_; (try simp only [Act.put, List.setIfInBounds_toArray, List.set_cons_zero, List.set_cons_succ]); refine regU 13 68 rfl rfl (by kernel_rfl) (by kernel_rfl) (by kernel_rfl) (fun _ _ _ h => h) (by rfl) (by assumption) ?_; (try simp only [Act.put, List.setIfInBounds_toArray, List.set_cons_zero, List.set_cons_succ]); refine regU 14 69 rfl rfl (by kernel_rfl) (by kernel_rfl) (by kernel_rfl) (fun _ _ _ h => h) (by rfl) (by assumption) ?_; (try simp only [Act.put, List.setIfInBounds_toArray, List.set_cons_zero, List.set_cons_succ]); refine regU 15 70 rfl rfl (by kernel_rfl) (by kernel_rfl) (by kernel_rfl) (fun _ _ _ h => h) (by rfl) (by assumption) ?_; (try simp only [Act.put, List.setIfInBounds_toArray, List.set_cons_zero, List.set_cons_succ]); refine regU 16 71 rfl rfl (by kernel_rfl) (by kernel_rfl) (by kernel_rfl) (fun _ _ _ h => h) (by rfl) (by assumption) ?_; (try simp only [Act.put, List.setIfInBounds_toArray, List.set_cons_zero, List.set_cons_succ]); refine regU 17 72 rfl rfl (by kernel_rfl) (by kernel_rfl) (by kernel_rfl) (fun _ _ _ h => h) (by rfl) (by assumption) ?_; (try simp only [Act.put, List.setIfInBounds_toArray, List.set_cons_zero, List.set_cons_succ]); refine regU 18 73 rfl rfl (by kernel_rfl) (by kernel_rfl) (by kernel_rfl) (fun _ _ _ h => h) (by rfl) (by assumption) ?_; (try simp only [Act.put, List.setIfInBounds_toArray, List.set_cons_zero, List.set_cons_succ]); refine regU 19 74 rfl rfl (by kernel_rfl) (by kernel_rfl) (by kernel_rfl) (fun _ _ _ h => h) (by rfl) (by assumption) ?_; (try simp only [Act.put, List.setIfInBounds_toArray, List.set_cons_zero, List.set_cons_succ]); refine regT 20 75 (v := ?_) rfl rfl (by kernel_rfl) (by kernel_rfl) (by kernel_rfl) (fun _ _ _ h => h) (by rfl) ?_ (by assumption) ?_; rotate_left; (focus (intro w hSw; (try dsimp only at hSw); go_simp; (try with_reducible rfl))); (try simp only [Act.put, List.setIfInBounds_toArray, List.set_cons_zero, List.set_cons_succ]); refine wpAnyH_done (by kernel_rfl) ?_ _; all_goals (have hb := And.right (by assumption : Held W0 _); have hst := xr hb; (try simp only [zA, zC, zD, zN] at hst); obtain ⟨hc, hf, hz⟩ := hst))
            all_goals go_wp2
            go_ret
            exact ⟨ret_b (by rw [HE.out, Hrel.out, c1]; simp), ext_⟩
        case true =>
          have yt0 : 0 ≤ y.ticket := (Sw.dealOk_iff.1 c1).1.1
          have Lst : LastAt m.deals (j + 1 + 1) y.ticket := .inr ⟨j + 1, _, rfl, Hy.out, rfl, yt0⟩
          have Lst := Lib.hid Lst
          clear yt0 hs
          by_cases hle : y.ticket ≤ yj'.ticket
          · have Hle := Lib.hid hle
            go_wp2_with fail
            (refine wp_name ?_; intro W0 hb0; have hst := xr hb0; (try simp only [zA, zC, zD, zN] at hst); obtain ⟨hc0, hf0, hz0⟩ := hst; refine wp_region_held_drew (S := fun w' => Held W0 w') (by kernel_rfl) ?_ (fun hHeld => ?_); (focus ((try dsimp only); (first | with_reducible assumption | with_reducible exact Held.start _ | with_reducible exact Held.of (by assumption) | with_reducible exact Held.ex (by assumption) (by assumption) | ((repeat (first | with_reducible refine Held.set ?_ (by simp only [zA, zC, zD, zN]; omega) | with_reducible refine Held.alloc ?_ _ | with_reducible refine Held.drew ?_)); (first | with_reducible assumption | with_reducible exact Held.refl _ | with_reducible exact Held.of (by assumption) | with_reducible exact Held.ex (by assumption) (by assumption))) | exact Held.of (by exact ext_)))); refine regT 0 55 (v := ?_) rfl rfl (by kernel_rfl) (by kernel_rfl) (by kernel_rfl) (fun _ _ _ h => h) (by rfl) ?_ (by assumption) ?_; rotate_left; (focus (intro w hSw; (try dsimp only at hSw); go_simp; (try with_reducible rfl))); (try simp only [Act.put, List.setIfInBounds_toArray, List.set_cons_zero, List.set_cons_succ]); refine regT 1 56 (v := ?_) rfl rfl (by kernel_rfl) (by kernel_rfl) (by kernel_rfl) (fun _ _ _ h => h) (by rfl) ?_ (by assumption) ?_; rotate_left; (focus (intro w hSw; (try dsimp only at hSw); go_simp; (try with_reducible rfl))); (try simp only [Act.put, List.setIfInBounds_toArray, List.set_cons_zero, List.set_cons_succ]); refine regT 2 57 (v := ?_) rfl rfl (by kernel_rfl) (by kernel_rfl) (by kernel_rfl) (fun _ _ _ h => h) (by rfl) ?_ (by assumption) ?_; rotate_left; (focus (intro w hSw; (try dsimp only at hSw); go_simp; (try with_reducible rfl))); (try simp only [Act.put, List.setIfInBounds_toArray, List.set_cons_zero, List.set_cons_succ]); refine wpAnyH_ready (rs := [3]) (by kernel_rfl) (by simp) ?_; refine AllReadyH.cons rfl (fun K hK => ?_) ?_; rotate_left; (focus exact AllReadyH.nil); go_simp; (go_at_call 110; apply Calls.mono; apply iDealOk_c; ((first | (apply Rs.at0; assumption) | (apply Ow.rs0; assumption) | (apply OwT.rs0; assumption)); exact kf_); (first | assumption | omega); (first | assumption | omega); rintro E w1 ⟨rfl, hb⟩; have hst := xr hb; (try simp only [zA, zC, zD, zN] at hst); obtain ⟨hc, hf, hz⟩ := hst); (try go_wp2_with fail); refine hK.out _ _ ?_ (fun hHeld => ?_); (focus ((try dsimp only); (first | with_reducible assumption | with_reducible exact Held.start _ | with_reducible exact Held.of (by assumption) | with_reducible exact Held.ex (by assumption) (by assumption) | ((repeat (first | with_reducible refine Held.set ?_ (by simp only [zA, zC, zD, zN]; omega) | with_reducible refine Held.alloc ?_ _ | with_reducible refine Held.drew ?_)); (first | with_reducible assumption | with_reducible exact Held.refl _ | with_reducible exact Held.of (by assumption) | with_reducible exact Held.ex (by assumption) (by assumption))) | exact Held.of (by exact ext_)))); clear hK K; (try simp only [Act.put, List.setIfInBounds_toArray, List.set_cons_zero, List.set_cons_succ]); refine regT 4 59 (v := ?_) rfl rfl (by kernel_rfl) (by kernel_rfl) (by kernel_rfl) (fun _ _ _ h => h) (by rfl) ?_ (by assumption) ?_; rotate_left; (focus (intro w hSw; (try dsimp only at hSw); go_simp; (try with_reducible rfl))); (try simp only [Act.put, List.setIfInBounds_toArray, List.set_cons_zero, List.set_cons_succ]); refine regT 5 60 (v := ?_) rfl rfl (by kernel_rfl) (by kernel_rfl) (by kernel_rfl) (fun _ _ _ h => h) (by rfl) ?_ (by assumption) ?_; rotate_left; (focus (intro w hSw; (try dsimp only at hSw); go_simp; (try with_reducible rfl))); (try simp only [Act.put, List.setIfInBounds_toArray, List.set_cons_zero, List.set_cons_succ]); refine regT 6 61 (v := ?_) rfl rfl (by kernel_rfl) (by kernel_rfl) (by kernel_rfl) (fun _ _ _ h => h) (by rfl) ?_ (by assumption) ?_; rotate_left; (focus (intro w hSw; (try dsimp only at hSw); go_simp; (try with_reducible rfl))); (try simp only [Act.put, List.setIfInBounds_toArray, List.set_cons_zero, List.set_cons_succ]); refine regT 7 62 (v := ?_) rfl rfl (by kernel_rfl) (by kernel_rfl) (by kernel_rfl) (fun _ _ _ h => h) (by rfl) ?_ (by assumption) ?_; rotate_left; (focus (intro w hSw; (try dsimp only at hSw); go_simp; (try with_reducible rfl))); (try simp only [Act.put, List.setIfInBounds_toArray, List.set_cons_zero, List.set_cons_succ]); refine regT 8 63 (v := ?_) rfl rfl (by kernel_rfl) (by kernel_rfl) (by kernel_rfl) (fun _ _ _ h => h) (by rfl) ?_ (by assumption) ?_; rotate_left; (focus (intro w hSw; (try dsimp only at hSw); go_simp; (try with_reducible rfl))); (try simp only [Act.put, List.setIfInBounds_toArray, List.set_cons_zero, List.set_cons_succ]); refine regT 9 64 (v := ?_) rfl rfl (by kernel_rfl) (by kernel_rfl) (by kernel_rfl) (fun _ _ _ h => h) (by rfl) ?_ (by assumption) ?_; rotate_left; (focus (intro w hSw; (try dsimp only at hSw); go_simp; (try with_reducible rfl))); (try simp only [Act.put, List.setIfInBounds_toArray, List.set_cons_zero, List.set_cons_succ]); refine regT 10 65 (v := ?_) rfl rfl (by kernel_rfl) (by kernel_rfl) (by kernel_rfl) (fun _ _ _ h => h) (by rfl) ?_ (by assumption) ?_; rotate_left; (focus (intro w hSw; (try dsimp only at hSw); go_simp; (try with_reducible rfl))); (try simp only [Act.put, List.setIfInBounds_toArray, List.set_cons_zero, List.set_cons_succ]); refine regT 11 66 (v := ?_) rfl rfl (by kernel_rfl) (by kernel_rfl) (by kernel_rfl) (fun _ _ _ h => h) (by rfl) ?_ (by assumption) ?_; rotate_left; (focus (intro w hSw; (try dsimp only at hSw); go_simp; (try with_reducible rfl))); (try simp only [Act.put, List.setIfInBounds_toArray, List.set_cons_zero, List.set_cons_succ]); refine regT 12 67 (v := ?_) rfl rfl (by kernel_rfl) (by kernel_rfl) (by kernel_rfl) (fun _ _ _ h => h) (by rfl) ?_ (by assumption) ?_; rotate_left; (focus (intro w hSw; (try dsimp only at hSw); go_simp; (try with_reducible rfl))); (try simp only [Act.put, List.setIfInBounds_toArray, List.set_cons_zero, List.set_cons_succ]); refine regT 13 68 (v := ?_) rfl rfl (by kernel_rfl) (by kernel_rfl) (by kernel_rfl) (fun _ _ _ h => h) (by rfl) ?_ (by assumption) ?_; rotate_left; (focus (intro w hSw; (try dsimp only at hSw); go_simp; (try with_reducible rfl))); (try simp only [Act.put, List.setIfInBounds_toArray, List.set_cons_zero, List.set_cons_succ]); refine regT 14 69 (v := ?_) rfl rfl (by kernel_rfl) (by kernel_rfl) (by kernel_rfl) (fun _ _ _ h => h) (by rfl) ?_ (by assumption) ?_; rotate_left; (focus (intro w hSw; (try dsimp only at hSw); go_simp; (try with_reducible rfl))); (try simp only [Act.put, List.setIfInBounds_toArray, List.set_cons_zero, List.set_cons_succ]); refine regT 15 70 (v := ?_) rfl rfl (by kernel_rfl) (by kernel_rfl) (by kernel_rfl) (fun _ _ _ h => h) (by rfl) ?_ (by assumption) ?_; rotate_left; (focus (intro w hSw; (try dsimp only at hSw); go_simp; (try with_reducible rfl))); (try simp only [Act.put, List.setIfInBounds_toArray, List.set_cons_zero, List.set_cons_succ]); refine regT 16 71 (v := ?_) rfl rfl (by kernel_rfl) (by kernel_rfl) (by kernel_rfl) (fun _ _ _ h => h) (by rfl) ?_ (by assumption) ?_; rotate_left; (focus (intro w hSw; (try dsimp only at hSw); go_simp; (try with_reducible rfl))); (try simp only [Act.put, List.setIfInBounds_toArray, List.set_cons_zero, List.set_cons_succ]); refine regT 17 72 (v := ?_) rfl rfl (by kernel_rfl) (by kernel_rfl) (by kernel_rfl) (fun _ _ _ h => h) (by rfl) ?_ (by assumption) ?_; rotate_left; (focus (intro w hSw; (try dsimp only at hSw); go_simp; (try with_reducible rfl))); (try simp only [Act.put, List.setIfInBounds_toArray, List.set_cons_zero, List.set_cons_succ]); refine regT 18 73 (v := ?_) rfl rfl (by kernel_rfl) (by kernel_rfl) (by kernel_rfl) (fun _ _ _ h => h) (by rfl) ?_ (by assumption) ?_; rotate_left; (focus (intro w hSw; (try dsimp only at hSw); go_simp; (try with_reducible rfl))); (try simp only [Act.put, List.setIfInBounds_toArray, List.set_cons_zero, List.set_cons_succ]); refine regT 19 74 (v := ?_) rfl rfl (by kernel_rfl) (by kernel_rfl) (by kernel_rfl) (fun _ _ _ h => h) (by rfl) ?_ (by assumption) ?_; rotate_left; (focus (intro w hSw; (try dsimp only at hSw); go_simp; (try with_reducible rfl))); (try simp only [Act.put, List.setIfInBounds_toArray, List.set_cons_zero, List.set_cons_succ]); refine regT 20 75 (v := ?_) rfl rfl (by kernel_rfl) (by kernel_rfl) (by kernel_rfl) (fun _ _ _ h => h) (by rfl) ?_ (by assumption) ?_; rotate_left; (focus (intro w hSw; (try dsimp only at hSw); go_simp; (try with_reducible rfl))); (try simp only [Act.put, List.setIfInBounds_toArray, List.set_cons_zero, List.set_cons_succ]); refine wpAnyH_done (by kernel_rfl) ?_ _; all_goals (have hb := And.right (by assumption : Held W0 _); have hst := xr hb; (try simp only [zA, zC, zD, zN] at hst); obtain ⟨hc, hf, hz⟩ := hst))
            all_goals go_wp2
            go_ret
            exact ⟨ret_b (by have := Hle.out; rw [HE.out, Hrel.out, show decide (yj'.ticket < y.ticket) = false from by simp; omega]; simp), ext_⟩
          · have hle' : decide (y.ticket ≤ yj'.ticket) = false := by simp; omega
            have Hle := Lib.hid hle
            go_wp2_with fail
            (refine wp_name ?_; intro W0 hb0; have hst := xr hb0; (try simp only [zA, zC, zD, zN] at hst); obtain ⟨hc0, hf0, hz0⟩ := hst; refine wp_region_held_drew (S := fun w' => Held W0 w') (by kernel_rfl) ?_ (fun hHeld => ?_); (focus ((try dsimp only); (first | with_reducible assumption | with_reducible exact Held.start _ | with_reducible exact Held.of (by assumption) | with_reducible exact Held.ex (by assumption) (by assumption) | ((repeat (first | with_reducible refine Held.set ?_ (by simp only [zA, zC, zD, zN]; omega) | with_reducible refine Held.alloc ?_ _ | with_reducible refine Held.drew ?_)); (first | with_reducible assumption | with_reducible exact Held.refl _ | with_reducible exact Held.of (by assumption) | with_reducible exact Held.ex (by assumption) (by assumption))) | exact Held.of (by exact ext_)))); refine regT 0 55 (v := ?_) rfl rfl (by kernel_rfl) (by kernel_rfl) (by kernel_rfl) (fun _ _ _ h => h) (by rfl) ?_ (by assumption) ?_; rotate_left; (focus (intro w hSw; (try dsimp only at hSw); go_simp; (try with_reducible rfl))); (try simp only [Act.put, List.setIfInBounds_toArray, List.set_cons_zero, List.set_cons_succ]); refine regT 1 56 (v := ?_) rfl rfl (by kernel_rfl) (by kernel_rfl) (by kernel_rfl) (fun _ _ _ h => h) (by rfl) ?_ (by assumption) ?_; rotate_left; (focus (intro w hSw; (try dsimp only at hSw); go_simp; (try with_reducible rfl))); (try simp only [Act.put, List.setIfInBounds_toArray, List.set_cons_zero, List.set_cons_succ]); refine regT 2 57 (v := ?_) rfl rfl (by kernel_rfl) (by kernel_rfl) (by kernel_rfl) (fun _ _ _ h => h) (by rfl) ?_ (by assumption) ?_; rotate_left; (focus (intro w hSw; (try dsimp only at hSw); go_simp; (try with_reducible rfl))); (try simp only [Act.put, List.setIfInBounds_toArray, List.set_cons_zero, List.set_cons_succ]); refine wpAnyH_ready (rs := [3]) (by kernel_rfl) (by simp) ?_; refine AllReadyH.cons rfl (fun K hK => ?_) ?_; rotate_left; (focus exact AllReadyH.nil); go_simp; (go_at_call 110; apply Calls.mono; apply iDealOk_c; ((first | (apply Rs.at0; assumption) | (apply Ow.rs0; assumption) | (apply OwT.rs0; assumption)); exact kf_); (first | assumption | omega); (first | assumption | omega); rintro E w1 ⟨rfl, hb⟩; have hst := xr hb; (try simp only [zA, zC, zD, zN] at hst); obtain ⟨hc, hf, hz⟩ := hst); (try go_wp2_with fail); refine hK.out _ _ ?_ (fun hHeld => ?_); (focus ((try dsimp only); (first | with_reducible assumption | with_reducible exact Held.start _ | with_reducible exact Held.of (by assumption) | with_reducible exact Held.ex (by assumption) (by assumption) | ((repeat (first | with_reducible refine Held.set ?_ (by simp only [zA, zC, zD, zN]; omega) | with_reducible refine Held.alloc ?_ _ | with_reducible refine Held.drew ?_)); (first | with_reducible assumption | with_reducible exact Held.refl _ | with_reducible exact Held.of (by assumption) | with_reducible exact Held.ex (by assumption) (by assumption))) | exact Held.of (by exact ext_)))); clear hK K; (try simp only [Act.put, List.setIfInBounds_toArray, List.set_cons_zero, List.set_cons_succ]); refine regT 4 59 (v := ?_) rfl rfl (by kernel_rfl) (by kernel_rfl) (by kernel_rfl) (fun _ _ _ h => h) (by rfl) ?_ (by assumption) ?_; rotate_left; (focus (intro w hSw; (try dsimp only at hSw); go_simp; (try with_reducible rfl))); (try simp only [Act.put, List.setIfInBounds_toArray, List.set_cons_zero, List.set_cons_succ]); refine regT 5 60 (v := ?_) rfl rfl (by kernel_rfl) (by kernel_rfl) (by kernel_rfl) (fun _ _ _ h => h) (by rfl) ?_ (by assumption) ?_; rotate_left; (focus (intro w hSw; (try dsimp only at hSw); go_simp; (try with_reducible rfl))); (try simp only [Act.put, List.setIfInBounds_toArray, List.set_cons_zero, List.set_cons_succ]); refine regT 6 61 (v := ?_) rfl rfl (by kernel_rfl) (by kernel_rfl) (by kernel_rfl) (fun _ _ _ h => h) (by rfl) ?_ (by assumption) ?_; rotate_left; (focus (intro w hSw; (try dsimp only at hSw); go_simp; (try with_reducible rfl))); (try simp only [Act.put, List.setIfInBounds_toArray, List.set_cons_zero, List.set_cons_succ]); refine regT 7 62 (v := ?_) rfl rfl (by kernel_rfl) (by kernel_rfl) (by kernel_rfl) (fun _ _ _ h => h) (by rfl) ?_ (by assumption) ?_; rotate_left; (focus (intro w hSw; (try dsimp only at hSw); go_simp; (try with_reducible rfl))); (try simp only [Act.put, List.setIfInBounds_toArray, List.set_cons_zero, List.set_cons_succ]); refine regT 8 63 (v := ?_) rfl rfl (by kernel_rfl) (by kernel_rfl) (by kernel_rfl) (fun _ _ _ h => h) (by rfl) ?_ (by assumption) ?_; rotate_left; (focus (intro w hSw; (try dsimp only at hSw); go_simp; (try with_reducible rfl))); (try simp only [Act.put, List.setIfInBounds_toArray, List.set_cons_zero, List.set_cons_succ]); refine regT 9 64 (v := ?_) rfl rfl (by kernel_rfl) (by kernel_rfl) (by kernel_rfl) (fun _ _ _ h => h) (by rfl) ?_ (by assumption) ?_; rotate_left; (focus (intro w hSw; (try dsimp only at hSw); go_simp; (try with_reducible rfl))); (try simp only [Act.put, List.setIfInBounds_toArray, List.set_cons_zero, List.set_cons_succ]); refine regT 10 65 (v := ?_) rfl rfl (by kernel_rfl) (by kernel_rfl) (by kernel_rfl) (fun _ _ _ h => h) (by rfl) ?_ (by assumption) ?_; rotate_left; (focus (intro w hSw; (try dsimp only at hSw); go_simp; (try with_reducible rfl))); (try simp only [Act.put, List.setIfInBounds_toArray, List.set_cons_zero, List.set_cons_succ]); refine regT 11 66 (v := ?_) rfl rfl (by kernel_rfl) (by kernel_rfl) (by kernel_rfl) (fun _ _ _ h => h) (by rfl) ?_ (by assumption) ?_; rotate_left; (focus (intro w hSw; (try dsimp only at hSw); go_simp; (try with_reducible rfl))); (try simp only [Act.put, List.setIfInBounds_toArray, List.set_cons_zero, List.set_cons_succ]); refine regT 12 67 (v := ?_) rfl rfl (by kernel_rfl) (by kernel_rfl) (by kernel_rfl) (fun _ _ _ h => h) (by rfl) ?_ (by assumption) ?_; rotate_left; (focus (intro w hSw; (try dsimp only at hSw); go_simp; (try with_reducible rfl))); (try simp only [Act.put, List.setIfInBounds_toArray, List.set_cons_zero, List.set_cons_succ]); refine regT 13 68 (v := ?_) rfl rfl (by kernel_rfl) (by kernel_rfl) (by kernel_rfl) (fun _ _ _ h => h) (by rfl) ?_ (by assumption) ?_; rotate_left; (focus (intro w hSw; (try dsimp only at hSw); go_simp; (try with_reducible rfl))); (try simp only [Act.put, List.setIfInBounds_toArray, List.set_cons_zero, List.set_cons_succ]); refine regT 14 69 (v := ?_) rfl rfl (by kernel_rfl) (by kernel_rfl) (by kernel_rfl) (fun _ _ _ h => h) (by rfl) ?_ (by assumption) ?_; rotate_left; (focus (intro w hSw; (try dsimp only at hSw); go_simp; (try with_reducible rfl))); (try simp only [Act.put, List.setIfInBounds_toArray, List.set_cons_zero, List.set_cons_succ]); refine regT 15 70 (v := ?_) rfl rfl (by kernel_rfl) (by kernel_rfl) (by kernel_rfl) (fun _ _ _ h => h) (by rfl) ?_ (by assumption) ?_; rotate_left; (focus (intro w hSw; (try dsimp only at hSw); go_simp; (try with_reducible rfl))); (try simp only [Act.put, List.setIfInBounds_toArray, List.set_cons_zero, List.set_cons_succ]); refine regT 16 71 (v := ?_) rfl rfl (by kernel_rfl) (by kernel_rfl) (by kernel_rfl) (fun _ _ _ h => h) (by rfl) ?_ (by assumption) ?_; rotate_left; (focus (intro w hSw; (try dsimp only at hSw); go_simp; (try with_reducible rfl))); (try simp only [Act.put, List.setIfInBounds_toArray, List.set_cons_zero, List.set_cons_succ]); refine regT 17 72 (v := ?_) rfl rfl (by kernel_rfl) (by kernel_rfl) (by kernel_rfl) (fun _ _ _ h => h) (by rfl) ?_ (by assumption) ?_; rotate_left; (focus (intro w hSw; (try dsimp only at hSw); go_simp; (try with_reducible rfl))); (try simp only [Act.put, List.setIfInBounds_toArray, List.set_cons_zero, List.set_cons_succ]); refine regT 18 73 (v := ?_) rfl rfl (by kernel_rfl) (by kernel_rfl) (by kernel_rfl) (fun _ _ _ h => h) (by rfl) ?_ (by assumption) ?_; rotate_left; (focus (intro w hSw; (try dsimp only at hSw); go_simp; (try with_reducible rfl))); (try simp only [Act.put, List.setIfInBounds_toArray, List.set_cons_zero, List.set_cons_succ]); refine regT 19 74 (v := ?_) rfl rfl (by kernel_rfl) (by kernel_rfl) (by kernel_rfl) (fun _ _ _ h => h) (by rfl) ?_ (by assumption) ?_; rotate_left; (focus (intro w hSw; (try dsimp only at hSw); go_simp; (try with_reducible rfl))); (try simp only [Act.put, List.setIfInBounds_toArray, List.set_cons_zero, List.set_cons_succ]); refine regT 20 75 (v := ?_) rfl rfl (by kernel_rfl) (by kernel_rfl) (by kernel_rfl) (fun _ _ _ h => h) (by rfl) ?_ (by assumption) ?_; rotate_left; (focus (intro w hSw; (try dsimp only at hSw); go_simp; (try with_reducible rfl))); (try simp only [Act.put, List.setIfInBounds_toArray, List.set_cons_zero, List.set_cons_succ]); refine wpAnyH_done (by kernel_rfl) ?_ _; all_goals (have hb := And.right (by assumption : Held W0 _); have hst := xr hb; (try simp only [zA, zC, zD, zN] at hst); obtain ⟨hc, hf, hz⟩ := hst))
            all_goals go_wp2
            go_roundw
            case rel => exact ⟨j + 1 + 1, y.ticket, by omega, by go_num, .inr (.inr ⟨by omega, by first | rfl | (simp; done) | (simp; omega)⟩), ext_, Lst.out, by have := Hle.out; rw [Hrel.out, c1]; simp; omega⟩
            case measure => simp [intOf]; omega
    · rw [List.drop_of_length_le (by have := l3.out; omega)] at hrel
      have hdk : Sw.DOk m.clock rows m.deals := Sw.dealsOk_iff'.1 hrel
      have hS := Sw.monSum_bd g1
      have hH := Sw.heldSum_bd hdk.1
      rw [← Sw.heldOf_eq hdk (by have := l3.out; omega), ← l3.out] at hH
      have hsum : IntKind.i64.wrap (Sw.monSum m.purses + Sw.mktHeld m) = Sw.monSum m.purses + Sw.mktHeld m := by
        rw [IntWalk.i64_in _ (by unfold Sw.mktHeld; omega)]
      have Hsum := Lib.hid hsum
      have Hrel := Lib.hid hrel; clear hrel hp hdk hS hH hsum
      go_wp2_with fail
      go_loopw [80] (fun i wx => ∃ (k : Nat), k ≤ 5 ∧ i = .int .i64 k ∧ Ex w2 wx ∧ Sw.numsOk m.nums m.said = Sw.numsOk (m.nums.drop k) (m.said.drop k)) (fun i _ => 5 - (intOf i).toNat)
      case atStart => exact ⟨0, Nat.zero_le _, rfl, ext_, rfl⟩
      case round =>
        obtain ⟨k', hk', rfl, hb3, hrel⟩ := hrel
        have hst := xr hb3
        obtain ⟨hc3, hf3, hz3⟩ := hst
        by_cases hlt' : k' < 5
        · obtain ⟨gn, offn, a, rfl, hgn0, hgn, hdn, hyn, hcn⟩ := at_I m4 hlt'
          obtain ⟨gs, offs, b, rfl, hgs0, hgs, hds, hys, hcs⟩ := at_I m5 hlt'
          rw [numsOk_at hdn hds] at hrel
          have HN := Lib.hid hrel
          clear hdn hyn hds hys hrel
          cases c1 : Sw.inR a 0 99999
          case false =>
            go_wp2_with (first | (go_at_call 96; refine (in_c _ _ _ _).mono ?_; rintro E w' ⟨rfl, rfl⟩))
            go_ret
            exact ⟨ret_b (by rw [HE.out, HN.out, Sw.numOk, c1]; simp), ext_⟩
          cases c2 : Sw.inR b 0 6
          case false =>
            go_wp2_with (first | (go_at_call 96; refine (in_c _ _ _ _).mono ?_; rintro E w' ⟨rfl, rfl⟩))
            go_ret
            exact ⟨ret_b (by rw [HE.out, HN.out, Sw.numOk, c2]; simp), ext_⟩
          cases c3 : (a == 0)
          all_goals cases c4 : (b == 0)
          all_goals
            go_wp2_with (first | (go_at_call 96; refine (in_c _ _ _ _).mono ?_; rintro E w' ⟨rfl, rfl⟩))
            first
              | exact ⟨⟨k' + 1, by omega, by go_num, ext_, by rw [HN.out, Sw.numOk, c1, c2, ← beqI, ← beqI, c3, c4]; simp⟩, by simp [intOf]; omega⟩ | (go_ret; exact ⟨ret_b (by rw [HE.out, HN.out, Sw.numOk, ← beqI, ← beqI, c3, c4]; simp), ext_⟩)
        · have HN := Lib.hid hrel; clear hrel
          go_wp2_with fail
          (refine wp_name ?_; intro W0 hb0; have hst := xr hb0; (try simp only [zA, zC, zD, zN] at hst); obtain ⟨hc0, hf0, hz0⟩ := hst; go_region_held3 (fun w' => Held W0 w') ((first | with_reducible assumption | with_reducible exact Held.start _ | with_reducible exact Held.of (by assumption) | with_reducible exact Held.ex (by assumption) (by assumption) | ((repeat (first | with_reducible refine Held.set ?_ (by simp only [zA, zC, zD, zN]; omega) | with_reducible refine Held.alloc ?_ _ | with_reducible refine Held.drew ?_)); (first | with_reducible assumption | with_reducible exact Held.refl _ | with_reducible exact Held.of (by assumption) | with_reducible exact Held.ex (by assumption) (by assumption))) | exact Held.of (by exact ext_))) ((first | (go_at_call 40; apply Calls.mono; apply iMonSum_c; ((first | (apply Rs.at0; assumption) | (apply Ow.rs0; assumption) | (apply OwT.rs0; assumption)); exact kf_); rintro E w' ⟨rfl, rfl⟩) | (go_at_call 44; apply Calls.mono; apply iMktHeld_c; ((first | (apply RM.at0; assumption) | (apply OwM.rm0; assumption)); exact kf_); rintro E w1 ⟨rfl, hb⟩; have hst := xr hb; (try simp only [zA, zC, zD, zN] at hst); obtain ⟨hc, hf, hz⟩ := hst))); all_goals (have hb := And.right (by assumption : Held W0 _); have hst := xr hb; (try simp only [zA, zC, zD, zN] at hst); obtain ⟨hc, hf, hz⟩ := hst))
          go_wp2
          go_ret
          refine ⟨ret_b ?_, ext_⟩
          rw [HE.out, HN.out, Hrel.out, List.drop_of_length_le (by have := l4.out; omega), Hsum.out]
          simp [Sw.dealsOk, Sw.numsOk]
end Go.Proofs.Ytgceeggfdomdjaa

namespace Go.Proofs.Ytgceeggfdomdjaa
set_option maxRecDepth 100000
set_option linter.unusedSimpArgs false
set_option linter.unusedVariables false
open Go.RowKit Go
set_option maxHeartbeats 400000

theorem iGatOk_c (t : Sw.Head) (A : Option Addr) (c n : Nat) (xs : List Int) (w : World) (hxs : RI w 0 A c n xs) : Calls Try.prog 19 #[.agg #[.int .i64 t.size, .int .i64 t.log, .int .i64 t.own, .slice A n c]] w fun E w' => E = .returned (.bool (Sw.gatOk ⟨t, xs⟩)) ∧ Ex w w' := by
  have hl := Lib.hid hxs.1
  have hcap := hxs.2.le
  have hbig : n ≤ 9223372036854775807 := by have := hxs.2.cap; unfold maxLen at this; omega
  have e : Sw.gatOk ⟨t, xs⟩ = (Sw.hedOk t && Sw.risesFrom (-1) xs) := rfl
  rw [e]; clear e
  go_enter Try.func19, Try.ntmps19
  go_wp2_with fail
  go_loopw [8] (fun i wr => ∃ (k : Nat) (p : Int), k ≤ n ∧ i = .int .i64 k ∧ Ex (w.alloc (.cells #[.int .i64 t.size, .int .i64 t.log, .int .i64 t.own, .slice A n c] 27)) wr ∧ (k = 0 ∧ p = -1 ∨ ∃ j, k = j + 1 ∧ xs[j]? = some p ∧ 0 ≤ p) ∧ Sw.risesFrom (-1) xs = Sw.risesFrom p (xs.drop k)) (fun i _ => n - (intOf i).toNat)
  case atStart => exact ⟨0, -1, Nat.zero_le _, rfl, Ch.refl _ _, .inl ⟨rfl, rfl⟩, rfl⟩
  case round =>
    obtain ⟨k, p, hk, rfl, hb2, hp, hrel⟩ := hrel
    have hst := Ex.rules hb2 rfl
    simp only [World.size_alloc] at hst
    obtain ⟨hc2, hf2, hz2⟩ := hst
    by_cases hlt : k < n
    · obtain ⟨g, off, y, rfl, hg0, hg, hd, hy, hcy⟩ := at_I hxs hlt
      rw [hd, Sw.risesFrom] at hrel
      have Hrel := Lib.hid hrel
      have Hy := Lib.hid hy
      clear hd hy hrel
      cases hin : Sw.inR y 0 7
      case false =>
        go_wp2_with (first | (go_at_call 75; refine (isTicket_c _ _).mono ?_; rintro E w' ⟨rfl, rfl⟩))
        go_ret
        exact ⟨ret_b (by rw [Hrel.out, hin]; simp), ext_⟩
      have hy7 : 0 ≤ y ∧ y ≤ 7 := by simpa [Sw.inR] using hin
      obtain ⟨y0, y7⟩ := hy7
      rcases hp with ⟨rfl, rfl⟩ | ⟨j, rfl, hj, hj0⟩
      · simp only [Nat.add_zero] at hcy
        go_wp2_with (first | (go_at_call 75; refine (isTicket_c _ _).mono ?_; rintro E w' ⟨rfl, rfl⟩))
        go_roundw
        case rel => exact ⟨0 + 1, y, by omega, by go_num, ext_, .inr ⟨0, rfl, Hy.out, y0⟩, by rw [Hrel.out, hin]; simp; omega⟩
        case measure => simp [intOf]; omega
      · obtain ⟨g', off', p', hA', _, _, _, hp', hcp⟩ := at_I hxs (show j < n by omega)
        cases hA'
        obtain rfl : p' = p := by rw [hj] at hp'; exact (Option.some.inj hp').symm
        clear hj hp'
        have t1 : ((j : Int) + 1).toNat = j + 1 := by omega
        have t2 : IntKind.i64.wrap ((j : Int) + 1 - 1) = j := by rw [IntWalk.i64_in _ (by omega)]; omega
        have t3 : (0 : Int) ≤ (j : Int) + 1 := by omega
        have t4 : (j : Int) + 1 < (n : Int) := by omega
        have t5 : (j : Int) < (n : Int) := by omega
        have t6 : (0 : Int) < (j : Int) + 1 := by omega
        by_cases hpy : p' < y
        · have hpy' : decide (y ≤ p') = false := by simp; omega
          go_wp2_with (first | (go_at_call 75; refine (isTicket_c _ _).mono ?_; rintro E w' ⟨rfl, rfl⟩))
          go_roundw
          case rel => exact ⟨j + 1 + 1, y, by omega, by go_num, ext_, .inr ⟨j + 1, rfl, Hy.out, y0⟩, by rw [Hrel.out, hin]; simp [hpy]⟩
          case measure => simp [intOf]; omega
        · have hpy' : y ≤ p' := by omega
          go_wp2_with (first | (go_at_call 75; refine (isTicket_c _ _).mono ?_; rintro E w' ⟨rfl, rfl⟩))
          go_ret
          have hlt' : decide (p' < y) = false := by rw [decide_eq_false_iff_not]; omega
          exact ⟨ret_b (by rw [Hrel.out, hin, hlt']; simp), ext_⟩
    · have Hrel := Lib.hid hrel; clear hrel hp
      go_wp2_with (first | (go_at_call 76; refine (iHedOk_c _ _).mono ?_; rintro E w1 ⟨rfl, hb⟩; have hst := xr hb; (try simp only [zA, zC, zD, zN] at hst); obtain ⟨hc, hf, hz⟩ := hst))
      go_ret
      refine ⟨ret_b ?_, ext_⟩
      have hh := Hrel.out
      rw [List.drop_of_length_le (by have := hl.out; omega)] at hh
      rw [hh]; simp [Sw.risesFrom]

theorem iClone_c (t : Sw.Head) (A : Option Addr) (c n : Nat) (xs : List Int) (w : World) (hxs : RI w 0 A c n xs) (hn : n ≤ 4194304) : Calls Try.prog 72 #[.agg #[.int .i64 t.size, .int .i64 t.log, .int .i64 t.own, .slice A n c]] w fun E w' => ∃ A' c', E = .returned (.agg #[.int .i64 t.size, .int .i64 t.log, .int .i64 t.own, .slice A' n c']) ∧ OwI w' w.heap.size A' c' n xs ∧ Ex w w' := by
  go_enter Try.func72, Try.ntmps72
  go_wp2_with fail
  (refine wp_name ?_; intro W0 hb0; have hst := xr hb0; (try simp only [zA, zC, zD, zN] at hst); obtain ⟨hc0, hf0, hz0⟩ := hst; have hLb : Lb W0 (w.heap.size + 1) 4 := Lb.ex (by exact lbc_) hb0; go_region_held3 (fun w' => HeldB (w.heap.size + 1) 4 W0 w') ((first | with_reducible assumption | with_reducible exact HeldB.start hLb | with_reducible exact HeldB.of (by assumption) (by assumption) | ((repeat (first | with_reducible refine HeldB.set ?_ (by first | exact Or.inl rfl | exact Or.inr (by simp only [zA, zC, zD, zN]; omega) | exact Or.inr (by omega)) | with_reducible refine HeldB.alloc ?_ _ | with_reducible refine HeldB.drew ?_)); (first | with_reducible assumption | with_reducible exact HeldB.refl hLb | with_reducible exact HeldB.of (by assumption) (by assumption) | with_reducible exact HeldB.ex (by assumption) (by assumption))))) ((go_at_call 86; apply Calls.mono; apply iCloneInts_c; ((first | (apply Rs.at0; assumption) | (apply Ow.rs0; assumption)); exact kf_); (first | assumption | omega); rintro E w1 ⟨A', c', rfl, ho1, hb⟩; have hst := xr hb; (try simp only [zA, zC, zD, zN] at hst); obtain ⟨hc, hf, hz⟩ := hst)); all_goals (rename HeldB (w.heap.size + 1) 4 W0 _ => hHx; have hb := HeldB.ch hHx; have hst := xc hb; (try simp only [zA, zC, zD, zN] at hst); obtain ⟨hc, hf, hz⟩ := hst; have hLb3 := HeldB.lb hHx; (repeat (first | with_reducible replace hLb3 := Lb.unset hLb3 | with_reducible replace hLb3 := Lb.undrew hLb3)); obtain ⟨hcb, hfb⟩ := Lb.rules hLb3; clear hHx))
  go_wp2
  refine bodyPost_ret (v := .agg #[.int .i64 t.size, .int .i64 t.log, .int .i64 t.own, .slice A' n c']) (by simp [results, Try.results72, go_sem, *]) rfl ?_
  exact ⟨A', c', rfl, (ho1.keep (by (exact kf_))).less (by exact sz_), ext_⟩

theorem iGatSync_c (t u : Sw.Head) (A : Option Addr) (c n : Nat) (xs : List Int) (B : Option Addr) (d m : Nat) (ps : List Int) (w : World) (hxs : RI w 0 A c n xs) (hps : RI w 0 B d m ps) : Calls Try.prog 16 #[.agg #[.int .i64 t.size, .int .i64 t.log, .int .i64 t.own, .slice A n c], .agg #[.int .i64 u.size, .int .i64 u.log, .int .i64 u.own], .slice B m d] w fun E w' => ∃ A' c' n', E = .returned (.tuple #[.agg #[.int .i64 (Sw.gatSync ⟨t, xs⟩ u ps).1.head.size, .int .i64 (Sw.gatSync ⟨t, xs⟩ u ps).1.head.log, .int .i64 (Sw.gatSync ⟨t, xs⟩ u ps).1.head.own, .slice A' n' c'], .bool (Sw.gatSync ⟨t, xs⟩ u ps).2]) ∧ OwI w' w.heap.size A' c' n' (Sw.gatSync ⟨t, xs⟩ u ps).1.done ∧ Ex w w' := by
  have hl := Lib.hid hxs.1
  cases g1 : Sw.gatOk ⟨t, xs⟩
  case false =>
    have e : Sw.gatSync ⟨t, xs⟩ u ps = (Sw.gateZ, false) := by simp [Sw.gatSync, g1]
    have He := Lib.hid e; clear e
    go_enter Try.func16, Try.ntmps16
    go_wp2_with (first | (go_at_call 19; apply Calls.mono; apply iGatOk_c; ((first | (apply Rs.at0; assumption) | (apply Ow.rs0; assumption)); exact kf_); rintro E w1 ⟨rfl, hb⟩; have hst := xr hb; (try simp only [zA, zC, zD, zN] at hst); obtain ⟨hc, hf, hz⟩ := hst))
    refine bodyPost_ret (v := .tuple #[.agg #[.int .i64 0, .int .i64 0, .int .i64 0, .slice none 0 0], .bool false]) (by simp [results, Try.results16, go_sem, *]) rfl ?_
    exact ⟨none, 0, 0, by rw [He.out]; rfl, by rw [He.out]; exact Ow.nil _ _, ext_⟩
  have h8 : n ≤ 8 := by have := gatOk_len g1; have := hl.out; simp at *; omega
  cases g2 : Sw.hedFollows t u ps
  case false =>
    have e : Sw.gatSync ⟨t, xs⟩ u ps = (⟨t, xs⟩, false) := by simp [Sw.gatSync, g1, g2]
    have He := Lib.hid e; clear e
    go_enter Try.func16, Try.ntmps16
    go_wp2_with (first | (go_at_call 19; apply Calls.mono; apply iGatOk_c; ((first | (apply Rs.at0; assumption) | (apply Ow.rs0; assumption)); exact kf_); rintro E w1 ⟨rfl, hb⟩; have hst := xr hb; (try simp only [zA, zC, zD, zN] at hst); obtain ⟨hc, hf, hz⟩ := hst) | (go_at_call 72; apply Calls.mono; apply iClone_c; ((first | (apply Rs.at0; assumption) | (apply Ow.rs0; assumption)); exact kf_); (first | assumption | omega); rintro E w1 ⟨A', c', rfl, hr, hb⟩; have hst := xr hb; (try simp only [zA, zC, zD, zN] at hst); obtain ⟨hc, hf, hz⟩ := hst) | (go_at_call 22; apply Calls.mono; apply iHedFollows_c; ((first | (apply Rs.at0; assumption) | (apply Ow.rs0; assumption)); exact kf_); rintro E w1 ⟨rfl, hb⟩; have hst := xr hb; (try simp only [zA, zC, zD, zN] at hst); obtain ⟨hc, hf, hz⟩ := hst))
    refine bodyPost_ret (v := .tuple #[.agg #[.int .i64 t.size, .int .i64 t.log, .int .i64 t.own, .slice A' n c'], .bool false]) (by simp [results, Try.results16, go_sem, *]) rfl ?_
    exact ⟨A', c', n, by rw [He.out], by rw [He.out]; exact (hr.keep (by (exact kf_))).less (by exact sz_), ext_⟩
  have e : Sw.gatSync ⟨t, xs⟩ u ps = (⟨u, xs⟩, true) := by simp [Sw.gatSync, g1, g2]
  have He := Lib.hid e; clear e
  go_enter Try.func16, Try.ntmps16
  go_wp2_with (first | (go_at_call 19; apply Calls.mono; apply iGatOk_c; ((first | (apply Rs.at0; assumption) | (apply Ow.rs0; assumption)); exact kf_); rintro E w1 ⟨rfl, hb⟩; have hst := xr hb; (try simp only [zA, zC, zD, zN] at hst); obtain ⟨hc, hf, hz⟩ := hst) | (go_at_call 72; apply Calls.mono; apply iClone_c; ((first | (apply Rs.at0; assumption) | (apply Ow.rs0; assumption)); exact kf_); (first | assumption | omega); rintro E w1 ⟨A', c', rfl, hr, hb⟩; have hst := xr hb; (try simp only [zA, zC, zD, zN] at hst); obtain ⟨hc, hf, hz⟩ := hst) | (go_at_call 22; apply Calls.mono; apply iHedFollows_c; ((first | (apply Rs.at0; assumption) | (apply Ow.rs0; assumption)); exact kf_); rintro E w1 ⟨rfl, hb⟩; have hst := xr hb; (try simp only [zA, zC, zD, zN] at hst); obtain ⟨hc, hf, hz⟩ := hst))
  refine bodyPost_ret (v := .tuple #[.agg #[.int .i64 u.size, .int .i64 u.log, .int .i64 u.own, .slice A' n c'], .bool true]) (by simp [results, Try.results16, go_sem, *]) rfl ?_
  exact ⟨A', c', n, by rw [He.out], by rw [He.out]; exact (hr.keep (by (exact kf_))).less (by exact sz_), ext_⟩
end Go.Proofs.Ytgceeggfdomdjaa

namespace Go.Proofs.Ytgceeggfdomdjaa
set_option maxRecDepth 100000
set_option linter.unusedSimpArgs false
set_option linter.unusedVariables false
open Go.RowKit Go

def lineBad (r : Sw.Req) : Bool := !Sw.lineOk r
def gateBad (g : Sw.Gate) : Bool := !Sw.gatOk g
def msgBad (x : Sw.Msg) : Bool := !Sw.msgOk x
theorem req_zero {r : Sw.Req} : decide (r = Sw.reqZ) = (decide (r.user = 0) && (decide (r.n = 0) && (decide (r.kind = 0) && (decide (r.ticket = 0) && (decide (r.who = 0) && decide (r.price = 0)))))) := by
  rw [Bool.eq_iff_iff]; cases r; simp [Sw.reqZ]
/-- A world's parts, as they are asked. -/
def wldGate (x : Sw.World) : Bool := Sw.mktOk x.market && Sw.monOk x.first && decide (x.lines.length ≤ 300) && decide (x.gates.length = 2) && decide (x.bag.length ≤ 6)
theorem wldOk_parts (x : Sw.World) : Sw.wldOk x = (wldGate x && (x.lines.all Sw.lineOk && (x.gates.all Sw.gatOk && x.bag.all Sw.msgOk))) := by
  simp [Sw.wldOk, wldGate, Bool.and_assoc]
end Go.Proofs.Ytgceeggfdomdjaa

namespace Go.Proofs.Ytgceeggfdomdjaa
set_option maxRecDepth 100000
set_option linter.unusedSimpArgs false
set_option linter.unusedVariables false
open Go.RowKit Go
set_option maxHeartbeats 4000000

theorem iReqOkA_c (a b c d e f : Int) (w : World) : Calls Try.prog 91 #[.agg #[.int .i64 a, .int .i64 b, .int .i64 c, .int .i64 d, .int .i64 e, .int .i64 f]] w fun E w' => E = .returned (.bool (Sw.reqOk ⟨a, b, c, d, e, f⟩)) ∧ Ex w w' :=
  iReqOk_c ⟨a, b, c, d, e, f⟩ w
theorem iLineBad_c (r : Sw.Req) (w : World) : Calls Try.prog 90 #[.agg #[.int .i64 r.user, .int .i64 r.n, .int .i64 r.kind, .int .i64 r.ticket, .int .i64 r.who, .int .i64 r.price]] w fun E w' => E = .returned (.bool (lineBad r)) ∧ Ex w w' := by
  obtain ⟨f1, f2, f3, f4, f5, f6⟩ := r
  dsimp only
  by_cases z1 : f1 = 0
  · subst z1
    by_cases z2 : f2 = 0
    · subst z2
      by_cases z3 : f3 = 0
      · subst z3
        by_cases z4 : f4 = 0
        · subst z4
          by_cases z5 : f5 = 0
          · subst z5
            by_cases z6 : f6 = 0
            · subst z6
              go_enter Try.func90, Try.ntmps90
              go_wp2_with (first | (go_at_call 91; refine (iReqOkA_c _ _ _ _ _ _ _).mono ?_; rintro E w1 ⟨rfl, hb⟩; have hst := xr hb; (try simp only [zA, zC, zD, zN] at hst); obtain ⟨hc, hf, hz⟩ := hst))
              go_ret
              exact ⟨ret_b (by simp [lineBad, Sw.lineOk, Sw.reqZ]), ext_⟩
            · cases c1 : Sw.reqOk ⟨0, 0, 0, 0, 0, f6⟩
              all_goals
                go_enter Try.func90, Try.ntmps90
                go_wp2_with (first | (go_at_call 91; refine (iReqOkA_c _ _ _ _ _ _ _).mono ?_; rintro E w1 ⟨rfl, hb⟩; have hst := xr hb; (try simp only [zA, zC, zD, zN] at hst); obtain ⟨hc, hf, hz⟩ := hst))
                go_ret
                exact ⟨ret_b (by simp [lineBad, Sw.lineOk, Sw.reqZ, c1, z6]), ext_⟩
          · cases c1 : Sw.reqOk ⟨0, 0, 0, 0, f5, f6⟩
            all_goals
              go_enter Try.func90, Try.ntmps90
              go_wp2_with (first | (go_at_call 91; refine (iReqOkA_c _ _ _ _ _ _ _).mono ?_; rintro E w1 ⟨rfl, hb⟩; have hst := xr hb; (try simp only [zA, zC, zD, zN] at hst); obtain ⟨hc, hf, hz⟩ := hst))
              go_ret
              exact ⟨ret_b (by simp [lineBad, Sw.lineOk, Sw.reqZ, c1, z5]), ext_⟩
        · cases c1 : Sw.reqOk ⟨0, 0, 0, f4, f5, f6⟩
          all_goals
            go_enter Try.func90, Try.ntmps90
            go_wp2_with (first | (go_at_call 91; refine (iReqOkA_c _ _ _ _ _ _ _).mono ?_; rintro E w1 ⟨rfl, hb⟩; have hst := xr hb; (try simp only [zA, zC, zD, zN] at hst); obtain ⟨hc, hf, hz⟩ := hst))
            go_ret
            exact ⟨ret_b (by simp [lineBad, Sw.lineOk, Sw.reqZ, c1, z4]), ext_⟩
      · cases c1 : Sw.reqOk ⟨0, 0, f3, f4, f5, f6⟩
        all_goals
          go_enter Try.func90, Try.ntmps90
          go_wp2_with (first | (go_at_call 91; refine (iReqOkA_c _ _ _ _ _ _ _).mono ?_; rintro E w1 ⟨rfl, hb⟩; have hst := xr hb; (try simp only [zA, zC, zD, zN] at hst); obtain ⟨hc, hf, hz⟩ := hst))
          go_ret
          exact ⟨ret_b (by simp [lineBad, Sw.lineOk, Sw.reqZ, c1, z3]), ext_⟩
    · cases c1 : Sw.reqOk ⟨0, f2, f3, f4, f5, f6⟩
      all_goals
        go_enter Try.func90, Try.ntmps90
        go_wp2_with (first | (go_at_call 91; refine (iReqOkA_c _ _ _ _ _ _ _).mono ?_; rintro E w1 ⟨rfl, hb⟩; have hst := xr hb; (try simp only [zA, zC, zD, zN] at hst); obtain ⟨hc, hf, hz⟩ := hst))
        go_ret
        exact ⟨ret_b (by simp [lineBad, Sw.lineOk, Sw.reqZ, c1, z2]), ext_⟩
  · cases c1 : Sw.reqOk ⟨f1, f2, f3, f4, f5, f6⟩
    all_goals
      go_enter Try.func90, Try.ntmps90
      go_wp2_with (first | (go_at_call 91; refine (iReqOkA_c _ _ _ _ _ _ _).mono ?_; rintro E w1 ⟨rfl, hb⟩; have hst := xr hb; (try simp only [zA, zC, zD, zN] at hst); obtain ⟨hc, hf, hz⟩ := hst))
      go_ret
      exact ⟨ret_b (by simp [lineBad, Sw.lineOk, Sw.reqZ, c1, z1]), ext_⟩
theorem iGateBad_c (A : Option Addr) (c n : Nat) (y : Sw.Gate) (w : World) (hxs : RI w 0 A c n y.done) : Calls Try.prog 93 #[.agg #[.int .i64 y.head.size, .int .i64 y.head.log, .int .i64 y.head.own, .slice A n c]] w fun E w' => E = .returned (.bool (gateBad y)) ∧ Ex w w' := by
  go_enter Try.func93, Try.ntmps93
  go_wp2_with (first | (go_at_call 19; apply Calls.mono; apply iGatOk_c; ((first | (apply Rs.at0; assumption) | (apply Ow.rs0; assumption) | (apply OwT.rs0; assumption)); exact kf_); rintro E w1 ⟨rfl, hb⟩; have hst := xr hb; (try simp only [zA, zC, zD, zN] at hst); obtain ⟨hc, hf, hz⟩ := hst))
  all_goals (go_ret; exact ⟨rfl, ext_⟩)
theorem iMsgBad_c (A : Option Addr) (c n : Nat) (y : Sw.Msg) (w : World) (hxs : RI w 0 A c n y.proof) : Calls Try.prog 95 #[.agg #[.int .i64 y.gate, .int .i64 y.head.size, .int .i64 y.head.log, .int .i64 y.head.own, .slice A n c]] w fun E w' => E = .returned (.bool (msgBad y)) ∧ Ex w w' := by
  go_enter Try.func95, Try.ntmps95
  go_wp2_with (first | (go_at_call 96; refine (in_c _ _ _ _).mono ?_; rintro E w' ⟨rfl, rfl⟩) | (go_at_call 76; refine (iHedOk_c _ _).mono ?_; rintro E w1 ⟨rfl, hb⟩; have hst := xr hb; (try simp only [zA, zC, zD, zN] at hst); obtain ⟨hc, hf, hz⟩ := hst) | (go_at_call 97; apply Calls.mono; apply iTreOk_c; ((first | (apply Rs.at0; assumption) | (apply Ow.rs0; assumption) | (apply OwT.rs0; assumption)); exact kf_); rintro E w' ⟨rfl, rfl⟩))
  all_goals (go_ret; refine ⟨ret_b ?_, ext_⟩; go_tidy; first | (simp [msgBad, Sw.msgOk, *]; done) | (simp_all [msgBad, Sw.msgOk]; done))

theorem iLineBadAt_c (A : Option Addr) (c n : Nat) (xs : List Sw.Req) (w : World) (hxs : RQ w 0 A c n xs) : Calls Try.prog 149 #[.slice A n c, .func (.func 90) #[] #[]] w fun E w' => E = .returned (.int .i64 (hitAt lineBad xs)) ∧ Ex w w' := by

  have hl := Lib.hid hxs.1
  have hbig := Rs.big hxs
  go_enter Try.func149, Try.ntmps149
  go_wp2_with fail
  go_loopw [8] (fun i wr => ∃ k : Nat, k ≤ n ∧ i = .int .i64 k ∧ Ex w wr ∧ ∀ j, j < k → ∀ z, xs[j]? = some z → lineBad z = false) (fun i _ => n - (intOf i).toNat)
  case atStart => exact ⟨0, Nat.zero_le _, rfl, (by exact ext_), by omega⟩
  case round =>
    obtain ⟨k, hk, rfl, hb2, hrel⟩ := hrel
    have Hrel := Lib.hid hrel; clear hrel
    have hst := xr hb2
    (try simp only [zA, zC, zD, zN] at hst)
    obtain ⟨hc2, hf2, hz2⟩ := hst
    by_cases hlt : k < n
    · obtain ⟨g, off, y, rfl, hg0, hg, hd, hy, hca0, hca1, hca2, hca3, hca4, hca5⟩ := at_Q hxs hlt
      have Hy := Lib.hid hy; clear hd hy
      cases hmx : lineBad y
      case true =>
        go_wp2_with (first | (go_at_call 90; refine (iLineBad_c _ _).mono ?_; rintro E w1 ⟨rfl, hb⟩; have hst := xr hb; (try simp only [zA, zC, zD, zN] at hst); obtain ⟨hc, hf, hz⟩ := hst))
        go_ret
        exact ⟨ret_i (hitAt_here Hy.out Hrel.out hmx).symm, (by exact ext_)⟩
      case false =>
        go_wp2_with (first | (go_at_call 90; refine (iLineBad_c _ _).mono ?_; rintro E w1 ⟨rfl, hb⟩; have hst := xr hb; (try simp only [zA, zC, zD, zN] at hst); obtain ⟨hc, hf, hz⟩ := hst))
        go_roundw
        case rel => exact ⟨k + 1, by omega, by go_num, (by exact ext_), notHit_step Hy.out Hrel.out hmx⟩
        case measure => simp [intOf]; omega
    · go_wp2_with fail
      go_ret
      exact ⟨ret_i (hitAt_none (by have := hl.out; omega) Hrel.out).symm, (by exact ext_)⟩

theorem iGateBadAt_c (A : Option Addr) (c n : Nat) (xs : List Sw.Gate) (w : World) (hxs : RG w 0 A c n xs) : Calls Try.prog 151 #[.slice A n c, .func (.func 93) #[] #[]] w fun E w' => E = .returned (.int .i64 (hitAt gateBad xs)) ∧ Ex w w' := by

  have hl := Lib.hid hxs.len.1
  have hbig := hxs.len.2
  go_enter Try.func151, Try.ntmps151
  go_wp2_with fail
  go_loopw [8] (fun i wr => ∃ k : Nat, k ≤ n ∧ i = .int .i64 k ∧ Ex w wr ∧ ∀ j, j < k → ∀ z, xs[j]? = some z → gateBad z = false) (fun i _ => n - (intOf i).toNat)
  case atStart => exact ⟨0, Nat.zero_le _, rfl, (by exact ext_), by omega⟩
  case round =>
    obtain ⟨k, hk, rfl, hb2, hrel⟩ := hrel
    have Hrel := Lib.hid hrel; clear hrel
    have hst := xr hb2
    (try simp only [zA, zC, zD, zN] at hst)
    obtain ⟨hc2, hf2, hz2⟩ := hst
    by_cases hlt : k < n
    · obtain ⟨g, off, y, B, d, m, rfl, hg0, hg, hd, hy, hca0, hca1, hca2, hca3, hr⟩ := at_G hxs hlt
      have Hy := Lib.hid hy; clear hd hy
      cases hmx : gateBad y
      case true =>
        go_wp2_with (first | (go_at_call 93; apply Calls.mono; apply iGateBad_c; ((first | (apply Rs.at0; assumption) | (apply Ow.rs0; assumption) | (apply OwT.rs0; assumption)); exact kf_); rintro E w1 ⟨rfl, hb⟩; have hst := xr hb; (try simp only [zA, zC, zD, zN] at hst); obtain ⟨hc, hf, hz⟩ := hst))
        go_ret
        exact ⟨ret_i (hitAt_here Hy.out Hrel.out hmx).symm, (by exact ext_)⟩
      case false =>
        go_wp2_with (first | (go_at_call 93; apply Calls.mono; apply iGateBad_c; ((first | (apply Rs.at0; assumption) | (apply Ow.rs0; assumption) | (apply OwT.rs0; assumption)); exact kf_); rintro E w1 ⟨rfl, hb⟩; have hst := xr hb; (try simp only [zA, zC, zD, zN] at hst); obtain ⟨hc, hf, hz⟩ := hst))
        go_roundw
        case rel => exact ⟨k + 1, by omega, by go_num, (by exact ext_), notHit_step Hy.out Hrel.out hmx⟩
        case measure => simp [intOf]; omega
    · go_wp2_with fail
      go_ret
      exact ⟨ret_i (hitAt_none (by have := hl.out; omega) Hrel.out).symm, (by exact ext_)⟩

theorem iMsgBadAt_c (A : Option Addr) (c n : Nat) (xs : List Sw.Msg) (w : World) (hxs : RX w 0 A c n xs) : Calls Try.prog 152 #[.slice A n c, .func (.func 95) #[] #[]] w fun E w' => E = .returned (.int .i64 (hitAt msgBad xs)) ∧ Ex w w' := by

  have hl := Lib.hid hxs.len.1
  have hbig := hxs.len.2
  go_enter Try.func152, Try.ntmps152
  go_wp2_with fail
  go_loopw [8] (fun i wr => ∃ k : Nat, k ≤ n ∧ i = .int .i64 k ∧ Ex w wr ∧ ∀ j, j < k → ∀ z, xs[j]? = some z → msgBad z = false) (fun i _ => n - (intOf i).toNat)
  case atStart => exact ⟨0, Nat.zero_le _, rfl, (by exact ext_), by omega⟩
  case round =>
    obtain ⟨k, hk, rfl, hb2, hrel⟩ := hrel
    have Hrel := Lib.hid hrel; clear hrel
    have hst := xr hb2
    (try simp only [zA, zC, zD, zN] at hst)
    obtain ⟨hc2, hf2, hz2⟩ := hst
    by_cases hlt : k < n
    · obtain ⟨g, off, y, B, d, m, rfl, hg0, hg, hd, hy, hca0, hca1, hca2, hca3, hca4, hr⟩ := at_X hxs hlt
      have Hy := Lib.hid hy; clear hd hy
      cases hmx : msgBad y
      case true =>
        go_wp2_with (first | (go_at_call 95; apply Calls.mono; apply iMsgBad_c; ((first | (apply Rs.at0; assumption) | (apply Ow.rs0; assumption) | (apply OwT.rs0; assumption)); exact kf_); rintro E w1 ⟨rfl, hb⟩; have hst := xr hb; (try simp only [zA, zC, zD, zN] at hst); obtain ⟨hc, hf, hz⟩ := hst))
        go_ret
        exact ⟨ret_i (hitAt_here Hy.out Hrel.out hmx).symm, (by exact ext_)⟩
      case false =>
        go_wp2_with (first | (go_at_call 95; apply Calls.mono; apply iMsgBad_c; ((first | (apply Rs.at0; assumption) | (apply Ow.rs0; assumption) | (apply OwT.rs0; assumption)); exact kf_); rintro E w1 ⟨rfl, hb⟩; have hst := xr hb; (try simp only [zA, zC, zD, zN] at hst); obtain ⟨hc, hf, hz⟩ := hst))
        go_roundw
        case rel => exact ⟨k + 1, by omega, by go_num, (by exact ext_), notHit_step Hy.out Hrel.out hmx⟩
        case measure => simp [intOf]; omega
    · go_wp2_with fail
      go_ret
      exact ⟨ret_i (hitAt_none (by have := hl.out; omega) Hrel.out).symm, (by exact ext_)⟩

theorem iLineHas_c (A : Option Addr) (c n : Nat) (xs : List Sw.Req) (w : World) (hxs : RQ w 0 A c n xs) : Calls Try.prog 89 #[.slice A n c, .func (.func 90) #[] #[]] w fun E w' => E = .returned (.bool (xs.any lineBad)) ∧ Ex w w' := by
  have Hb := Lib.hid (hitAt_iff lineBad xs)
  go_enter Try.func89, Try.ntmps89
  go_wp2_with (first | (go_at_call 149; apply Calls.mono; apply iLineBadAt_c; ((first | (apply Rs.at0; assumption) | (apply Ow.rs0; assumption) | (apply OwT.rs0; assumption)); exact kf_); rintro E w1 ⟨rfl, hb⟩; have hst := xr hb; (try simp only [zA, zC, zD, zN] at hst); obtain ⟨hc, hf, hz⟩ := hst))
  go_ret
  exact ⟨ret_b Hb.out, ext_⟩
theorem iGateHas_c (A : Option Addr) (c n : Nat) (xs : List Sw.Gate) (w : World) (hxs : RG w 0 A c n xs) : Calls Try.prog 92 #[.slice A n c, .func (.func 93) #[] #[]] w fun E w' => E = .returned (.bool (xs.any gateBad)) ∧ Ex w w' := by
  have Hb := Lib.hid (hitAt_iff gateBad xs)
  go_enter Try.func92, Try.ntmps92
  go_wp2_with (first | (go_at_call 151; apply Calls.mono; apply iGateBadAt_c; ((first | (apply RG.at0; assumption) | (apply OwG.rg0; assumption)); exact kf_); rintro E w1 ⟨rfl, hb⟩; have hst := xr hb; (try simp only [zA, zC, zD, zN] at hst); obtain ⟨hc, hf, hz⟩ := hst))
  go_ret
  exact ⟨ret_b Hb.out, ext_⟩
theorem iMsgHas_c (A : Option Addr) (c n : Nat) (xs : List Sw.Msg) (w : World) (hxs : RX w 0 A c n xs) : Calls Try.prog 94 #[.slice A n c, .func (.func 95) #[] #[]] w fun E w' => E = .returned (.bool (xs.any msgBad)) ∧ Ex w w' := by
  have Hb := Lib.hid (hitAt_iff msgBad xs)
  go_enter Try.func94, Try.ntmps94
  go_wp2_with (first | (go_at_call 152; apply Calls.mono; apply iMsgBadAt_c; ((first | (apply RX.at0; assumption) | (apply OwX.rx0; assumption)); exact kf_); rintro E w1 ⟨rfl, hb⟩; have hst := xr hb; (try simp only [zA, zC, zD, zN] at hst); obtain ⟨hc, hf, hz⟩ := hst))
  go_ret
  exact ⟨ret_b Hb.out, ext_⟩

theorem iWldOk_c (aF : Option Addr) (aFc aFn : Nat) (aL : Option Addr) (aLc aLn : Nat) (aP : Option Addr) (aPc aPn : Nat) (aD : Option Addr) (aDc aDn : Nat) (aN : Option Addr) (aNc aNn : Nat) (aS : Option Addr) (aSc aSn : Nat) (aI : Option Addr) (aIc aIn : Nat) (aG : Option Addr) (aGc aGn : Nat) (aB : Option Addr) (aBc aBn : Nat) (x : Sw.World) (w : World) (hx : RW w 0 aF aFc aFn aL aLc aLn aP aPc aPn aD aDc aDn aN aNc aNn aS aSc aSn aI aIc aIn aG aGc aGn aB aBc aBn x) : Calls Try.prog 35 #[.agg #[.slice aF aFn aFc, .slice aL aLn aLc, .slice aP aPn aPc, .slice aD aDn aDc, .int .i64 x.market.clock, .slice aN aNn aNc, .slice aS aSn aSc, .slice aI aIn aIc, .slice aG aGn aGc, .slice aB aBn aBc]] w fun E w' => E = .returned (.bool (Sw.wldOk x)) ∧ Ex w w' := by
  obtain ⟨x1, x2, x3, x4, x5⟩ := hx
  have b3 := Rs.big x3
  have b4 := x4.len.2
  have b5 := x5.len.2
  have l3 := Lib.hid x3.1
  have l4 := Lib.hid x4.len.1
  have l5 := Lib.hid x5.len.1
  have e1 : (!x.lines.any lineBad) = x.lines.all Sw.lineOk := any_not _ _
  have e2 : (!x.gates.any gateBad) = x.gates.all Sw.gatOk := any_not _ _
  have e3 : (!x.bag.any msgBad) = x.bag.all Sw.msgOk := any_not _ _
  have e := wldOk_parts x
  rw [← e1, ← e2, ← e3] at e
  have He := Lib.hid e; clear e e1 e2 e3
  cases g1 : Sw.mktOk x.market
  case false =>
    go_enter Try.func35, Try.ntmps35
    go_wp2_with (first | (go_at_call 46; apply Calls.mono; apply iMktOk_c; ((first | (apply RM.at0; assumption) | (apply OwM.rm0; assumption)); exact kf_); rintro E w1 ⟨rfl, hb⟩; have hst := xr hb; (try simp only [zA, zC, zD, zN] at hst); obtain ⟨hc, hf, hz⟩ := hst))
    go_ret
    exact ⟨ret_b (by rw [He.out]; simp [wldGate, g1]), ext_⟩
  cases g2 : Sw.monOk x.first
  case false =>
    go_enter Try.func35, Try.ntmps35
    go_wp2_with (first | (go_at_call 46; apply Calls.mono; apply iMktOk_c; ((first | (apply RM.at0; assumption) | (apply OwM.rm0; assumption)); exact kf_); rintro E w1 ⟨rfl, hb⟩; have hst := xr hb; (try simp only [zA, zC, zD, zN] at hst); obtain ⟨hc, hf, hz⟩ := hst) | (go_at_call 59; apply Calls.mono; apply iMonOk_c; ((first | (apply Rs.at0; assumption) | (apply Ow.rs0; assumption) | (apply OwT.rs0; assumption)); exact kf_); rintro E w1 ⟨rfl, hb⟩; have hst := xr hb; (try simp only [zA, zC, zD, zN] at hst); obtain ⟨hc, hf, hz⟩ := hst))
    go_ret
    exact ⟨ret_b (by rw [He.out]; simp [wldGate, g2]), ext_⟩
  by_cases g3 : aIn ≤ 300
  case neg =>
    go_enter Try.func35, Try.ntmps35
    go_wp2_with (first | (go_at_call 46; apply Calls.mono; apply iMktOk_c; ((first | (apply RM.at0; assumption) | (apply OwM.rm0; assumption)); exact kf_); rintro E w1 ⟨rfl, hb⟩; have hst := xr hb; (try simp only [zA, zC, zD, zN] at hst); obtain ⟨hc, hf, hz⟩ := hst) | (go_at_call 59; apply Calls.mono; apply iMonOk_c; ((first | (apply Rs.at0; assumption) | (apply Ow.rs0; assumption) | (apply OwT.rs0; assumption)); exact kf_); rintro E w1 ⟨rfl, hb⟩; have hst := xr hb; (try simp only [zA, zC, zD, zN] at hst); obtain ⟨hc, hf, hz⟩ := hst))
    go_ret
    exact ⟨ret_b (by rw [He.out, wldGate, ← l3.out]; simp [g3]), ext_⟩
  by_cases g4 : aGn = 2
  case neg =>
    have q4 : ((aGn : Int) != 2) = true := by rw [bne_iff_ne]; omega
    go_enter Try.func35, Try.ntmps35
    go_wp2_with (first | (go_at_call 46; apply Calls.mono; apply iMktOk_c; ((first | (apply RM.at0; assumption) | (apply OwM.rm0; assumption)); exact kf_); rintro E w1 ⟨rfl, hb⟩; have hst := xr hb; (try simp only [zA, zC, zD, zN] at hst); obtain ⟨hc, hf, hz⟩ := hst) | (go_at_call 59; apply Calls.mono; apply iMonOk_c; ((first | (apply Rs.at0; assumption) | (apply Ow.rs0; assumption) | (apply OwT.rs0; assumption)); exact kf_); rintro E w1 ⟨rfl, hb⟩; have hst := xr hb; (try simp only [zA, zC, zD, zN] at hst); obtain ⟨hc, hf, hz⟩ := hst))
    go_ret
    exact ⟨ret_b (by rw [He.out, wldGate, ← l4.out]; simp [g4]), ext_⟩
  subst g4
  by_cases g5 : aBn ≤ 6
  case neg =>
    go_enter Try.func35, Try.ntmps35
    go_wp2_with (first | (go_at_call 46; apply Calls.mono; apply iMktOk_c; ((first | (apply RM.at0; assumption) | (apply OwM.rm0; assumption)); exact kf_); rintro E w1 ⟨rfl, hb⟩; have hst := xr hb; (try simp only [zA, zC, zD, zN] at hst); obtain ⟨hc, hf, hz⟩ := hst) | (go_at_call 59; apply Calls.mono; apply iMonOk_c; ((first | (apply Rs.at0; assumption) | (apply Ow.rs0; assumption) | (apply OwT.rs0; assumption)); exact kf_); rintro E w1 ⟨rfl, hb⟩; have hst := xr hb; (try simp only [zA, zC, zD, zN] at hst); obtain ⟨hc, hf, hz⟩ := hst))
    go_ret
    exact ⟨ret_b (by rw [He.out, wldGate, ← l5.out]; simp [g5]), ext_⟩
  have hgate : wldGate x = true := by simp [wldGate, g1, g2, ← l3.out, ← l4.out, ← l5.out, g3, g5]
  have e2 := He.out
  rw [hgate, Bool.true_and] at e2
  have HE := Lib.hid e2
  clear e2 He hgate
  cases k1 : x.lines.any lineBad
  case true =>
    go_enter Try.func35, Try.ntmps35
    go_wp2_with (first | (go_at_call 46; apply Calls.mono; apply iMktOk_c; ((first | (apply RM.at0; assumption) | (apply OwM.rm0; assumption)); exact kf_); rintro E w1 ⟨rfl, hb⟩; have hst := xr hb; (try simp only [zA, zC, zD, zN] at hst); obtain ⟨hc, hf, hz⟩ := hst) | (go_at_call 59; apply Calls.mono; apply iMonOk_c; ((first | (apply Rs.at0; assumption) | (apply Ow.rs0; assumption) | (apply OwT.rs0; assumption)); exact kf_); rintro E w1 ⟨rfl, hb⟩; have hst := xr hb; (try simp only [zA, zC, zD, zN] at hst); obtain ⟨hc, hf, hz⟩ := hst) | (go_at_call 89; apply Calls.mono; apply iLineHas_c; ((first | (apply Rs.at0; assumption) | (apply Ow.rs0; assumption) | (apply OwT.rs0; assumption)); exact kf_); rintro E w1 ⟨rfl, hb⟩; have hst := xr hb; (try simp only [zA, zC, zD, zN] at hst); obtain ⟨hc, hf, hz⟩ := hst))
    go_ret
    exact ⟨ret_b (by rw [HE.out, k1]; rfl), ext_⟩
  cases k2 : x.gates.any gateBad
  case true =>
    go_enter Try.func35, Try.ntmps35
    go_wp2_with (first | (go_at_call 46; apply Calls.mono; apply iMktOk_c; ((first | (apply RM.at0; assumption) | (apply OwM.rm0; assumption)); exact kf_); rintro E w1 ⟨rfl, hb⟩; have hst := xr hb; (try simp only [zA, zC, zD, zN] at hst); obtain ⟨hc, hf, hz⟩ := hst) | (go_at_call 59; apply Calls.mono; apply iMonOk_c; ((first | (apply Rs.at0; assumption) | (apply Ow.rs0; assumption) | (apply OwT.rs0; assumption)); exact kf_); rintro E w1 ⟨rfl, hb⟩; have hst := xr hb; (try simp only [zA, zC, zD, zN] at hst); obtain ⟨hc, hf, hz⟩ := hst) | (go_at_call 89; apply Calls.mono; apply iLineHas_c; ((first | (apply Rs.at0; assumption) | (apply Ow.rs0; assumption) | (apply OwT.rs0; assumption)); exact kf_); rintro E w1 ⟨rfl, hb⟩; have hst := xr hb; (try simp only [zA, zC, zD, zN] at hst); obtain ⟨hc, hf, hz⟩ := hst) | (go_at_call 92; apply Calls.mono; apply iGateHas_c; ((first | (apply RG.at0; assumption) | (apply OwG.rg0; assumption)); exact kf_); rintro E w1 ⟨rfl, hb⟩; have hst := xr hb; (try simp only [zA, zC, zD, zN] at hst); obtain ⟨hc, hf, hz⟩ := hst))
    go_ret
    exact ⟨ret_b (by rw [HE.out, k1, k2]; rfl), ext_⟩
  cases k3 : x.bag.any msgBad
  all_goals
    go_enter Try.func35, Try.ntmps35
    go_wp2_with (first | (go_at_call 46; apply Calls.mono; apply iMktOk_c; ((first | (apply RM.at0; assumption) | (apply OwM.rm0; assumption)); exact kf_); rintro E w1 ⟨rfl, hb⟩; have hst := xr hb; (try simp only [zA, zC, zD, zN] at hst); obtain ⟨hc, hf, hz⟩ := hst) | (go_at_call 59; apply Calls.mono; apply iMonOk_c; ((first | (apply Rs.at0; assumption) | (apply Ow.rs0; assumption) | (apply OwT.rs0; assumption)); exact kf_); rintro E w1 ⟨rfl, hb⟩; have hst := xr hb; (try simp only [zA, zC, zD, zN] at hst); obtain ⟨hc, hf, hz⟩ := hst) | (go_at_call 89; apply Calls.mono; apply iLineHas_c; ((first | (apply Rs.at0; assumption) | (apply Ow.rs0; assumption) | (apply OwT.rs0; assumption)); exact kf_); rintro E w1 ⟨rfl, hb⟩; have hst := xr hb; (try simp only [zA, zC, zD, zN] at hst); obtain ⟨hc, hf, hz⟩ := hst) | (go_at_call 92; apply Calls.mono; apply iGateHas_c; ((first | (apply RG.at0; assumption) | (apply OwG.rg0; assumption)); exact kf_); rintro E w1 ⟨rfl, hb⟩; have hst := xr hb; (try simp only [zA, zC, zD, zN] at hst); obtain ⟨hc, hf, hz⟩ := hst) | (go_at_call 94; apply Calls.mono; apply iMsgHas_c; ((first | (apply RX.at0; assumption) | (apply OwX.rx0; assumption)); exact kf_); rintro E w1 ⟨rfl, hb⟩; have hst := xr hb; (try simp only [zA, zC, zD, zN] at hst); obtain ⟨hc, hf, hz⟩ := hst))
    go_ret
    exact ⟨ret_b (by rw [HE.out, k1, k2, k3]; rfl), ext_⟩

end Go.Proofs.Ytgceeggfdomdjaa

namespace Go.Proofs.Ytgceeggfdomdjaa
set_option maxRecDepth 100000
set_option linter.unusedSimpArgs false
set_option linter.unusedVariables false
open Go.RowKit Go
set_option maxHeartbeats 400000

section
variable {w : World} {lo c n k : Nat} {A : Option Addr}
theorem at_OE {xs : List Sw.Ent} (h : OwE w lo A c n xs) (hk : k < n) :
    ∃ g x, A = some ⟨g, 0, none⟩ ∧ lo ≤ g ∧ g < w.heap.size ∧ xs[k]? = some x ∧ w.cell? ⟨g, k * 4, none⟩ = some (.int .i64 x.kind) ∧ w.cell? ⟨g, k * 4 + 1, none⟩ = some (.int .i64 x.ticket) ∧
      w.cell? ⟨g, k * 4 + 2, none⟩ = some (.int .i64 x.who) ∧ w.cell? ⟨g, k * 4 + 3, none⟩ = some (.int .i64 x.price) ∧ (∀ i, w.frozen? ⟨g, i, none⟩ = false) := by
  obtain ⟨g, x, h1, h2, h3, h4, h5, h6⟩ := Ow.at_ h (fun _ => rfl) hk
  exact ⟨g, x, h1, h2, h3, h4, by simpa using h5 0 _ (by omega) rfl, h5 1 _ (by omega) rfl, h5 2 _ (by omega) rfl, h5 3 _ (by omega) rfl, h6⟩
theorem at_OD {xs : List Sw.Deal} (h : OwD w lo A c n xs) (hk : k < n) :
    ∃ g x, A = some ⟨g, 0, none⟩ ∧ lo ≤ g ∧ g < w.heap.size ∧ xs[k]? = some x ∧ w.cell? ⟨g, k * 5, none⟩ = some (.int .i64 x.ticket) ∧ w.cell? ⟨g, k * 5 + 1, none⟩ = some (.int .i64 x.seller) ∧
      w.cell? ⟨g, k * 5 + 2, none⟩ = some (.int .i64 x.price) ∧ w.cell? ⟨g, k * 5 + 3, none⟩ = some (.int .i64 x.buyer) ∧ w.cell? ⟨g, k * 5 + 4, none⟩ = some (.int .i64 x.due) ∧ (∀ i, w.frozen? ⟨g, i, none⟩ = false) := by
  obtain ⟨g, x, h1, h2, h3, h4, h5, h6⟩ := Ow.at_ h (fun _ => rfl) hk
  exact ⟨g, x, h1, h2, h3, h4, by simpa using h5 0 _ (by omega) rfl, h5 1 _ (by omega) rfl, h5 2 _ (by omega) rfl, h5 3 _ (by omega) rfl, h5 4 _ (by omega) rfl, h6⟩
theorem at_OQ {xs : List Sw.Req} (h : OwQ w lo A c n xs) (hk : k < n) :
    ∃ g x, A = some ⟨g, 0, none⟩ ∧ lo ≤ g ∧ g < w.heap.size ∧ xs[k]? = some x ∧ w.cell? ⟨g, k * 6, none⟩ = some (.int .i64 x.user) ∧ w.cell? ⟨g, k * 6 + 1, none⟩ = some (.int .i64 x.n) ∧
      w.cell? ⟨g, k * 6 + 2, none⟩ = some (.int .i64 x.kind) ∧ w.cell? ⟨g, k * 6 + 3, none⟩ = some (.int .i64 x.ticket) ∧ w.cell? ⟨g, k * 6 + 4, none⟩ = some (.int .i64 x.who) ∧ w.cell? ⟨g, k * 6 + 5, none⟩ = some (.int .i64 x.price) ∧ (∀ i, w.frozen? ⟨g, i, none⟩ = false) := by
  obtain ⟨g, x, h1, h2, h3, h4, h5, h6⟩ := Ow.at_ h (fun _ => rfl) hk
  exact ⟨g, x, h1, h2, h3, h4, by simpa using h5 0 _ (by omega) rfl, h5 1 _ (by omega) rfl, h5 2 _ (by omega) rfl, h5 3 _ (by omega) rfl, h5 4 _ (by omega) rfl, h5 5 _ (by omega) rfl, h6⟩
theorem at_OGV {xs : List GV} (h : OwGV w lo A c n xs) (hk : k < n) :
    ∃ g x, A = some ⟨g, 0, none⟩ ∧ lo ≤ g ∧ g < w.heap.size ∧ xs[k]? = some x ∧ w.cell? ⟨g, k * 4, none⟩ = some (.int .i64 x.h.size) ∧ w.cell? ⟨g, k * 4 + 1, none⟩ = some (.int .i64 x.h.log) ∧
      w.cell? ⟨g, k * 4 + 2, none⟩ = some (.int .i64 x.h.own) ∧ w.cell? ⟨g, k * 4 + 3, none⟩ = some (.slice x.A x.n x.c) ∧ (∀ i, w.frozen? ⟨g, i, none⟩ = false) := by
  obtain ⟨g, x, h1, h2, h3, h4, h5, h6⟩ := Ow.at_ h (fun _ => rfl) hk
  exact ⟨g, x, h1, h2, h3, h4, by simpa using h5 0 _ (by omega) rfl, h5 1 _ (by omega) rfl, h5 2 _ (by omega) rfl, h5 3 _ (by omega) rfl, h6⟩
theorem at_OXV {xs : List XV} (h : OwXV w lo A c n xs) (hk : k < n) :
    ∃ g x, A = some ⟨g, 0, none⟩ ∧ lo ≤ g ∧ g < w.heap.size ∧ xs[k]? = some x ∧ w.cell? ⟨g, k * 5, none⟩ = some (.int .i64 x.g) ∧ w.cell? ⟨g, k * 5 + 1, none⟩ = some (.int .i64 x.h.size) ∧ w.cell? ⟨g, k * 5 + 2, none⟩ = some (.int .i64 x.h.log) ∧
      w.cell? ⟨g, k * 5 + 3, none⟩ = some (.int .i64 x.h.own) ∧ w.cell? ⟨g, k * 5 + 4, none⟩ = some (.slice x.A x.n x.c) ∧ (∀ i, w.frozen? ⟨g, i, none⟩ = false) := by
  obtain ⟨g, x, h1, h2, h3, h4, h5, h6⟩ := Ow.at_ h (fun _ => rfl) hk
  exact ⟨g, x, h1, h2, h3, h4, by simpa using h5 0 _ (by omega) rfl, h5 1 _ (by omega) rfl, h5 2 _ (by omega) rfl, h5 3 _ (by omega) rfl, h5 4 _ (by omega) rfl, h6⟩
end

theorem toEntEntry_c (t : Sw.Ent) (w : World) : Calls Try.prog 161 #[.agg #[.int .i64 t.kind, .int .i64 t.ticket, .int .i64 t.who, .int .i64 t.price]] w fun E w' => E = .returned (.agg #[.int .i64 t.kind, .int .i64 t.ticket, .int .i64 t.who, .int .i64 t.price]) ∧ Ex w w' := by
  go_enter Try.func161, Try.ntmps161
  go_wp2_with fail
  refine bodyPost_ret (v := .agg #[.int .i64 t.kind, .int .i64 t.ticket, .int .i64 t.who, .int .i64 t.price]) (by simp [results, Try.results161, go_sem, *]) rfl ?_
  exact ⟨rfl, ext_⟩
theorem toMktDeal_c (t : Sw.Deal) (w : World) : Calls Try.prog 162 #[.agg #[.int .i64 t.ticket, .int .i64 t.seller, .int .i64 t.price, .int .i64 t.buyer, .int .i64 t.due]] w fun E w' => E = .returned (.agg #[.int .i64 t.ticket, .int .i64 t.seller, .int .i64 t.price, .int .i64 t.buyer, .int .i64 t.due]) ∧ Ex w w' := by
  go_enter Try.func162, Try.ntmps162
  go_wp2_with fail
  refine bodyPost_ret (v := .agg #[.int .i64 t.ticket, .int .i64 t.seller, .int .i64 t.price, .int .i64 t.buyer, .int .i64 t.due]) (by simp [results, Try.results162, go_sem, *]) rfl ?_
  exact ⟨rfl, ext_⟩
theorem toMktReq_c (t : Sw.Req) (w : World) : Calls Try.prog 51 #[.agg #[.int .i64 t.user, .int .i64 t.n, .int .i64 t.kind, .int .i64 t.ticket, .int .i64 t.who, .int .i64 t.price]] w fun E w' => E = .returned (.agg #[.int .i64 t.user, .int .i64 t.n, .int .i64 t.kind, .int .i64 t.ticket, .int .i64 t.who, .int .i64 t.price]) ∧ Ex w w' := by
  go_enter Try.func51, Try.ntmps51
  go_wp2_with fail
  refine bodyPost_ret (v := .agg #[.int .i64 t.user, .int .i64 t.n, .int .i64 t.kind, .int .i64 t.ticket, .int .i64 t.who, .int .i64 t.price]) (by simp [results, Try.results51, go_sem, *]) rfl ?_
  exact ⟨rfl, ext_⟩
theorem toEntEntryS_c (A : Option Addr) (c n : Nat) (xs : List Sw.Ent) (w : World) (hxs : RE w 0 A c n xs) (hn : n ≤ 1048576) : Calls Try.prog 115 #[.slice A n c] w fun E w' => ∃ g, E = .returned (.slice (some ⟨g, 0, none⟩) n n) ∧ OwE w' w.heap.size (some ⟨g, 0, none⟩) n n xs ∧ w.heap.size ≤ g ∧ g < w'.heap.size ∧ Ex w w' := by

  have hl := Lib.hid hxs.1
  go_enter Try.func115, Try.ntmps115
  go_wp2_with (at_make; apply wpList_mk (lo := w.heap.size) el_E Sw.entZ z_E rfl rfl rfl rfl rfl; omega; (unfold maxLen; omega); exact sz_; intro wm hom hbm hzm; have hst := xr hbm; (try simp only [zA, zC, zD, zN] at hst); obtain ⟨hcm, hfm, hzm2⟩ := hst)
  go_loopw [4] (fun i wr => ∃ k : Nat, k ≤ n ∧ i = .int .i64 k ∧ Ex w wr ∧ OwE wr w.heap.size (some ⟨w.heap.size, 0, none⟩) n n (xs.take k ++ List.replicate (n - k) Sw.entZ)) (fun i _ => n - (intOf i).toNat)
  case atStart => exact ⟨0, Nat.zero_le _, rfl, by assumption, by simpa using hom⟩
  case round =>
    obtain ⟨k, hk, rfl, hb2, hrel⟩ := hrel
    have hst := Ex.rules hb2 rfl
    obtain ⟨hc2, hf2, hz2⟩ := hst
    by_cases hlt : k < n
    · obtain ⟨g, off, y, rfl, hg0, hg, hd, hy, hca0, hca1, hca2, hca3⟩ := at_E hxs hlt
      obtain ⟨g', x', hA', hg0', hg', hx', hcb0, hcb1, hcb2, hcb3, hfr⟩ := at_OE hrel hlt
      cases hA'
      have Ho := Lib.hid hrel
      have Hy := Lib.hid hy
      clear hrel hd hy hx'
      go_wp2_with (go_at_call 161; refine (toEntEntry_c _ _).mono ?_; rintro E w1 ⟨rfl, hb⟩; have hst := xr hb; (try simp only [zA, zC, zD, zN] at hst); obtain ⟨hc, hf, hz⟩ := hst)
      go_roundw
      case rel =>
        refine ⟨k + 1, by omega, by go_num, (by exact ext_), ?_⟩
        have key := fun W (h : OwE W w.heap.size (some ⟨w.heap.size, 0, none⟩) n n (xs.take k ++ List.replicate (n - k) Sw.entZ)) => Ow.put h (fun _ => rfl) y rfl hlt
        rw [take_set_step hl.out hlt Hy.out] at key
        exact key _ (Ow.keep Ho.out (by (exact kf_)))
      case measure => simp [intOf]; omega
    · have Hrel := Lib.hid hrel; clear hrel
      go_wp2_with fail
      go_ret
      have := Hrel.out
      obtain rfl : k = n := by omega
      rw [Nat.sub_self, List.take_of_length_le (by have := hl.out; omega)] at this
      exact ⟨_, rfl, by simpa using this, Nat.le_refl _, (this.blk rfl).2, (by exact ext_)⟩

theorem toMktDealS_c (A : Option Addr) (c n : Nat) (xs : List Sw.Deal) (w : World) (hxs : RDl w 0 A c n xs) (hn : n ≤ 1048576) : Calls Try.prog 117 #[.slice A n c] w fun E w' => ∃ g, E = .returned (.slice (some ⟨g, 0, none⟩) n n) ∧ OwD w' w.heap.size (some ⟨g, 0, none⟩) n n xs ∧ w.heap.size ≤ g ∧ g < w'.heap.size ∧ Ex w w' := by

  have hl := Lib.hid hxs.1
  go_enter Try.func117, Try.ntmps117
  go_wp2_with (at_make; apply wpList_mk (lo := w.heap.size) el_D Sw.dealZ z_D rfl rfl rfl rfl rfl; omega; (unfold maxLen; omega); exact sz_; intro wm hom hbm hzm; have hst := xr hbm; (try simp only [zA, zC, zD, zN] at hst); obtain ⟨hcm, hfm, hzm2⟩ := hst)
  go_loopw [4] (fun i wr => ∃ k : Nat, k ≤ n ∧ i = .int .i64 k ∧ Ex w wr ∧ OwD wr w.heap.size (some ⟨w.heap.size, 0, none⟩) n n (xs.take k ++ List.replicate (n - k) Sw.dealZ)) (fun i _ => n - (intOf i).toNat)
  case atStart => exact ⟨0, Nat.zero_le _, rfl, by assumption, by simpa using hom⟩
  case round =>
    obtain ⟨k, hk, rfl, hb2, hrel⟩ := hrel
    have hst := Ex.rules hb2 rfl
    obtain ⟨hc2, hf2, hz2⟩ := hst
    by_cases hlt : k < n
    · obtain ⟨g, off, y, rfl, hg0, hg, hd, hy, hca0, hca1, hca2, hca3, hca4⟩ := at_D hxs hlt
      obtain ⟨g', x', hA', hg0', hg', hx', hcb0, hcb1, hcb2, hcb3, hcb4, hfr⟩ := at_OD hrel hlt
      cases hA'
      have Ho := Lib.hid hrel
      have Hy := Lib.hid hy
      clear hrel hd hy hx'
      go_wp2_with (go_at_call 162; refine (toMktDeal_c _ _).mono ?_; rintro E w1 ⟨rfl, hb⟩; have hst := xr hb; (try simp only [zA, zC, zD, zN] at hst); obtain ⟨hc, hf, hz⟩ := hst)
      go_roundw
      case rel =>
        refine ⟨k + 1, by omega, by go_num, (by exact ext_), ?_⟩
        have key := fun W (h : OwD W w.heap.size (some ⟨w.heap.size, 0, none⟩) n n (xs.take k ++ List.replicate (n - k) Sw.dealZ)) => Ow.put h (fun _ => rfl) y rfl hlt
        rw [take_set_step hl.out hlt Hy.out] at key
        exact key _ (Ow.keep Ho.out (by (exact kf_)))
      case measure => simp [intOf]; omega
    · have Hrel := Lib.hid hrel; clear hrel
      go_wp2_with fail
      go_ret
      have := Hrel.out
      obtain rfl : k = n := by omega
      rw [Nat.sub_self, List.take_of_length_le (by have := hl.out; omega)] at this
      exact ⟨_, rfl, by simpa using this, Nat.le_refl _, (this.blk rfl).2, (by exact ext_)⟩

end Go.Proofs.Ytgceeggfdomdjaa

namespace Go.Proofs.Ytgceeggfdomdjaa
set_option maxRecDepth 100000
set_option linter.unusedSimpArgs false
set_option linter.unusedVariables false
open Go.RowKit Go
set_option maxHeartbeats 400000

/-- So many gates have been made: their own slices have marks of their own. -/
def GatesTo (τ : Nat → Nat) (w : World) (lo g0 k n : Nat) (gs : List Sw.Gate) : Prop :=
  ∃ vs : List GV, OwGV w lo (some ⟨g0, 0, none⟩) n n vs ∧ τ g0 = 8 ∧ ∀ (j : Nat) (v : GV) (g : Sw.Gate), j < k → vs[j]? = some v → gs[j]? = some g → v.h = g.head ∧ OwTI τ (fdS j) w lo v.A v.c v.n g.done
def MsgsTo (τ : Nat → Nat) (w : World) (lo g0 k n : Nat) (xs : List Sw.Msg) : Prop :=
  ∃ vs : List XV, OwXV w lo (some ⟨g0, 0, none⟩) n n vs ∧ τ g0 = 9 ∧ ∀ (j : Nat) (v : XV) (x : Sw.Msg), j < k → vs[j]? = some v → xs[j]? = some x → v.g = x.gate ∧ v.h = x.head ∧ OwTI τ (fpS j) w lo v.A v.c v.n x.proof
theorem GatesTo.start {w : World} {lo g0 n : Nat} {gs : List Sw.Gate} {vs : List GV} (h : OwGV w lo (some ⟨g0, 0, none⟩) n n vs) : GatesTo (fun _ => 8) w lo g0 0 n gs := ⟨vs, h, rfl, fun j v g hj => by omega⟩
theorem MsgsTo.start {w : World} {lo g0 n : Nat} {gs : List Sw.Msg} {vs : List XV} (h : OwXV w lo (some ⟨g0, 0, none⟩) n n vs) : MsgsTo (fun _ => 9) w lo g0 0 n gs := ⟨vs, h, rfl, fun j v g hj => by omega⟩
/-- The element's cells, before. -/
theorem GatesTo.at_ {τ : Nat → Nat} {w : World} {lo g0 k n j : Nat} {gs : List Sw.Gate} (h : GatesTo τ w lo g0 k n gs) (hj : j < n) :
    ∃ x : GV, lo ≤ g0 ∧ g0 < w.heap.size ∧ w.cell? ⟨g0, j * 4, none⟩ = some (.int .i64 x.h.size) ∧ w.cell? ⟨g0, j * 4 + 1, none⟩ = some (.int .i64 x.h.log) ∧
      w.cell? ⟨g0, j * 4 + 2, none⟩ = some (.int .i64 x.h.own) ∧ w.cell? ⟨g0, j * 4 + 3, none⟩ = some (.slice x.A x.n x.c) ∧ (∀ i, w.frozen? ⟨g0, i, none⟩ = false) := by
  obtain ⟨vs, h1, _, _⟩ := h
  obtain ⟨g, x, hA, h3, h4, _, h5, h6, h7, h8, h9⟩ := at_OGV h1 hj
  cases hA
  exact ⟨x, h3, h4, h5, h6, h7, h8, h9⟩
theorem MsgsTo.at_ {τ : Nat → Nat} {w : World} {lo g0 k n j : Nat} {gs : List Sw.Msg} (h : MsgsTo τ w lo g0 k n gs) (hj : j < n) :
    ∃ x : XV, lo ≤ g0 ∧ g0 < w.heap.size ∧ w.cell? ⟨g0, j * 5, none⟩ = some (.int .i64 x.g) ∧ w.cell? ⟨g0, j * 5 + 1, none⟩ = some (.int .i64 x.h.size) ∧ w.cell? ⟨g0, j * 5 + 2, none⟩ = some (.int .i64 x.h.log) ∧
      w.cell? ⟨g0, j * 5 + 3, none⟩ = some (.int .i64 x.h.own) ∧ w.cell? ⟨g0, j * 5 + 4, none⟩ = some (.slice x.A x.n x.c) ∧ (∀ i, w.frozen? ⟨g0, i, none⟩ = false) := by
  obtain ⟨vs, h1, _, _⟩ := h
  obtain ⟨g, x, hA, h3, h4, _, h5, h6, h7, h8, h9, h10⟩ := at_OXV h1 hj
  cases hA
  exact ⟨x, h3, h4, h5, h6, h7, h8, h9, h10⟩
theorem set_cells_heap {g b : Nat} (h : b ≠ g) : ∀ (vs : List Value) (w : World) (i : Nat), (setCells w g i vs).heap[b]? = w.heap[b]?
  | [], _, _ => rfl
  | v :: vs, w, i => by rw [setCells, set_cells_heap h vs]; exact Below.heap_setCell _ _ _ _ h
theorem set_cells_size {g : Nat} : ∀ (vs : List Value) (w : World) (i : Nat), (setCells w g i vs).heap.size = w.heap.size
  | [], _, _ => rfl
  | v :: vs, w, i => by rw [setCells, set_cells_size vs]; simp
/-- One gate more. -/
theorem GatesTo.step {τ : Nat → Nat} {w w1 : World} {lo g0 k n g1 m : Nat} {gs : List Sw.Gate} {y : Sw.Gate} (h : GatesTo τ w lo g0 k n gs) (hk : k < n) (hy : gs[k]? = some y) (hb : Ex w w1)
    (ho : OwI w1 w.heap.size (some ⟨g1, 0, none⟩) m m y.done) (hlo : lo ≤ w.heap.size) :
    GatesTo (glue τ w.heap.size (fun _ => fdS k)) (setCells w1 g0 (k * 4) (GV.enc ⟨y.head, some ⟨g1, 0, none⟩, m, m⟩)) lo g0 (k + 1) n gs := by
  obtain ⟨vs, h1, h2, h3⟩ := h
  have hg0 := (h1.blk rfl)
  dsimp only at hg0
  have h1' : OwGV w1 lo (some ⟨g0, 0, none⟩) n n vs := h1.keep (KF.ex hb (KF.refl _ _))
  refine ⟨_, Ow.put h1' (fun _ => rfl) ⟨y.head, some ⟨g1, 0, none⟩, m, m⟩ rfl hk, ?_, ?_⟩
  · unfold glue; rw [if_pos hg0.2]; exact h2
  · intro j v g hj hv hg
    rw [List.getElem?_set] at hv
    by_cases hjk : k = j
    · subst hjk
      rw [if_pos rfl, if_pos (by rw [← h1.1]; exact hk)] at hv
      cases hv
      rw [hy] at hg
      cases hg
      refine ⟨rfl, ⟨?_, ?_⟩⟩
      · refine (ho.less hlo).keep_ fun a ha => ?_
        cases ha
        have := (ho.blk rfl).1
        exact set_cells_heap (show g1 ≠ g0 by dsimp only at this; omega) _ _ _
      · intro a ha
        cases ha
        have := (ho.blk rfl).1
        unfold glue; dsimp only at this ⊢; rw [if_neg (by omega)]
    · rw [if_neg hjk] at hv
      obtain ⟨e, hr⟩ := h3 j v g (by omega) hv hg
      refine ⟨e, ⟨hr.ow.keep_ fun a ha => ?_, fun a ha => ?_⟩⟩
      · have hlt := (hr.ow.blk ha).2
        rw [set_cells_heap, hb.block _ hlt (fun h => h)]
        intro e
        have := hr.tag a ha
        rw [e, h2] at this
        unfold fdS at this; omega
      · unfold glue; rw [if_pos (hr.ow.blk ha).2]; exact hr.tag a ha
theorem MsgsTo.step {τ : Nat → Nat} {w w1 : World} {lo g0 k n g1 m : Nat} {gs : List Sw.Msg} {y : Sw.Msg} (h : MsgsTo τ w lo g0 k n gs) (hk : k < n) (hy : gs[k]? = some y) (hb : Ex w w1)
    (ho : OwI w1 w.heap.size (some ⟨g1, 0, none⟩) m m y.proof) (hlo : lo ≤ w.heap.size) :
    MsgsTo (glue τ w.heap.size (fun _ => fpS k)) (setCells w1 g0 (k * 5) (XV.enc ⟨y.gate, y.head, some ⟨g1, 0, none⟩, m, m⟩)) lo g0 (k + 1) n gs := by
  obtain ⟨vs, h1, h2, h3⟩ := h
  have hg0 := (h1.blk rfl)
  dsimp only at hg0
  have h1' : OwXV w1 lo (some ⟨g0, 0, none⟩) n n vs := h1.keep (KF.ex hb (KF.refl _ _))
  refine ⟨_, Ow.put h1' (fun _ => rfl) ⟨y.gate, y.head, some ⟨g1, 0, none⟩, m, m⟩ rfl hk, ?_, ?_⟩
  · unfold glue; rw [if_pos hg0.2]; exact h2
  · intro j v g hj hv hg
    rw [List.getElem?_set] at hv
    by_cases hjk : k = j
    · subst hjk
      rw [if_pos rfl, if_pos (by rw [← h1.1]; exact hk)] at hv
      cases hv
      rw [hy] at hg
      cases hg
      refine ⟨rfl, rfl, ⟨?_, ?_⟩⟩
      · refine (ho.less hlo).keep_ fun a ha => ?_
        cases ha
        have := (ho.blk rfl).1
        exact set_cells_heap (show g1 ≠ g0 by dsimp only at this; omega) _ _ _
      · intro a ha
        cases ha
        have := (ho.blk rfl).1
        unfold glue; dsimp only at this ⊢; rw [if_neg (by omega)]
    · rw [if_neg hjk] at hv
      obtain ⟨e1, e, hr⟩ := h3 j v g (by omega) hv hg
      refine ⟨e1, e, ⟨hr.ow.keep_ fun a ha => ?_, fun a ha => ?_⟩⟩
      · have hlt := (hr.ow.blk ha).2
        rw [set_cells_heap, hb.block _ hlt (fun h => h)]
        intro e
        have := hr.tag a ha
        rw [e, h2] at this
        unfold fpS at this; omega
      · unfold glue; rw [if_pos (hr.ow.blk ha).2]; exact hr.tag a ha
theorem GatesTo.all {τ : Nat → Nat} {w : World} {lo g0 n : Nat} {gs : List Sw.Gate} (h : GatesTo τ w lo g0 n n gs) (hn : n = gs.length) : OwG fdS τ w lo (some ⟨g0, 0, none⟩) n n gs := by
  obtain ⟨vs, h1, h2, h3⟩ := h
  exact ⟨vs, ⟨h1, fun a ha => by cases ha; exact h2⟩, hn, fun k v g hv hg => h3 k v g (by have := (List.getElem?_eq_some_iff.1 hg).1; omega) hv hg⟩
theorem MsgsTo.all {τ : Nat → Nat} {w : World} {lo g0 n : Nat} {gs : List Sw.Msg} (h : MsgsTo τ w lo g0 n n gs) (hn : n = gs.length) : OwX fpS τ w lo (some ⟨g0, 0, none⟩) n n gs := by
  obtain ⟨vs, h1, h2, h3⟩ := h
  exact ⟨vs, ⟨h1, fun a ha => by cases ha; exact h2⟩, hn, fun k v g hv hg => h3 k v g (by have := (List.getElem?_eq_some_iff.1 hg).1; omega) hv hg⟩

end Go.Proofs.Ytgceeggfdomdjaa

namespace Go.Proofs.Ytgceeggfdomdjaa
set_option maxRecDepth 100000
set_option linter.unusedSimpArgs false
set_option linter.unusedVariables false
open Go.RowKit Go
set_option maxHeartbeats 400000

def tau5 (a b c d : Nat) : Nat → Nat := fun x => if x = a then 1 else if x = b then 2 else if x = c then 3 else if x = d then 4 else 5
section
variable {a b c d e : Nat}
theorem tau5_1 : tau5 a b c d a = 1 := if_pos rfl
theorem tau5_2 (h : a < b) : tau5 a b c d b = 2 := by unfold tau5; rw [if_neg (by omega), if_pos rfl]
theorem tau5_3 (h : a < c) (h2 : b < c) : tau5 a b c d c = 3 := by unfold tau5; rw [if_neg (by omega), if_neg (by omega), if_pos rfl]
theorem tau5_4 (h : a < d) (h2 : b < d) (h3 : c < d) : tau5 a b c d d = 4 := by unfold tau5; rw [if_neg (by omega), if_neg (by omega), if_neg (by omega), if_pos rfl]
theorem tau5_5 (h : a < e) (h2 : b < e) (h3 : c < e) (h4 : d < e) : tau5 a b c d e = 5 := by unfold tau5; rw [if_neg (by omega), if_neg (by omega), if_neg (by omega), if_neg (by omega)]
end
section
variable {α : Type} {enc : α → List Value} {sz : Nat} {e : TypeId} {fd fp τ τ' : Nat → Nat} {t : Nat} {w w' : World} {lo lo' c n k : Nat} {A : Option Addr} {xs : List α}
theorem OwT.one {g : Nat} (h : Ow enc sz e w lo (some ⟨g, 0, none⟩) c n xs) (ht : τ g = t) : OwT enc sz e τ t w lo (some ⟨g, 0, none⟩) c n xs := ⟨h, fun a ha => by cases ha; exact ht⟩
theorem OwT.keepF (h : OwT enc sz e τ t w lo A c n xs) (hk : KF lo w w') : OwT enc sz e τ t w' lo A c n xs := h.keep (.of hk)
theorem OwM.keepF {aL : Option Addr} {aLc aLn : Nat} {aP : Option Addr} {aPc aPn : Nat} {aD : Option Addr} {aDc aDn : Nat} {aN : Option Addr} {aNc aNn : Nat} {aS : Option Addr} {aSc aSn : Nat} {m : Sw.Mkt} (h : OwM τ w lo aL aLc aLn aP aPc aPn aD aDc aDn aN aNc aNn aS aSc aSn m) (hk : KF lo w w') : OwM τ w' lo aL aLc aLn aP aPc aPn aD aDc aDn aN aNc aNn aS aSc aSn m := h.keep fun _ _ _ => .of hk
theorem OwG.keepF {gs : List Sw.Gate} (h : OwG fd τ w lo A c n gs) (hk : KF lo w w') : OwG fd τ w' lo A c n gs := h.keep (.of hk) fun _ => .of hk
theorem OwX.keepF {gs : List Sw.Msg} (h : OwX fp τ w lo A c n gs) (hk : KF lo w w') : OwX fp τ w' lo A c n gs := h.keep (.of hk) fun _ => .of hk
theorem OwW.keepF {aF : Option Addr} {aFc aFn : Nat} {aL : Option Addr} {aLc aLn : Nat} {aP : Option Addr} {aPc aPn : Nat} {aD : Option Addr} {aDc aDn : Nat} {aN : Option Addr} {aNc aNn : Nat} {aS : Option Addr} {aSc aSn : Nat} {aI : Option Addr} {aIc aIn : Nat} {aG : Option Addr} {aGc aGn : Nat} {aB : Option Addr} {aBc aBn : Nat} {x : Sw.World} (h : OwW fd fp τ w lo aF aFc aFn aL aLc aLn aP aPc aPn aD aDc aDn aN aNc aNn aS aSc aSn aI aIc aIn aG aGc aGn aB aBc aBn x) (hk : KF lo w w') : OwW fd fp τ w' lo aF aFc aFn aL aLc aLn aP aPc aPn aD aDc aDn aN aNc aNn aS aSc aSn aI aIc aIn aG aGc aGn aB aBc aBn x := ⟨h.1.keepF hk, h.2.keepF hk, h.3.keepF hk, h.4.keepF hk, h.5.keepF hk⟩
theorem OwM.glueL {aL : Option Addr} {aLc aLn : Nat} {aP : Option Addr} {aPc aPn : Nat} {aD : Option Addr} {aDc aDn : Nat} {aN : Option Addr} {aNc aNn : Nat} {aS : Option Addr} {aSc aSn : Nat} {m : Sw.Mkt} (h : OwM τ w lo aL aLc aLn aP aPc aPn aD aDc aDn aN aNc aNn aS aSc aSn m) (hk : w.heap.size ≤ k) : OwM (glue τ k τ') w lo aL aLc aLn aP aPc aPn aD aDc aDn aN aNc aNn aS aSc aSn m := h.retag fun b hb => if_pos (by omega)
theorem OwG.glueL {gs : List Sw.Gate} (h : OwG fd τ w lo A c n gs) (hk : w.heap.size ≤ k) : OwG fd (glue τ k τ') w lo A c n gs := h.retag fun b hb => if_pos (by omega)
theorem OwX.glueL {gs : List Sw.Msg} (h : OwX fp τ w lo A c n gs) (hk : w.heap.size ≤ k) : OwX fp (glue τ k τ') w lo A c n gs := h.retag fun b hb => if_pos (by omega)
theorem OwT.rs0 (h : OwT enc sz e τ t w lo A c n xs) (hk : KF lo w w') : Rs enc sz w' 0 A c n xs := h.rs.at0 hk
theorem OwM.rm0 {aL : Option Addr} {aLc aLn : Nat} {aP : Option Addr} {aPc aPn : Nat} {aD : Option Addr} {aDc aDn : Nat} {aN : Option Addr} {aNc aNn : Nat} {aS : Option Addr} {aSc aSn : Nat} {m : Sw.Mkt} (h : OwM τ w lo aL aLc aLn aP aPc aPn aD aDc aDn aN aNc aNn aS aSc aSn m) (hk : KF lo w w') : RM w' 0 aL aLc aLn aP aPc aPn aD aDc aDn aN aNc aNn aS aSc aSn m := h.rm.at0 hk
theorem OwW.rw0 {aF : Option Addr} {aFc aFn : Nat} {aL : Option Addr} {aLc aLn : Nat} {aP : Option Addr} {aPc aPn : Nat} {aD : Option Addr} {aDc aDn : Nat} {aN : Option Addr} {aNc aNn : Nat} {aS : Option Addr} {aSc aSn : Nat} {aI : Option Addr} {aIc aIn : Nat} {aG : Option Addr} {aGc aGn : Nat} {aB : Option Addr} {aBc aBn : Nat} {x : Sw.World} (h : OwW fd fp τ w lo aF aFc aFn aL aLc aLn aP aPc aPn aD aDc aDn aN aNc aNn aS aSc aSn aI aIc aIn aG aGc aGn aB aBc aBn x) (hk : KF lo w w') : RW w' 0 aF aFc aFn aL aLc aLn aP aPc aPn aD aDc aDn aN aNc aNn aS aSc aSn aI aIc aIn aG aGc aGn aB aBc aBn x := h.rw_.at0 hk
theorem OwG.rg0 {gs : List Sw.Gate} (h : OwG fd τ w lo A c n gs) (hk : KF lo w w') : RG w' 0 A c n gs := h.rg.at0 hk
theorem OwX.rx0 {gs : List Sw.Msg} (h : OwX fp τ w lo A c n gs) (hk : KF lo w w') : RX w' 0 A c n gs := h.rx.at0 hk
/-- Five pieces that were made one behind the other are a world. -/
theorem OwW.build {w1 w2 w3 w4 w5 W : World} {lo lo1 lo2 lo3 lo4 lo5 : Nat} {aF : Option Addr} {aFc aFn : Nat} {aL : Option Addr} {aLc aLn : Nat} {aP : Option Addr} {aPc aPn : Nat} {aD : Option Addr} {aDc aDn : Nat} {aN : Option Addr} {aNc aNn : Nat} {aS : Option Addr} {aSc aSn : Nat} {aI : Option Addr} {aIc aIn : Nat} {aG : Option Addr} {aGc aGn : Nat} {aB : Option Addr} {aBc aBn : Nat} {x : Sw.World} {τM τG τX : Nat → Nat}
    (h1 : OwI w1 lo1 aF aFc aFn x.first) (h2 : OwM τM w2 lo2 aL aLc aLn aP aPc aPn aD aDc aDn aN aNc aNn aS aSc aSn x.market) (h3 : OwQ w3 lo3 aI aIc aIn x.lines) (h4 : OwG fd τG w4 lo4 aG aGc aGn x.gates) (h5 : OwX fp τX w5 lo5 aB aBc aBn x.bag)
    (l2 : w1.heap.size ≤ lo2) (l3 : w2.heap.size ≤ lo3) (l4 : w3.heap.size ≤ lo4) (l5 : w4.heap.size ≤ lo5) (b2 : lo2 ≤ w2.heap.size) (b3 : lo3 ≤ w3.heap.size) (b4 : lo4 ≤ w4.heap.size) (hl : lo ≤ lo1) (b1 : lo1 ≤ w1.heap.size)
    (k1 : KF lo1 w1 W) (k2 : KF lo2 w2 W) (k3 : KF lo3 w3 W) (k4 : KF lo4 w4 W) (k5 : KF lo5 w5 W) :
    OwW fd fp (glue (fun _ => 6) w1.heap.size (glue τM w2.heap.size (glue (fun _ => 7) w3.heap.size (glue τG w4.heap.size τX)))) W lo aF aFc aFn aL aLc aLn aP aPc aPn aD aDc aDn aN aNc aNn aS aSc aSn aI aIc aIn aG aGc aGn aB aBc aBn x := by
  have p1 : OwTI (fun _ => 6) 6 w1 lo1 aF aFc aFn x.first := ⟨h1, fun _ _ => rfl⟩
  have p3 : OwTQ (fun _ => 7) 7 w3 lo3 aI aIc aIn x.lines := ⟨h3, fun _ _ => rfl⟩
  refine ⟨((p1.glueL (Nat.le_refl _)).keepF k1).less hl, ?_, ?_, ?_, ?_⟩
  · exact (((h2.glueL (Nat.le_refl _)).glueR l2).keepF k2).less (by omega)
  · exact ((((p3.glueL (Nat.le_refl _)).glueR l3).glueR (by omega)).keepF k3).less (by omega)
  · exact (((((h4.glueL (Nat.le_refl _)).glueR l4).glueR (by omega)).glueR (by omega)).keepF k4).less (by omega)
  · exact (((((h5.glueR l5).glueR (by omega)).glueR (by omega)).glueR (by omega)).keepF k5).less (by omega)
end

theorem toMktHouse_c (aL : Option Addr) (aLc aLn : Nat) (aP : Option Addr) (aPc aPn : Nat) (aD : Option Addr) (aDc aDn : Nat) (aN : Option Addr) (aNc aNn : Nat) (aS : Option Addr) (aSc aSn : Nat) (m : Sw.Mkt) (w : World) (hm : RM w 0 aL aLc aLn aP aPc aPn aD aDc aDn aN aNc aNn aS aSc aSn m) (hn : aLn + aPn + aDn + aNn + aSn ≤ 1048576) : Calls Try.prog 50 #[.agg #[.slice aL aLn aLc, .slice aP aPn aPc, .slice aD aDn aDc, .int .i64 m.clock, .slice aN aNn aNc, .slice aS aSn aSc]] w fun E w' => ∃ bL bLc bLn bP bPc bPn bD bDc bDn bN bNc bNn bS bSc bSn τ, E = .returned (.agg #[.slice bL bLn bLc, .slice bP bPn bPc, .slice bD bDn bDc, .int .i64 m.clock, .slice bN bNn bNc, .slice bS bSn bSc]) ∧ OwM τ w' w.heap.size bL bLc bLn bP bPc bPn bD bDc bDn bN bNc bNn bS bSc bSn m ∧ Ex w w' := by
  obtain ⟨m1, m2, m3, m4, m5⟩ := hm
  go_enter Try.func50, Try.ntmps50
  go_wp2_with (first | (go_at_call 115; apply Calls.mono; apply toEntEntryS_c; (apply Rs.at0 m1; (exact kf_)); (first | assumption | omega); rintro E w1 ⟨gL, rfl, hoL, hgeL, hltL, hb⟩; (try simp only [zA, zC, zD, zN] at hgeL); (try simp only [zA, zC, zD, zN] at hltL); have hst := xr hb; (try simp only [zA, zC, zD, zN] at hst); obtain ⟨hc, hf, hz⟩ := hst) | (go_at_call 116; apply Calls.mono; apply toIntS_c; (apply Rs.at0 m2; (exact kf_)); (first | assumption | omega); rintro E w1 ⟨gP, rfl, hoP, hgeP, hltP, hb⟩; (try simp only [zA, zC, zD, zN] at hgeP); (try simp only [zA, zC, zD, zN] at hltP); have hst := xr hb; (try simp only [zA, zC, zD, zN] at hst); obtain ⟨hc, hf, hz⟩ := hst) | (go_at_call 117; apply Calls.mono; apply toMktDealS_c; (apply Rs.at0 m3; (exact kf_)); (first | assumption | omega); rintro E w1 ⟨gD, rfl, hoD, hgeD, hltD, hb⟩; (try simp only [zA, zC, zD, zN] at hgeD); (try simp only [zA, zC, zD, zN] at hltD); have hst := xr hb; (try simp only [zA, zC, zD, zN] at hst); obtain ⟨hc, hf, hz⟩ := hst) | (go_at_call 116; apply Calls.mono; apply toIntS_c; (apply Rs.at0 m4; (exact kf_)); (first | assumption | omega); rintro E w1 ⟨gN, rfl, hoN, hgeN, hltN, hb⟩; (try simp only [zA, zC, zD, zN] at hgeN); (try simp only [zA, zC, zD, zN] at hltN); have hst := xr hb; (try simp only [zA, zC, zD, zN] at hst); obtain ⟨hc, hf, hz⟩ := hst) | (go_at_call 116; apply Calls.mono; apply toIntS_c; (apply Rs.at0 m5; (exact kf_)); (first | assumption | omega); rintro E w1 ⟨gS, rfl, hoS, hgeS, hltS, hb⟩; (try simp only [zA, zC, zD, zN] at hgeS); (try simp only [zA, zC, zD, zN] at hltS); have hst := xr hb; (try simp only [zA, zC, zD, zN] at hst); obtain ⟨hc, hf, hz⟩ := hst))
  refine bodyPost_ret (v := .agg #[.slice (some ⟨gL, 0, none⟩) aLn aLn, .slice (some ⟨gP, 0, none⟩) aPn aPn, .slice (some ⟨gD, 0, none⟩) aDn aDn, .int .i64 m.clock, .slice (some ⟨gN, 0, none⟩) aNn aNn, .slice (some ⟨gS, 0, none⟩) aSn aSn]) (by simp [results, Try.results50, go_sem, *]) rfl ?_
  refine ⟨_, _, _, _, _, _, _, _, _, _, _, _, _, _, _, tau5 gL gP gD gN, rfl, ⟨?_, ?_, ?_, ?_, ?_⟩, ext_⟩
  · exact .one ((hoL.keep (by (exact kf_))).less (by exact sz_)) tau5_1
  · exact .one ((hoP.keep (by (exact kf_))).less (by exact sz_)) (tau5_2 (by omega))
  · exact .one ((hoD.keep (by (exact kf_))).less (by exact sz_)) (tau5_3 (by omega) (by omega))
  · exact .one ((hoN.keep (by (exact kf_))).less (by exact sz_)) (tau5_4 (by omega) (by omega) (by omega))
  · exact .one ((hoS.keep (by (exact kf_))).less (by exact sz_)) (tau5_5 (by omega) (by omega) (by omega) (by omega))

end Go.Proofs.Ytgceeggfdomdjaa

