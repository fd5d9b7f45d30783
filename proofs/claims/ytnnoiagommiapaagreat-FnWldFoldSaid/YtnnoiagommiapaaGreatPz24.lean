/- Texts joined: ImpE. -/
import Derived.Test.YtnnoiagommiapaaGreatPz19
import Derived.Test.YtnnoiagommiapaaGreatPz13
import Derived.Test.YtnnoiagommiapaaGreatPz2
set_option maxRecDepth 100000
set_option linter.unusedSimpArgs false
set_option linter.unusedVariables false
namespace Go.Proofs.YtnnoiagommiapaaGreat
open Go.RowKit Go
set_option maxHeartbeats 8000000
theorem iMktOk_c (aL : Option Addr) (aLc aLn : Nat) (aP : Option Addr) (aPc aPn : Nat) (aD : Option Addr) (aDc aDn : Nat) (aN : Option Addr) (aNc aNn : Nat) (aS : Option Addr) (aSc aSn : Nat) (m : Sw.Mkt) (w : World) (hm : RM w 0 aL aLc aLn aP aPc aPn aD aDc aDn aN aNc aNn aS aSc aSn m) : Calls Tryz.prog 44 #[.agg #[.slice aL aLn aLc, .slice aP aPn aPc, .slice aD aDn aDc, .int .i64 m.clock, .slice aN aNn aNc, .slice aS aSn aSc]] w fun E w' => E = .returned (.bool (Sw.mktOk m)) ∧ Ex w w' := by
 obtain ⟨m1, m2, m3, m4, m5⟩ := hm
 have hm' : RM w 0 aL aLc aLn aP aPc aPn aD aDc aDn aN aNc aNn aS aSc aSn m := ⟨m1, m2, m3, m4, m5⟩
 have b3 := Rs.big m3
 have b4 := Rs.big m4
 have b5 := Rs.big m5
 have l3 := Lib.hid m3.1
 have l4 := Lib.hid m4.1
 have l5 := Lib.hid m5.1
 have e := mktOk_parts m
 have He := Lib.hid e; clear e
 cases hfs : (Sw.ownFold m.log).isSome
 case false =>
   go_enter Tryz.func44, Tryz.ntmps44
   go_wp2_with (first | (go_at_call 120; apply Calls.mono; apply iOwnFold_c; (exact rdw_); rintro E w1 ⟨A', c', n', rfl, hr, hb⟩; obtain ⟨hc, hf, hz⟩ := xy hb))
   go_ret
   exact ⟨ret_b (by rw [He.out]; simp [mktGate, hfs]), ext_⟩
 cases g1 : Sw.monOk m.purses
 case false =>
   go_enter Tryz.func44, Tryz.ntmps44
   go_wp2_with (first | (go_at_call 120; apply Calls.mono; apply iOwnFold_c; (exact rdw_); rintro E w1 ⟨A', c', n', rfl, hr, hb⟩; obtain ⟨hc, hf, hz⟩ := xy hb) | (go_at_call 118; apply Calls.mono; apply iMonOk_c; (exact rdw_); rintro E w1 ⟨rfl, hb⟩; obtain ⟨hc, hf, hz⟩ := xy hb))
   go_ret
   exact ⟨ret_b (by rw [He.out]; simp [mktGate, g1]), ext_⟩
 by_cases g2 : aDn ≤ 8
 case neg =>
   go_enter Tryz.func44, Tryz.ntmps44
   go_wp2_with (first | (go_at_call 120; apply Calls.mono; apply iOwnFold_c; (exact rdw_); rintro E w1 ⟨A', c', n', rfl, hr, hb⟩; obtain ⟨hc, hf, hz⟩ := xy hb) | (go_at_call 118; apply Calls.mono; apply iMonOk_c; (exact rdw_); rintro E w1 ⟨rfl, hb⟩; obtain ⟨hc, hf, hz⟩ := xy hb))
   go_ret
   exact ⟨ret_b (by rw [He.out, mktGate, ← l3.out]; simp [g2]), ext_⟩
 cases g3 : Sw.inR m.clock 0 99999
 case false =>
   go_enter Tryz.func44, Tryz.ntmps44
   go_wp2_with (first | (go_at_call 120; apply Calls.mono; apply iOwnFold_c; (exact rdw_); rintro E w1 ⟨A', c', n', rfl, hr, hb⟩; obtain ⟨hc, hf, hz⟩ := xy hb) | (go_at_call 118; apply Calls.mono; apply iMonOk_c; (exact rdw_); rintro E w1 ⟨rfl, hb⟩; obtain ⟨hc, hf, hz⟩ := xy hb) | (go_at_call 121; refine (in_c _ _ _ _).mono ?_; rintro E w' ⟨rfl, rfl⟩))
   go_ret
   exact ⟨ret_b (by rw [He.out, mktGate, g3]; simp), ext_⟩
 by_cases g4 : aNn = 5
 case neg =>
   have q4 : ((aNn : Int) != 5) = true := by rw [bne_iff_ne]; omega
   go_enter Tryz.func44, Tryz.ntmps44
   go_wp2_with (first | (go_at_call 120; apply Calls.mono; apply iOwnFold_c; (exact rdw_); rintro E w1 ⟨A', c', n', rfl, hr, hb⟩; obtain ⟨hc, hf, hz⟩ := xy hb) | (go_at_call 118; apply Calls.mono; apply iMonOk_c; (exact rdw_); rintro E w1 ⟨rfl, hb⟩; obtain ⟨hc, hf, hz⟩ := xy hb) | (go_at_call 121; refine (in_c _ _ _ _).mono ?_; rintro E w' ⟨rfl, rfl⟩))
   go_ret
   exact ⟨ret_b (by rw [He.out, mktGate, ← l4.out]; simp [g4]), ext_⟩
 subst g4
 by_cases g5 : aSn = 5
 case neg =>
   have q5 : ((aSn : Int) != 5) = true := by rw [bne_iff_ne]; omega
   go_enter Tryz.func44, Tryz.ntmps44
   go_wp2_with (first | (go_at_call 120; apply Calls.mono; apply iOwnFold_c; (exact rdw_); rintro E w1 ⟨A', c', n', rfl, hr, hb⟩; obtain ⟨hc, hf, hz⟩ := xy hb) | (go_at_call 118; apply Calls.mono; apply iMonOk_c; (exact rdw_); rintro E w1 ⟨rfl, hb⟩; obtain ⟨hc, hf, hz⟩ := xy hb) | (go_at_call 121; refine (in_c _ _ _ _).mono ?_; rintro E w' ⟨rfl, rfl⟩))
   go_ret
   exact ⟨ret_b (by rw [He.out, mktGate, ← l5.out]; simp [g5]), ext_⟩
 subst g5
 have hgate : mktGate m = true := by simp [mktGate, hfs, g1, g3, ← l3.out, ← l4.out, ← l5.out, g2]
 obtain ⟨rows, hrows⟩ := Option.isSome_iff_exists.1 hfs
 have hro := Sw.ownFold_ok hrows
 have h8 := Sw.ownOk_len hro
 have hg : (Sw.ownFold m.log).getD [] = rows := by rw [hrows]; rfl
 have e2 := He.out
 rw [hgate, Sw.mktRows_of hrows, Bool.true_and] at e2
 have HE := Lib.hid e2
 have HG := Lib.hid hg
 have H8 := Lib.hid h8
 have HR := Lib.hid hrows
 have HO := Lib.hid hro
 obtain ⟨ck0, ck1⟩ := Sw.inR_iff.1 g3
 clear e2 hg h8 He hgate hrows hro
 go_enter Tryz.func44, Tryz.ntmps44
 go_wp2_with (first | (go_at_call 120; apply Calls.mono; apply iOwnFold_c; (exact rdw_); rintro E w1 ⟨A1, c1, n1, rfl, ho1, hb⟩; rw [HG.out] at ho1; have hst := xr hb; (try simp only [zA, zC, zD] at hst); obtain ⟨hc, hf, hz⟩ := hst; obtain rfl : n1 = 8 := by rw [ho1.1, H8.out]) | (go_at_call 118; apply Calls.mono; apply iMonOk_c; (exact rdw_); rintro E w2 ⟨rfl, hb⟩; obtain ⟨hc, hf, hz⟩ := xy hb) | (go_at_call 121; refine (in_c _ _ _ _).mono ?_; rintro E w' ⟨rfl, rfl⟩))
 have hrr := Ow.rs0 ho1 (w := w2) (by (exact kf_))
 go_loopw [50, 63] (fun i s wr => ∃ (k : Nat) (p : Int), k ≤ aDn ∧ i = .int .i64 k ∧ (k = 0 ∧ s = .tuple #[] ∨ k = 1 ∧ s = .bool false ∨ 2 ≤ k ∧ s = .bool true) ∧ Ex w2 wr ∧ LastAt m.deals k p ∧ Sw.dealsOk m.clock rows (-1) m.deals = Sw.dealsOk m.clock rows p (m.deals.drop k)) (fun i _ _ => aDn - (intOf i).toNat)
 case atStart => exact ⟨0, -1, Nat.zero_le _, rfl, .inl ⟨rfl, rfl⟩, Ch.refl _ _, .inl ⟨rfl, rfl⟩, rfl⟩
 case round =>
   obtain ⟨k, p, hk, rfl, hs, hb2, hp, hrel⟩ := hrel
   have hst := xr hb2
   obtain ⟨hc2, hf2, hz2⟩ := hst
   by_cases hlt : k < aDn
   · obtain ⟨g, off, y, rfl, hg0, hg, hd, hy, q0, q1, q2, q3, q4⟩ := at_D m3 hlt
     rw [hd, dealsOk_cons] at hrel
     have Hrel := Lib.hid hrel
     have Hy := Lib.hid hy
     clear hd hy hrel
     rcases hp with ⟨rfl, rfl⟩ | ⟨j, yj, rfl, hj, rfl, hj0⟩
     · rcases hs with ⟨hz, rfl⟩ | ⟨h, _⟩ | ⟨h, _⟩
       case inr.inl => omega
       case inr.inr => omega
       clear hz
       simp only [Nat.zero_mul, Nat.add_zero] at q0 q1 q2 q3 q4
       cases c1 : Sw.dealOk m.clock rows y
       case false =>
         go_wp2_with fail
         (refine wn_ fun W0 hb0 hc0 hf0 hz0 => ?_; refine wp_region_held_drew (S := fun w' => Held W0 w') (by kernel_rfl) ?_ (fun hHeld => ?_); (focus ((try dsimp only); (exact hq_))); refine rT 0 55 (h := ?_); refine rT 1 56 (h := ?_); refine rT 2 57 (h := ?_); refine wpAnyH_ready (rs := [3]) (by kernel_rfl) (by simp) ?_; refine AllReadyH.cons rfl (fun K hK => ?_) ?_; rotate_left; (focus exact AllReadyH.nil); go_simp; (go_at_call 122; apply Calls.mono; apply iDealOk_c; (exact rdw_); (first | assumption | omega); (first | assumption | omega); rintro E w1 ⟨rfl, hb⟩; obtain ⟨hc, hf, hz⟩ := xy hb); (try go_wp2_with fail); refine hK.out _ _ ?_ (fun hHeld => ?_); (focus ((try dsimp only); (exact hq_))); clear hK K; (try simp only [Act.put, pz_]); refine rT 4 59 (h := ?_); refine rT 5 60 (h := ?_); refine regU 6 61 rfl rfl (by kernel_rfl) (by kernel_rfl) (by kernel_rfl) (fun _ _ _ h => h) (by rfl) (by assumption) ?_; (try simp only [Act.put, pz_]); refine regU 7 62 rfl rfl (by kernel_rfl) (by kernel_rfl) (by kernel_rfl) (fun _ _ _ h => h) (by rfl) (by assumption) ?_; (try simp only [Act.put, pz_]); refine regU 8 63 rfl rfl (by kernel_rfl) (by kernel_rfl) (by kernel_rfl) (fun _ _ _ h => h) (by rfl) (by assumption) ?_; (try simp only [Act.put, pz_]); refine regU 9 64 rfl rfl (by kernel_rfl) (by kernel_rfl) (by kernel_rfl) (fun _ _ _ h => h) (by rfl) (by assumption) ?_; (try simp only [Act.put, pz_]); refine regU 10 65 rfl rfl (by kernel_rfl) (by kernel_rfl) (by kernel_rfl) (fun _ _ _ h => h) (by rfl) (by assumption) ?_; (try simp only [Act.put, pz_]); refine regU 11 66 rfl rfl (by kernel_rfl) (by kernel_rfl) (by kernel_rfl) (fun _ _ _ h => h) (by rfl) (by assumption) ?_; (try simp only [Act.put, pz_]); refine regU 12 67 rfl rfl (by kernel_rfl) (by kernel_rfl) (by kernel_rfl) (fun _ _ _ h => h) (by rfl) (by assumption) ?_; (try simp only [Act.put, pz_]); refine regU 13 68 rfl rfl (by kernel_rfl) (by kernel_rfl) (by kernel_rfl) (fun _ _ _ h => h) (by rfl) (by assumption) ?_; (try simp only [Act.put, pz_]); refine regU 14 69 rfl rfl (by kernel_rfl) (by kernel_rfl) (by kernel_rfl) (fun _ _ _ h => h) (by rfl) (by assumption) ?_; (try simp only [Act.put, pz_]); refine regU 15 70 rfl rfl (by kernel_rfl) (by kernel_rfl) (by kernel_rfl) (fun _ _ _ h => h) (by rfl) (by assumption) ?_; (try simp only [Act.put, pz_]); refine regU 16 71 rfl rfl (by kernel_rfl) (by kernel_rfl) (by kernel_rfl) (fun _ _ _ h => h) (by rfl) (by assumption) ?_; (try simp only [Act.put, pz_]); refine regU 17 72 rfl rfl (by kernel_rfl) (by kernel_rfl) (by kernel_rfl) (fun _ _ _ h => h) (by rfl) (by assumption) ?_; (try simp only [Act.put, pz_]); refine regU 18 73 rfl rfl (by kernel_rfl) (by kernel_rfl) (by kernel_rfl) (fun _ _ _ h => h) (by rfl) (by assumption) ?_; (try simp only [Act.put, pz_]); refine regU 19 74 rfl rfl (by kernel_rfl) (by kernel_rfl) (by kernel_rfl) (fun _ _ _ h => h) (by rfl) (by assumption) ?_; (try simp only [Act.put, pz_]); refine rT 20 75 (h := ?_); refine wpAnyH_done (by kernel_rfl) ?_ _; all_goals (obtain ⟨hb, hc, hf, hz⟩ := xh (by assumption : Held W0 _)))
         all_goals go_wp2
         go_ret
         exact ⟨ret_b (by rw [HE.out, Hrel.out, c1]; simp), ext_⟩
       case true =>
         have yt0 : 0 ≤ y.ticket := (Sw.dealOk_iff.1 c1).1.1
         have Lst : LastAt m.deals (0 + 1) y.ticket := .inr ⟨0, _, rfl, Hy.out, rfl, yt0⟩
         have Lst := Lib.hid Lst
         have Yt := Lib.hid yt0; clear yt0
         go_wp2_with fail
         (refine wn_ fun W0 hb0 hc0 hf0 hz0 => ?_; refine wp_region_held_drew (S := fun w' => Held W0 w') (by kernel_rfl) ?_ (fun hHeld => ?_); (focus ((try dsimp only); (exact hq_))); refine rT 0 55 (h := ?_); refine rT 1 56 (h := ?_); refine rT 2 57 (h := ?_); refine wpAnyH_ready (rs := [3]) (by kernel_rfl) (by simp) ?_; refine AllReadyH.cons rfl (fun K hK => ?_) ?_; rotate_left; (focus exact AllReadyH.nil); go_simp; (go_at_call 122; apply Calls.mono; apply iDealOk_c; (exact rdw_); (first | assumption | omega); (first | assumption | omega); rintro E w1 ⟨rfl, hb⟩; obtain ⟨hc, hf, hz⟩ := xy hb); (try go_wp2_with fail); refine hK.out _ _ ?_ (fun hHeld => ?_); (focus ((try dsimp only); (exact hq_))); clear hK K; (try simp only [Act.put, pz_]); refine rT 4 59 (h := ?_); refine rT 5 60 (h := ?_); refine rT 6 61 (h := ?_); refine rT 7 62 (h := ?_); refine rT 8 63 (h := ?_); refine regU 9 64 rfl rfl (by kernel_rfl) (by kernel_rfl) (by kernel_rfl) (fun _ _ _ h => h) (by rfl) (by assumption) ?_; (try simp only [Act.put, pz_]); refine regU 10 65 rfl rfl (by kernel_rfl) (by kernel_rfl) (by kernel_rfl) (fun _ _ _ h => h) (by rfl) (by assumption) ?_; (try simp only [Act.put, pz_]); refine regU 11 66 rfl rfl (by kernel_rfl) (by kernel_rfl) (by kernel_rfl) (fun _ _ _ h => h) (by rfl) (by assumption) ?_; (try simp only [Act.put, pz_]); refine regU 12 67 rfl rfl (by kernel_rfl) (by kernel_rfl) (by kernel_rfl) (fun _ _ _ h => h) (by rfl) (by assumption) ?_; (try simp only [Act.put, pz_]); refine regU 13 68 rfl rfl (by kernel_rfl) (by kernel_rfl) (by kernel_rfl) (fun _ _ _ h => h) (by rfl) (by assumption) ?_; (try simp only [Act.put, pz_]); refine regU 14 69 rfl rfl (by kernel_rfl) (by kernel_rfl) (by kernel_rfl) (fun _ _ _ h => h) (by rfl) (by assumption) ?_; (try simp only [Act.put, pz_]); refine regU 15 70 rfl rfl (by kernel_rfl) (by kernel_rfl) (by kernel_rfl) (fun _ _ _ h => h) (by rfl) (by assumption) ?_; (try simp only [Act.put, pz_]); refine regU 16 71 rfl rfl (by kernel_rfl) (by kernel_rfl) (by kernel_rfl) (fun _ _ _ h => h) (by rfl) (by assumption) ?_; (try simp only [Act.put, pz_]); refine regU 17 72 rfl rfl (by kernel_rfl) (by kernel_rfl) (by kernel_rfl) (fun _ _ _ h => h) (by rfl) (by assumption) ?_; (try simp only [Act.put, pz_]); refine regU 18 73 rfl rfl (by kernel_rfl) (by kernel_rfl) (by kernel_rfl) (fun _ _ _ h => h) (by rfl) (by assumption) ?_; (try simp only [Act.put, pz_]); refine rT 19 74 (h := ?_); refine rT 20 75 (h := ?_); refine wpAnyH_done (by kernel_rfl) ?_ _; all_goals (obtain ⟨hb, hc, hf, hz⟩ := xh (by assumption : Held W0 _)))
         all_goals go_wp2
         go_roundw
         case rel => exact ⟨0 + 1, y.ticket, by omega, by go_num, .inr (.inl ⟨rfl, by first | rfl | simp⟩), ext_, Lst.out, by have := Yt.out; rw [Hrel.out, c1]; simp; omega⟩
         case measure => simp [intOf]; omega
     · obtain ⟨g', off', yj', hA', _, _, _, hyj', p0, _⟩ := at_D m3 (show j < aDn by omega)
       cases hA'
       obtain rfl : yj' = yj := by rw [hj] at hyj'; exact (Option.some.inj hyj').symm
       clear hj hyj'
       have t1 : ((j : Int) + 1).toNat = j + 1 := by omega
       have t2 : IntKind.i64.wrap ((j : Int) + 1 - 1) = j := by rw [IntWalk.i64_in _ (by omega)]; omega
       have t2' : IntKind.i64.wrap (j : Int) = j := IntWalk.i64_in _ (by omega)
       have t3 : (0 : Int) ≤ (j : Int) + 1 := by omega
       have t4 : (j : Int) + 1 < (aDn : Int) := by omega
       have t5 : (j : Int) < (aDn : Int) := by omega
       have t6 : (0 : Int) < (j : Int) + 1 := by omega
       cases c1 : Sw.dealOk m.clock rows y
       case false =>
         rcases hs with ⟨h, _⟩ | ⟨hz, rfl⟩ | ⟨hz, rfl⟩
         case inl => omega
         all_goals
           clear hz
           go_wp2_with fail
           (refine wn_ fun W0 hb0 hc0 hf0 hz0 => ?_; refine wp_region_held_drew (S := fun w' => Held W0 w') (by kernel_rfl) ?_ (fun hHeld => ?_); (focus ((try dsimp only); (exact hq_))); refine rT 0 55 (h := ?_); refine rT 1 56 (h := ?_); refine rT 2 57 (h := ?_); refine wpAnyH_ready (rs := [3]) (by kernel_rfl) (by simp) ?_; refine AllReadyH.cons rfl (fun K hK => ?_) ?_; rotate_left; (focus exact AllReadyH.nil); go_simp; (go_at_call 122; apply Calls.mono; apply iDealOk_c; (exact rdw_); (first | assumption | omega); (first | assumption | omega); rintro E w1 ⟨rfl, hb⟩; obtain ⟨hc, hf, hz⟩ := xy hb); (try go_wp2_with fail); refine hK.out _ _ ?_ (fun hHeld => ?_); (focus ((try dsimp only); (exact hq_))); clear hK K; (try simp only [Act.put, pz_]); refine rT 4 59 (h := ?_); refine rT 5 60 (h := ?_); refine regU 6 61 rfl rfl (by kernel_rfl) (by kernel_rfl) (by kernel_rfl) (fun _ _ _ h => h) (by rfl) (by assumption) ?_; (try simp only [Act.put, pz_]); refine regU 7 62 rfl rfl (by kernel_rfl) (by kernel_rfl) (by kernel_rfl) (fun _ _ _ h => h) (by rfl) (by assumption) ?_; (try simp only [Act.put, pz_]); refine regU 8 63 rfl rfl (by kernel_rfl) (by kernel_rfl) (by kernel_rfl) (fun _ _ _ h => h) (by rfl) (by assumption) ?_; (try simp only [Act.put, pz_]); refine regU 9 64 rfl rfl (by kernel_rfl) (by kernel_rfl) (by kernel_rfl) (fun _ _ _ h => h) (by rfl) (by assumption) ?_; (try simp only [Act.put, pz_]); refine regU 10 65 rfl rfl (by kernel_rfl) (by kernel_rfl) (by kernel_rfl) (fun _ _ _ h => h) (by rfl) (by assumption) ?_; (try simp only [Act.put, pz_]); refine regU 11 66 rfl rfl (by kernel_rfl) (by kernel_rfl) (by kernel_rfl) (fun _ _ _ h => h) (by rfl) (by assumption) ?_; (try simp only [Act.put, pz_]); refine regU 12 67 rfl rfl (by kernel_rfl) (by kernel_rfl) (by kernel_rfl) (fun _ _ _ h => h) (by rfl) (by assumption) ?_; (try simp only [Act.put, pz_]); refine regU 13 68 rfl rfl (by kernel_rfl) (by kernel_rfl) (by kernel_rfl) (fun _ _ _ h => h) (by rfl) (by assumption) ?_; (try simp only [Act.put, pz_]); refine regU 14 69 rfl rfl (by kernel_rfl) (by kernel_rfl) (by kernel_rfl) (fun _ _ _ h => h) (by rfl) (by assumption) ?_; (try simp only [Act.put, pz_]); refine regU 15 70 rfl rfl (by kernel_rfl) (by kernel_rfl) (by kernel_rfl) (fun _ _ _ h => h) (by rfl) (by assumption) ?_; (try simp only [Act.put, pz_]); refine regU 16 71 rfl rfl (by kernel_rfl) (by kernel_rfl) (by kernel_rfl) (fun _ _ _ h => h) (by rfl) (by assumption) ?_; (try simp only [Act.put, pz_]); refine regU 17 72 rfl rfl (by kernel_rfl) (by kernel_rfl) (by kernel_rfl) (fun _ _ _ h => h) (by rfl) (by assumption) ?_; (try simp only [Act.put, pz_]); refine regU 18 73 rfl rfl (by kernel_rfl) (by kernel_rfl) (by kernel_rfl) (fun _ _ _ h => h) (by rfl) (by assumption) ?_; (try simp only [Act.put, pz_]); refine regU 19 74 rfl rfl (by kernel_rfl) (by kernel_rfl) (by kernel_rfl) (fun _ _ _ h => h) (by rfl) (by assumption) ?_; (try simp only [Act.put, pz_]); refine rT 20 75 (h := ?_); refine wpAnyH_done (by kernel_rfl) ?_ _; all_goals (obtain ⟨hb, hc, hf, hz⟩ := xh (by assumption : Held W0 _)))
           all_goals go_wp2
           go_ret
           exact ⟨ret_b (by rw [HE.out, Hrel.out, c1]; simp), ext_⟩
       case true =>
         have yt0 : 0 ≤ y.ticket := (Sw.dealOk_iff.1 c1).1.1
         have Lst : LastAt m.deals (j + 1 + 1) y.ticket := .inr ⟨j + 1, _, rfl, Hy.out, rfl, yt0⟩
         have Lst := Lib.hid Lst
         clear yt0 hs
         by_cases hle : y.ticket ≤ yj'.ticket
         · have Hle := Lib.hid hle
           go_wp2_with fail
           (refine wn_ fun W0 hb0 hc0 hf0 hz0 => ?_; refine wp_region_held_drew (S := fun w' => Held W0 w') (by kernel_rfl) ?_ (fun hHeld => ?_); (focus ((try dsimp only); (exact hq_))); refine rT 0 55 (h := ?_); refine rT 1 56 (h := ?_); refine rT 2 57 (h := ?_); refine wpAnyH_ready (rs := [3]) (by kernel_rfl) (by simp) ?_; refine AllReadyH.cons rfl (fun K hK => ?_) ?_; rotate_left; (focus exact AllReadyH.nil); go_simp; (go_at_call 122; apply Calls.mono; apply iDealOk_c; (exact rdw_); (first | assumption | omega); (first | assumption | omega); rintro E w1 ⟨rfl, hb⟩; obtain ⟨hc, hf, hz⟩ := xy hb); (try go_wp2_with fail); refine hK.out _ _ ?_ (fun hHeld => ?_); (focus ((try dsimp only); (exact hq_))); clear hK K; (try simp only [Act.put, pz_]); refine rT 4 59 (h := ?_); refine rT 5 60 (h := ?_); refine rT 6 61 (h := ?_); refine rT 7 62 (h := ?_); refine rT 8 63 (h := ?_); refine rT 9 64 (h := ?_); refine rT 10 65 (h := ?_); refine rT 11 66 (h := ?_); refine rT 12 67 (h := ?_); refine rT 13 68 (h := ?_); refine rT 14 69 (h := ?_); refine rT 15 70 (h := ?_); refine rT 16 71 (h := ?_); refine rT 17 72 (h := ?_); refine rT 18 73 (h := ?_); refine rT 19 74 (h := ?_); refine rT 20 75 (h := ?_); refine wpAnyH_done (by kernel_rfl) ?_ _; all_goals (obtain ⟨hb, hc, hf, hz⟩ := xh (by assumption : Held W0 _)))
           all_goals go_wp2
           go_ret
           exact ⟨ret_b (by have := Hle.out; rw [HE.out, Hrel.out, show decide (yj'.ticket < y.ticket) = false from by simp; omega]; simp), ext_⟩
         · have hle' : decide (y.ticket ≤ yj'.ticket) = false := by simp; omega
           have Hle := Lib.hid hle
           go_wp2_with fail
           (refine wn_ fun W0 hb0 hc0 hf0 hz0 => ?_; refine wp_region_held_drew (S := fun w' => Held W0 w') (by kernel_rfl) ?_ (fun hHeld => ?_); (focus ((try dsimp only); (exact hq_))); refine rT 0 55 (h := ?_); refine rT 1 56 (h := ?_); refine rT 2 57 (h := ?_); refine wpAnyH_ready (rs := [3]) (by kernel_rfl) (by simp) ?_; refine AllReadyH.cons rfl (fun K hK => ?_) ?_; rotate_left; (focus exact AllReadyH.nil); go_simp; (go_at_call 122; apply Calls.mono; apply iDealOk_c; (exact rdw_); (first | assumption | omega); (first | assumption | omega); rintro E w1 ⟨rfl, hb⟩; obtain ⟨hc, hf, hz⟩ := xy hb); (try go_wp2_with fail); refine hK.out _ _ ?_ (fun hHeld => ?_); (focus ((try dsimp only); (exact hq_))); clear hK K; (try simp only [Act.put, pz_]); refine rT 4 59 (h := ?_); refine rT 5 60 (h := ?_); refine rT 6 61 (h := ?_); refine rT 7 62 (h := ?_); refine rT 8 63 (h := ?_); refine rT 9 64 (h := ?_); refine rT 10 65 (h := ?_); refine rT 11 66 (h := ?_); refine rT 12 67 (h := ?_); refine rT 13 68 (h := ?_); refine rT 14 69 (h := ?_); refine rT 15 70 (h := ?_); refine rT 16 71 (h := ?_); refine rT 17 72 (h := ?_); refine rT 18 73 (h := ?_); refine rT 19 74 (h := ?_); refine rT 20 75 (h := ?_); refine wpAnyH_done (by kernel_rfl) ?_ _; all_goals (obtain ⟨hb, hc, hf, hz⟩ := xh (by assumption : Held W0 _)))
           all_goals go_wp2
           go_roundw
           case rel => exact ⟨j + 1 + 1, y.ticket, by omega, by go_num, .inr (.inr ⟨by omega, by first | rfl | (simp; done) | (simp; omega)⟩), ext_, Lst.out, by have := Hle.out; rw [Hrel.out, c1]; simp; omega⟩
           case measure => simp [intOf]; omega
   · rw [List.drop_of_length_le (by have := l3.out; omega)] at hrel
     have hdk : Sw.DOk m.clock rows m.deals := Sw.dealsOk_iff'.1 hrel
     have hS := Sw.monSum_bd g1
     have hH := Sw.heldSum_bd hdk.1
     rw [← Sw.heldOf_eq hdk (by have := l3.out; omega), ← l3.out] at hH
     have hsum : IntKind.i64.wrap (Sw.monSum m.purses + Sw.mktHeld m) = Sw.monSum m.purses + Sw.mktHeld m := by
       rw [IntWalk.i64_in _ (by unfold Sw.mktHeld; omega)]
     have Hsum := Lib.hid hsum
     have Hrel := Lib.hid hrel; clear hrel hp hdk hS hH hsum
     go_wp2_with fail
     go_loopw [80] (fun i wx => ∃ (k : Nat), k ≤ 5 ∧ i = .int .i64 k ∧ Ex w2 wx ∧ Sw.numsOk m.nums m.said = Sw.numsOk (m.nums.drop k) (m.said.drop k)) (fun i _ => 5 - (intOf i).toNat)
     case atStart => exact ⟨0, Nat.zero_le _, rfl, ext_, rfl⟩
     case round =>
       obtain ⟨k', hk', rfl, hb3, hrel⟩ := hrel
       have hst := xr hb3
       obtain ⟨hc3, hf3, hz3⟩ := hst
       by_cases hlt' : k' < 5
       · obtain ⟨gn, offn, a, rfl, hgn0, hgn, hdn, hyn, hcn⟩ := at_I m4 hlt'
         obtain ⟨gs, offs, b, rfl, hgs0, hgs, hds, hys, hcs⟩ := at_I m5 hlt'
         rw [numsOk_at hdn hds] at hrel
         have HN := Lib.hid hrel
         clear hdn hyn hds hys hrel
         cases c1 : Sw.inR a 0 99999
         case false =>
           go_wp2_with (first | (go_at_call 121; refine (in_c _ _ _ _).mono ?_; rintro E w' ⟨rfl, rfl⟩))
           go_ret
           exact ⟨ret_b (by rw [HE.out, HN.out, Sw.numOk, c1]; simp), ext_⟩
         cases c2 : Sw.inR b 0 6
         case false =>
           go_wp2_with (first | (go_at_call 121; refine (in_c _ _ _ _).mono ?_; rintro E w' ⟨rfl, rfl⟩))
           go_ret
           exact ⟨ret_b (by rw [HE.out, HN.out, Sw.numOk, c2]; simp), ext_⟩
         cases c3 : (a == 0)
         all_goals cases c4 : (b == 0)
         all_goals
           go_wp2_with (first | (go_at_call 121; refine (in_c _ _ _ _).mono ?_; rintro E w' ⟨rfl, rfl⟩))
           first
             | exact ⟨⟨k' + 1, by omega, by go_num, ext_, by rw [HN.out, Sw.numOk, c1, c2, ← beqI, ← beqI, c3, c4]; simp⟩, by simp [intOf]; omega⟩ | (go_ret; exact ⟨ret_b (by rw [HE.out, HN.out, Sw.numOk, ← beqI, ← beqI, c3, c4]; simp), ext_⟩)
       · have HN := Lib.hid hrel; clear hrel
         go_wp2_with fail
         (refine wn_ fun W0 hb0 hc0 hf0 hz0 => ?_; go_region_held3 (fun w' => Held W0 w') ((exact hq_)) ((first | (go_at_call 37; apply Calls.mono; apply iMonSum_c; (exact rdw_); rintro E w' ⟨rfl, rfl⟩) | (go_at_call 38; apply Calls.mono; apply iMktHeld_c; (exact rdM_); rintro E w1 ⟨rfl, hb⟩; obtain ⟨hc, hf, hz⟩ := xy hb))); all_goals (obtain ⟨hb, hc, hf, hz⟩ := xh (by assumption : Held W0 _)))
         go_wp2
         go_ret
         refine ⟨ret_b ?_, ext_⟩
         rw [HE.out, HN.out, Hrel.out, List.drop_of_length_le (by have := l4.out; omega), Hsum.out]
         simp [Sw.dealsOk, Sw.numsOk]
end Go.Proofs.YtnnoiagommiapaaGreat
