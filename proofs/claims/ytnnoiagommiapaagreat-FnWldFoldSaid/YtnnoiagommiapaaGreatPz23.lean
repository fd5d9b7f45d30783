/- Texts joined: ImpM. -/
import Derived.Test.YtnnoiagommiapaaGreatPz19
import Derived.Test.YtnnoiagommiapaaGreatPz17
set_option maxRecDepth 100000
set_option linter.unusedSimpArgs false
set_option linter.unusedVariables false
namespace Go.Proofs.YtnnoiagommiapaaGreat
open Go.RowKit Go
set_option maxHeartbeats 2000000
theorem iCloneEntries_c (A : Option Addr) (c n : Nat) (xs : List Sw.Ent) (w : World) (hxs : RE w 0 A c n xs) (hn : n ≤ 4194304) : Calls Tryz.prog 184 #[.slice A n c] w fun E w' => ∃ A' c', E = .returned (.slice A' n c') ∧ OwE w' w.heap.size A' c' n xs ∧ Ex w w' := by
 go_enter Tryz.func184, Tryz.ntmps184
 go_wp2_with (at_builtin; apply wpList_app (lo := w.heap.size) el_E one_E rfl rfl rfl rfl; (first | assumption | exact Ow.nil _ _ | (apply Ow.keep; assumption; exact kf_) | (refine own_)); (first | (exact rd_)); omega; exact sz_; intro A1 c1 w2 ho1 hch1 hat1 hex1 hlow1; have hb := hex1 (fun _ => False) w (by exact ext_) (by exact sz_); have hz := hch1.size; (try simp only [zq_] at hz); obtain ⟨hc, hf⟩ := low_rules hlow1; clear hlow1 hex1)
 go_ret
 rw [Nat.zero_add, List.nil_append] at ho1
 exact ⟨A1, c1, rfl, ho1, ext_⟩
theorem iMktClone_c (aL : Option Addr) (aLc aLn : Nat) (aP : Option Addr) (aPc aPn : Nat) (aD : Option Addr) (aDc aDn : Nat) (aN : Option Addr) (aNc aNn : Nat) (aS : Option Addr) (aSc aSn : Nat) (m : Sw.Mkt) (w : World) (hm : RM w 0 aL aLc aLn aP aPc aPn aD aDc aDn aN aNc aNn aS aSc aSn m) (hn : aLn + aPn + aDn + aNn + aSn ≤ 1048576) : Calls Tryz.prog 111 #[.agg #[.slice aL aLn aLc, .slice aP aPn aPc, .slice aD aDn aDc, .int .i64 m.clock, .slice aN aNn aNc, .slice aS aSn aSc]] w fun E w' => ∃ bL bLc bLn bP bPc bPn bD bDc bDn bN bNc bNn bS bSc bSn τ, E = .returned (.agg #[.slice bL bLn bLc, .slice bP bPn bPc, .slice bD bDn bDc, .int .i64 m.clock, .slice bN bNn bNc, .slice bS bSn bSc]) ∧ OwM τ w' w.heap.size bL bLc bLn bP bPc bPn bD bDc bDn bN bNc bNn bS bSc bSn m ∧ Ex w w' := by
 obtain ⟨m1, m2, m3, m4, m5⟩ := hm
 go_enter Tryz.func111, Tryz.ntmps111
 go_wp2_with fail
 (refine wn_ fun W0 hb0 hc0 hf0 hz0 => ?_; have hLb : Lb W0 (w.heap.size + 1) 6 := Lb.ex (by exact lbc_) hb0; refine wp_region_held_drew (S := fun w' => HeldB (w.heap.size + 1) 6 W0 w') (by kernel_rfl) ?_ (fun hHeld => ?_); (focus ((try dsimp only); (exact hqb_))); refine rT 0 3 (h := ?_); refine rT 1 4 (h := ?_); refine rT 3 6 (h := ?_); refine rT 4 7 (h := ?_); refine rT 6 9 (h := ?_); refine rT 7 10 (h := ?_); refine rT 9 12 (h := ?_); refine rT 10 13 (h := ?_); refine rT 11 14 (h := ?_); refine rT 12 15 (h := ?_); refine rT 14 17 (h := ?_); refine rT 15 18 (h := ?_); refine wpAnyH_ready (rs := [2]) (by kernel_rfl) (by simp) ?_; refine AllReadyH.cons rfl (fun K hK => ?_) ?_; rotate_left; (focus exact AllReadyH.nil); go_simp; (first | (go_at_call 184; apply Calls.mono; apply iCloneEntries_c; (apply Rs.at0 m1; (exact kf_)); (first | assumption | omega); rintro E wL ⟨AL, cL, rfl, hoL, hb⟩; obtain ⟨hc, hf, hz⟩ := xy hb) | (go_at_call 119; apply Calls.mono; apply iCloneInts_c; (apply Rs.at0 m2; (exact kf_)); (first | assumption | omega); rintro E wP ⟨AP, cP, rfl, hoP, hb⟩; obtain ⟨hc, hf, hz⟩ := xy hb) | (apply step_app el_D one_D rfl rfl rfl rfl; (first | apply Ow.nil | refine Ow.new [] (by (first | rfl | (simp only [zq_]; done) | omega)) rfl rfl (fun _ => rfl) (Nat.le_refl _) (by omega)); (apply Rs.at0 m3; exact kf_); omega; (first | exact Nat.le_refl _ | exact sz_); intro AD cD wD hoD hchD hatD hexD hlowD; have hbx := hexD (· = (w.heap.size + 1)) W0 (HeldB.ch (by assumption : HeldB (w.heap.size + 1) 6 W0 _)) (by exact sz_); have hlbx := Lb.low hlowD (by have := hLb.lt; exact sz_) (HeldB.lb (by assumption : HeldB (w.heap.size + 1) 6 W0 _)); have hzD := hchD.size; have HLD := Lib.hid (And.intro hzD hlowD); (try simp only [zq_] at hzD); clear hexD hlowD hatD) | (go_at_call 119; apply Calls.mono; apply iCloneInts_c; (apply Rs.at0 m4; (exact kf_)); (first | assumption | omega); rintro E wN ⟨AN, cN, rfl, hoN, hb⟩; obtain ⟨hc, hf, hz⟩ := xy hb) | (go_at_call 119; apply Calls.mono; apply iCloneInts_c; (apply Rs.at0 m5; (exact kf_)); (first | assumption | omega); rintro E wS ⟨AS, cS, rfl, hoS, hb⟩; obtain ⟨hc, hf, hz⟩ := xy hb)); (try go_wp2_with fail); refine hK.out _ _ ?_ (fun hHeld => ?_); (focus ((try dsimp only); (exact hqb_))); clear hK K; (try simp only [Act.put, pz_]); refine wpAnyH_ready (rs := [5]) (by kernel_rfl) (by simp) ?_; refine AllReadyH.cons rfl (fun K hK => ?_) ?_; rotate_left; (focus exact AllReadyH.nil); go_simp; (first | (go_at_call 184; apply Calls.mono; apply iCloneEntries_c; (apply Rs.at0 m1; (exact kf_)); (first | assumption | omega); rintro E wL ⟨AL, cL, rfl, hoL, hb⟩; obtain ⟨hc, hf, hz⟩ := xy hb) | (go_at_call 119; apply Calls.mono; apply iCloneInts_c; (apply Rs.at0 m2; (exact kf_)); (first | assumption | omega); rintro E wP ⟨AP, cP, rfl, hoP, hb⟩; obtain ⟨hc, hf, hz⟩ := xy hb) | (apply step_app el_D one_D rfl rfl rfl rfl; (first | apply Ow.nil | refine Ow.new [] (by (first | rfl | (simp only [zq_]; done) | omega)) rfl rfl (fun _ => rfl) (Nat.le_refl _) (by omega)); (apply Rs.at0 m3; exact kf_); omega; (first | exact Nat.le_refl _ | exact sz_); intro AD cD wD hoD hchD hatD hexD hlowD; have hbx := hexD (· = (w.heap.size + 1)) W0 (HeldB.ch (by assumption : HeldB (w.heap.size + 1) 6 W0 _)) (by exact sz_); have hlbx := Lb.low hlowD (by have := hLb.lt; exact sz_) (HeldB.lb (by assumption : HeldB (w.heap.size + 1) 6 W0 _)); have hzD := hchD.size; have HLD := Lib.hid (And.intro hzD hlowD); (try simp only [zq_] at hzD); clear hexD hlowD hatD) | (go_at_call 119; apply Calls.mono; apply iCloneInts_c; (apply Rs.at0 m4; (exact kf_)); (first | assumption | omega); rintro E wN ⟨AN, cN, rfl, hoN, hb⟩; obtain ⟨hc, hf, hz⟩ := xy hb) | (go_at_call 119; apply Calls.mono; apply iCloneInts_c; (apply Rs.at0 m5; (exact kf_)); (first | assumption | omega); rintro E wS ⟨AS, cS, rfl, hoS, hb⟩; obtain ⟨hc, hf, hz⟩ := xy hb)); (try go_wp2_with fail); refine hK.out _ _ ?_ (fun hHeld => ?_); (focus ((try dsimp only); (exact hqb_))); clear hK K; (try simp only [Act.put, pz_]); refine wpAnyH_ready (rs := [8]) (by kernel_rfl) (by simp) ?_; refine AllReadyH.cons rfl (fun K hK => ?_) ?_; rotate_left; (focus exact AllReadyH.nil); (first | (go_at_call 184; apply Calls.mono; apply iCloneEntries_c; (apply Rs.at0 m1; (exact kf_)); (first | assumption | omega); rintro E wL ⟨AL, cL, rfl, hoL, hb⟩; obtain ⟨hc, hf, hz⟩ := xy hb) | (go_at_call 119; apply Calls.mono; apply iCloneInts_c; (apply Rs.at0 m2; (exact kf_)); (first | assumption | omega); rintro E wP ⟨AP, cP, rfl, hoP, hb⟩; obtain ⟨hc, hf, hz⟩ := xy hb) | (apply step_app el_D one_D rfl rfl rfl rfl; (first | apply Ow.nil | refine Ow.new [] (by (first | rfl | (simp only [zq_]; done) | omega)) rfl rfl (fun _ => rfl) (Nat.le_refl _) (by omega)); (apply Rs.at0 m3; exact kf_); omega; (first | exact Nat.le_refl _ | exact sz_); intro AD cD wD hoD hchD hatD hexD hlowD; have hbx := hexD (· = (w.heap.size + 1)) W0 (HeldB.ch (by assumption : HeldB (w.heap.size + 1) 6 W0 _)) (by exact sz_); have hlbx := Lb.low hlowD (by have := hLb.lt; exact sz_) (HeldB.lb (by assumption : HeldB (w.heap.size + 1) 6 W0 _)); have hzD := hchD.size; have HLD := Lib.hid (And.intro hzD hlowD); (try simp only [zq_] at hzD); clear hexD hlowD hatD) | (go_at_call 119; apply Calls.mono; apply iCloneInts_c; (apply Rs.at0 m4; (exact kf_)); (first | assumption | omega); rintro E wN ⟨AN, cN, rfl, hoN, hb⟩; obtain ⟨hc, hf, hz⟩ := xy hb) | (go_at_call 119; apply Calls.mono; apply iCloneInts_c; (apply Rs.at0 m5; (exact kf_)); (first | assumption | omega); rintro E wS ⟨AS, cS, rfl, hoS, hb⟩; obtain ⟨hc, hf, hz⟩ := xy hb)); (try simp only [Act.put, pz_]); refine hK.out _ _ ?_ (fun hHeld => ?_); (focus ((try dsimp only); (exact hqb_))); clear hK K; (try simp only [Act.put, pz_]); refine wpAnyH_ready (rs := [13]) (by kernel_rfl) (by simp) ?_; refine AllReadyH.cons rfl (fun K hK => ?_) ?_; rotate_left; (focus exact AllReadyH.nil); go_simp; (first | (go_at_call 184; apply Calls.mono; apply iCloneEntries_c; (apply Rs.at0 m1; (exact kf_)); (first | assumption | omega); rintro E wL ⟨AL, cL, rfl, hoL, hb⟩; obtain ⟨hc, hf, hz⟩ := xy hb) | (go_at_call 119; apply Calls.mono; apply iCloneInts_c; (apply Rs.at0 m2; (exact kf_)); (first | assumption | omega); rintro E wP ⟨AP, cP, rfl, hoP, hb⟩; obtain ⟨hc, hf, hz⟩ := xy hb) | (apply step_app el_D one_D rfl rfl rfl rfl; (first | apply Ow.nil | refine Ow.new [] (by (first | rfl | (simp only [zq_]; done) | omega)) rfl rfl (fun _ => rfl) (Nat.le_refl _) (by omega)); (apply Rs.at0 m3; exact kf_); omega; (first | exact Nat.le_refl _ | exact sz_); intro AD cD wD hoD hchD hatD hexD hlowD; have hbx := hexD (· = (w.heap.size + 1)) W0 (HeldB.ch (by assumption : HeldB (w.heap.size + 1) 6 W0 _)) (by exact sz_); have hlbx := Lb.low hlowD (by have := hLb.lt; exact sz_) (HeldB.lb (by assumption : HeldB (w.heap.size + 1) 6 W0 _)); have hzD := hchD.size; have HLD := Lib.hid (And.intro hzD hlowD); (try simp only [zq_] at hzD); clear hexD hlowD hatD) | (go_at_call 119; apply Calls.mono; apply iCloneInts_c; (apply Rs.at0 m4; (exact kf_)); (first | assumption | omega); rintro E wN ⟨AN, cN, rfl, hoN, hb⟩; obtain ⟨hc, hf, hz⟩ := xy hb) | (go_at_call 119; apply Calls.mono; apply iCloneInts_c; (apply Rs.at0 m5; (exact kf_)); (first | assumption | omega); rintro E wS ⟨AS, cS, rfl, hoS, hb⟩; obtain ⟨hc, hf, hz⟩ := xy hb)); (try go_wp2_with fail); refine hK.out _ _ ?_ (fun hHeld => ?_); (focus ((try dsimp only); (exact hqb_))); clear hK K; (try simp only [Act.put, pz_]); refine wpAnyH_ready (rs := [16]) (by kernel_rfl) (by simp) ?_; refine AllReadyH.cons rfl (fun K hK => ?_) ?_; rotate_left; (focus exact AllReadyH.nil); go_simp; (first | (go_at_call 184; apply Calls.mono; apply iCloneEntries_c; (apply Rs.at0 m1; (exact kf_)); (first | assumption | omega); rintro E wL ⟨AL, cL, rfl, hoL, hb⟩; obtain ⟨hc, hf, hz⟩ := xy hb) | (go_at_call 119; apply Calls.mono; apply iCloneInts_c; (apply Rs.at0 m2; (exact kf_)); (first | assumption | omega); rintro E wP ⟨AP, cP, rfl, hoP, hb⟩; obtain ⟨hc, hf, hz⟩ := xy hb) | (apply step_app el_D one_D rfl rfl rfl rfl; (first | apply Ow.nil | refine Ow.new [] (by (first | rfl | (simp only [zq_]; done) | omega)) rfl rfl (fun _ => rfl) (Nat.le_refl _) (by omega)); (apply Rs.at0 m3; exact kf_); omega; (first | exact Nat.le_refl _ | exact sz_); intro AD cD wD hoD hchD hatD hexD hlowD; have hbx := hexD (· = (w.heap.size + 1)) W0 (HeldB.ch (by assumption : HeldB (w.heap.size + 1) 6 W0 _)) (by exact sz_); have hlbx := Lb.low hlowD (by have := hLb.lt; exact sz_) (HeldB.lb (by assumption : HeldB (w.heap.size + 1) 6 W0 _)); have hzD := hchD.size; have HLD := Lib.hid (And.intro hzD hlowD); (try simp only [zq_] at hzD); clear hexD hlowD hatD) | (go_at_call 119; apply Calls.mono; apply iCloneInts_c; (apply Rs.at0 m4; (exact kf_)); (first | assumption | omega); rintro E wN ⟨AN, cN, rfl, hoN, hb⟩; obtain ⟨hc, hf, hz⟩ := xy hb) | (go_at_call 119; apply Calls.mono; apply iCloneInts_c; (apply Rs.at0 m5; (exact kf_)); (first | assumption | omega); rintro E wS ⟨AS, cS, rfl, hoS, hb⟩; obtain ⟨hc, hf, hz⟩ := xy hb)); (try go_wp2_with fail); refine hK.out _ _ ?_ (fun hHeld => ?_); (focus ((try dsimp only); (exact hqb_))); clear hK K; (try simp only [Act.put, pz_]); refine rT 17 20 (h := ?_); refine wpAnyH_ready (rs := [18]) (by kernel_rfl) (by simp) ?_; refine AllReadyH.cons rfl (fun K hK => ?_) ?_; rotate_left; (focus exact AllReadyH.nil); have hb := HeldB.ch hHeld; obtain ⟨hc, hf, hz⟩ := xd hb; have hLbx := HeldB.lb hHeld; obtain ⟨hcx, hfx⟩ := Lb.rules hLbx; go_simp; refine hK.out _ _ ?_ (fun hHx => ?_); (focus ((try dsimp only); (exact hqb_))); clear hK K hHeld hcx hfx hLbx; have hLb3 := HeldB.lb hHx; (repeat (first | with_reducible replace hLb3 := Lb.unset hLb3 | with_reducible replace hLb3 := Lb.undrew hLb3)); obtain ⟨hcb, hfb⟩ := Lb.rules hLb3; have hbf := HeldB.ch hHx; clear hHx; (try simp only [Act.put, pz_]); refine wpAnyH_done (by kernel_rfl) ?_ _)
 go_wp2
 simp only [Nat.zero_add, List.nil_append] at hoD
 refine bodyPost_ret (v := .agg #[.slice AL aLn cL, .slice AP aPn cP, .slice AD aDn cD, .int .i64 m.clock, .slice AN aNn cN, .slice AS aSn cS]) (by simp [results, Tryz.results111, go_sem, *]) rfl ?_
 refine ⟨_, _, _, _, _, _, _, _, _, _, _, _, _, _, _, glue (fun _ => 1) wL.heap.size (glue (fun _ => 2) wP.heap.size (glue (fun _ => 3) wD.heap.size (glue (fun _ => 4) wN.heap.size (fun _ => 5)))), rfl, ?_, ext_⟩
 refine OwM.build hoL hoP hoD hoN hoS ?_ ?_ ?_ ?_ ?_ ?_ ?_ ?_ ?_ ?_ ?_ ?_ ?_ ?_
 all_goals first | exact sz_ | (repeat (first | (with_reducible exact kR _ _) | (with_reducible apply kA) | (with_reducible apply kD) | (with_reducible apply kN) | (with_reducible refine kS ?_ (by first | omega | (simp only [zq_]; omega))) | (with_reducible (apply kE; assumption)) | (refine kL HLD.out ?_ (by exact sz_))))
def SG (g lo : Nat) (τ : Nat → Nat) : Nat → Prop := fun b => b = g ∨ SM lo τ b
theorem iTickEnd_c (g o : Nat) (aL : Option Addr) (aLc aLn : Nat) (aP : Option Addr) (aPc aPn : Nat) (aD : Option Addr) (aDc aDn : Nat) (aN : Option Addr) (aNc aNn : Nat) (aS : Option Addr) (aSc aSn : Nat) (t : Int) (w : World) (hA : MktAt w g o aL aLc aLn aP aPc aPn aD aDc aDn aN aNc aNn aS aSc aSn t) (ht : t = 99999) : Calls Tryz.prog 108 #[.pointer (some ⟨g, o, none⟩)] w fun E w' => E = .returned (.bool false) ∧ Ex w w' := by
 subst ht
 obtain ⟨k0, k1, k2, k3, k4, k5, k6, kf⟩ := hA
 go_enter Tryz.func108, Tryz.ntmps108
 go_wp2_with fail
 go_ret
 exact ⟨rfl, ext_⟩
theorem iTick_c (g o n : Nat) (aL : Option Addr) (aLc aLn : Nat) (aP : Option Addr) (aPc aPn : Nat) (aD : Option Addr) (aDc aDn : Nat) (aN : Option Addr) (aNc aNn : Nat) (aS : Option Addr) (aSc aSn : Nat) (m : Sw.Mkt) (lo : Nat) (τ : Nat → Nat) (w : World) (hA : MktAt w g o aL aLc aLn aP aPc aPn aD aDc aDn aN aNc aNn aS aSc aSn m.clock) (hL : Lb w g n) (hM : OwM τ w lo aL aLc aLn aP aPc aPn aD aDc aDn aN aNc aNn aS aSc aSn m) (hg : τ g = 0) (hck0 : 0 ≤ m.clock) (hck1 : m.clock < 99999) (hn : aDn ≤ 4194304) (hp : aPn ≤ 4194304) (hlo : lo ≤ w.heap.size) : Calls Tryz.prog 108 #[.pointer (some ⟨g, o, none⟩)] w fun E w' => ∃ A c, ∃ τ' : Nat → Nat, E = .returned (.bool true) ∧ MktAt w' g o aL aLc aLn A c aPn aD aDc aDn aN aNc aNn aS aSc aSn (m.clock + 1) ∧ Lb w' g n ∧ OwM τ' w' lo aL aLc aLn A c aPn aD aDc aDn aN aNc aNn aS aSc aSn (Sw.tick m) ∧ (∀ b, b < w.heap.size → τ' b = τ b) ∧ (∀ i, i < o ∨ o + 6 ≤ i → w'.cell? ⟨g, i, none⟩ = w.cell? ⟨g, i, none⟩) ∧ Ch (SG g lo τ) w w' := by
 have l3 := Lib.hid hM.deals.ow.1
 have hgl := hA.lt
 have hck9 : (m.clock == 99999) = false := by rw [beq_eq_false_iff_ne]; omega
 obtain ⟨k0, k1, k2, k3, k4, k5, k6, kf⟩ := hA
 have hA : MktAt w g o aL aLc aLn aP aPc aPn aD aDc aDn aN aNc aNn aS aSc aSn m.clock := ⟨k0, k1, k2, k3, k4, k5, k6, kf⟩
 go_enter Tryz.func108, Tryz.ntmps108
 go_wp2_with fail
 go_loopw [22] (fun i wr => ∃ (k : Nat) (B : Option Addr) (d : Nat) (τr : Nat → Nat), k ≤ aDn ∧ i = .int .i64 k ∧ Ch (SG g lo τ) w wr ∧ (∀ b, b < w.heap.size → τr b = τ b) ∧
   MktAt wr g o aL aLc aLn B d aPn aD aDc aDn aN aNc aNn aS aSc aSn (m.clock + 1) ∧ w.heap.size ≤ wr.heap.size ∧ Lb wr g n ∧ (∀ i, i < o ∨ o + 6 ≤ i → wr.cell? ⟨g, i, none⟩ = w.cell? ⟨g, i, none⟩) ∧
   OwM τr wr lo aL aLc aLn B d aPn aD aDc aDn aN aNc aNn aS aSc aSn (ticked m k)) (fun i _ => aDn - (intOf i).toNat)
 case atStart =>
   have hgx : SG g lo τ g ∨ w.heap.size ≤ g := Or.inl (Or.inl rfl)
   refine ⟨0, aP, aPc, τ, Nat.zero_le _, rfl, (by (with_reducible repeat (first | exact cR _ _ | apply cA | apply cD | apply cN | (refine cS ?_ (Or.inr (by first | omega | (simp only [zq_]; omega))) _) | (refine cS ?_ hgx _) | (apply cE; assumption) | (apply cK; assumption)))), fun _ _ => rfl, hA.setK _, by exact sz_, (by exact lbc_), ?_, ?_⟩
   · intro i hi
     exact World.cell?_setCell_other _ _ _ _ (fun e => by injection e; omega)
   · refine OwM.keep (m := ticked m 0) (OwM.clocked hM _) fun t h1 h5 => ?_
     have hnt : τ g ≠ t := by rw [hg]; omega
     (with_reducible repeat (first | exact tR _ _ _ _ | apply tA | apply tD | apply tN | (apply tE; assumption) | (refine tS ?_ (by first | exact Or.inl (by first | omega | (simp only [zq_]; omega)) | exact Or.inr (by rw [hnt]; decide) | exact Or.inr hnt))))
 case round =>
   obtain ⟨k, B, d, τr, hk, rfl, hb2, hτ, hmk, hsz, hLr, hout, ho⟩ := hrel
   clear hA hM k0 k1 k2 k3 k4 k5 k6 kf
   obtain ⟨k0, k1, k2, k3, k4, k5, k6, kf⟩ := hmk
   have hmk : MktAt wr g o aL aLc aLn B d aPn aD aDc aDn aN aNc aNn aS aSc aSn (m.clock + 1) := ⟨k0, k1, k2, k3, k4, k5, k6, kf⟩
   have Hτ := Lib.hid hτ
   have Hout := Lib.hid hout
   clear hτ hout
   have h0 : τr g = 0 := (Hτ.out g hgl).trans hg
   by_cases hlt : k < aDn
   · obtain ⟨y, hy⟩ : ∃ y, m.deals[k]? = some y := ⟨_, List.getElem?_eq_getElem (by have := l3.out; omega)⟩
     have hyb := backs_at (clock := m.clock + 1) hy
     obtain ⟨gD, x, hAD, hloD, hltD, hx, q0, q1, q2, q3, q4, hfz⟩ := at_OD ho.deals.ow hlt
     obtain rfl : x = y := by rw [show (ticked m k).deals = backs (m.clock + 1) m.deals k from rfl, hyb] at hx; exact (Option.some.inj hx).symm
     subst hAD
     have HX := Lib.hid hx
     have HY := Lib.hid hy
     clear hx hy hyb
     have tD : τr gD = 3 := ho.deals.tag _ rfl
     have hne : gD ≠ g := by rintro rfl; rw [h0] at tD; cases tD
     by_cases hh : 0 < x.buyer ∧ x.due < m.clock + 1
     case neg =>
       have e : ticked m (k + 1) = ticked m k := by
         unfold ticked
         rw [pursesTo_step HY.out, backp_n hh, backs_same HY.out (back_n hh)]
       have He := Lib.hid e; clear e
       by_cases hb1 : 0 < x.buyer
       · have hdu : ¬ x.due < m.clock + 1 := fun h => hh ⟨hb1, h⟩
         have hd : Sw.held x = true := by simp [Sw.held, hb1]
         clear hh
         go_wp2_with fail
         (refine wn_ fun W0 hb0 hc0 hf0 hz0 => ?_; refine wp_region_held_drew (S := fun w' => Held W0 w') (by kernel_rfl) ?_ (fun hHeld => ?_); (focus ((try dsimp only); (exact hq_))); refine rT 0 27 (h := ?_); refine wpAnyH_ready (rs := [1]) (by kernel_rfl) (by simp) ?_; refine AllReadyH.cons rfl (fun K hK => ?_) ?_; rotate_left; (focus exact AllReadyH.nil); go_simp; (go_at_call 106; apply Calls.mono; apply (iHeld_c x); rintro E w1 ⟨rfl, hb⟩; rw [hd]; obtain ⟨hc, hf, hz⟩ := xy hb); (try go_wp2_with fail); refine hK.out _ _ ?_ (fun hHeld => ?_); (focus ((try dsimp only); (exact hq_))); clear hK K; (try simp only [Act.put, pz_]); refine rT 2 29 (h := ?_); refine rT 3 30 (h := ?_); refine rT 4 31 (h := ?_); refine rT 5 32 (h := ?_); refine rT 6 33 (h := ?_); refine rT 7 34 (h := ?_); refine rT 8 35 (h := ?_); refine rT 9 36 (h := ?_); refine rT 10 37 (h := ?_); refine wpAnyH_done (by kernel_rfl) ?_ _; all_goals (obtain ⟨hb, hc, hf, hz⟩ := xh (by assumption : Held W0 _)))
         all_goals go_wp2
         go_roundw
         case rel =>
           exact ⟨k + 1, B, d, τr, by omega, by go_num, (by (exact ext_)), Hτ.out, hmk.keep (by (exact kf_)), by exact sz_, (by exact lbc_), fun i hi => (World.cell?_of_block (w := wr) (a := ⟨g, i, none⟩) (show w1.heap[g]? = wr.heap[g]? from (by exact (KF.block (by (exact kf_) : KF 0 wr w1) g (Nat.zero_le _) (by omega))))).trans (Hout.out i hi), by rw [He.out]; exact ho.keepF (by (exact kf_))⟩
         case measure => simp [intOf]; omega
       · have hd : Sw.held x = false := by simp [Sw.held]; omega
         clear hh
         go_wp2_with fail
         (refine wn_ fun W0 hb0 hc0 hf0 hz0 => ?_; refine wp_region_held_drew (S := fun w' => Held W0 w') (by kernel_rfl) ?_ (fun hHeld => ?_); (focus ((try dsimp only); (exact hq_))); refine rT 0 27 (h := ?_); refine wpAnyH_ready (rs := [1]) (by kernel_rfl) (by simp) ?_; refine AllReadyH.cons rfl (fun K hK => ?_) ?_; rotate_left; (focus exact AllReadyH.nil); go_simp; (go_at_call 106; apply Calls.mono; apply (iHeld_c x); rintro E w1 ⟨rfl, hb⟩; rw [hd]; obtain ⟨hc, hf, hz⟩ := xy hb); (try go_wp2_with fail); refine hK.out _ _ ?_ (fun hHeld => ?_); (focus ((try dsimp only); (exact hq_))); clear hK K; (try simp only [Act.put, pz_]); refine rT 2 29 (h := ?_); refine regU 3 30 rfl rfl (by kernel_rfl) (by kernel_rfl) (by kernel_rfl) (fun _ _ _ h => h) (by rfl) (by assumption) ?_; (try simp only [Act.put, pz_]); refine regU 4 31 rfl rfl (by kernel_rfl) (by kernel_rfl) (by kernel_rfl) (fun _ _ _ h => h) (by rfl) (by assumption) ?_; (try simp only [Act.put, pz_]); refine regU 5 32 rfl rfl (by kernel_rfl) (by kernel_rfl) (by kernel_rfl) (fun _ _ _ h => h) (by rfl) (by assumption) ?_; (try simp only [Act.put, pz_]); refine regU 6 33 rfl rfl (by kernel_rfl) (by kernel_rfl) (by kernel_rfl) (fun _ _ _ h => h) (by rfl) (by assumption) ?_; (try simp only [Act.put, pz_]); refine regU 7 34 rfl rfl (by kernel_rfl) (by kernel_rfl) (by kernel_rfl) (fun _ _ _ h => h) (by rfl) (by assumption) ?_; (try simp only [Act.put, pz_]); refine regU 8 35 rfl rfl (by kernel_rfl) (by kernel_rfl) (by kernel_rfl) (fun _ _ _ h => h) (by rfl) (by assumption) ?_; (try simp only [Act.put, pz_]); refine regU 9 36 rfl rfl (by kernel_rfl) (by kernel_rfl) (by kernel_rfl) (fun _ _ _ h => h) (by rfl) (by assumption) ?_; (try simp only [Act.put, pz_]); refine rT 10 37 (h := ?_); refine wpAnyH_done (by kernel_rfl) ?_ _; all_goals (obtain ⟨hb, hc, hf, hz⟩ := xh (by assumption : Held W0 _)))
         all_goals go_wp2
         go_roundw
         case rel =>
           exact ⟨k + 1, B, d, τr, by omega, by go_num, (by (exact ext_)), Hτ.out, hmk.keep (by (exact kf_)), by exact sz_, (by exact lbc_), fun i hi => (World.cell?_of_block (w := wr) (a := ⟨g, i, none⟩) (show w1.heap[g]? = wr.heap[g]? from (by exact (KF.block (by (exact kf_) : KF 0 wr w1) g (Nat.zero_le _) (by omega))))).trans (Hout.out i hi), by rw [He.out]; exact ho.keepF (by (exact kf_))⟩
         case measure => simp [intOf]; omega
     case pos =>
       obtain ⟨hb1, hdu⟩ := hh
       have hd : Sw.held x = true := by simp [Sw.held, hb1]
       have e : ticked m (k + 1) = ⟨m.log, Sw.monTurn (ticked m k).purses x.buyer x.price, (ticked m k).deals.set k { x with buyer := 0, due := 0 }, m.clock + 1, m.nums, m.said⟩ := by
         unfold ticked
         dsimp only
         rw [pursesTo_step HY.out, backp_y hb1 hdu, ← backs_step HY.out, back_y hb1 hdu]
       have He := Lib.hid e; clear e
       go_wp2_with fail
       (refine wn_ fun W0 hb0 hc0 hf0 hz0 => ?_; refine wp_region_held_drew (S := fun w' => Held W0 w') (by kernel_rfl) ?_ (fun hHeld => ?_); (focus ((try dsimp only); (exact hq_))); refine rT 0 27 (h := ?_); refine wpAnyH_ready (rs := [1]) (by kernel_rfl) (by simp) ?_; refine AllReadyH.cons rfl (fun K hK => ?_) ?_; rotate_left; (focus exact AllReadyH.nil); go_simp; (go_at_call 106; apply Calls.mono; apply (iHeld_c x); rintro E w1 ⟨rfl, hb⟩; rw [hd]; obtain ⟨hc, hf, hz⟩ := xy hb); (try go_wp2_with fail); refine hK.out _ _ ?_ (fun hHeld => ?_); (focus ((try dsimp only); (exact hq_))); clear hK K; (try simp only [Act.put, pz_]); refine rT 2 29 (h := ?_); refine rT 3 30 (h := ?_); refine rT 4 31 (h := ?_); refine rT 5 32 (h := ?_); refine rT 6 33 (h := ?_); refine rT 7 34 (h := ?_); refine rT 8 35 (h := ?_); refine rT 9 36 (h := ?_); refine rT 10 37 (h := ?_); refine wpAnyH_done (by kernel_rfl) ?_ _; all_goals (obtain ⟨hb, hc, hf, hz⟩ := xh (by assumption : Held W0 _)))
       all_goals go_wp2
       have hLD := ho.deals.ow.lbA
       (refine wn_ fun W0 hb0 hc0 hf0 hz0 => ?_; have hLb : Lb W0 (g) n := Lb.ex (by exact lbc_) hb0; refine wp_region_held_drew (S := fun w' => HeldB (g) n W0 w') (by kernel_rfl) ?_ (fun hHeld => ?_); (focus ((try dsimp only); (exact hqb_))); refine rT 0 39 (h := ?_); refine rT 1 40 (h := ?_); refine rT 2 41 (h := ?_); refine rT 3 42 (h := ?_); refine rT 5 44 (h := ?_); refine rT 6 45 (h := ?_); refine rT 7 46 (h := ?_); refine rT 8 47 (h := ?_); refine wpAnyH_ready (rs := [4]) (by kernel_rfl) (by simp) ?_; refine AllReadyH.cons rfl (fun K hK => ?_) ?_; rotate_left; (focus exact AllReadyH.nil); go_simp; refine hK.out _ _ ?_ (fun hHeld => ?_); (focus ((try dsimp only); (exact hqb_))); clear hK K; (try simp only [Act.put, pz_]); refine wpAnyH_ready (rs := [9]) (by kernel_rfl) (by simp) ?_; refine AllReadyH.cons rfl (fun K hK => ?_) ?_; rotate_left; (focus exact AllReadyH.nil); go_simp; (go_at_call 180; apply Calls.mono; apply iMonTurn_c; (apply Rs.at0 ho.purses.rs; (exact kf_)); omega; rintro E w3 ⟨A3, c3, rfl, ho3, hb⟩; have hb3 := hb; obtain ⟨hc, hf, hz⟩ := xy hb); (try go_wp2_with fail); refine hK.out _ _ ?_ (fun hHeld => ?_); (focus ((try dsimp only); (exact hqb_))); clear hK K; (try simp only [Act.put, pz_]); refine rT 10 38 (h := ?_); refine rT 11 49 (h := ?_); refine rT 12 50 (h := ?_); refine rT 13 51 (h := ?_); refine rT 14 52 (h := ?_); refine wpAnyH_ready (rs := [15]) (by kernel_rfl) (by simp) ?_; refine AllReadyH.cons rfl (fun K hK => ?_) ?_; rotate_left; (focus exact AllReadyH.nil); have hb := HeldB.ch hHeld; obtain ⟨hc, hf, hz⟩ := xd hb; have hLbx := HeldB.lb hHeld; obtain ⟨hcx, hfx⟩ := Lb.rules hLbx; go_simp; refine hK.out _ _ ?_ (fun hHx => ?_); (focus ((try dsimp only); (exact hqb_))); clear hK K hHeld hcx hfx hLbx; have hLb3 := HeldB.lb hHx; (repeat (first | with_reducible replace hLb3 := Lb.unset hLb3 | with_reducible replace hLb3 := Lb.undrew hLb3)); obtain ⟨hcb, hfb⟩ := Lb.rules hLb3; have hbf := HeldB.ch hHx; clear hHx; (try simp only [Act.put, pz_]); refine wpAnyH_done (by kernel_rfl) ?_ _)
       all_goals go_wp2
       have hex : Ex wr w3 := ext_
       (refine wn_ fun W0 hb0 hc0 hf0 hz0 => ?_; have hLb : Lb W0 (gD) (aDc * 5) := Lb.ex (by exact lbc_) hb0; go_region_held3 (fun w' => HeldB (gD) (aDc * 5) W0 w') ((exact hqb_)) (fail); all_goals (rename HeldB (gD) (aDc * 5) W0 _ => hHx; have hb := HeldB.ch hHx; obtain ⟨hc, hf, hz⟩ := xd hb; have hLb3 := HeldB.lb hHx; (repeat (first | with_reducible replace hLb3 := Lb.unset hLb3 | with_reducible replace hLb3 := Lb.undrew hLb3)); obtain ⟨hcb, hfb⟩ := Lb.rules hLb3; clear hHx))
       all_goals go_wp2
       have hgG : SG g lo τ g ∨ w.heap.size ≤ g := Or.inl (Or.inl rfl)
       have hgS : SG g lo τ gD ∨ w.heap.size ≤ gD := by
         by_cases hgl2 : gD < w.heap.size
         · exact .inl (.inr ⟨hloD, by rw [← Hτ.out gD hgl2, tD]; omega, by rw [← Hτ.out gD hgl2, tD]; omega⟩)
         · exact .inr (by omega)
       have kf3 : KF 0 wr w3 := by (exact kf_)
       have kf0 : KF 0 (w3.setCell ⟨g, o + 1, none⟩ (.slice A3 aPn c3)) W0 := by (exact kf_)
       have hcx : Ch (SG g lo τ) w w3 := (by (exact ext_))
       have hcy : Ch (SG g lo τ) w W0 := cE (by assumption) (cS hcx hgG _)
       have gne : ∀ i j : Nat, (⟨gD, i, none⟩ : Addr) ≠ ⟨g, j, none⟩ := fun i j e => hne (by injection e)
       refine ⟨⟨k + 1, A3, c3, glue τr wr.heap.size (fun _ => 2), by omega, by go_num, cD (cS (cS hcy hgS _) hgS _), fun b hb => (if_pos (by omega)).trans (Hτ.out b hb), ?_, by exact sz_, (by exact lbc_), ?_, ?_⟩, by simp [intOf]; omega⟩
       · exact (((((hmk.keep kf3).setP A3 aPn c3).keep kf0).other _ hne).other _ hne).drew
       · intro i hi
         refine (World.cell?_setCell_other _ _ _ _ (gne _ _)).trans ?_
         refine (World.cell?_setCell_other _ _ _ _ (gne _ _)).trans ?_
         refine (World.cell?_of_block (a := ⟨g, i, none⟩) (kf0.block g (Nat.zero_le _) (by simp only [World.setCell, Array.size_modify]; have := kf3.size; omega))).trans ?_
         refine (World.cell?_setCell_other _ _ _ _ (fun e => by injection e; omega)).trans ?_
         exact (World.cell?_of_block (a := ⟨g, i, none⟩) (kf3.block g (Nat.zero_le _) (by omega))).trans (Hout.out i hi)
       · rw [He.out]
         exact (OwM.backed ho hex (by assumption) (ho3.less (by exact sz_)) h0 (by omega) (backs_at HY.out) (by omega)).keepF (by (exact kf_))
   · go_wp2_with fail
     go_ret
     obtain rfl : k = aDn := by omega
     refine ⟨B, d, τr, rfl, hmk, hLr, ?_, Hτ.out, Hout.out, hb2⟩
     rw [← ticked_all (Nat.le_of_eq l3.out.symm)]
     exact ho
end Go.Proofs.YtnnoiagommiapaaGreat
