/-
  Texts joined: ImpM, Plain4, Plain5, Plain6, Plain7, DoA, MktA, Mak.
-/
import Derived.Test.YtgceeggfdomdjaaPkD4
import Derived.Test.YtgceeggfdomdjaaPkD3
import Derived.Test.YtgceeggfdomdjaaPkD2
namespace Go.Proofs.Ytgceeggfdomdjaa
set_option maxRecDepth 100000
set_option linter.unusedSimpArgs false
set_option linter.unusedVariables false
open Go.RowKit Go
set_option maxHeartbeats 2000000

theorem iCloneEntries_c (A : Option Addr) (c n : Nat) (xs : List Sw.Ent) (w : World) (hxs : RE w 0 A c n xs) (hn : n ≤ 4194304) : Calls Try.prog 157 #[.slice A n c] w fun E w' => ∃ A' c', E = .returned (.slice A' n c') ∧ OwE w' w.heap.size A' c' n xs ∧ Ex w w' := by
  go_enter Try.func157, Try.ntmps157
  go_wp2_with (at_builtin; apply wpList_app (lo := w.heap.size) el_E one_E rfl rfl rfl rfl; (first | assumption | exact Ow.nil _ _ | (apply Ow.keep; assumption; exact kf_) | (refine Ow.new [] (by (first | rfl | (simp only [zA, zC, zD, zN]; done) | omega)) rfl rfl (fun _ => rfl) (by exact sz_) (by omega))); (first | ((first | (apply Rs.at0; assumption) | (apply Ow.rs0; assumption)); exact kf_)); omega; exact sz_; intro A1 c1 w2 ho1 hch1 hat1 hex1 hlow1; have hb := hex1 (fun _ => False) w (by exact ext_) (by exact sz_); have hz := hch1.size; (try simp only [zA, zC, zD, zN] at hz); obtain ⟨hc, hf⟩ := low_rules hlow1; clear hlow1 hex1)
  go_ret
  rw [Nat.zero_add, List.nil_append] at ho1
  exact ⟨A1, c1, rfl, ho1, ext_⟩
theorem iMktClone_c (aL : Option Addr) (aLc aLn : Nat) (aP : Option Addr) (aPc aPn : Nat) (aD : Option Addr) (aDc aDn : Nat) (aN : Option Addr) (aNc aNn : Nat) (aS : Option Addr) (aSc aSn : Nat) (m : Sw.Mkt) (w : World) (hm : RM w 0 aL aLc aLn aP aPc aPn aD aDc aDn aN aNc aNn aS aSc aSn m) (hn : aLn + aPn + aDn + aNn + aSn ≤ 1048576) : Calls Try.prog 100 #[.agg #[.slice aL aLn aLc, .slice aP aPn aPc, .slice aD aDn aDc, .int .i64 m.clock, .slice aN aNn aNc, .slice aS aSn aSc]] w fun E w' => ∃ bL bLc bLn bP bPc bPn bD bDc bDn bN bNc bNn bS bSc bSn τ, E = .returned (.agg #[.slice bL bLn bLc, .slice bP bPn bPc, .slice bD bDn bDc, .int .i64 m.clock, .slice bN bNn bNc, .slice bS bSn bSc]) ∧ OwM τ w' w.heap.size bL bLc bLn bP bPc bPn bD bDc bDn bN bNc bNn bS bSc bSn m ∧ Ex w w' := by
  obtain ⟨m1, m2, m3, m4, m5⟩ := hm
  go_enter Try.func100, Try.ntmps100
  go_wp2_with fail
  (refine wp_name ?_; intro W0 hb0; have hst := xr hb0; (try simp only [zA, zC, zD, zN] at hst); obtain ⟨hc0, hf0, hz0⟩ := hst; have hLb : Lb W0 (w.heap.size + 1) 6 := Lb.ex (by exact lbc_) hb0; refine wp_region_held_drew (S := fun w' => HeldB (w.heap.size + 1) 6 W0 w') (by kernel_rfl) ?_ (fun hHeld => ?_); (focus ((try dsimp only); (first | with_reducible assumption | with_reducible exact HeldB.start hLb | with_reducible exact HeldB.of (by assumption) (by assumption) | ((repeat (first | with_reducible refine HeldB.set ?_ (by first | exact Or.inl rfl | exact Or.inr (by simp only [zA, zC, zD, zN]; omega) | exact Or.inr (by omega)) | with_reducible refine HeldB.alloc ?_ _ | with_reducible refine HeldB.drew ?_)); (first | with_reducible assumption | with_reducible exact HeldB.refl hLb | with_reducible exact HeldB.of (by assumption) (by assumption) | with_reducible exact HeldB.ex (by assumption) (by assumption)))))); refine regT 0 3 (v := ?_) rfl rfl (by kernel_rfl) (by kernel_rfl) (by kernel_rfl) (fun _ _ _ h => h) (by rfl) ?_ (by assumption) ?_; rotate_left; (focus (intro w hSw; (try dsimp only at hSw); go_simp; (try with_reducible rfl))); (try simp only [Act.put, List.setIfInBounds_toArray, List.set_cons_zero, List.set_cons_succ]); refine regT 1 4 (v := ?_) rfl rfl (by kernel_rfl) (by kernel_rfl) (by kernel_rfl) (fun _ _ _ h => h) (by rfl) ?_ (by assumption) ?_; rotate_left; (focus (intro w hSw; (try dsimp only at hSw); go_simp; (try with_reducible rfl))); (try simp only [Act.put, List.setIfInBounds_toArray, List.set_cons_zero, List.set_cons_succ]); refine regT 3 6 (v := ?_) rfl rfl (by kernel_rfl) (by kernel_rfl) (by kernel_rfl) (fun _ _ _ h => h) (by rfl) ?_ (by assumption) ?_; rotate_left; (focus (intro w hSw; (try dsimp only at hSw); go_simp; (try with_reducible rfl))); (try simp only [Act.put, List.setIfInBounds_toArray, List.set_cons_zero, List.set_cons_succ]); refine regT 4 7 (v := ?_) rfl rfl (by kernel_rfl) (by kernel_rfl) (by kernel_rfl) (fun _ _ _ h => h) (by rfl) ?_ (by assumption) ?_; rotate_left; (focus (intro w hSw; (try dsimp only at hSw); go_simp; (try with_reducible rfl))); (try simp only [Act.put, List.setIfInBounds_toArray, List.set_cons_zero, List.set_cons_succ]); refine regT 6 9 (v := ?_) rfl rfl (by kernel_rfl) (by kernel_rfl) (by kernel_rfl) (fun _ _ _ h => h) (by rfl) ?_ (by assumption) ?_; rotate_left; (focus (intro w hSw; (try dsimp only at hSw); go_simp; (try with_reducible rfl))); (try simp only [Act.put, List.setIfInBounds_toArray, List.set_cons_zero, List.set_cons_succ]); refine regT 7 10 (v := ?_) rfl rfl (by kernel_rfl) (by kernel_rfl) (by kernel_rfl) (fun _ _ _ h => h) (by rfl) ?_ (by assumption) ?_; rotate_left; (focus (intro w hSw; (try dsimp only at hSw); go_simp; (try with_reducible rfl))); (try simp only [Act.put, List.setIfInBounds_toArray, List.set_cons_zero, List.set_cons_succ]); refine regT 9 12 (v := ?_) rfl rfl (by kernel_rfl) (by kernel_rfl) (by kernel_rfl) (fun _ _ _ h => h) (by rfl) ?_ (by assumption) ?_; rotate_left; (focus (intro w hSw; (try dsimp only at hSw); go_simp; (try with_reducible rfl))); (try simp only [Act.put, List.setIfInBounds_toArray, List.set_cons_zero, List.set_cons_succ]); refine regT 10 13 (v := ?_) rfl rfl (by kernel_rfl) (by kernel_rfl) (by kernel_rfl) (fun _ _ _ h => h) (by rfl) ?_ (by assumption) ?_; rotate_left; (focus (intro w hSw; (try dsimp only at hSw); go_simp; (try with_reducible rfl))); (try simp only [Act.put, List.setIfInBounds_toArray, List.set_cons_zero, List.set_cons_succ]); refine regT 11 14 (v := ?_) rfl rfl (by kernel_rfl) (by kernel_rfl) (by kernel_rfl) (fun _ _ _ h => h) (by rfl) ?_ (by assumption) ?_; rotate_left; (focus (intro w hSw; (try dsimp only at hSw); go_simp; (try with_reducible rfl))); (try simp only [Act.put, List.setIfInBounds_toArray, List.set_cons_zero, List.set_cons_succ]); refine regT 12 15 (v := ?_) rfl rfl (by kernel_rfl) (by kernel_rfl) (by kernel_rfl) (fun _ _ _ h => h) (by rfl) ?_ (by assumption) ?_; rotate_left; (focus (intro w hSw; (try dsimp only at hSw); go_simp; (try with_reducible rfl))); (try simp only [Act.put, List.setIfInBounds_toArray, List.set_cons_zero, List.set_cons_succ]); refine regT 14 17 (v := ?_) rfl rfl (by kernel_rfl) (by kernel_rfl) (by kernel_rfl) (fun _ _ _ h => h) (by rfl) ?_ (by assumption) ?_; rotate_left; (focus (intro w hSw; (try dsimp only at hSw); go_simp; (try with_reducible rfl))); (try simp only [Act.put, List.setIfInBounds_toArray, List.set_cons_zero, List.set_cons_succ]); refine regT 15 18 (v := ?_) rfl rfl (by kernel_rfl) (by kernel_rfl) (by kernel_rfl) (fun _ _ _ h => h) (by rfl) ?_ (by assumption) ?_; rotate_left; (focus (intro w hSw; (try dsimp only at hSw); go_simp; (try with_reducible rfl))); (try simp only [Act.put, List.setIfInBounds_toArray, List.set_cons_zero, List.set_cons_succ]); refine wpAnyH_ready (rs := [2]) (by kernel_rfl) (by simp) ?_; refine AllReadyH.cons rfl (fun K hK => ?_) ?_; rotate_left; (focus exact AllReadyH.nil); go_simp; (first | (go_at_call 157; apply Calls.mono; apply iCloneEntries_c; (apply Rs.at0 m1; (exact kf_)); (first | assumption | omega); rintro E wL ⟨AL, cL, rfl, hoL, hb⟩; have hst := xr hb; (try simp only [zA, zC, zD, zN] at hst); obtain ⟨hc, hf, hz⟩ := hst) | (go_at_call 86; apply Calls.mono; apply iCloneInts_c; (apply Rs.at0 m2; (exact kf_)); (first | assumption | omega); rintro E wP ⟨AP, cP, rfl, hoP, hb⟩; have hst := xr hb; (try simp only [zA, zC, zD, zN] at hst); obtain ⟨hc, hf, hz⟩ := hst) | (apply step_app el_D one_D rfl rfl rfl rfl; (first | apply Ow.nil | refine Ow.new [] (by (first | rfl | (simp only [zA, zC, zD, zN]; done) | omega)) rfl rfl (fun _ => rfl) (Nat.le_refl _) (by omega)); (apply Rs.at0 m3; exact kf_); omega; (first | exact Nat.le_refl _ | exact sz_); intro AD cD wD hoD hchD hatD hexD hlowD; have hbx := hexD (· = (w.heap.size + 1)) W0 (HeldB.ch (by assumption : HeldB (w.heap.size + 1) 6 W0 _)) (by exact sz_); have hlbx := Lb.low hlowD (by have := hLb.lt; exact sz_) (HeldB.lb (by assumption : HeldB (w.heap.size + 1) 6 W0 _)); have hzD := hchD.size; have HLD := Lib.hid (And.intro hzD hlowD); (try simp only [zA, zC, zD, zN] at hzD); clear hexD hlowD hatD) | (go_at_call 86; apply Calls.mono; apply iCloneInts_c; (apply Rs.at0 m4; (exact kf_)); (first | assumption | omega); rintro E wN ⟨AN, cN, rfl, hoN, hb⟩; have hst := xr hb; (try simp only [zA, zC, zD, zN] at hst); obtain ⟨hc, hf, hz⟩ := hst) | (go_at_call 86; apply Calls.mono; apply iCloneInts_c; (apply Rs.at0 m5; (exact kf_)); (first | assumption | omega); rintro E wS ⟨AS, cS, rfl, hoS, hb⟩; have hst := xr hb; (try simp only [zA, zC, zD, zN] at hst); obtain ⟨hc, hf, hz⟩ := hst)); (try go_wp2_with fail); refine hK.out _ _ ?_ (fun hHeld => ?_); (focus ((try dsimp only); (first | with_reducible assumption | with_reducible exact HeldB.start hLb | with_reducible exact HeldB.of (by assumption) (by assumption) | ((repeat (first | with_reducible refine HeldB.set ?_ (by first | exact Or.inl rfl | exact Or.inr (by simp only [zA, zC, zD, zN]; omega) | exact Or.inr (by omega)) | with_reducible refine HeldB.alloc ?_ _ | with_reducible refine HeldB.drew ?_)); (first | with_reducible assumption | with_reducible exact HeldB.refl hLb | with_reducible exact HeldB.of (by assumption) (by assumption) | with_reducible exact HeldB.ex (by assumption) (by assumption)))))); clear hK K; (try simp only [Act.put, List.setIfInBounds_toArray, List.set_cons_zero, List.set_cons_succ]); refine wpAnyH_ready (rs := [5]) (by kernel_rfl) (by simp) ?_; refine AllReadyH.cons rfl (fun K hK => ?_) ?_; rotate_left; (focus exact AllReadyH.nil); go_simp; (first | (go_at_call 157; apply Calls.mono; apply iCloneEntries_c; (apply Rs.at0 m1; (exact kf_)); (first | assumption | omega); rintro E wL ⟨AL, cL, rfl, hoL, hb⟩; have hst := xr hb; (try simp only [zA, zC, zD, zN] at hst); obtain ⟨hc, hf, hz⟩ := hst) | (go_at_call 86; apply Calls.mono; apply iCloneInts_c; (apply Rs.at0 m2; (exact kf_)); (first | assumption | omega); rintro E wP ⟨AP, cP, rfl, hoP, hb⟩; have hst := xr hb; (try simp only [zA, zC, zD, zN] at hst); obtain ⟨hc, hf, hz⟩ := hst) | (apply step_app el_D one_D rfl rfl rfl rfl; (first | apply Ow.nil | refine Ow.new [] (by (first | rfl | (simp only [zA, zC, zD, zN]; done) | omega)) rfl rfl (fun _ => rfl) (Nat.le_refl _) (by omega)); (apply Rs.at0 m3; exact kf_); omega; (first | exact Nat.le_refl _ | exact sz_); intro AD cD wD hoD hchD hatD hexD hlowD; have hbx := hexD (· = (w.heap.size + 1)) W0 (HeldB.ch (by assumption : HeldB (w.heap.size + 1) 6 W0 _)) (by exact sz_); have hlbx := Lb.low hlowD (by have := hLb.lt; exact sz_) (HeldB.lb (by assumption : HeldB (w.heap.size + 1) 6 W0 _)); have hzD := hchD.size; have HLD := Lib.hid (And.intro hzD hlowD); (try simp only [zA, zC, zD, zN] at hzD); clear hexD hlowD hatD) | (go_at_call 86; apply Calls.mono; apply iCloneInts_c; (apply Rs.at0 m4; (exact kf_)); (first | assumption | omega); rintro E wN ⟨AN, cN, rfl, hoN, hb⟩; have hst := xr hb; (try simp only [zA, zC, zD, zN] at hst); obtain ⟨hc, hf, hz⟩ := hst) | (go_at_call 86; apply Calls.mono; apply iCloneInts_c; (apply Rs.at0 m5; (exact kf_)); (first | assumption | omega); rintro E wS ⟨AS, cS, rfl, hoS, hb⟩; have hst := xr hb; (try simp only [zA, zC, zD, zN] at hst); obtain ⟨hc, hf, hz⟩ := hst)); (try go_wp2_with fail); refine hK.out _ _ ?_ (fun hHeld => ?_); (focus ((try dsimp only); (first | with_reducible assumption | with_reducible exact HeldB.start hLb | with_reducible exact HeldB.of (by assumption) (by assumption) | ((repeat (first | with_reducible refine HeldB.set ?_ (by first | exact Or.inl rfl | exact Or.inr (by simp only [zA, zC, zD, zN]; omega) | exact Or.inr (by omega)) | with_reducible refine HeldB.alloc ?_ _ | with_reducible refine HeldB.drew ?_)); (first | with_reducible assumption | with_reducible exact HeldB.refl hLb | with_reducible exact HeldB.of (by assumption) (by assumption) | with_reducible exact HeldB.ex (by assumption) (by assumption)))))); clear hK K; (try simp only [Act.put, List.setIfInBounds_toArray, List.set_cons_zero, List.set_cons_succ]); refine wpAnyH_ready (rs := [8]) (by kernel_rfl) (by simp) ?_; refine AllReadyH.cons rfl (fun K hK => ?_) ?_; rotate_left; (focus exact AllReadyH.nil); (first | (go_at_call 157; apply Calls.mono; apply iCloneEntries_c; (apply Rs.at0 m1; (exact kf_)); (first | assumption | omega); rintro E wL ⟨AL, cL, rfl, hoL, hb⟩; have hst := xr hb; (try simp only [zA, zC, zD, zN] at hst); obtain ⟨hc, hf, hz⟩ := hst) | (go_at_call 86; apply Calls.mono; apply iCloneInts_c; (apply Rs.at0 m2; (exact kf_)); (first | assumption | omega); rintro E wP ⟨AP, cP, rfl, hoP, hb⟩; have hst := xr hb; (try simp only [zA, zC, zD, zN] at hst); obtain ⟨hc, hf, hz⟩ := hst) | (apply step_app el_D one_D rfl rfl rfl rfl; (first | apply Ow.nil | refine Ow.new [] (by (first | rfl | (simp only [zA, zC, zD, zN]; done) | omega)) rfl rfl (fun _ => rfl) (Nat.le_refl _) (by omega)); (apply Rs.at0 m3; exact kf_); omega; (first | exact Nat.le_refl _ | exact sz_); intro AD cD wD hoD hchD hatD hexD hlowD; have hbx := hexD (· = (w.heap.size + 1)) W0 (HeldB.ch (by assumption : HeldB (w.heap.size + 1) 6 W0 _)) (by exact sz_); have hlbx := Lb.low hlowD (by have := hLb.lt; exact sz_) (HeldB.lb (by assumption : HeldB (w.heap.size + 1) 6 W0 _)); have hzD := hchD.size; have HLD := Lib.hid (And.intro hzD hlowD); (try simp only [zA, zC, zD, zN] at hzD); clear hexD hlowD hatD) | (go_at_call 86; apply Calls.mono; apply iCloneInts_c; (apply Rs.at0 m4; (exact kf_)); (first | assumption | omega); rintro E wN ⟨AN, cN, rfl, hoN, hb⟩; have hst := xr hb; (try simp only [zA, zC, zD, zN] at hst); obtain ⟨hc, hf, hz⟩ := hst) | (go_at_call 86; apply Calls.mono; apply iCloneInts_c; (apply Rs.at0 m5; (exact kf_)); (first | assumption | omega); rintro E wS ⟨AS, cS, rfl, hoS, hb⟩; have hst := xr hb; (try simp only [zA, zC, zD, zN] at hst); obtain ⟨hc, hf, hz⟩ := hst)); (try simp only [Act.put, List.setIfInBounds_toArray, List.set_cons_zero, List.set_cons_succ]); refine hK.out _ _ ?_ (fun hHeld => ?_); (focus ((try dsimp only); (first | with_reducible assumption | with_reducible exact HeldB.start hLb | with_reducible exact HeldB.of (by assumption) (by assumption) | ((repeat (first | with_reducible refine HeldB.set ?_ (by first | exact Or.inl rfl | exact Or.inr (by simp only [zA, zC, zD, zN]; omega) | exact Or.inr (by omega)) | with_reducible refine HeldB.alloc ?_ _ | with_reducible refine HeldB.drew ?_)); (first | with_reducible assumption | with_reducible exact HeldB.refl hLb | with_reducible exact HeldB.of (by assumption) (by assumption) | with_reducible exact HeldB.ex (by assumption) (by assumption)))))); clear hK K; (try simp only [Act.put, List.setIfInBounds_toArray, List.set_cons_zero, List.set_cons_succ]); refine wpAnyH_ready (rs := [13]) (by kernel_rfl) (by simp) ?_; refine AllReadyH.cons rfl (fun K hK => ?_) ?_; rotate_left; (focus exact AllReadyH.nil); go_simp; (first | (go_at_call 157; apply Calls.mono; apply iCloneEntries_c; (apply Rs.at0 m1; (exact kf_)); (first | assumption | omega); rintro E wL ⟨AL, cL, rfl, hoL, hb⟩; have hst := xr hb; (try simp only [zA, zC, zD, zN] at hst); obtain ⟨hc, hf, hz⟩ := hst) | (go_at_call 86; apply Calls.mono; apply iCloneInts_c; (apply Rs.at0 m2; (exact kf_)); (first | assumption | omega); rintro E wP ⟨AP, cP, rfl, hoP, hb⟩; have hst := xr hb; (try simp only [zA, zC, zD, zN] at hst); obtain ⟨hc, hf, hz⟩ := hst) | (apply step_app el_D one_D rfl rfl rfl rfl; (first | apply Ow.nil | refine Ow.new [] (by (first | rfl | (simp only [zA, zC, zD, zN]; done) | omega)) rfl rfl (fun _ => rfl) (Nat.le_refl _) (by omega)); (apply Rs.at0 m3; exact kf_); omega; (first | exact Nat.le_refl _ | exact sz_); intro AD cD wD hoD hchD hatD hexD hlowD; have hbx := hexD (· = (w.heap.size + 1)) W0 (HeldB.ch (by assumption : HeldB (w.heap.size + 1) 6 W0 _)) (by exact sz_); have hlbx := Lb.low hlowD (by have := hLb.lt; exact sz_) (HeldB.lb (by assumption : HeldB (w.heap.size + 1) 6 W0 _)); have hzD := hchD.size; have HLD := Lib.hid (And.intro hzD hlowD); (try simp only [zA, zC, zD, zN] at hzD); clear hexD hlowD hatD) | (go_at_call 86; apply Calls.mono; apply iCloneInts_c; (apply Rs.at0 m4; (exact kf_)); (first | assumption | omega); rintro E wN ⟨AN, cN, rfl, hoN, hb⟩; have hst := xr hb; (try simp only [zA, zC, zD, zN] at hst); obtain ⟨hc, hf, hz⟩ := hst) | (go_at_call 86; apply Calls.mono; apply iCloneInts_c; (apply Rs.at0 m5; (exact kf_)); (first | assumption | omega); rintro E wS ⟨AS, cS, rfl, hoS, hb⟩; have hst := xr hb; (try simp only [zA, zC, zD, zN] at hst); obtain ⟨hc, hf, hz⟩ := hst)); (try go_wp2_with fail); refine hK.out _ _ ?_ (fun hHeld => ?_); (focus ((try dsimp only); (first | with_reducible assumption | with_reducible exact HeldB.start hLb | with_reducible exact HeldB.of (by assumption) (by assumption) | ((repeat (first | with_reducible refine HeldB.set ?_ (by first | exact Or.inl rfl | exact Or.inr (by simp only [zA, zC, zD, zN]; omega) | exact Or.inr (by omega)) | with_reducible refine HeldB.alloc ?_ _ | with_reducible refine HeldB.drew ?_)); (first | with_reducible assumption | with_reducible exact HeldB.refl hLb | with_reducible exact HeldB.of (by assumption) (by assumption) | with_reducible exact HeldB.ex (by assumption) (by assumption)))))); clear hK K; (try simp only [Act.put, List.setIfInBounds_toArray, List.set_cons_zero, List.set_cons_succ]); refine wpAnyH_ready (rs := [16]) (by kernel_rfl) (by simp) ?_; refine AllReadyH.cons rfl (fun K hK => ?_) ?_; rotate_left; (focus exact AllReadyH.nil); go_simp; (first | (go_at_call 157; apply Calls.mono; apply iCloneEntries_c; (apply Rs.at0 m1; (exact kf_)); (first | assumption | omega); rintro E wL ⟨AL, cL, rfl, hoL, hb⟩; have hst := xr hb; (try simp only [zA, zC, zD, zN] at hst); obtain ⟨hc, hf, hz⟩ := hst) | (go_at_call 86; apply Calls.mono; apply iCloneInts_c; (apply Rs.at0 m2; (exact kf_)); (first | assumption | omega); rintro E wP ⟨AP, cP, rfl, hoP, hb⟩; have hst := xr hb; (try simp only [zA, zC, zD, zN] at hst); obtain ⟨hc, hf, hz⟩ := hst) | (apply step_app el_D one_D rfl rfl rfl rfl; (first | apply Ow.nil | refine Ow.new [] (by (first | rfl | (simp only [zA, zC, zD, zN]; done) | omega)) rfl rfl (fun _ => rfl) (Nat.le_refl _) (by omega)); (apply Rs.at0 m3; exact kf_); omega; (first | exact Nat.le_refl _ | exact sz_); intro AD cD wD hoD hchD hatD hexD hlowD; have hbx := hexD (· = (w.heap.size + 1)) W0 (HeldB.ch (by assumption : HeldB (w.heap.size + 1) 6 W0 _)) (by exact sz_); have hlbx := Lb.low hlowD (by have := hLb.lt; exact sz_) (HeldB.lb (by assumption : HeldB (w.heap.size + 1) 6 W0 _)); have hzD := hchD.size; have HLD := Lib.hid (And.intro hzD hlowD); (try simp only [zA, zC, zD, zN] at hzD); clear hexD hlowD hatD) | (go_at_call 86; apply Calls.mono; apply iCloneInts_c; (apply Rs.at0 m4; (exact kf_)); (first | assumption | omega); rintro E wN ⟨AN, cN, rfl, hoN, hb⟩; have hst := xr hb; (try simp only [zA, zC, zD, zN] at hst); obtain ⟨hc, hf, hz⟩ := hst) | (go_at_call 86; apply Calls.mono; apply iCloneInts_c; (apply Rs.at0 m5; (exact kf_)); (first | assumption | omega); rintro E wS ⟨AS, cS, rfl, hoS, hb⟩; have hst := xr hb; (try simp only [zA, zC, zD, zN] at hst); obtain ⟨hc, hf, hz⟩ := hst)); (try go_wp2_with fail); refine hK.out _ _ ?_ (fun hHeld => ?_); (focus ((try dsimp only); (first | with_reducible assumption | with_reducible exact HeldB.start hLb | with_reducible exact HeldB.of (by assumption) (by assumption) | ((repeat (first | with_reducible refine HeldB.set ?_ (by first | exact Or.inl rfl | exact Or.inr (by simp only [zA, zC, zD, zN]; omega) | exact Or.inr (by omega)) | with_reducible refine HeldB.alloc ?_ _ | with_reducible refine HeldB.drew ?_)); (first | with_reducible assumption | with_reducible exact HeldB.refl hLb | with_reducible exact HeldB.of (by assumption) (by assumption) | with_reducible exact HeldB.ex (by assumption) (by assumption)))))); clear hK K; (try simp only [Act.put, List.setIfInBounds_toArray, List.set_cons_zero, List.set_cons_succ]); refine regT 17 20 (v := ?_) rfl rfl (by kernel_rfl) (by kernel_rfl) (by kernel_rfl) (fun _ _ _ h => h) (by rfl) ?_ (by assumption) ?_; rotate_left; (focus (intro w hSw; (try dsimp only at hSw); go_simp; (try with_reducible rfl))); (try simp only [Act.put, List.setIfInBounds_toArray, List.set_cons_zero, List.set_cons_succ]); refine wpAnyH_ready (rs := [18]) (by kernel_rfl) (by simp) ?_; refine AllReadyH.cons rfl (fun K hK => ?_) ?_; rotate_left; (focus exact AllReadyH.nil); have hb := HeldB.ch hHeld; have hst := xc hb; (try simp only [zA, zC, zD, zN] at hst); obtain ⟨hc, hf, hz⟩ := hst; have hLbx := HeldB.lb hHeld; obtain ⟨hcx, hfx⟩ := Lb.rules hLbx; go_simp; refine hK.out _ _ ?_ (fun hHx => ?_); (focus ((try dsimp only); (first | with_reducible assumption | with_reducible exact HeldB.start hLb | with_reducible exact HeldB.of (by assumption) (by assumption) | ((repeat (first | with_reducible refine HeldB.set ?_ (by first | exact Or.inl rfl | exact Or.inr (by simp only [zA, zC, zD, zN]; omega) | exact Or.inr (by omega)) | with_reducible refine HeldB.alloc ?_ _ | with_reducible refine HeldB.drew ?_)); (first | with_reducible assumption | with_reducible exact HeldB.refl hLb | with_reducible exact HeldB.of (by assumption) (by assumption) | with_reducible exact HeldB.ex (by assumption) (by assumption)))))); clear hK K hHeld hcx hfx hLbx; have hLb3 := HeldB.lb hHx; (repeat (first | with_reducible replace hLb3 := Lb.unset hLb3 | with_reducible replace hLb3 := Lb.undrew hLb3)); obtain ⟨hcb, hfb⟩ := Lb.rules hLb3; have hbf := HeldB.ch hHx; clear hHx; (try simp only [Act.put, List.setIfInBounds_toArray, List.set_cons_zero, List.set_cons_succ]); refine wpAnyH_done (by kernel_rfl) ?_ _)
  go_wp2
  simp only [Nat.zero_add, List.nil_append] at hoD
  refine bodyPost_ret (v := .agg #[.slice AL aLn cL, .slice AP aPn cP, .slice AD aDn cD, .int .i64 m.clock, .slice AN aNn cN, .slice AS aSn cS]) (by simp [results, Try.results100, go_sem, *]) rfl ?_
  refine ⟨_, _, _, _, _, _, _, _, _, _, _, _, _, _, _, glue (fun _ => 1) wL.heap.size (glue (fun _ => 2) wP.heap.size (glue (fun _ => 3) wD.heap.size (glue (fun _ => 4) wN.heap.size (fun _ => 5)))), rfl, ?_, ext_⟩
  refine OwM.build hoL hoP hoD hoN hoS ?_ ?_ ?_ ?_ ?_ ?_ ?_ ?_ ?_ ?_ ?_ ?_ ?_ ?_
  all_goals first | exact sz_ | (repeat (first | (with_reducible exact kR _ _) | (with_reducible apply kA) | (with_reducible apply kD) | (with_reducible apply kN) | (with_reducible refine kS ?_ (by first | omega | (simp only [zA, zC, zD, zN]; omega))) | (with_reducible (apply kE; assumption)) | (refine kL HLD.out ?_ (by exact sz_))))

/-- What the clock turns of a market: its own six cells, and what the market owns. -/
def SG (g lo : Nat) (τ : Nat → Nat) : Nat → Prop := fun b => b = g ∨ SM lo τ b
theorem iTickEnd_c (g o : Nat) (aL : Option Addr) (aLc aLn : Nat) (aP : Option Addr) (aPc aPn : Nat) (aD : Option Addr) (aDc aDn : Nat) (aN : Option Addr) (aNc aNn : Nat) (aS : Option Addr) (aSc aSn : Nat) (t : Int) (w : World) (hA : MktAt w g o aL aLc aLn aP aPc aPn aD aDc aDn aN aNc aNn aS aSc aSn t) (ht : t = 99999) : Calls Try.prog 101 #[.pointer (some ⟨g, o, none⟩)] w fun E w' => E = .returned (.bool false) ∧ Ex w w' := by
  subst ht
  obtain ⟨k0, k1, k2, k3, k4, k5, k6, kf⟩ := hA
  go_enter Try.func101, Try.ntmps101
  go_wp2_with fail
  go_ret
  exact ⟨rfl, ext_⟩
theorem iTick_c (g o n : Nat) (aL : Option Addr) (aLc aLn : Nat) (aP : Option Addr) (aPc aPn : Nat) (aD : Option Addr) (aDc aDn : Nat) (aN : Option Addr) (aNc aNn : Nat) (aS : Option Addr) (aSc aSn : Nat) (m : Sw.Mkt) (lo : Nat) (τ : Nat → Nat) (w : World) (hA : MktAt w g o aL aLc aLn aP aPc aPn aD aDc aDn aN aNc aNn aS aSc aSn m.clock) (hL : Lb w g n) (hM : OwM τ w lo aL aLc aLn aP aPc aPn aD aDc aDn aN aNc aNn aS aSc aSn m) (hg : τ g = 0) (hck0 : 0 ≤ m.clock) (hck1 : m.clock < 99999) (hn : aDn ≤ 4194304) (hp : aPn ≤ 4194304) (hlo : lo ≤ w.heap.size) : Calls Try.prog 101 #[.pointer (some ⟨g, o, none⟩)] w fun E w' => ∃ A c, ∃ τ' : Nat → Nat, E = .returned (.bool true) ∧ MktAt w' g o aL aLc aLn A c aPn aD aDc aDn aN aNc aNn aS aSc aSn (m.clock + 1) ∧ Lb w' g n ∧ OwM τ' w' lo aL aLc aLn A c aPn aD aDc aDn aN aNc aNn aS aSc aSn (Sw.tick m) ∧ (∀ b, b < w.heap.size → τ' b = τ b) ∧ (∀ i, i < o ∨ o + 6 ≤ i → w'.cell? ⟨g, i, none⟩ = w.cell? ⟨g, i, none⟩) ∧ Ch (SG g lo τ) w w' := by
  have l3 := Lib.hid hM.deals.ow.1
  have hgl := hA.lt
  have hck9 : (m.clock == 99999) = false := by rw [beq_eq_false_iff_ne]; omega
  obtain ⟨k0, k1, k2, k3, k4, k5, k6, kf⟩ := hA
  have hA : MktAt w g o aL aLc aLn aP aPc aPn aD aDc aDn aN aNc aNn aS aSc aSn m.clock := ⟨k0, k1, k2, k3, k4, k5, k6, kf⟩
  go_enter Try.func101, Try.ntmps101
  go_wp2_with fail
  go_loopw [22] (fun i wr => ∃ (k : Nat) (B : Option Addr) (d : Nat) (τr : Nat → Nat), k ≤ aDn ∧ i = .int .i64 k ∧ Ch (SG g lo τ) w wr ∧ (∀ b, b < w.heap.size → τr b = τ b) ∧
    MktAt wr g o aL aLc aLn B d aPn aD aDc aDn aN aNc aNn aS aSc aSn (m.clock + 1) ∧ w.heap.size ≤ wr.heap.size ∧ Lb wr g n ∧ (∀ i, i < o ∨ o + 6 ≤ i → wr.cell? ⟨g, i, none⟩ = w.cell? ⟨g, i, none⟩) ∧
    OwM τr wr lo aL aLc aLn B d aPn aD aDc aDn aN aNc aNn aS aSc aSn (ticked m k)) (fun i _ => aDn - (intOf i).toNat)
  case atStart =>
    have hgx : SG g lo τ g ∨ w.heap.size ≤ g := Or.inl (Or.inl rfl)
    refine ⟨0, aP, aPc, τ, Nat.zero_le _, rfl, (by (with_reducible repeat (first | exact cR _ _ | apply cA | apply cD | apply cN | (refine cS ?_ (Or.inr (by first | omega | (simp only [zA, zC, zD, zN]; omega))) _) | (refine cS ?_ hgx _) | (apply cE; assumption) | (apply cK; assumption)))), fun _ _ => rfl, hA.setK _, by exact sz_, (by exact lbc_), ?_, ?_⟩
    · intro i hi
      exact World.cell?_setCell_other _ _ _ _ (fun e => by injection e; omega)
    · refine OwM.keep (m := ticked m 0) (OwM.clocked hM _) fun t h1 h5 => ?_
      have hnt : τ g ≠ t := by rw [hg]; omega
      (with_reducible repeat (first | exact tR _ _ _ _ | apply tA | apply tD | apply tN | (apply tE; assumption) | (refine tS ?_ (by first | exact Or.inl (by first | omega | (simp only [zA, zC, zD, zN]; omega)) | exact Or.inr (by rw [hnt]; decide) | exact Or.inr hnt))))
  case round =>
    obtain ⟨k, B, d, τr, hk, rfl, hb2, hτ, hmk, hsz, hLr, hout, ho⟩ := hrel
    clear hA hM k0 k1 k2 k3 k4 k5 k6 kf
    obtain ⟨k0, k1, k2, k3, k4, k5, k6, kf⟩ := hmk
    have hmk : MktAt wr g o aL aLc aLn B d aPn aD aDc aDn aN aNc aNn aS aSc aSn (m.clock + 1) := ⟨k0, k1, k2, k3, k4, k5, k6, kf⟩
    have Hτ := Lib.hid hτ
    have Hout := Lib.hid hout
    clear hτ hout
    have h0 : τr g = 0 := (Hτ.out g hgl).trans hg
    by_cases hlt : k < aDn
    · obtain ⟨y, hy⟩ : ∃ y, m.deals[k]? = some y := ⟨_, List.getElem?_eq_getElem (by have := l3.out; omega)⟩
      have hyb := backs_at (clock := m.clock + 1) hy
      obtain ⟨gD, x, hAD, hloD, hltD, hx, q0, q1, q2, q3, q4, hfz⟩ := at_OD ho.deals.ow hlt
      obtain rfl : x = y := by rw [show (ticked m k).deals = backs (m.clock + 1) m.deals k from rfl, hyb] at hx; exact (Option.some.inj hx).symm
      subst hAD
      have HX := Lib.hid hx
      have HY := Lib.hid hy
      clear hx hy hyb
      have tD : τr gD = 3 := ho.deals.tag _ rfl
      have hne : gD ≠ g := by rintro rfl; rw [h0] at tD; cases tD
      by_cases hh : 0 < x.buyer ∧ x.due < m.clock + 1
      case neg =>
        have e : ticked m (k + 1) = ticked m k := by
          unfold ticked
          rw [pursesTo_step HY.out, backp_n hh, backs_same HY.out (back_n hh)]
        have He := Lib.hid e; clear e
        by_cases hb1 : 0 < x.buyer
        · have hdu : ¬ x.due < m.clock + 1 := fun h => hh ⟨hb1, h⟩
          have hd : Sw.held x = true := by simp [Sw.held, hb1]
          clear hh
          go_wp2_with fail
          (refine wp_name ?_; intro W0 hb0; have hst := xr hb0; (try simp only [zA, zC, zD, zN] at hst); obtain ⟨hc0, hf0, hz0⟩ := hst; refine wp_region_held_drew (S := fun w' => Held W0 w') (by kernel_rfl) ?_ (fun hHeld => ?_); (focus ((try dsimp only); (first | with_reducible assumption | with_reducible exact Held.start _ | with_reducible exact Held.of (by assumption) | with_reducible exact Held.ex (by assumption) (by assumption) | ((repeat (first | with_reducible refine Held.set ?_ (by simp only [zA, zC, zD, zN]; omega) | with_reducible refine Held.alloc ?_ _ | with_reducible refine Held.drew ?_)); (first | with_reducible assumption | with_reducible exact Held.refl _ | with_reducible exact Held.of (by assumption) | with_reducible exact Held.ex (by assumption) (by assumption))) | exact Held.of (by exact ext_)))); refine regT 0 27 (v := ?_) rfl rfl (by kernel_rfl) (by kernel_rfl) (by kernel_rfl) (fun _ _ _ h => h) (by rfl) ?_ (by assumption) ?_; rotate_left; (focus (intro w hSw; (try dsimp only at hSw); go_simp; (try with_reducible rfl))); (try simp only [Act.put, List.setIfInBounds_toArray, List.set_cons_zero, List.set_cons_succ]); refine wpAnyH_ready (rs := [1]) (by kernel_rfl) (by simp) ?_; refine AllReadyH.cons rfl (fun K hK => ?_) ?_; rotate_left; (focus exact AllReadyH.nil); go_simp; (go_at_call 104; apply Calls.mono; apply (iHeld_c x); rintro E w1 ⟨rfl, hb⟩; rw [hd]; have hst := xr hb; (try simp only [zA, zC, zD, zN] at hst); obtain ⟨hc, hf, hz⟩ := hst); (try go_wp2_with fail); refine hK.out _ _ ?_ (fun hHeld => ?_); (focus ((try dsimp only); (first | with_reducible assumption | with_reducible exact Held.start _ | with_reducible exact Held.of (by assumption) | with_reducible exact Held.ex (by assumption) (by assumption) | ((repeat (first | with_reducible refine Held.set ?_ (by simp only [zA, zC, zD, zN]; omega) | with_reducible refine Held.alloc ?_ _ | with_reducible refine Held.drew ?_)); (first | with_reducible assumption | with_reducible exact Held.refl _ | with_reducible exact Held.of (by assumption) | with_reducible exact Held.ex (by assumption) (by assumption))) | exact Held.of (by exact ext_)))); clear hK K; (try simp only [Act.put, List.setIfInBounds_toArray, List.set_cons_zero, List.set_cons_succ]); refine regT 2 29 (v := ?_) rfl rfl (by kernel_rfl) (by kernel_rfl) (by kernel_rfl) (fun _ _ _ h => h) (by rfl) ?_ (by assumption) ?_; rotate_left; (focus (intro w hSw; (try dsimp only at hSw); go_simp; (try with_reducible rfl))); (try simp only [Act.put, List.setIfInBounds_toArray, List.set_cons_zero, List.set_cons_succ]); refine regT 3 30 (v := ?_) rfl rfl (by kernel_rfl) (by kernel_rfl) (by kernel_rfl) (fun _ _ _ h => h) (by rfl) ?_ (by assumption) ?_; rotate_left; (focus (intro w hSw; (try dsimp only at hSw); go_simp; (try with_reducible rfl))); (try simp only [Act.put, List.setIfInBounds_toArray, List.set_cons_zero, List.set_cons_succ]); refine regT 4 31 (v := ?_) rfl rfl (by kernel_rfl) (by kernel_rfl) (by kernel_rfl) (fun _ _ _ h => h) (by rfl) ?_ (by assumption) ?_; rotate_left; (focus (intro w hSw; (try dsimp only at hSw); go_simp; (try with_reducible rfl))); (try simp only [Act.put, List.setIfInBounds_toArray, List.set_cons_zero, List.set_cons_succ]); refine regT 5 32 (v := ?_) rfl rfl (by kernel_rfl) (by kernel_rfl) (by kernel_rfl) (fun _ _ _ h => h) (by rfl) ?_ (by assumption) ?_; rotate_left; (focus (intro w hSw; (try dsimp only at hSw); go_simp; (try with_reducible rfl))); (try simp only [Act.put, List.setIfInBounds_toArray, List.set_cons_zero, List.set_cons_succ]); refine regT 6 33 (v := ?_) rfl rfl (by kernel_rfl) (by kernel_rfl) (by kernel_rfl) (fun _ _ _ h => h) (by rfl) ?_ (by assumption) ?_; rotate_left; (focus (intro w hSw; (try dsimp only at hSw); go_simp; (try with_reducible rfl))); (try simp only [Act.put, List.setIfInBounds_toArray, List.set_cons_zero, List.set_cons_succ]); refine regT 7 34 (v := ?_) rfl rfl (by kernel_rfl) (by kernel_rfl) (by kernel_rfl) (fun _ _ _ h => h) (by rfl) ?_ (by assumption) ?_; rotate_left; (focus (intro w hSw; (try dsimp only at hSw); go_simp; (try with_reducible rfl))); (try simp only [Act.put, List.setIfInBounds_toArray, List.set_cons_zero, List.set_cons_succ]); refine regT 8 35 (v := ?_) rfl rfl (by kernel_rfl) (by kernel_rfl) (by kernel_rfl) (fun _ _ _ h => h) (by rfl) ?_ (by assumption) ?_; rotate_left; (focus (intro w hSw; (try dsimp only at hSw); go_simp; (try with_reducible rfl))); (try simp only [Act.put, List.setIfInBounds_toArray, List.set_cons_zero, List.set_cons_succ]); refine regT 9 36 (v := ?_) rfl rfl (by kernel_rfl) (by kernel_rfl) (by kernel_rfl) (fun _ _ _ h => h) (by rfl) ?_ (by assumption) ?_; rotate_left; (focus (intro w hSw; (try dsimp only at hSw); go_simp; (try with_reducible rfl))); (try simp only [Act.put, List.setIfInBounds_toArray, List.set_cons_zero, List.set_cons_succ]); refine regT 10 37 (v := ?_) rfl rfl (by kernel_rfl) (by kernel_rfl) (by kernel_rfl) (fun _ _ _ h => h) (by rfl) ?_ (by assumption) ?_; rotate_left; (focus (intro w hSw; (try dsimp only at hSw); go_simp; (try with_reducible rfl))); (try simp only [Act.put, List.setIfInBounds_toArray, List.set_cons_zero, List.set_cons_succ]); refine wpAnyH_done (by kernel_rfl) ?_ _; all_goals (have hb := And.right (by assumption : Held W0 _); have hst := xr hb; (try simp only [zA, zC, zD, zN] at hst); obtain ⟨hc, hf, hz⟩ := hst))
          all_goals go_wp2
          go_roundw
          case rel =>
            exact ⟨k + 1, B, d, τr, by omega, by go_num, (by (exact ext_)), Hτ.out, hmk.keep (by (exact kf_)), by exact sz_, (by exact lbc_), fun i hi => (World.cell?_of_block (w := wr) (a := ⟨g, i, none⟩) (show w1.heap[g]? = wr.heap[g]? from (by exact (KF.block (by (exact kf_) : KF 0 wr w1) g (Nat.zero_le _) (by omega))))).trans (Hout.out i hi), by rw [He.out]; exact ho.keepF (by (exact kf_))⟩
          case measure => simp [intOf]; omega
        · have hd : Sw.held x = false := by simp [Sw.held]; omega
          clear hh
          go_wp2_with fail
          (refine wp_name ?_; intro W0 hb0; have hst := xr hb0; (try simp only [zA, zC, zD, zN] at hst); obtain ⟨hc0, hf0, hz0⟩ := hst; refine wp_region_held_drew (S := fun w' => Held W0 w') (by kernel_rfl) ?_ (fun hHeld => ?_); (focus ((try dsimp only); (first | with_reducible assumption | with_reducible exact Held.start _ | with_reducible exact Held.of (by assumption) | with_reducible exact Held.ex (by assumption) (by assumption) | ((repeat (first | with_reducible refine Held.set ?_ (by simp only [zA, zC, zD, zN]; omega) | with_reducible refine Held.alloc ?_ _ | with_reducible refine Held.drew ?_)); (first | with_reducible assumption | with_reducible exact Held.refl _ | with_reducible exact Held.of (by assumption) | with_reducible exact Held.ex (by assumption) (by assumption))) | exact Held.of (by exact ext_)))); refine regT 0 27 (v := ?_) rfl rfl (by kernel_rfl) (by kernel_rfl) (by kernel_rfl) (fun _ _ _ h => h) (by rfl) ?_ (by assumption) ?_; rotate_left; (focus (intro w hSw; (try dsimp only at hSw); go_simp; (try with_reducible rfl))); (try simp only [Act.put, List.setIfInBounds_toArray, List.set_cons_zero, List.set_cons_succ]); refine wpAnyH_ready (rs := [1]) (by kernel_rfl) (by simp) ?_; refine AllReadyH.cons rfl (fun K hK => ?_) ?_; rotate_left; (focus exact AllReadyH.nil); go_simp; (go_at_call 104; apply Calls.mono; apply (iHeld_c x); rintro E w1 ⟨rfl, hb⟩; rw [hd]; have hst := xr hb; (try simp only [zA, zC, zD, zN] at hst); obtain ⟨hc, hf, hz⟩ := hst); (try go_wp2_with fail); refine hK.out _ _ ?_ (fun hHeld => ?_); (focus ((try dsimp only); (first | with_reducible assumption | with_reducible exact Held.start _ | with_reducible exact Held.of (by assumption) | with_reducible exact Held.ex (by assumption) (by assumption) | ((repeat (first | with_reducible refine Held.set ?_ (by simp only [zA, zC, zD, zN]; omega) | with_reducible refine Held.alloc ?_ _ | with_reducible refine Held.drew ?_)); (first | with_reducible assumption | with_reducible exact Held.refl _ | with_reducible exact Held.of (by assumption) | with_reducible exact Held.ex (by assumption) (by assumption))) | exact Held.of (by exact ext_)))); clear hK K; (try simp only [Act.put, List.setIfInBounds_toArray, List.set_cons_zero, List.set_cons_succ]); refine regT 2 29 (v := ?_) rfl rfl (by kernel_rfl) (by kernel_rfl) (by kernel_rfl) (fun _ _ _ h => h) (by rfl) ?_ (by assumption) ?_; rotate_left; (focus (intro w hSw; (try dsimp only at hSw); go_simp; (try with_reducible rfl))); (try simp only [Act.put, List.setIfInBounds_toArray, List.set_cons_zero, List.set_cons_succ]); refine regU 3 30 rfl rfl (by kernel_rfl) (by kernel_rfl) (by kernel_rfl) (fun _ _ _ h => h) (by rfl) (by assumption) ?_; (try simp only [Act.put, List.setIfInBounds_toArray, List.set_cons_zero, List.set_cons_succ]); refine regU 4 31 rfl rfl (by kernel_rfl) (by kernel_rfl) (by kernel_rfl) (fun _ _ _ h => h) (by rfl) (by assumption) ?_; (try simp only [Act.put, List.setIfInBounds_toArray, List.set_cons_zero, List.set_cons_succ]); refine regU 5 32 rfl rfl (by kernel_rfl) (by kernel_rfl) (by kernel_rfl) (fun _ _ _ h => h) (by rfl) (by assumption) ?_; (try simp only [Act.put, List.setIfInBounds_toArray, List.set_cons_zero, List.set_cons_succ]); refine regU 6 33 rfl rfl (by kernel_rfl) (by kernel_rfl) (by kernel_rfl) (fun _ _ _ h => h) (by rfl) (by assumption) ?_; (try simp only [Act.put, List.setIfInBounds_toArray, List.set_cons_zero, List.set_cons_succ]); refine regU 7 34 rfl rfl (by kernel_rfl) (by kernel_rfl) (by kernel_rfl) (fun _ _ _ h => h) (by rfl) (by assumption) ?_; (try simp only [Act.put, List.setIfInBounds_toArray, List.set_cons_zero, List.set_cons_succ]); refine regU 8 35 rfl rfl (by kernel_rfl) (by kernel_rfl) (by kernel_rfl) (fun _ _ _ h => h) (by rfl) (by assumption) ?_; (try simp only [Act.put, List.setIfInBounds_toArray, List.set_cons_zero, List.set_cons_succ]); refine regU 9 36 rfl rfl (by kernel_rfl) (by kernel_rfl) (by kernel_rfl) (fun _ _ _ h => h) (by rfl) (by assumption) ?_; (try simp only [Act.put, List.setIfInBounds_toArray, List.set_cons_zero, List.set_cons_succ]); refine regT 10 37 (v := ?_) rfl rfl (by kernel_rfl) (by kernel_rfl) (by kernel_rfl) (fun _ _ _ h => h) (by rfl) ?_ (by assumption) ?_; rotate_left; (focus (intro w hSw; (try dsimp only at hSw); go_simp; (try with_reducible rfl))); (try simp only [Act.put, List.setIfInBounds_toArray, List.set_cons_zero, List.set_cons_succ]); refine wpAnyH_done (by kernel_rfl) ?_ _; all_goals (have hb := And.right (by assumption : Held W0 _); have hst := xr hb; (try simp only [zA, zC, zD, zN] at hst); obtain ⟨hc, hf, hz⟩ := hst))
          all_goals go_wp2
          go_roundw
          case rel =>
            exact ⟨k + 1, B, d, τr, by omega, by go_num, (by (exact ext_)), Hτ.out, hmk.keep (by (exact kf_)), by exact sz_, (by exact lbc_), fun i hi => (World.cell?_of_block (w := wr) (a := ⟨g, i, none⟩) (show w1.heap[g]? = wr.heap[g]? from (by exact (KF.block (by (exact kf_) : KF 0 wr w1) g (Nat.zero_le _) (by omega))))).trans (Hout.out i hi), by rw [He.out]; exact ho.keepF (by (exact kf_))⟩
          case measure => simp [intOf]; omega
      case pos =>
        obtain ⟨hb1, hdu⟩ := hh
        have hd : Sw.held x = true := by simp [Sw.held, hb1]
        have e : ticked m (k + 1) = ⟨m.log, Sw.monTurn (ticked m k).purses x.buyer x.price, (ticked m k).deals.set k { x with buyer := 0, due := 0 }, m.clock + 1, m.nums, m.said⟩ := by
          unfold ticked
          dsimp only
          rw [pursesTo_step HY.out, backp_y hb1 hdu, ← backs_step HY.out, back_y hb1 hdu]
        have He := Lib.hid e; clear e
        go_wp2_with fail
        (refine wp_name ?_; intro W0 hb0; have hst := xr hb0; (try simp only [zA, zC, zD, zN] at hst); obtain ⟨hc0, hf0, hz0⟩ := hst; refine wp_region_held_drew (S := fun w' => Held W0 w') (by kernel_rfl) ?_ (fun hHeld => ?_); (focus ((try dsimp only); (first | with_reducible assumption | with_reducible exact Held.start _ | with_reducible exact Held.of (by assumption) | with_reducible exact Held.ex (by assumption) (by assumption) | ((repeat (first | with_reducible refine Held.set ?_ (by simp only [zA, zC, zD, zN]; omega) | with_reducible refine Held.alloc ?_ _ | with_reducible refine Held.drew ?_)); (first | with_reducible assumption | with_reducible exact Held.refl _ | with_reducible exact Held.of (by assumption) | with_reducible exact Held.ex (by assumption) (by assumption))) | exact Held.of (by exact ext_)))); refine regT 0 27 (v := ?_) rfl rfl (by kernel_rfl) (by kernel_rfl) (by kernel_rfl) (fun _ _ _ h => h) (by rfl) ?_ (by assumption) ?_; rotate_left; (focus (intro w hSw; (try dsimp only at hSw); go_simp; (try with_reducible rfl))); (try simp only [Act.put, List.setIfInBounds_toArray, List.set_cons_zero, List.set_cons_succ]); refine wpAnyH_ready (rs := [1]) (by kernel_rfl) (by simp) ?_; refine AllReadyH.cons rfl (fun K hK => ?_) ?_; rotate_left; (focus exact AllReadyH.nil); go_simp; (go_at_call 104; apply Calls.mono; apply (iHeld_c x); rintro E w1 ⟨rfl, hb⟩; rw [hd]; have hst := xr hb; (try simp only [zA, zC, zD, zN] at hst); obtain ⟨hc, hf, hz⟩ := hst); (try go_wp2_with fail); refine hK.out _ _ ?_ (fun hHeld => ?_); (focus ((try dsimp only); (first | with_reducible assumption | with_reducible exact Held.start _ | with_reducible exact Held.of (by assumption) | with_reducible exact Held.ex (by assumption) (by assumption) | ((repeat (first | with_reducible refine Held.set ?_ (by simp only [zA, zC, zD, zN]; omega) | with_reducible refine Held.alloc ?_ _ | with_reducible refine Held.drew ?_)); (first | with_reducible assumption | with_reducible exact Held.refl _ | with_reducible exact Held.of (by assumption) | with_reducible exact Held.ex (by assumption) (by assumption))) | exact Held.of (by exact ext_)))); clear hK K; (try simp only [Act.put, List.setIfInBounds_toArray, List.set_cons_zero, List.set_cons_succ]); refine regT 2 29 (v := ?_) rfl rfl (by kernel_rfl) (by kernel_rfl) (by kernel_rfl) (fun _ _ _ h => h) (by rfl) ?_ (by assumption) ?_; rotate_left; (focus (intro w hSw; (try dsimp only at hSw); go_simp; (try with_reducible rfl))); (try simp only [Act.put, List.setIfInBounds_toArray, List.set_cons_zero, List.set_cons_succ]); refine regT 3 30 (v := ?_) rfl rfl (by kernel_rfl) (by kernel_rfl) (by kernel_rfl) (fun _ _ _ h => h) (by rfl) ?_ (by assumption) ?_; rotate_left; (focus (intro w hSw; (try dsimp only at hSw); go_simp; (try with_reducible rfl))); (try simp only [Act.put, List.setIfInBounds_toArray, List.set_cons_zero, List.set_cons_succ]); refine regT 4 31 (v := ?_) rfl rfl (by kernel_rfl) (by kernel_rfl) (by kernel_rfl) (fun _ _ _ h => h) (by rfl) ?_ (by assumption) ?_; rotate_left; (focus (intro w hSw; (try dsimp only at hSw); go_simp; (try with_reducible rfl))); (try simp only [Act.put, List.setIfInBounds_toArray, List.set_cons_zero, List.set_cons_succ]); refine regT 5 32 (v := ?_) rfl rfl (by kernel_rfl) (by kernel_rfl) (by kernel_rfl) (fun _ _ _ h => h) (by rfl) ?_ (by assumption) ?_; rotate_left; (focus (intro w hSw; (try dsimp only at hSw); go_simp; (try with_reducible rfl))); (try simp only [Act.put, List.setIfInBounds_toArray, List.set_cons_zero, List.set_cons_succ]); refine regT 6 33 (v := ?_) rfl rfl (by kernel_rfl) (by kernel_rfl) (by kernel_rfl) (fun _ _ _ h => h) (by rfl) ?_ (by assumption) ?_; rotate_left; (focus (intro w hSw; (try dsimp only at hSw); go_simp; (try with_reducible rfl))); (try simp only [Act.put, List.setIfInBounds_toArray, List.set_cons_zero, List.set_cons_succ]); refine regT 7 34 (v := ?_) rfl rfl (by kernel_rfl) (by kernel_rfl) (by kernel_rfl) (fun _ _ _ h => h) (by rfl) ?_ (by assumption) ?_; rotate_left; (focus (intro w hSw; (try dsimp only at hSw); go_simp; (try with_reducible rfl))); (try simp only [Act.put, List.setIfInBounds_toArray, List.set_cons_zero, List.set_cons_succ]); refine regT 8 35 (v := ?_) rfl rfl (by kernel_rfl) (by kernel_rfl) (by kernel_rfl) (fun _ _ _ h => h) (by rfl) ?_ (by assumption) ?_; rotate_left; (focus (intro w hSw; (try dsimp only at hSw); go_simp; (try with_reducible rfl))); (try simp only [Act.put, List.setIfInBounds_toArray, List.set_cons_zero, List.set_cons_succ]); refine regT 9 36 (v := ?_) rfl rfl (by kernel_rfl) (by kernel_rfl) (by kernel_rfl) (fun _ _ _ h => h) (by rfl) ?_ (by assumption) ?_; rotate_left; (focus (intro w hSw; (try dsimp only at hSw); go_simp; (try with_reducible rfl))); (try simp only [Act.put, List.setIfInBounds_toArray, List.set_cons_zero, List.set_cons_succ]); refine regT 10 37 (v := ?_) rfl rfl (by kernel_rfl) (by kernel_rfl) (by kernel_rfl) (fun _ _ _ h => h) (by rfl) ?_ (by assumption) ?_; rotate_left; (focus (intro w hSw; (try dsimp only at hSw); go_simp; (try with_reducible rfl))); (try simp only [Act.put, List.setIfInBounds_toArray, List.set_cons_zero, List.set_cons_succ]); refine wpAnyH_done (by kernel_rfl) ?_ _; all_goals (have hb := And.right (by assumption : Held W0 _); have hst := xr hb; (try simp only [zA, zC, zD, zN] at hst); obtain ⟨hc, hf, hz⟩ := hst))
        all_goals go_wp2
        have hLD := ho.deals.ow.lbA
        (refine wp_name ?_; intro W0 hb0; have hst := xr hb0; (try simp only [zA, zC, zD, zN] at hst); obtain ⟨hc0, hf0, hz0⟩ := hst; have hLb : Lb W0 (g) n := Lb.ex (by exact lbc_) hb0; refine wp_region_held_drew (S := fun w' => HeldB (g) n W0 w') (by kernel_rfl) ?_ (fun hHeld => ?_); (focus ((try dsimp only); (first | with_reducible assumption | with_reducible exact HeldB.start hLb | with_reducible exact HeldB.of (by assumption) (by assumption) | ((repeat (first | with_reducible refine HeldB.set ?_ (by first | exact Or.inl rfl | exact Or.inr (by simp only [zA, zC, zD, zN]; omega) | exact Or.inr (by omega)) | with_reducible refine HeldB.alloc ?_ _ | with_reducible refine HeldB.drew ?_)); (first | with_reducible assumption | with_reducible exact HeldB.refl hLb | with_reducible exact HeldB.of (by assumption) (by assumption) | with_reducible exact HeldB.ex (by assumption) (by assumption)))))); refine regT 0 39 (v := ?_) rfl rfl (by kernel_rfl) (by kernel_rfl) (by kernel_rfl) (fun _ _ _ h => h) (by rfl) ?_ (by assumption) ?_; rotate_left; (focus (intro w hSw; (try dsimp only at hSw); go_simp; (try with_reducible rfl))); (try simp only [Act.put, List.setIfInBounds_toArray, List.set_cons_zero, List.set_cons_succ]); refine regT 1 40 (v := ?_) rfl rfl (by kernel_rfl) (by kernel_rfl) (by kernel_rfl) (fun _ _ _ h => h) (by rfl) ?_ (by assumption) ?_; rotate_left; (focus (intro w hSw; (try dsimp only at hSw); go_simp; (try with_reducible rfl))); (try simp only [Act.put, List.setIfInBounds_toArray, List.set_cons_zero, List.set_cons_succ]); refine regT 2 41 (v := ?_) rfl rfl (by kernel_rfl) (by kernel_rfl) (by kernel_rfl) (fun _ _ _ h => h) (by rfl) ?_ (by assumption) ?_; rotate_left; (focus (intro w hSw; (try dsimp only at hSw); go_simp; (try with_reducible rfl))); (try simp only [Act.put, List.setIfInBounds_toArray, List.set_cons_zero, List.set_cons_succ]); refine regT 3 42 (v := ?_) rfl rfl (by kernel_rfl) (by kernel_rfl) (by kernel_rfl) (fun _ _ _ h => h) (by rfl) ?_ (by assumption) ?_; rotate_left; (focus (intro w hSw; (try dsimp only at hSw); go_simp; (try with_reducible rfl))); (try simp only [Act.put, List.setIfInBounds_toArray, List.set_cons_zero, List.set_cons_succ]); refine regT 5 44 (v := ?_) rfl rfl (by kernel_rfl) (by kernel_rfl) (by kernel_rfl) (fun _ _ _ h => h) (by rfl) ?_ (by assumption) ?_; rotate_left; (focus (intro w hSw; (try dsimp only at hSw); go_simp; (try with_reducible rfl))); (try simp only [Act.put, List.setIfInBounds_toArray, List.set_cons_zero, List.set_cons_succ]); refine regT 6 45 (v := ?_) rfl rfl (by kernel_rfl) (by kernel_rfl) (by kernel_rfl) (fun _ _ _ h => h) (by rfl) ?_ (by assumption) ?_; rotate_left; (focus (intro w hSw; (try dsimp only at hSw); go_simp; (try with_reducible rfl))); (try simp only [Act.put, List.setIfInBounds_toArray, List.set_cons_zero, List.set_cons_succ]); refine regT 7 46 (v := ?_) rfl rfl (by kernel_rfl) (by kernel_rfl) (by kernel_rfl) (fun _ _ _ h => h) (by rfl) ?_ (by assumption) ?_; rotate_left; (focus (intro w hSw; (try dsimp only at hSw); go_simp; (try with_reducible rfl))); (try simp only [Act.put, List.setIfInBounds_toArray, List.set_cons_zero, List.set_cons_succ]); refine regT 8 47 (v := ?_) rfl rfl (by kernel_rfl) (by kernel_rfl) (by kernel_rfl) (fun _ _ _ h => h) (by rfl) ?_ (by assumption) ?_; rotate_left; (focus (intro w hSw; (try dsimp only at hSw); go_simp; (try with_reducible rfl))); (try simp only [Act.put, List.setIfInBounds_toArray, List.set_cons_zero, List.set_cons_succ]); refine wpAnyH_ready (rs := [4]) (by kernel_rfl) (by simp) ?_; refine AllReadyH.cons rfl (fun K hK => ?_) ?_; rotate_left; (focus exact AllReadyH.nil); go_simp; refine hK.out _ _ ?_ (fun hHeld => ?_); (focus ((try dsimp only); (first | with_reducible assumption | with_reducible exact HeldB.start hLb | with_reducible exact HeldB.of (by assumption) (by assumption) | ((repeat (first | with_reducible refine HeldB.set ?_ (by first | exact Or.inl rfl | exact Or.inr (by simp only [zA, zC, zD, zN]; omega) | exact Or.inr (by omega)) | with_reducible refine HeldB.alloc ?_ _ | with_reducible refine HeldB.drew ?_)); (first | with_reducible assumption | with_reducible exact HeldB.refl hLb | with_reducible exact HeldB.of (by assumption) (by assumption) | with_reducible exact HeldB.ex (by assumption) (by assumption)))))); clear hK K; (try simp only [Act.put, List.setIfInBounds_toArray, List.set_cons_zero, List.set_cons_succ]); refine wpAnyH_ready (rs := [9]) (by kernel_rfl) (by simp) ?_; refine AllReadyH.cons rfl (fun K hK => ?_) ?_; rotate_left; (focus exact AllReadyH.nil); go_simp; (go_at_call 158; apply Calls.mono; apply iMonTurn_c; (apply Rs.at0 ho.purses.rs; (exact kf_)); omega; rintro E w3 ⟨A3, c3, rfl, ho3, hb⟩; have hb3 := hb; have hst := xr hb; (try simp only [zA, zC, zD, zN] at hst); obtain ⟨hc, hf, hz⟩ := hst); (try go_wp2_with fail); refine hK.out _ _ ?_ (fun hHeld => ?_); (focus ((try dsimp only); (first | with_reducible assumption | with_reducible exact HeldB.start hLb | with_reducible exact HeldB.of (by assumption) (by assumption) | ((repeat (first | with_reducible refine HeldB.set ?_ (by first | exact Or.inl rfl | exact Or.inr (by simp only [zA, zC, zD, zN]; omega) | exact Or.inr (by omega)) | with_reducible refine HeldB.alloc ?_ _ | with_reducible refine HeldB.drew ?_)); (first | with_reducible assumption | with_reducible exact HeldB.refl hLb | with_reducible exact HeldB.of (by assumption) (by assumption) | with_reducible exact HeldB.ex (by assumption) (by assumption)))))); clear hK K; (try simp only [Act.put, List.setIfInBounds_toArray, List.set_cons_zero, List.set_cons_succ]); refine regT 10 38 (v := ?_) rfl rfl (by kernel_rfl) (by kernel_rfl) (by kernel_rfl) (fun _ _ _ h => h) (by rfl) ?_ (by assumption) ?_; rotate_left; (focus (intro w hSw; (try dsimp only at hSw); go_simp; (try with_reducible rfl))); (try simp only [Act.put, List.setIfInBounds_toArray, List.set_cons_zero, List.set_cons_succ]); refine regT 11 49 (v := ?_) rfl rfl (by kernel_rfl) (by kernel_rfl) (by kernel_rfl) (fun _ _ _ h => h) (by rfl) ?_ (by assumption) ?_; rotate_left; (focus (intro w hSw; (try dsimp only at hSw); go_simp; (try with_reducible rfl))); (try simp only [Act.put, List.setIfInBounds_toArray, List.set_cons_zero, List.set_cons_succ]); refine regT 12 50 (v := ?_) rfl rfl (by kernel_rfl) (by kernel_rfl) (by kernel_rfl) (fun _ _ _ h => h) (by rfl) ?_ (by assumption) ?_; rotate_left; (focus (intro w hSw; (try dsimp only at hSw); go_simp; (try with_reducible rfl))); (try simp only [Act.put, List.setIfInBounds_toArray, List.set_cons_zero, List.set_cons_succ]); refine regT 13 51 (v := ?_) rfl rfl (by kernel_rfl) (by kernel_rfl) (by kernel_rfl) (fun _ _ _ h => h) (by rfl) ?_ (by assumption) ?_; rotate_left; (focus (intro w hSw; (try dsimp only at hSw); go_simp; (try with_reducible rfl))); (try simp only [Act.put, List.setIfInBounds_toArray, List.set_cons_zero, List.set_cons_succ]); refine regT 14 52 (v := ?_) rfl rfl (by kernel_rfl) (by kernel_rfl) (by kernel_rfl) (fun _ _ _ h => h) (by rfl) ?_ (by assumption) ?_; rotate_left; (focus (intro w hSw; (try dsimp only at hSw); go_simp; (try with_reducible rfl))); (try simp only [Act.put, List.setIfInBounds_toArray, List.set_cons_zero, List.set_cons_succ]); refine wpAnyH_ready (rs := [15]) (by kernel_rfl) (by simp) ?_; refine AllReadyH.cons rfl (fun K hK => ?_) ?_; rotate_left; (focus exact AllReadyH.nil); have hb := HeldB.ch hHeld; have hst := xc hb; (try simp only [zA, zC, zD, zN] at hst); obtain ⟨hc, hf, hz⟩ := hst; have hLbx := HeldB.lb hHeld; obtain ⟨hcx, hfx⟩ := Lb.rules hLbx; go_simp; refine hK.out _ _ ?_ (fun hHx => ?_); (focus ((try dsimp only); (first | with_reducible assumption | with_reducible exact HeldB.start hLb | with_reducible exact HeldB.of (by assumption) (by assumption) | ((repeat (first | with_reducible refine HeldB.set ?_ (by first | exact Or.inl rfl | exact Or.inr (by simp only [zA, zC, zD, zN]; omega) | exact Or.inr (by omega)) | with_reducible refine HeldB.alloc ?_ _ | with_reducible refine HeldB.drew ?_)); (first | with_reducible assumption | with_reducible exact HeldB.refl hLb | with_reducible exact HeldB.of (by assumption) (by assumption) | with_reducible exact HeldB.ex (by assumption) (by assumption)))))); clear hK K hHeld hcx hfx hLbx; have hLb3 := HeldB.lb hHx; (repeat (first | with_reducible replace hLb3 := Lb.unset hLb3 | with_reducible replace hLb3 := Lb.undrew hLb3)); obtain ⟨hcb, hfb⟩ := Lb.rules hLb3; have hbf := HeldB.ch hHx; clear hHx; (try simp only [Act.put, List.setIfInBounds_toArray, List.set_cons_zero, List.set_cons_succ]); refine wpAnyH_done (by kernel_rfl) ?_ _)
        all_goals go_wp2
        have hex : Ex wr w3 := ext_
        (refine wp_name ?_; intro W0 hb0; have hst := xr hb0; (try simp only [zA, zC, zD, zN] at hst); obtain ⟨hc0, hf0, hz0⟩ := hst; have hLb : Lb W0 (gD) (aDc * 5) := Lb.ex (by exact lbc_) hb0; go_region_held3 (fun w' => HeldB (gD) (aDc * 5) W0 w') ((first | with_reducible assumption | with_reducible exact HeldB.start hLb | with_reducible exact HeldB.of (by assumption) (by assumption) | ((repeat (first | with_reducible refine HeldB.set ?_ (by first | exact Or.inl rfl | exact Or.inr (by simp only [zA, zC, zD, zN]; omega) | exact Or.inr (by omega)) | with_reducible refine HeldB.alloc ?_ _ | with_reducible refine HeldB.drew ?_)); (first | with_reducible assumption | with_reducible exact HeldB.refl hLb | with_reducible exact HeldB.of (by assumption) (by assumption) | with_reducible exact HeldB.ex (by assumption) (by assumption))))) (fail); all_goals (rename HeldB (gD) (aDc * 5) W0 _ => hHx; have hb := HeldB.ch hHx; have hst := xc hb; (try simp only [zA, zC, zD, zN] at hst); obtain ⟨hc, hf, hz⟩ := hst; have hLb3 := HeldB.lb hHx; (repeat (first | with_reducible replace hLb3 := Lb.unset hLb3 | with_reducible replace hLb3 := Lb.undrew hLb3)); obtain ⟨hcb, hfb⟩ := Lb.rules hLb3; clear hHx))
        all_goals go_wp2
        have hgG : SG g lo τ g ∨ w.heap.size ≤ g := Or.inl (Or.inl rfl)
        have hgS : SG g lo τ gD ∨ w.heap.size ≤ gD := by
          by_cases hgl2 : gD < w.heap.size
          · exact .inl (.inr ⟨hloD, by rw [← Hτ.out gD hgl2, tD]; omega, by rw [← Hτ.out gD hgl2, tD]; omega⟩)
          · exact .inr (by omega)
        have kf3 : KF 0 wr w3 := by (exact kf_)
        have kf0 : KF 0 (w3.setCell ⟨g, o + 1, none⟩ (.slice A3 aPn c3)) W0 := by (exact kf_)
        have hcx : Ch (SG g lo τ) w w3 := (by (exact ext_))
        have hcy : Ch (SG g lo τ) w W0 := cE (by assumption) (cS hcx hgG _)
        have gne : ∀ i j : Nat, (⟨gD, i, none⟩ : Addr) ≠ ⟨g, j, none⟩ := fun i j e => hne (by injection e)
        refine ⟨⟨k + 1, A3, c3, glue τr wr.heap.size (fun _ => 2), by omega, by go_num, cD (cS (cS hcy hgS _) hgS _), fun b hb => (if_pos (by omega)).trans (Hτ.out b hb), ?_, by exact sz_, (by exact lbc_), ?_, ?_⟩, by simp [intOf]; omega⟩
        · exact (((((hmk.keep kf3).setP A3 aPn c3).keep kf0).other _ hne).other _ hne).drew
        · intro i hi
          refine (World.cell?_setCell_other _ _ _ _ (gne _ _)).trans ?_
          refine (World.cell?_setCell_other _ _ _ _ (gne _ _)).trans ?_
          refine (World.cell?_of_block (a := ⟨g, i, none⟩) (kf0.block g (Nat.zero_le _) (by simp only [World.setCell, Array.size_modify]; have := kf3.size; omega))).trans ?_
          refine (World.cell?_setCell_other _ _ _ _ (fun e => by injection e; omega)).trans ?_
          exact (World.cell?_of_block (a := ⟨g, i, none⟩) (kf3.block g (Nat.zero_le _) (by omega))).trans (Hout.out i hi)
        · rw [He.out]
          exact (OwM.backed ho hex (by assumption) (ho3.less (by exact sz_)) h0 (by omega) (backs_at HY.out) (by omega)).keepF (by (exact kf_))
    · go_wp2_with fail
      go_ret
      obtain rfl : k = aDn := by omega
      refine ⟨B, d, τr, rfl, hmk, hLr, ?_, Hτ.out, Hout.out, hb2⟩
      rw [← ticked_all (Nat.le_of_eq l3.out.symm)]
      exact ho
end Go.Proofs.Ytgceeggfdomdjaa

namespace Go.Proofs.Ytgceeggfdomdjaa.Sw
set_option maxRecDepth 100000
set_option linter.unusedSimpArgs false
set_option linter.unusedVariables false
open Go.RowKit (wrap64)

/-- How a request was done: the market behind it, but its numbers. -/
inductive DoneBy (m : Mkt) (rows : List Row) (r : Req) : Mkt → Prop
  | issue : r.kind = 1 → r.user = 1 → r.who ≠ 1 → (rowAt rows r.ticket).who = 0 → m.log.length < 40 → moveMay m.purses r.who 1 r.price = true →
      DoneBy m rows r { m with purses := turned (turned m.purses r.who (-r.price)) 1 r.price, log := m.log ++ [⟨1, r.ticket, r.who, r.price⟩] }
  | offer : r.kind = 2 → (rowAt rows r.ticket).who = r.user → dealAt m.deals r.ticket = none → (rowAt rows r.ticket).used = false → r.price ≤ entCap (rowAt rows r.ticket).face →
      DoneBy m rows r { m with deals := insertDeal ⟨r.ticket, r.user, r.price, 0, 0⟩ m.deals }
  | drop (k : Nat) (d : Deal) : r.kind = 3 → (rowAt rows r.ticket).who = r.user → dealAt m.deals r.ticket = some k → m.deals[k]? = some d → d.ticket = r.ticket → held d = false →
      DoneBy m rows r { m with deals := m.deals.eraseIdx k }
  | fund (k : Nat) (d : Deal) : r.kind = 4 → dealAt m.deals r.ticket = some k → m.deals[k]? = some d → d.ticket = r.ticket → held d = false → d.seller ≠ r.user → turnMay m.purses r.user (-d.price) = true →
      DoneBy m rows r { m with purses := turned m.purses r.user (-d.price), deals := m.deals.set k { d with buyer := r.user, due := m.clock + 5 } }
  | settle (k : Nat) (d : Deal) : r.kind = 5 → dealAt m.deals r.ticket = some k → m.deals[k]? = some d → d.ticket = r.ticket → held d = true → d.seller = r.user → m.log.length < 40 → turnMay m.purses d.seller d.price = true →
      DoneBy m rows r { m with purses := turned m.purses d.seller d.price, log := m.log ++ [⟨2, r.ticket, d.buyer, d.price⟩], deals := m.deals.eraseIdx k }
  | enter : r.kind = 6 → (rowAt rows r.ticket).who = r.user → (rowAt rows r.ticket).used = false → dealAt m.deals r.ticket = none → m.log.length < 40 →
      DoneBy m rows r { m with log := m.log ++ [⟨3, r.ticket, r.user, 0⟩] }
theorem settle_may {m : Mkt} {rows : List Row} (h : MOk m rows) {k : Nat} {d : Deal} (hd : m.deals[k]? = some d) (hh : held d = true) : turnMay m.purses d.seller d.price = true := by
  have hdo := dealOk_iff.1 (h.deals.get hd)
  refine turnMay_in h.mon hdo.2.1 (by have := hdo.2.2.2.2.1; omega) ?_
  have h4 := h.sum
  have h5 := heldSum_erase hd
  have h6 := (heldSum_bd (h.deals.sub (List.eraseIdx_sublist m.deals k)).1).1
  have : heldIn d = d.price := by simp [heldIn, hh]
  omega
/-- A request that is not done turns nothing; one that is done does what its kind does. -/
theorem effect_done {m : Mkt} {rows : List Row} {r : Req} (h : MOk m rows) (hr : reqOk r = true) : ((effect m r).2 ≠ 1 ∧ (effect m r).1 = m) ∨ ((effect m r).2 = 1 ∧ DoneBy m rows r (effect m r).1) := by
  have hr := reqOk_iff.1 hr
  have hlog := (ownFold_some.1 h.fold).1
  unfold effect
  rw [mktRows_of h.fold]
  by_cases k1 : r.kind = 1
  · rw [if_pos k1]
    unfold issue
    split
    · exact .inl ⟨by simp, rfl⟩
    split
    · exact .inl ⟨by simp, rfl⟩
    split
    · exact .inl ⟨by simp, rfl⟩
    split
    · rename_i h1 h2 h3 h4
      exact .inr ⟨rfl, .issue k1 (by omega) (by omega) (by omega) (by omega) h4⟩
    · exact .inl ⟨by simp, rfl⟩
  rw [if_neg k1]
  by_cases k2 : r.kind = 2
  · rw [if_pos k2]
    unfold offer
    split
    · exact .inl ⟨by simp, rfl⟩
    split
    · exact .inl ⟨by simp, rfl⟩
    split
    · exact .inl ⟨by simp, rfl⟩
    · rename_i h1 h2 h3
      simp only [not_or, Bool.not_eq_true] at h2
      exact .inr ⟨rfl, .offer k2 (by simpa using h1) (none_of h2.1) h2.2 (by omega)⟩
  rw [if_neg k2]
  by_cases k3 : r.kind = 3
  · rw [if_pos k3]
    unfold dropIt
    split
    · exact .inl ⟨by simp, rfl⟩
    rename_i h1
    split
    · exact .inl ⟨by simp, rfl⟩
    rename_i k hk
    obtain ⟨d, hd, ht⟩ := dealAt_some hk
    rw [getD_of hd]
    split
    · exact .inl ⟨by simp, rfl⟩
    · exact .inr ⟨rfl, .drop k d k3 (by simpa using h1) hk hd ht (by simpa using ‹¬ held d = true›)⟩
  rw [if_neg k3]
  by_cases k4 : r.kind = 4
  · rw [if_pos k4]
    unfold fund
    split
    · exact .inl ⟨by simp, rfl⟩
    rename_i k hk
    obtain ⟨d, hd, ht⟩ := dealAt_some hk
    rw [getD_of hd]
    split
    · exact .inl ⟨by simp, rfl⟩
    split
    · exact .inl ⟨by simp, rfl⟩
    split
    · exact .inr ⟨rfl, .fund k d k4 hk hd ht (by simpa using ‹¬ held d = true›) ‹_› ‹_›⟩
    · exact .inl ⟨by simp, rfl⟩
  rw [if_neg k4]
  by_cases k5 : r.kind = 5
  · rw [if_pos k5]
    unfold settle
    split
    · exact .inl ⟨by simp, rfl⟩
    rename_i k hk
    obtain ⟨d, hd, ht⟩ := dealAt_some hk
    rw [getD_of hd]
    split
    · exact .inl ⟨by simp, rfl⟩
    split
    · exact .inl ⟨by simp, rfl⟩
    split
    · exact .inl ⟨by simp, rfl⟩
    · rename_i h1 h2 h3
      have hh : held d = true := by simpa using h1
      have hm := settle_may h hd hh
      refine .inr ⟨rfl, ?_⟩
      rw [show monTurn m.purses d.seller d.price = turned m.purses d.seller d.price from by simp [monTurn, hm]]
      exact .settle k d k5 hk hd ht hh (by simpa using h2) (by omega) hm
  rw [if_neg k5]
  unfold enter
  split
  · exact .inl ⟨by simp, rfl⟩
  split
  · exact .inl ⟨by simp, rfl⟩
  split
  · exact .inl ⟨by simp, rfl⟩
  · rename_i h1 h2 h3
    simp only [not_or, Bool.not_eq_true] at h2
    exact .inr ⟨rfl, .enter (by omega) (by simpa using h1) h2.1 (none_of h2.2) (by omega)⟩

/-! ### numbers -/
theorem lastOf_set {l : List Int} {u v x : Int} (h5 : l.length = 5) (hu : 1 ≤ u ∧ u ≤ 5) (hv : 1 ≤ v) : lastOf (l.set (u - 1).toNat x) v = if v = u then x else lastOf l v := by
  unfold lastOf
  rw [List.getD_eq_getElem?_getD, List.getElem?_set]
  by_cases h : v = u
  · subst h
    rw [if_pos rfl, if_pos (by omega), if_pos rfl]; rfl
  · rw [if_neg (by omega), if_neg h, List.getD_eq_getElem?_getD]
theorem said_of {m : Mkt} {rows : List Row} (h : MOk m rows) {u : Int} (hu : 1 ≤ u ∧ u ≤ 5) : numOk (lastOf m.nums u) (lastOf m.said u) = true := by
  have hn := h.nlen
  have hs := h.slen
  obtain ⟨a, ha⟩ : ∃ a, m.nums[(u - 1).toNat]? = some a := ⟨_, List.getElem?_eq_getElem (by omega)⟩
  obtain ⟨b, hb⟩ : ∃ b, m.said[(u - 1).toNat]? = some b := ⟨_, List.getElem?_eq_getElem (by omega)⟩
  unfold lastOf
  rw [getD_of ha, getD_of hb]
  exact (numsOk_iff (by rw [hn, hs])).1 h.nums _ _ _ ha hb
theorem doIt_ans {m : Mkt} {rows : List Row} {r : Req} (h : MOk m rows) (hr : reqOk r = true) : 1 ≤ (doIt m r).2 ∧ (doIt m r).2 ≤ 7 := by
  have hr' := reqOk_iff.1 hr
  unfold doIt
  split
  · have := numOk_iff.1 (said_of h hr'.1)
    dsimp only
    omega
  split
  · simp
  · have := effect_ans m r
    dsimp only
    omega
/-- The log grows by one entry at most. -/
theorem doIt_log {m : Mkt} {rows : List Row} {r : Req} (h : MOk m rows) (hr : reqOk r = true) : (doIt m r).1.log = m.log ∨ ∃ e, (doIt m r).1.log = m.log ++ [e] := by
  unfold doIt
  split
  · exact .inl rfl
  split
  · exact .inl rfl
  · show (effect m r).1.log = m.log ∨ ∃ e, (effect m r).1.log = m.log ++ [e]
    rcases effect_done h hr with ⟨_, e⟩ | ⟨_, d⟩
    · exact .inl (by rw [e])
    · generalize (effect m r).1 = x at d
      cases d
      · exact .inr ⟨_, rfl⟩
      · exact .inl rfl
      · exact .inl rfl
      · exact .inl rfl
      · exact .inr ⟨_, rfl⟩
      · exact .inr ⟨_, rfl⟩
theorem doIt_clock {m : Mkt} {rows : List Row} {r : Req} (h : MOk m rows) (hr : reqOk r = true) : (doIt m r).1.clock = m.clock := by
  unfold doIt
  split
  · rfl
  split
  · rfl
  · exact (effect_eff h hr).clk
end Go.Proofs.Ytgceeggfdomdjaa.Sw

namespace Go.Proofs.Ytgceeggfdomdjaa.Sw
set_option maxRecDepth 100000
set_option linter.unusedSimpArgs false
set_option linter.unusedVariables false
open Go.RowKit (wrap64)

theorem foldLines_append : ∀ (a b : List Req) (m : Mkt), foldLines m (a ++ b) = (foldLines m a).bind fun x => foldLines x b
  | [], b, m => rfl
  | r :: a, b, m => by
    rw [List.cons_append, foldLines, foldLines]
    split
    · split
      · rfl
      · exact foldLines_append a b _
    · split
      · exact foldLines_append a b _
      · rfl
theorem reqZ_no : reqOk reqZ = false := rfl
theorem ne_reqZ {r : Req} (h : reqOk r = true) : r ≠ reqZ := by rintro rfl; rw [reqZ_no] at h; cases h
theorem wldFold_snoc {first : List Int} {ls : List Req} {m : Mkt} (h : wldFold first ls = some m) (hl : ls.length < 300) (r : Req) : wldFold first (ls ++ [r]) = foldLines m [r] := by
  unfold wldFold at h ⊢
  split at h
  · rename_i hc
    simp only [Bool.and_eq_true, decide_eq_true_eq] at hc
    rw [if_pos (by simp only [Bool.and_eq_true, decide_eq_true_eq]; exact ⟨hc.1, by simp; omega⟩), foldLines_append, h]
    rfl
  · cases h

/-- A head of the first so many entries. -/
def Of (log : List Ent) (h : Head) : Prop := hedAt log h.size = some h
theorem hedAt_some {log : List Ent} {s : Int} {h : Head} : hedAt log s = some h ↔ (0 ≤ s ∧ s ≤ log.length) ∧ hedOf (log.take s.toNat) = some h := by
  unfold hedAt
  split
  · rename_i hc; rw [inR_iff] at hc; simp [hc]
  · rename_i hc
    have : ¬ (0 ≤ s ∧ s ≤ log.length) := fun h => hc (inR_iff.2 h)
    simp [this]
theorem hedAt_size {log : List Ent} {s : Int} {h : Head} (e : hedAt log s = some h) : h.size = s := by
  rw [hedAt_some] at e
  have := (hedOf_ok e.2).2
  rw [this, List.length_take]
  omega
theorem hedAt_append {log : List Ent} {s : Int} (es : List Ent) (h : 0 ≤ s ∧ s ≤ log.length) : hedAt (log ++ es) s = hedAt log s := by
  unfold hedAt
  rw [if_pos (inR_iff.2 h), if_pos (inR_iff.2 (by rw [List.length_append]; omega)), List.take_append_of_le_length (by omega)]
theorem Of.append {log : List Ent} {h : Head} (e : Of log h) (es : List Ent) : Of (log ++ es) h := by
  unfold Of at *
  rw [hedAt_append es (hedAt_some.1 e).1, e]
theorem Of.whole {log : List Ent} {h : Head} (e : hedOf log = some h) : Of log h := by
  have hs := (hedOf_ok e).2
  unfold Of
  rw [hedAt_some]
  refine ⟨by omega, ?_⟩
  rw [List.take_of_length_le (by omega)]
  exact e
theorem hedOf_of_fold {log : List Ent} {rows : List Row} (h : ownFold log = some rows) : ∃ x, hedOf log = some x := ⟨_, hedOf_some.2 ⟨rows, h, rfl⟩⟩
/-- Two heads of one log never fork. -/
theorem Of.nofork {log : List Ent} {a b : Head} (ha : Of log a) (hb : Of log b) : hedFork a b = false := by
  unfold Of at *
  by_cases h : a.size = b.size
  · rw [h, hb] at ha
    obtain rfl := Option.some.inj ha
    simp [hedFork]
  · simp [hedFork, h]

/-- What holds of a world that events have led to, from purses first on. -/
structure Inv (first : List Int) (w : World) : Prop where
  ok : WOk w
  isFirst : w.first = first
  fold : wldFold first w.lines = some w.market
  money : total w.market = first.sum
  gates : ∀ g ∈ w.gates, Of w.market.log g.head
  bag : ∀ x ∈ w.bag, Of w.market.log x.head
theorem Inv.rows {first : List Int} {w : World} (h : Inv first w) : ∃ rows, MOk w.market rows := mktOk_iff.1 h.ok.mkt
theorem inv_new {p : List Int} (hp : monOk p = true) (hs : monSum p ≤ 100000) : Inv p (wldNew p) := by
  have ok := wldNew_ok hp hs
  have e : wldNew p = ⟨p, mktNew p, [], [gatNew, gatNew], []⟩ := by simp [wldNew, hp, hs]
  have em : mktNew p = ⟨[], p, [], 0, [0, 0, 0, 0, 0], [0, 0, 0, 0, 0]⟩ := by simp [mktNew, hp, hs]
  rw [e] at ok ⊢
  refine ⟨ok, rfl, by simp [wldFold, hp, hs, foldLines], by rw [em]; simp [total, heldSum], fun g hg => ?_, by simp⟩
  have hg : g = gatNew := by simpa using hg
  subst hg
  rw [em]
  obtain ⟨x, hx⟩ := hedOf_of_fold (log := []) (rows := rows0) rfl
  have : gatNew.head = x := by simp [gatNew, hx]
  rw [this]
  exact Of.whole hx
theorem inv_ask {first : List Int} {w : World} (h : Inv first w) (r : Req) : Inv first (ask w r).1 := by
  have hok := ask_ok h.ok r
  unfold ask at hok ⊢
  split at hok
  · rename_i hr
    rw [if_pos hr]
    simp only [Bool.and_eq_true, decide_eq_true_eq] at hr
    obtain ⟨rows, hm⟩ := h.rows
    have hlog : ∃ es, (doIt w.market r).1.log = w.market.log ++ es := by
      rcases doIt_log hm hr.1 with e | ⟨x, e⟩
      · exact ⟨[], by rw [e, List.append_nil]⟩
      · exact ⟨[x], e⟩
    obtain ⟨es, he⟩ := hlog
    refine ⟨hok, h.isFirst, ?_, ?_, fun g hg => ?_, fun x hx => ?_⟩
    · show wldFold first (w.lines ++ [r]) = _
      rw [wldFold_snoc h.fold hr.2, foldLines, if_neg (ne_reqZ hr.1), if_pos hr.1, foldLines]
    · show total (doIt w.market r).1 = _
      rw [doIt_total hm hr.1, h.money]
    · show Of (doIt w.market r).1.log g.head
      rw [he]
      exact (h.gates g hg).append es
    · show Of (doIt w.market r).1.log x.head
      rw [he]
      exact (h.bag x hx).append es
  · rename_i hr
    rw [if_neg hr]
    exact h
theorem inv_tick {first : List Int} {w : World} (h : Inv first w) : Inv first (tickW w) := by
  have hok := tickW_ok h.ok
  unfold tickW at hok ⊢
  split at hok
  · rename_i hr
    rw [if_pos hr]
    simp only [Bool.and_eq_true, decide_eq_true_eq] at hr
    obtain ⟨rows, hm⟩ := h.rows
    refine ⟨hok, h.isFirst, ?_, ?_, h.gates, h.bag⟩
    · show wldFold first (w.lines ++ [reqZ]) = _
      rw [wldFold_snoc h.fold hr.2, foldLines, if_pos rfl, if_neg hr.1, foldLines]
    · show total (tick w.market) = _
      rw [tick_total hm, h.money]
  · rename_i hr
    rw [if_neg hr]
    exact h
theorem fall_market {first : List Int} {w : World} (h : Inv first w) : (fall w).market = w.market := by
  show (wldFold w.first w.lines).getD w.market = _
  rw [h.isFirst, h.fold]
  rfl
theorem inv_fall {first : List Int} {w : World} (h : Inv first w) : Inv first (fall w) := by
  have e := fall_market h
  refine ⟨fall_ok h.ok, h.isFirst, ?_, ?_, fun g hg => ?_, by simp [fall]⟩
  · rw [e]; exact h.fold
  · rw [e]; exact h.money
  · rw [e]; exact h.gates g hg
theorem inv_send {first : List Int} {w : World} (h : Inv first w) (k : Int) : Inv first (send w k) := by
  have hok := send_ok h.ok k
  unfold send at hok ⊢
  split at hok
  · rename_i hr
    rw [if_pos hr]
    refine ⟨hok, h.isFirst, h.fold, h.money, h.gates, fun x hx => ?_⟩
    rcases List.mem_append.1 hx with hx | hx
    · exact h.bag x hx
    · obtain rfl := List.mem_singleton.1 hx
      obtain ⟨rows, hm⟩ := h.rows
      obtain ⟨y, hy⟩ := hedOf_of_fold hm.fold
      show Of _ ((hedOf w.market.log).getD headZ)
      rw [hy]
      exact Of.whole hy
  · rename_i hr
    rw [if_neg hr]
    exact h
theorem inv_lose {first : List Int} {w : World} (h : Inv first w) (i : Int) : Inv first (lose w i) :=
  ⟨lose_ok h.ok i, h.isFirst, h.fold, h.money, h.gates, fun x hx => h.bag x ((List.eraseIdx_sublist w.bag i.toNat).subset hx)⟩
theorem inv_setGate {first : List Int} {w : World} (h : Inv first w) {k : Nat} {g : Gate} (hg : gatOk g = true) (ho : Of w.market.log g.head) : Inv first { w with gates := w.gates.set k g } := by
  refine ⟨setGate_ok h.ok hg, h.isFirst, h.fold, h.money, fun x hx => ?_, h.bag⟩
  rcases List.mem_or_eq_of_mem_set hx with hx | rfl
  · exact h.gates x hx
  · exact ho
theorem gateAt_mem {w : World} (h : WOk w) {k : Int} (hk : 0 ≤ k ∧ k ≤ 1) : gateAt w k ∈ w.gates := by
  unfold gateAt
  have hl := h.glen
  obtain ⟨g, hg⟩ : ∃ g, w.gates[k.toNat]? = some g := ⟨_, List.getElem?_eq_getElem (by omega)⟩
  rw [getD_of hg]
  exact List.mem_of_getElem? hg
theorem msgAt_mem {w : World} {i : Int} (hi : 0 ≤ i ∧ i ≤ (w.bag.length : Int) - 1) : msgAt w i ∈ w.bag := by
  unfold msgAt
  obtain ⟨g, hg⟩ : ∃ g, w.bag[i.toNat]? = some g := ⟨_, List.getElem?_eq_getElem (by omega)⟩
  rw [getD_of hg]
  exact List.mem_of_getElem? hg
theorem gatSync_head (g : Gate) (h : Head) (p : List Int) (hg : gatOk g = true) : (gatSync g h p).1.done = g.done ∧ g.head.size ≤ (gatSync g h p).1.head.size ∧ ((gatSync g h p).1.head = h ∨ (gatSync g h p).1.head = g.head) := by
  unfold gatSync
  rw [if_pos hg]
  split
  · exact ⟨rfl, (hedFollows_ok ‹_›).2.2, .inl rfl⟩
  · exact ⟨rfl, Int.le_refl _, .inr rfl⟩
theorem inv_heard {first : List Int} {w : World} (h : Inv first w) {x : Msg} (hx : msgOk x = true) (ho : Of w.market.log x.head) : Inv first (heard w x) := by
  simp only [msgOk, Bool.and_eq_true, inR_iff] at hx
  have hg := gateAt_ok h.ok hx.1.1
  refine inv_setGate h (gatSync_ok hg) ?_
  rcases (gatSync_head (gateAt w x.gate) x.head x.proof hg).2.2 with e | e
  · rw [e]; exact ho
  · rw [e]; exact h.gates _ (gateAt_mem h.ok hx.1.1)
theorem inv_hear {first : List Int} {w : World} (h : Inv first w) {i : Int} (hi : 0 ≤ i ∧ i ≤ (w.bag.length : Int) - 1) : Inv first (hear w i) :=
  inv_heard (inv_lose h i) (msgAt_ok h.ok hi) (h.bag _ (msgAt_mem hi))
theorem inv_twice {first : List Int} {w : World} (h : Inv first w) {i : Int} (hi : 0 ≤ i ∧ i ≤ (w.bag.length : Int) - 1) : Inv first (twice w i) := by
  have hok := twice_ok h.ok hi
  unfold twice at hok ⊢
  split at hok
  · rename_i hr
    rw [if_pos hr]
    refine ⟨hok, h.isFirst, h.fold, h.money, h.gates, fun x hx => ?_⟩
    rcases List.mem_append.1 hx with hx | hx
    · exact h.bag x hx
    · obtain rfl := List.mem_singleton.1 hx
      exact h.bag _ (msgAt_mem hi)
  · rename_i hr
    rw [if_neg hr]
    exact h
theorem gatShow_head (g : Gate) (t who : Int) (r : Row) (p : List Int) (hg : gatOk g = true) : (gatShow g t who r p).1.head = g.head := by
  unfold gatShow
  rw [if_pos hg]
  split <;> rfl
theorem inv_show {first : List Int} {w : World} (h : Inv first w) (k t who : Int) : Inv first (showIt w k t who).1 := by
  unfold showIt
  split
  · rename_i hr
    simp only [Bool.and_eq_true, decide_eq_true_eq, inR_iff] at hr
    split
    · exact h
    · split
      · have hg := gateAt_ok h.ok hr.1.1
        refine inv_setGate h (gatShow_ok hg) ?_
        rw [gatShow_head _ _ _ _ _ hg]
        exact h.gates _ (gateAt_mem h.ok hr.1.1)
      · exact h
  · exact h
theorem inv_tellOne {first : List Int} {w : World} (h : Inv first w) (t : Int) : Inv first (tellOne w t) := by
  unfold tellOne
  split
  · exact inv_ask h _
  · exact h
theorem inv_tells {first : List Int} : ∀ (ts : List Int) {w : World}, Inv first w → Inv first (ts.foldl tellOne w)
  | [], _, h => h
  | t :: ts, _, h => inv_tells ts (inv_tellOne h t)
theorem inv_tell {first : List Int} {w : World} (h : Inv first w) (k : Int) : Inv first (tell w k) := by
  unfold tell
  split
  · exact inv_tells _ h
  · exact h
theorem inv_step {first : List Int} {w : World} (h : Inv first w) (e : Ev) : Inv first (step w e).1 := by
  unfold step
  split
  · exact inv_ask h _
  split
  · exact inv_tick h
  split
  · exact inv_fall h
  split
  · exact inv_send h _
  split
  · dsimp only; split
    · exact inv_hear h (inR_iff.1 ‹_›)
    · exact h
  split
  · dsimp only; split
    · exact inv_lose h _
    · exact h
  split
  · dsimp only; split
    · exact inv_twice h (inR_iff.1 ‹_›)
    · exact h
  split
  · exact inv_show h _ _ _
  split
  · exact inv_tell h _
  · exact h
theorem inv_run {first : List Int} : ∀ (es : List Ev) {w : World}, Inv first w → Inv first (runFrom w es)
  | [], _, h => h
  | e :: es, _, h => inv_run es (inv_step h e)
theorem Inv.wldMoney {first : List Int} {w : World} (h : Inv first w) : wldMoney w = first.sum := by
  obtain ⟨rows, hm⟩ := h.rows
  unfold Sw.wldMoney
  rw [hm.total]
  have := h.money
  unfold total at this
  rw [this]
  have hs := hm.sum
  have h1 := (sum_bd w.market.purses 100000 (by omega) (monOk_iff.1 hm.mon).2).1
  have h2 := (heldSum_bd hm.deals.1).1
  exact wrap64_in (by omega)
end Go.Proofs.Ytgceeggfdomdjaa.Sw

namespace Go.Proofs.Ytgceeggfdomdjaa.Sw
set_option maxRecDepth 100000
set_option linter.unusedSimpArgs false
set_option linter.unusedVariables false
open Go.RowKit (wrap64)

theorem root_parts {xs : List Int} (h : 2 ≤ xs.length) : root xs = pair (root (xs.take (split xs.length))) (root (xs.drop (split xs.length))) := by
  match xs, h with
  | x :: y :: r, _ => rw [root]; rfl
theorem split_mid {m n : Nat} (h1 : split n < m) (h2 : m ≤ n) (h3 : 2 ≤ n) : split m = split n := by
  unfold split at *
  have e : (m - 1).log2 = (n - 1).log2 := by
    have hn := (Nat.log2_eq_iff (n := n - 1) (k := (n - 1).log2) (by omega)).1 rfl
    exact (Nat.log2_eq_iff (by omega)).2 ⟨by omega, by omega⟩
  rw [e]
theorem grow_shows : ∀ (n : Nat) (l : List Int) (m : Nat) (old : Int) (known : Bool), 1 ≤ m → m ≤ l.length → l.length ≤ n → (known = true → old = root (l.take m)) →
    grR m l.length old (grow n l m known).reverse known = some (root (l.take m), root l)
  | 0, l, m, old, known, h1, h2, h3, _ => by omega
  | n + 1, l, m, old, known, h1, h2, h3, ho => by
    rw [grow]
    by_cases hm : m = l.length
    · rw [if_pos hm]
      have ht : l.take m = l := List.take_of_length_le (by omega)
      rw [ht] at ho ⊢
      cases known with
      | true => simp [grR, hm, ho rfl]
      | false => simp [grR, hm]
    · rw [if_neg hm]
      have h2' : 2 ≤ l.length := by omega
      have hs := split_lt h2'
      have hp := split_pos l.length
      have hr := root_parts h2'
      by_cases hk : m ≤ split l.length
      · rw [if_pos hk, List.reverse_append, List.reverse_singleton, List.singleton_append, grR, if_neg hm, if_pos hk]
        have hl : (l.take (split l.length)).length = split l.length := by rw [List.length_take]; omega
        have ht : (l.take (split l.length)).take m = l.take m := by rw [List.take_take, Nat.min_eq_left hk]
        have ih := grow_shows n (l.take (split l.length)) m old known h1 (by omega) (by omega) (by rw [ht]; exact ho)
        rw [hl, ht] at ih
        rw [ih, hr]
        rfl
      · rw [if_neg hk, List.reverse_append, List.reverse_singleton, List.singleton_append, grR, if_neg hm, if_neg hk]
        have hl : (l.drop (split l.length)).length = l.length - split l.length := List.length_drop ..
        have ih := grow_shows n (l.drop (split l.length)) (m - split l.length) old false (by omega) (by omega) (by omega) (by simp)
        rw [hl] at ih
        rw [ih, hr]
        have hlm : (l.take m).length = m := by rw [List.length_take]; omega
        have hrm := root_parts (xs := l.take m) (by omega)
        rw [hlm, split_mid (by omega) h2 h2', List.take_take, Nat.min_eq_left (by omega), List.drop_take] at hrm
        rw [hrm]
        rfl
theorem con_shows {l : List Int} {m : Nat} (h : treOk l = true) (h1 : 1 ≤ m) (h2 : m ≤ l.length) : conCheck m (root (l.take m)) l.length (root l) (conProof l m) = true := by
  have hl := treOk_iff.1 h
  have hp := conProof_ok l m
  have hc : conProof l m = growth l m true := by
    unfold conProof
    rw [if_pos (by simp only [Bool.and_eq_true, inR_iff]; exact ⟨h, by omega⟩)]
    rfl
  have hs := grow_shows l.length l m (root (l.take m)) true h1 h2 (Nat.le_refl _) (fun _ => rfl)
  unfold conCheck
  rw [Bool.and_eq_true, Bool.and_eq_true, Bool.and_eq_true, Bool.and_eq_true, Bool.and_eq_true, inR_iff, inR_iff]
  refine ⟨⟨⟨⟨⟨by omega, by omega⟩, root_mix _ (all_take hl.2)⟩, root_mix _ hl.2⟩, hp⟩, ?_⟩
  rw [hc]
  show (grR (m : Int).toNat (l.length : Int).toNat _ (grow l.length l m true).reverse true == _) = true
  rw [Int.toNat_natCast, Int.toNat_natCast, hs]
  simp
theorem head_shape {log : List Ent} {h : Head} (e : hedOf log = some h) : h.size = log.length ∧ h.log = root (log.map entLeaf) := by
  obtain ⟨rows, _, rfl⟩ := hedOf_some.1 e
  exact ⟨rfl, rfl⟩
/-- The head of all entries is shown to follow that of the first so many. -/
theorem follows {log : List Ent} {h x : Head} (ho : Of log h) (e : hedOf log = some x) : hedFollows h x (hedProof log h.size) = true := by
  obtain ⟨hs, hh⟩ := hedAt_some.1 ho
  have ok1 := hedOf_ok hh
  have ok2 := hedOf_ok e
  have sh1 := head_shape hh
  have sh2 := head_shape e
  have h40 : log.length ≤ 40 := by
    obtain ⟨rows, hr, _⟩ := hedOf_some.1 e
    exact (ownFold_some.1 hr).1
  unfold hedFollows
  rw [ok1.1, ok2.1]
  have hle : h.size ≤ x.size := by omega
  have heq : (decide (h.size ≠ x.size) || decide (h = x)) = true := by
    by_cases hx : h.size = x.size
    · rw [List.take_of_length_le (by omega)] at hh
      rw [hh] at e
      simp [Option.some.inj e]
    · simp [hx]
  rw [heq, decide_eq_true hle]
  simp only [Bool.and_self, Bool.true_and]
  have hp : hedProof log h.size = conProof (log.map entLeaf) h.size := by simp [hedProof, h40]
  rw [hp]
  by_cases h0 : h.size = 0
  · rw [if_pos h0, h0]
    have : inR (0 : Int) 1 ((log.map entLeaf).length) = false := by simp [inR]
    have e0 : conProof (log.map entLeaf) 0 = [] := by unfold conProof; rw [this, Bool.and_false]; rfl
    rw [e0]; rfl
  · rw [if_neg h0]
    have hto : treOk (log.map entLeaf) = true := treOk_iff.2 ⟨by simpa using h40, entLeaves_mix log⟩
    have hc := con_shows (l := log.map entLeaf) (m := h.size.toNat) hto (by omega) (by rw [List.length_map]; omega)
    rw [← List.map_take, List.length_map] at hc
    rw [sh1.2, sh2.2, sh2.1]
    have e1 : ((h.size.toNat : Nat) : Int) = h.size := by omega
    rw [e1] at hc
    exact hc

/-! ### what is there can be shown -/
theorem incl_len : ∀ (n : Nat) (l : List Int) (i : Nat), i < l.length → (incl n l i).length ≤ l.length - 1
  | 0, l, i, h => by simp [incl]
  | n + 1, l, i, h => by
    rw [incl]
    split
    · simp
    · have hs := split_lt (n := l.length) (by omega)
      have hp := split_pos l.length
      split
      · have := incl_len n (l.take (split l.length)) i (by rw [List.length_take]; omega)
        rw [List.length_take] at this
        simp only [List.length_append, List.length_singleton]
        omega
      · have := incl_len n (l.drop (split l.length)) (i - split l.length) (by rw [List.length_drop]; omega)
        rw [List.length_drop] at this
        simp only [List.length_append, List.length_singleton]
        omega
theorem incl_mix : ∀ (n : Nat) (l : List Int) (i : Nat), l.all mixOk = true → (incl n l i).all mixOk = true
  | 0, l, i, h => by simp [incl]
  | n + 1, l, i, h => by
    rw [incl]
    split
    · rfl
    · split
      · simp [incl_mix n _ i (all_take h), root_mix _ (all_drop h)]
      · simp [incl_mix n _ _ (all_drop h), root_mix _ (all_take h)]
theorem incl_shows : ∀ (n : Nat) (l : List Int) (i : Nat) (x : Int), l[i]? = some x → l.length ≤ n → upR l.length i x (incl n l i).reverse = (root l, true)
  | 0, l, i, x, h, hn => by have := (List.getElem?_eq_some_iff.1 h).1; omega
  | n + 1, l, i, x, h, hn => by
    have hi := (List.getElem?_eq_some_iff.1 h).1
    rw [incl]
    by_cases h1 : l.length ≤ 1
    · rw [if_pos h1]
      match l, h, hi, h1 with
      | [y], h, hi, h1 =>
        have : i = 0 := by simpa using hi
        subst this
        have : y = x := by simpa using h
        subst this
        simp [upR, root]
    · rw [if_neg h1]
      have hs := split_lt (n := l.length) (by omega)
      have hp := split_pos l.length
      have hr := root_parts (xs := l) (by omega)
      by_cases hk : i < split l.length
      · rw [if_pos hk, List.reverse_append, List.reverse_singleton, List.singleton_append, upR, if_neg h1, if_pos hk]
        have hl : (l.take (split l.length)).length = split l.length := by rw [List.length_take]; omega
        have ih := incl_shows n (l.take (split l.length)) i x (by rw [List.getElem?_take, if_pos hk]; exact h) (by omega)
        rw [hl] at ih
        rw [ih, hr]
      · rw [if_neg hk, List.reverse_append, List.reverse_singleton, List.singleton_append, upR, if_neg h1, if_neg hk]
        have hl : (l.drop (split l.length)).length = l.length - split l.length := List.length_drop ..
        have ih := incl_shows n (l.drop (split l.length)) (i - split l.length) x (by rw [List.getElem?_drop, show split l.length + (i - split l.length) = i from by omega]; exact h) (by omega)
        rw [hl] at ih
        rw [ih, hr]
theorem leavesFrom_get : ∀ (rows : List Row) (t : Int) (k : Nat) (r : Row), rows[k]? = some r → (leavesFrom t rows)[k]? = some (ownLeaf (t + k) r)
  | [], t, k, r, h => by simp at h
  | x :: xs, t, 0, r, h => by
    simp at h
    subst h
    simp [leavesFrom]
  | x :: xs, t, k + 1, r, h => by
    have := leavesFrom_get xs (t + 1) k r (by simpa using h)
    rw [leavesFrom, List.getElem?_cons_succ, this]
    congr 2
    omega
theorem leavesFrom_len : ∀ (rows : List Row) (t : Int), (leavesFrom t rows).length = rows.length
  | [], _ => rfl
  | r :: rs, t => by simp [leavesFrom, leavesFrom_len rs]
theorem ownLeaves_len (rows : List Row) : (ownLeaves rows).length = rows.length := leavesFrom_len rows 0
theorem rowAt_get {rows : List Row} (h : ownOk rows = true) {t : Int} (ht : 0 ≤ t ∧ t ≤ 7) : rows[t.toNat]? = some (rowAt rows t) := by
  have h8 := ownOk_len h
  obtain ⟨r, hr⟩ : ∃ r, rows[t.toNat]? = some r := ⟨_, List.getElem?_eq_getElem (by omega)⟩
  rw [rowAt, getD_of hr]
  exact hr
/-- How a ticket stands is shown under the root of all rows. -/
theorem own_shows {rows : List Row} (h : ownOk rows = true) {t : Int} (ht : 0 ≤ t ∧ t ≤ 7) : ownCheck (ownRoot rows) t (rowAt rows t) (ownProof rows t) = true := by
  have h8 := ownOk_len h
  have hit : inR t 0 7 = true := inR_iff.2 ht
  have hg := leavesFrom_get rows 0 t.toNat _ (rowAt_get h ht)
  rw [show (0 : Int) + (t.toNat : Nat) = t from by omega] at hg
  have hl := ownLeaves_len rows
  have hs := incl_shows (ownLeaves rows).length (ownLeaves rows) t.toNat _ hg (Nat.le_refl _)
  have hp : ownProof rows t = inclusion (ownLeaves rows) t.toNat := by simp [ownProof, h, hit]
  have hr : ownRoot rows = root (ownLeaves rows) := by simp [ownRoot, h]
  unfold ownCheck treCheck
  rw [hit, Bool.true_and, hp, hr]
  have htp : treOk (inclusion (ownLeaves rows) t.toNat) = true := by
    have hm := incl_mix (ownLeaves rows).length (ownLeaves rows) t.toNat (ownLeaves_mix rows)
    have hn := incl_len (ownLeaves rows).length (ownLeaves rows) t.toNat (by omega)
    exact treOk_iff.2 ⟨by unfold inclusion; omega, hm⟩
  have hu : up 8 t.toNat (ownLeaf t (rowAt rows t)) (inclusion (ownLeaves rows) t.toNat) = (root (ownLeaves rows), true) := by
    unfold up inclusion
    rw [hl, h8] at hs
    rw [hl, h8]
    exact hs
  unfold treUp
  rw [if_pos (by
    simp only [Bool.and_eq_true, inR_iff]
    refine ⟨⟨⟨⟨by omega, by omega⟩, ownLeaf_mix _ _⟩, htp⟩, ?_⟩
    show (up 8 t.toNat _ _).2 = true
    rw [hu])]
  show (some (up 8 t.toNat _ _).1 == _) = true
  rw [hu]
  simp
end Go.Proofs.Ytgceeggfdomdjaa.Sw

namespace Go.Proofs.Ytgceeggfdomdjaa.Sw
set_option maxRecDepth 100000
set_option linter.unusedSimpArgs false
set_option linter.unusedVariables false
open Go.RowKit (wrap64)

/-- What came of a request. -/
inductive Did (m : Mkt) (rows : List Row) (r : Req) : Mkt → Int → Prop
  | again : r.n = lastOf m.nums r.user → Did m rows r m (lastOf m.said r.user)
  | old : r.n < lastOf m.nums r.user → Did m rows r m 7
  | no (a : Int) : lastOf m.nums r.user < r.n → 2 ≤ a → a ≤ 6 → Did m rows r (noted m r a) a
  | yes (x : Mkt) : lastOf m.nums r.user < r.n → DoneBy m rows r x → Eff m x → Did m rows r (noted x r 1) 1
theorem did {m : Mkt} {rows : List Row} {r : Req} (h : MOk m rows) (hr : reqOk r = true) : Did m rows r (doIt m r).1 (doIt m r).2 := by
  unfold doIt
  split
  · exact .again ‹_›
  split
  · exact .old ‹_›
  · have ha := effect_ans m r
    have he := effect_eff h hr
    show Did m rows r (noted (effect m r).1 r (effect m r).2) (effect m r).2
    rcases effect_done h hr with ⟨h1, h2⟩ | ⟨h1, h2⟩
    · rw [h2]
      exact .no _ (by omega) (by omega) (by omega)
    · rw [h1]
      exact .yes _ (by omega) h2 he
theorem lastOf_noted {m x : Mkt} {r : Req} {a : Int} {rows : List Row} (h : MOk m rows) (hr : reqOk r = true) (hn : x.nums = m.nums) (hs : x.said = m.said) :
    lastOf (noted x r a).nums r.user = r.n ∧ lastOf (noted x r a).said r.user = a := by
  have hr := reqOk_iff.1 hr
  constructor
  · show lastOf (x.nums.set _ _) _ = _
    rw [lastOf_set (by rw [hn, h.nlen]) hr.1 hr.1.1, if_pos rfl]
  · show lastOf (x.said.set _ _) _ = _
    rw [lastOf_set (by rw [hs, h.slen]) hr.1 hr.1.1, if_pos rfl]

/-! ### deals by their tickets -/
theorem dealOf_iff {clock : Int} {rows : List Row} {ds : List Deal} (h : DOk clock rows ds) {t : Int} {d : Deal} : dealOf ds t = some d ↔ d ∈ ds ∧ d.ticket = t := by
  unfold dealOf
  constructor
  · intro e
    exact ⟨List.mem_of_find?_eq_some e, by have := List.find?_some e; simpa using this⟩
  · rintro ⟨h1, h2⟩
    cases e : ds.find? (fun d => decide (d.ticket = t)) with
    | none =>
      have := List.find?_eq_none.1 e d h1
      simp [h2] at this
    | some d' =>
      have h3 := List.mem_of_find?_eq_some e
      have h4 : d'.ticket = t := by have := List.find?_some e; simpa using this
      obtain ⟨i, hi, rfl⟩ := List.getElem_of_mem h1
      obtain ⟨j, hj, rfl⟩ := List.getElem_of_mem h3
      have := h.inj (List.getElem?_eq_getElem hi) (List.getElem?_eq_getElem hj) (by rw [h2, h4])
      subst this
      rfl
theorem dealOf_none {ds : List Deal} {t : Int} : dealOf ds t = none ↔ ∀ d ∈ ds, d.ticket ≠ t := by
  unfold dealOf
  rw [List.find?_eq_none]
  simp
theorem dealOf_same {c c' : Int} {rows rows' : List Row} {ds es : List Deal} (h : DOk c rows ds) (k : DOk c' rows' es) {t : Int} (he : ∀ d, d.ticket = t → (d ∈ ds ↔ d ∈ es)) : dealOf ds t = dealOf es t := by
  cases e : dealOf ds t with
  | none =>
    symm
    rw [dealOf_none] at e ⊢
    intro d hd ht
    exact e d ((he d ht).2 hd) ht
  | some d =>
    symm
    rw [dealOf_iff h] at e
    rw [dealOf_iff k]
    exact ⟨(he d e.2).1 e.1, e.2⟩
theorem dealOf_at {clock : Int} {rows : List Row} {ds : List Deal} (h : DOk clock rows ds) {k : Nat} {d : Deal} (hk : ds[k]? = some d) : dealOf ds d.ticket = some d := (dealOf_iff h).2 ⟨List.mem_of_getElem? hk, rfl⟩
theorem erase_mem {ds : List Deal} {k : Nat} {d x : Deal} (hk : ds[k]? = some d) (hx : x.ticket ≠ d.ticket) : x ∈ ds.eraseIdx k ↔ x ∈ ds := by
  rw [List.mem_eraseIdx_iff_getElem?]
  constructor
  · rintro ⟨i, _, hi⟩
    exact List.mem_of_getElem? hi
  · intro h
    obtain ⟨i, hi⟩ := List.getElem?_of_mem h
    refine ⟨i, ?_, hi⟩
    rintro rfl
    rw [hk] at hi
    exact hx (by rw [Option.some.inj hi])
theorem set_mem {ds : List Deal} {k : Nat} {d e x : Deal} (hk : ds[k]? = some d) (h1 : x.ticket ≠ d.ticket) (h2 : x.ticket ≠ e.ticket) : x ∈ ds.set k e ↔ x ∈ ds := by
  have hk' := (List.getElem?_eq_some_iff.1 hk).1
  constructor
  · intro h
    rcases List.mem_or_eq_of_mem_set h with h | rfl
    · exact h
    · exact absurd rfl h2
  · intro h
    obtain ⟨i, hi⟩ := List.getElem?_of_mem h
    have hne : k ≠ i := by
      rintro rfl
      rw [hk] at hi
      exact h1 (by rw [Option.some.inj hi])
    exact List.mem_of_getElem? (i := i) (by rw [List.getElem?_set, if_neg hne]; exact hi)

/-! ### what a request leaves apart -/
/-- Rows behind what was done. -/
theorem DoneBy.fold {m x : Mkt} {rows : List Row} {r : Req} (h : MOk m rows) (hr : reqOk r = true) (d : DoneBy m rows r x) :
    ∃ rows', ownFold x.log = some rows' ∧ ∀ t, 0 ≤ t → t ≠ r.ticket → rowAt rows' t = rowAt rows t := by
  have hr := reqOk_iff.1 hr
  have ho := ownFold_ok h.fold
  have put : ∀ (e : Ent), e.ticket = r.ticket → ownFits rows e = true → m.log.length < 40 → ∃ rows', ownFold (m.log ++ [e]) = some rows' ∧ ∀ t, 0 ≤ t → t ≠ r.ticket → rowAt rows' t = rowAt rows t := by
    intro e he hf hl
    refine ⟨_, ownFold_snoc h.fold hl hf, fun t h0 ht => ?_⟩
    rw [rowAt_put (ownOk_len ho) (by rw [he]; exact hr.2.2.2.1) h0, if_neg (by rw [he]; exact ht)]
  cases d with
  | issue k1 h1 h2 h3 hl h4 =>
    refine put ⟨1, r.ticket, r.who, r.price⟩ rfl (ownFits_iff.2 ⟨ho, entOk_iff.2 ?_, (fitsRow_iff (.inl rfl)).2 (.inl ⟨rfl, h3⟩)⟩) hl
    dsimp only
    omega
  | offer => exact ⟨rows, h.fold, fun _ _ _ => rfl⟩
  | drop => exact ⟨rows, h.fold, fun _ _ _ => rfl⟩
  | fund => exact ⟨rows, h.fold, fun _ _ _ => rfl⟩
  | settle k d k5 hk hd ht hh hs hl hm =>
    have hdo := dealOk_iff.1 (h.deals.get hd)
    have hcap := entCap_le (rowAt rows d.ticket).face
    have hb : 0 < d.buyer := by simpa [held] using hh
    refine put ⟨2, r.ticket, d.buyer, d.price⟩ rfl (ownFits_iff.2 ⟨ho, entOk_iff.2 ?_, (fitsRow_iff (.inr (.inl rfl))).2 (.inr (.inl ⟨rfl, ?_⟩))⟩) hl <;> dsimp only
    · omega
    · rw [← ht]
      refine ⟨by omega, ?_, hdo.2.2.2.1, hdo.2.2.2.2.1.2⟩
      rw [hdo.2.2.1]; omega
  | enter k6 h1 h2 h3 hl =>
    refine put ⟨3, r.ticket, r.user, 0⟩ rfl (ownFits_iff.2 ⟨ho, entOk_iff.2 ?_, (fitsRow_iff (.inr (.inr rfl))).2 (.inr (.inr ⟨rfl, h1, h2⟩))⟩) hl
    dsimp only
    omega
/-- Behind what was done all other tickets are offered as they were. -/
theorem DoneBy.apart {m x : Mkt} {rows : List Row} {r : Req} (h : MOk m rows) (d : DoneBy m rows r x) (e : Eff m x) {t : Int} (ht : t ≠ r.ticket) : dealOf m.deals t = dealOf x.deals t := by
  obtain ⟨rows', _, hx⟩ := e.rows
  refine dealOf_same h.deals hx fun y hy => ?_
  cases d with
  | issue => exact Iff.rfl
  | offer =>
    rw [insertDeal_mem]
    constructor
    · exact .inr
    · rintro (rfl | h)
      · exact absurd hy.symm ht
      · exact h
  | drop k d k3 h1 hk hd hdt => exact (erase_mem hd (by rw [hdt, hy]; exact ht)).symm
  | fund k d k4 hk hd hdt => exact (set_mem hd (by rw [hdt, hy]; exact ht) (by dsimp only; rw [hdt, hy]; exact ht)).symm
  | settle k d k5 hk hd hdt => exact (erase_mem hd (by rw [hdt, hy]; exact ht)).symm
  | enter => exact Iff.rfl

/-! ### the clock -/
theorem back_idle {clock : Int} : ∀ (ds : List Deal) (p : List Int), (∀ d ∈ ds, (held d && decide (d.due < clock)) = false) → ds.foldl (backPurse clock) p = p ∧ ds.map (backDeal clock) = ds
  | [], p, _ => ⟨rfl, rfl⟩
  | d :: ds, p, h => by
    have h1 := h d (List.mem_cons_self ..)
    have h2 := back_idle ds p (fun x hx => h x (List.mem_cons_of_mem _ hx))
    rw [List.foldl_cons, List.map_cons]
    have e1 : backPurse clock p d = p := by unfold backPurse; rw [if_neg (by rw [h1]; simp)]
    have e2 : backDeal clock d = d := by unfold backDeal; rw [if_neg (by rw [h1]; simp)]
    rw [e1, e2, h2.1, h2.2]
    exact ⟨rfl, rfl⟩
/-- So many ticks, one behind the other; none, if the clock ends before. -/
def ticks : Nat → Mkt → Option Mkt
  | 0, m => some m
  | n + 1, m => if m.clock = 99999 then none else ticks n (tick m)
theorem tick_held {m : Mkt} {d : Deal} (hd : d ∈ (tick m).deals) (hh : held d = true) : d ∈ m.deals := by
  simp only [tick, List.mem_map] at hd
  obtain ⟨x, hx, rfl⟩ := hd
  unfold backDeal at hh ⊢
  split at hh
  · simp [held] at hh
  · rename_i hc
    rw [if_neg hc]
    exact hx
theorem ticks_ok : ∀ (n : Nat) (m x : Mkt) (rows : List Row), MOk m rows → ticks n m = some x → MOk x rows ∧ x.clock = m.clock + n ∧ total x = total m ∧ x.log = m.log ∧ ∀ d ∈ x.deals, held d = true → d ∈ m.deals
  | 0, m, x, rows, h, e => by
    obtain rfl : m = x := by simpa [ticks] using e
    exact ⟨h, by omega, rfl, rfl, fun d hd _ => hd⟩
  | n + 1, m, x, rows, h, e => by
    rw [ticks] at e
    split at e
    · cases e
    · rename_i hc
      obtain ⟨h1, h2, h3, h4, h5⟩ := ticks_ok n (tick m) x rows (tick_ok h hc) e
      have hck : (tick m).clock = m.clock + 1 := rfl
      rw [hck] at h2
      exact ⟨h1, by omega, by rw [h3, tick_total h], h4, fun d hd hh => tick_held (h5 d hd hh) hh⟩
/-- Behind six ticks nothing is held, and purses have what was. -/
theorem ends {m x : Mkt} {rows : List Row} (h : MOk m rows) (e : ticks 6 m = some x) : mktHeld x = 0 ∧ monSum x.purses = monSum m.purses + mktHeld m := by
  obtain ⟨h1, h2, h3, h4, h5⟩ := ticks_ok 6 m x rows h e
  have hno : ∀ d ∈ x.deals, heldIn d = 0 := by
    intro d hd
    unfold heldIn
    split
    · rename_i hh
      have ha := dealOk_iff.1 (h1.deals.1 d hd)
      have hb := dealOk_iff.1 (h.deals.1 d (h5 d hd hh))
      have hc : 0 < d.buyer := by simpa [held] using hh
      omega
    · rfl
  have h0 : heldSum x.deals = 0 := by
    unfold heldSum
    have key : ∀ ds : List Deal, (∀ d ∈ ds, heldIn d = 0) → (ds.map heldIn).sum = 0 := by
      intro ds
      induction ds with
      | nil => intro _; rfl
      | cons d ds ih =>
        intro hd
        rw [List.map_cons, List.sum_cons, hd d (List.mem_cons_self ..), ih (fun x hx => hd x (List.mem_cons_of_mem _ hx))]
        rfl
    exact key _ hno
  have ht := h.total
  have hs := monSum_eq h1.mon
  unfold total at h3
  refine ⟨by rw [mktHeld, heldOf_eq h1.deals h1.dlen, h0], ?_⟩
  rw [ht, hs]
  omega
end Go.Proofs.Ytgceeggfdomdjaa.Sw

namespace Go.Proofs.Ytgceeggfdomdjaa
set_option maxRecDepth 100000
set_option linter.unusedSimpArgs false
set_option linter.unusedVariables false
open Go.RowKit Go
set_option maxHeartbeats 1000000

def isAbout (t : Int) (d : Sw.Deal) : Bool := decide (d.ticket = t)
theorem dealIx_hit (ds : List Sw.Deal) (t : Int) : Sw.dealIx ds t = hitAt (isAbout t) ds := by
  unfold Sw.dealIx Sw.dealAt hitAt
  rfl
theorem sFind_c (A : Option Addr) (c n : Nat) (ds : List Sw.Deal) (t : Int) (w : World) (hxs : RDl w 0 A c n ds) : Calls Try.prog 208 #[.slice A n c, .int .i64 t] w fun E w' => E = .returned (.int .i64 (Sw.dealIx ds t)) ∧ w = w' := by
  have hl := Lib.hid hxs.1
  have hbig := Rs.big hxs
  rw [dealIx_hit]
  go_enter Try.func208, Try.ntmps208
  go_wp2_with fail
  go_loop [5] (fun i => ∃ k : Nat, k ≤ n ∧ i = .int .i64 k ∧ ∀ j, j < k → ∀ z, ds[j]? = some z → isAbout t z = false) (fun i => n - (intOf i).toNat)
  case atStart => exact ⟨0, Nat.zero_le _, rfl, by omega⟩
  case round =>
    obtain ⟨k, hk, rfl, hrel⟩ := hrel
    have Hrel := Lib.hid hrel; clear hrel
    by_cases hlt : k < n
    · obtain ⟨g, off, y, rfl, hg0, hg, hd, hy, hc0, hc1, hc2, hc3, hc4⟩ := at_D hxs hlt
      have Hy := Lib.hid hy; clear hd hy
      cases hmx : (y.ticket == t)
      case true =>
        go_wp2_with fail
        go_ret
        exact ⟨ret_i (hitAt_here Hy.out Hrel.out (by simpa [isAbout] using hmx)).symm, rfl⟩
      case false =>
        go_wp2_with fail
        go_round
        case rel => exact ⟨k + 1, by omega, by go_num, notHit_step Hy.out Hrel.out (by simpa [isAbout] using hmx)⟩
        case measure => simp [intOf]; omega
    · go_wp2_with fail
      go_ret
      exact ⟨ret_i (hitAt_none (by have := hl.out; omega) Hrel.out).symm, rfl⟩

theorem sRows_c (aL : Option Addr) (aLc aLn : Nat) (aP : Option Addr) (aPc aPn : Nat) (aD : Option Addr) (aDc aDn : Nat) (aN : Option Addr) (aNc aNn : Nat) (aS : Option Addr) (aSc aSn : Nat) (m : Sw.Mkt) (w : World) (hL : RE w 0 aL aLc aLn m.log) : Calls Try.prog 200 #[.agg #[.slice aL aLn aLc, .slice aP aPn aPc, .slice aD aDn aDc, .int .i64 m.clock, .slice aN aNn aNc, .slice aS aSn aSc]] w fun E w' => ∃ A' c' n', E = .returned (.slice A' n' c') ∧ OwR w' w.heap.size A' c' n' (Sw.mktRows m) ∧ Ex w w' := by
  go_enter Try.func200, Try.ntmps200
  go_wp2_with (go_at_call 105; apply Calls.mono; apply sOwnFold_c; ((first | (apply Rs.at0; assumption) | (apply Ow.rs0; assumption) | (apply OwT.rs0; assumption)); exact kf_); rintro E w1 ⟨A', c', n', rfl, ho, hb⟩; have hst := xr hb; (try simp only [zA, zC, zD, zN] at hst); obtain ⟨hc, hf, hz⟩ := hst)
  go_ret
  exact ⟨_, _, _, rfl, (ho.keep (by (exact kf_))).less (by exact sz_), ext_⟩

theorem sDealOfY_c (aL : Option Addr) (aLc aLn : Nat) (aP : Option Addr) (aPc aPn : Nat) (aD : Option Addr) (aDc aDn : Nat) (aN : Option Addr) (aNc aNn : Nat) (aS : Option Addr) (aSc aSn : Nat) (m : Sw.Mkt) (t : Int) (k : Nat) (d : Sw.Deal) (w : World) (hD : RDl w 0 aD aDc aDn m.deals) (ht : Sw.dealIx m.deals t = k) (hd : m.deals[k]? = some d) : Calls Try.prog 201 #[.agg #[.slice aL aLn aLc, .slice aP aPn aPc, .slice aD aDn aDc, .int .i64 m.clock, .slice aN aNn aNc, .slice aS aSn aSc], .int .i64 t] w fun E w' => E = .returned (.tuple #[.agg #[.int .i64 d.ticket, .int .i64 d.seller, .int .i64 d.price, .int .i64 d.buyer, .int .i64 d.due], .bool true]) ∧ Ex w w' := by
  have hlt : k < aDn := by rw [hD.1]; exact (List.getElem?_eq_some_iff.1 hd).1
  obtain ⟨g, off, y, rfl, hg0, hg, hd', hy, hc0, hc1, hc2, hc3, hc4⟩ := at_D hD hlt
  obtain rfl : y = d := Option.some.inj (hy.symm.trans hd)
  have HT := Lib.hid ht
  clear hd hd' hy ht
  go_enter Try.func201, Try.ntmps201
  go_wp2_with (go_at_call 208; apply Calls.mono; apply sFind_c; (apply Rs.at0 hD; (exact kf_)); rintro E w' ⟨rfl, rfl⟩; rw [HT.out])
  refine bodyPost_ret (v := .tuple #[.agg #[.int .i64 y.ticket, .int .i64 y.seller, .int .i64 y.price, .int .i64 y.buyer, .int .i64 y.due], .bool true]) (by simp [results, Try.results201, go_sem, *]) rfl ?_
  exact ⟨rfl, ext_⟩
theorem sDealOfN_c (aL : Option Addr) (aLc aLn : Nat) (aP : Option Addr) (aPc aPn : Nat) (aD : Option Addr) (aDc aDn : Nat) (aN : Option Addr) (aNc aNn : Nat) (aS : Option Addr) (aSc aSn : Nat) (m : Sw.Mkt) (t : Int) (w : World) (hD : RDl w 0 aD aDc aDn m.deals) (ht : Sw.dealIx m.deals t = -1) : Calls Try.prog 201 #[.agg #[.slice aL aLn aLc, .slice aP aPn aPc, .slice aD aDn aDc, .int .i64 m.clock, .slice aN aNn aNc, .slice aS aSn aSc], .int .i64 t] w fun E w' => E = .returned (.tuple #[.agg #[.int .i64 0, .int .i64 0, .int .i64 0, .int .i64 0, .int .i64 0], .bool false]) ∧ Ex w w' := by
  have HT := Lib.hid ht
  clear ht
  go_enter Try.func201, Try.ntmps201
  go_wp2_with (go_at_call 208; apply Calls.mono; apply sFind_c; (apply Rs.at0 hD; (exact kf_)); rintro E w' ⟨rfl, rfl⟩; rw [HT.out])
  refine bodyPost_ret (v := .tuple #[.agg #[.int .i64 0, .int .i64 0, .int .i64 0, .int .i64 0, .int .i64 0], .bool false]) (by simp [results, Try.results201, go_sem, *]) rfl ?_
  exact ⟨rfl, ext_⟩

theorem sOut_c (A : Option Addr) (c n : Nat) (ds : List Sw.Deal) (k : Nat) (w : World) (hxs : RDl w 0 A c n ds) (hk : k < n) (hn : n ≤ 4194304) : Calls Try.prog 209 #[.slice A n c, .int .i64 k] w fun E w' => ∃ A' c', E = .returned (.slice A' (n - 1) c') ∧ OwD w' w.heap.size A' c' (n - 1) (ds.eraseIdx k) ∧ Ex w w' := by
  have hle := hxs.2.le
  have hcb := hxs.2.cap
  have s1 := hxs.take (fun _ => rfl) (k := k) (by omega)
  have s2 := hxs.drop (fun _ => rfl) (k := k + 1) (by omega)
  obtain ⟨g, off, y, rfl, hg0, hg, hd, hy, hc0, hc1, hc2, hc3, hc4⟩ := at_D hxs hk
  clear hd hy hc0 hc1 hc2 hc3 hc4
  unfold maxLen at hcb
  have wk : IntKind.i64.wrap ((k : Int) + 1) = (k : Int) + 1 := IntWalk.i64_in _ (by omega)
  have z0 : (0 : Int) ≤ (k : Int) := by omega
  have z1 : (k : Int) ≤ (n : Int) := by omega
  have z2 : (k : Int) + 1 ≤ (n : Int) := by omega
  have z3 : (0 : Int) ≤ (k : Int) + 1 := by omega
  have z4 : (k : Int) ≤ (c : Int) := by omega
  have z5 : (n : Int) ≤ (c : Int) := by omega
  have z6 : ((k : Int) + 1).toNat = k + 1 := by omega
  by_cases hck : c = k + 1
  · rw [if_pos hck] at s2
    subst hck
    obtain rfl : n = k + 1 := by omega
    have z7 : (k : Int) ≤ (k : Int) + 1 := by omega
    have s2 : Rs Sw.Deal.enc 5 w 0 (some ⟨g, off, none⟩) 0 0 [] := by
      rw [List.drop_of_length_le (by have := hxs.1; omega), Nat.sub_self] at s2
      exact s2
    clear z1 z2 z4 z5
    have z8 : (k : Int) + 1 ≤ (k : Int) + 1 := by omega
    go_enter Try.func209, Try.ntmps209
    go_wp2_with fail
    (refine wp_name ?_; intro W0 hb0; have hst := xr hb0; (try simp only [zA, zC, zD, zN] at hst); obtain ⟨hc0, hf0, hz0⟩ := hst; refine wp_region_held_drew (S := fun w' => Held W0 w') (by kernel_rfl) ?_ (fun hHeld => ?_); (focus ((try dsimp only); (first | with_reducible assumption | with_reducible exact Held.start _ | with_reducible exact Held.of (by assumption) | with_reducible exact Held.ex (by assumption) (by assumption) | ((repeat (first | with_reducible refine Held.set ?_ (by simp only [zA, zC, zD, zN]; omega) | with_reducible refine Held.alloc ?_ _ | with_reducible refine Held.drew ?_)); (first | with_reducible assumption | with_reducible exact Held.refl _ | with_reducible exact Held.of (by assumption) | with_reducible exact Held.ex (by assumption) (by assumption))) | exact Held.of (by exact ext_)))); refine regT 1 6 (v := ?_) rfl rfl (by kernel_rfl) (by kernel_rfl) (by kernel_rfl) (fun _ _ _ h => h) (by rfl) ?_ (by assumption) ?_; rotate_left; (focus (intro w hSw; (try dsimp only at hSw); go_simp; (try with_reducible rfl))); (try simp only [Act.put, List.getElem_toArray, List.getElem_cons_succ, List.getElem_cons_zero, List.setIfInBounds_toArray, List.set_cons_zero, List.set_cons_succ]); refine regT 2 7 (v := ?_) rfl rfl (by kernel_rfl) (by kernel_rfl) (by kernel_rfl) (fun _ _ _ h => h) (by rfl) ?_ (by assumption) ?_; rotate_left; (focus (intro w hSw; (try dsimp only at hSw); go_simp; (try with_reducible rfl))); (try simp only [Act.put, List.getElem_toArray, List.getElem_cons_succ, List.getElem_cons_zero, List.setIfInBounds_toArray, List.set_cons_zero, List.set_cons_succ]); refine regT 3 8 (v := ?_) rfl rfl (by kernel_rfl) (by kernel_rfl) (by kernel_rfl) (fun _ _ _ h => h) (by rfl) ?_ (by assumption) ?_; rotate_left; (focus (intro w hSw; (try dsimp only at hSw); go_simp; (try with_reducible rfl))); (try simp only [Act.put, List.getElem_toArray, List.getElem_cons_succ, List.getElem_cons_zero, List.setIfInBounds_toArray, List.set_cons_zero, List.set_cons_succ]); refine regT 5 10 (v := ?_) rfl rfl (by kernel_rfl) (by kernel_rfl) (by kernel_rfl) (fun _ _ _ h => h) (by rfl) ?_ (by assumption) ?_; rotate_left; (focus (intro w hSw; (try dsimp only at hSw); go_simp; (try with_reducible rfl))); (try simp only [Act.put, List.getElem_toArray, List.getElem_cons_succ, List.getElem_cons_zero, List.setIfInBounds_toArray, List.set_cons_zero, List.set_cons_succ]); refine regT 6 11 (v := ?_) rfl rfl (by kernel_rfl) (by kernel_rfl) (by kernel_rfl) (fun _ _ _ h => h) (by rfl) ?_ (by assumption) ?_; rotate_left; (focus (intro w hSw; (try dsimp only at hSw); go_simp; (try with_reducible rfl))); (try simp only [Act.put, List.getElem_toArray, List.getElem_cons_succ, List.getElem_cons_zero, List.setIfInBounds_toArray, List.set_cons_zero, List.set_cons_succ]); refine regT 7 12 (v := ?_) rfl rfl (by kernel_rfl) (by kernel_rfl) (by kernel_rfl) (fun _ _ _ h => h) (by rfl) ?_ (by assumption) ?_; rotate_left; (focus (intro w hSw; (try dsimp only at hSw); go_simp; (try with_reducible rfl))); (try simp only [Act.put, List.getElem_toArray, List.getElem_cons_succ, List.getElem_cons_zero, List.setIfInBounds_toArray, List.set_cons_zero, List.set_cons_succ]); refine regT 8 13 (v := ?_) rfl rfl (by kernel_rfl) (by kernel_rfl) (by kernel_rfl) (fun _ _ _ h => h) (by rfl) ?_ (by assumption) ?_; rotate_left; (focus (intro w hSw; (try dsimp only at hSw); go_simp; (try with_reducible rfl))); (try simp only [Act.put, List.getElem_toArray, List.getElem_cons_succ, List.getElem_cons_zero, List.setIfInBounds_toArray, List.set_cons_zero, List.set_cons_succ]); refine wpAnyH_ready (rs := [0]) (by kernel_rfl) (by simp) ?_; refine AllReadyH.cons rfl (fun K hK => ?_) ?_; rotate_left; (focus exact AllReadyH.nil); go_simp; refine hK.out _ _ ?_ (fun hHeld => ?_); (focus ((try dsimp only); (first | with_reducible assumption | with_reducible exact Held.start _ | with_reducible exact Held.of (by assumption) | with_reducible exact Held.ex (by assumption) (by assumption) | ((repeat (first | with_reducible refine Held.set ?_ (by simp only [zA, zC, zD, zN]; omega) | with_reducible refine Held.alloc ?_ _ | with_reducible refine Held.drew ?_)); (first | with_reducible assumption | with_reducible exact Held.refl _ | with_reducible exact Held.of (by assumption) | with_reducible exact Held.ex (by assumption) (by assumption))) | exact Held.of (by exact ext_)))); clear hK K; (try simp only [Act.put, List.getElem_toArray, List.getElem_cons_succ, List.getElem_cons_zero, List.setIfInBounds_toArray, List.set_cons_zero, List.set_cons_succ]); refine wpAnyH_ready (rs := [4]) (by kernel_rfl) (by simp) ?_; refine AllReadyH.cons rfl (fun K hK => ?_) ?_; rotate_left; (focus exact AllReadyH.nil); (first | (apply step_app (lo := W0.heap.size) el_D one_D rfl rfl rfl rfl; (first | assumption | exact Ow.nil _ _ | (apply Ow.keep; assumption; exact kf_) | (refine Ow.new [] (by (first | rfl | (simp only [zA, zC, zD, zN]; done) | omega)) rfl rfl (fun _ => rfl) (by exact sz_) (by omega))); (apply Rs.at0 s1; exact kf_); omega; (first | exact Nat.le_refl _ | exact sz_); intro A1 c1 w2 ho1 hch1 hat1 hex1 hlow1; have hbx := hex1 (fun _ => False) W0 (And.right (by assumption : Held W0 _)) (Nat.le_refl _); have hz1 := hbx.size; clear hex1 hlow1) | (apply step_app (lo := W0.heap.size) el_D one_D rfl rfl rfl rfl; (first | assumption | exact Ow.nil _ _ | (apply Ow.keep; assumption; exact kf_) | (refine Ow.new [] (by (first | rfl | (simp only [zA, zC, zD, zN]; done) | omega)) rfl rfl (fun _ => rfl) (by exact sz_) (by omega))); (apply Rs.at0 s2; exact kf_); omega; (first | exact Nat.le_refl _ | exact sz_); intro A1 c1 w2 ho1 hch1 hat1 hex1 hlow1; have hbx := hex1 (fun _ => False) W0 (And.right (by assumption : Held W0 _)) (Nat.le_refl _); have hz1 := hbx.size; clear hex1 hlow1)); (try simp only [Act.put, List.getElem_toArray, List.getElem_cons_succ, List.getElem_cons_zero, List.setIfInBounds_toArray, List.set_cons_zero, List.set_cons_succ]); refine hK.out _ _ ?_ (fun hHeld => ?_); (focus ((try dsimp only); (first | with_reducible assumption | with_reducible exact Held.start _ | with_reducible exact Held.of (by assumption) | with_reducible exact Held.ex (by assumption) (by assumption) | ((repeat (first | with_reducible refine Held.set ?_ (by simp only [zA, zC, zD, zN]; omega) | with_reducible refine Held.alloc ?_ _ | with_reducible refine Held.drew ?_)); (first | with_reducible assumption | with_reducible exact Held.refl _ | with_reducible exact Held.of (by assumption) | with_reducible exact Held.ex (by assumption) (by assumption))) | exact Held.of (by exact ext_)))); clear hK K; (try simp only [Act.put, List.getElem_toArray, List.getElem_cons_succ, List.getElem_cons_zero, List.setIfInBounds_toArray, List.set_cons_zero, List.set_cons_succ]); refine wpAnyH_ready (rs := [9]) (by kernel_rfl) (by simp) ?_; refine AllReadyH.cons rfl (fun K hK => ?_) ?_; rotate_left; (focus exact AllReadyH.nil); (first | (apply step_app (lo := W0.heap.size) el_D one_D rfl rfl rfl rfl; (first | assumption | exact Ow.nil _ _ | (apply Ow.keep; assumption; exact kf_) | (refine Ow.new [] (by (first | rfl | (simp only [zA, zC, zD, zN]; done) | omega)) rfl rfl (fun _ => rfl) (by exact sz_) (by omega))); (apply Rs.at0 s1; exact kf_); omega; (first | exact Nat.le_refl _ | exact sz_); intro A1 c1 w2 ho1 hch1 hat1 hex1 hlow1; have hbx := hex1 (fun _ => False) W0 (And.right (by assumption : Held W0 _)) (Nat.le_refl _); have hz1 := hbx.size; clear hex1 hlow1) | (apply step_app (lo := W0.heap.size) el_D one_D rfl rfl rfl rfl; (first | assumption | exact Ow.nil _ _ | (apply Ow.keep; assumption; exact kf_) | (refine Ow.new [] (by (first | rfl | (simp only [zA, zC, zD, zN]; done) | omega)) rfl rfl (fun _ => rfl) (by exact sz_) (by omega))); (apply Rs.at0 s2; exact kf_); omega; (first | exact Nat.le_refl _ | exact sz_); intro A1 c1 w2 ho1 hch1 hat1 hex1 hlow1; have hbx := hex1 (fun _ => False) W0 (And.right (by assumption : Held W0 _)) (Nat.le_refl _); have hz1 := hbx.size; clear hex1 hlow1)); (try simp only [Act.put, List.getElem_toArray, List.getElem_cons_succ, List.getElem_cons_zero, List.setIfInBounds_toArray, List.set_cons_zero, List.set_cons_succ]); refine hK.out _ _ ?_ (fun hHeld => ?_); (focus ((try dsimp only); (first | with_reducible assumption | with_reducible exact Held.start _ | with_reducible exact Held.of (by assumption) | with_reducible exact Held.ex (by assumption) (by assumption) | ((repeat (first | with_reducible refine Held.set ?_ (by simp only [zA, zC, zD, zN]; omega) | with_reducible refine Held.alloc ?_ _ | with_reducible refine Held.drew ?_)); (first | with_reducible assumption | with_reducible exact Held.refl _ | with_reducible exact Held.of (by assumption) | with_reducible exact Held.ex (by assumption) (by assumption))) | exact Held.of (by exact ext_)))); clear hK K; (try simp only [Act.put, List.getElem_toArray, List.getElem_cons_succ, List.getElem_cons_zero, List.setIfInBounds_toArray, List.set_cons_zero, List.set_cons_succ]); refine regT 10 4 (v := ?_) rfl rfl (by kernel_rfl) (by kernel_rfl) (by kernel_rfl) (fun _ _ _ h => h) (by rfl) ?_ (by assumption) ?_; rotate_left; (focus (intro w hSw; (try dsimp only at hSw); go_simp; (try with_reducible rfl))); (try simp only [Act.put, List.getElem_toArray, List.getElem_cons_succ, List.getElem_cons_zero, List.setIfInBounds_toArray, List.set_cons_zero, List.set_cons_succ]); refine wpAnyH_done (by kernel_rfl) ?_ _; all_goals (have hb := And.right (by assumption : Held W0 _); have hst := xr hb; (try simp only [zA, zC, zD, zN] at hst); obtain ⟨hc, hf, hz⟩ := hst))
    go_wp2_with fail
    go_ret
    rw [List.nil_append, List.append_nil, Nat.zero_add, Nat.add_zero] at ho1
    refine ⟨_, _, by rfl, ?_, ext_⟩
    rw [List.eraseIdx_eq_take_drop_succ, List.drop_of_length_le (by have := hxs.1; omega), List.append_nil]
    exact ho1.less hz0
  · rw [if_neg hck] at s2
    go_enter Try.func209, Try.ntmps209
    go_wp2_with fail
    (refine wp_name ?_; intro W0 hb0; have hst := xr hb0; (try simp only [zA, zC, zD, zN] at hst); obtain ⟨hc0, hf0, hz0⟩ := hst; refine wp_region_held_drew (S := fun w' => Held W0 w') (by kernel_rfl) ?_ (fun hHeld => ?_); (focus ((try dsimp only); (first | with_reducible assumption | with_reducible exact Held.start _ | with_reducible exact Held.of (by assumption) | with_reducible exact Held.ex (by assumption) (by assumption) | ((repeat (first | with_reducible refine Held.set ?_ (by simp only [zA, zC, zD, zN]; omega) | with_reducible refine Held.alloc ?_ _ | with_reducible refine Held.drew ?_)); (first | with_reducible assumption | with_reducible exact Held.refl _ | with_reducible exact Held.of (by assumption) | with_reducible exact Held.ex (by assumption) (by assumption))) | exact Held.of (by exact ext_)))); refine regT 1 6 (v := ?_) rfl rfl (by kernel_rfl) (by kernel_rfl) (by kernel_rfl) (fun _ _ _ h => h) (by rfl) ?_ (by assumption) ?_; rotate_left; (focus (intro w hSw; (try dsimp only at hSw); go_simp; (try with_reducible rfl))); (try simp only [Act.put, List.getElem_toArray, List.getElem_cons_succ, List.getElem_cons_zero, List.setIfInBounds_toArray, List.set_cons_zero, List.set_cons_succ]); refine regT 2 7 (v := ?_) rfl rfl (by kernel_rfl) (by kernel_rfl) (by kernel_rfl) (fun _ _ _ h => h) (by rfl) ?_ (by assumption) ?_; rotate_left; (focus (intro w hSw; (try dsimp only at hSw); go_simp; (try with_reducible rfl))); (try simp only [Act.put, List.getElem_toArray, List.getElem_cons_succ, List.getElem_cons_zero, List.setIfInBounds_toArray, List.set_cons_zero, List.set_cons_succ]); refine regT 3 8 (v := ?_) rfl rfl (by kernel_rfl) (by kernel_rfl) (by kernel_rfl) (fun _ _ _ h => h) (by rfl) ?_ (by assumption) ?_; rotate_left; (focus (intro w hSw; (try dsimp only at hSw); go_simp; (try with_reducible rfl))); (try simp only [Act.put, List.getElem_toArray, List.getElem_cons_succ, List.getElem_cons_zero, List.setIfInBounds_toArray, List.set_cons_zero, List.set_cons_succ]); refine regT 5 10 (v := ?_) rfl rfl (by kernel_rfl) (by kernel_rfl) (by kernel_rfl) (fun _ _ _ h => h) (by rfl) ?_ (by assumption) ?_; rotate_left; (focus (intro w hSw; (try dsimp only at hSw); go_simp; (try with_reducible rfl))); (try simp only [Act.put, List.getElem_toArray, List.getElem_cons_succ, List.getElem_cons_zero, List.setIfInBounds_toArray, List.set_cons_zero, List.set_cons_succ]); refine regT 6 11 (v := ?_) rfl rfl (by kernel_rfl) (by kernel_rfl) (by kernel_rfl) (fun _ _ _ h => h) (by rfl) ?_ (by assumption) ?_; rotate_left; (focus (intro w hSw; (try dsimp only at hSw); go_simp; (try with_reducible rfl))); (try simp only [Act.put, List.getElem_toArray, List.getElem_cons_succ, List.getElem_cons_zero, List.setIfInBounds_toArray, List.set_cons_zero, List.set_cons_succ]); refine regT 7 12 (v := ?_) rfl rfl (by kernel_rfl) (by kernel_rfl) (by kernel_rfl) (fun _ _ _ h => h) (by rfl) ?_ (by assumption) ?_; rotate_left; (focus (intro w hSw; (try dsimp only at hSw); go_simp; (try with_reducible rfl))); (try simp only [Act.put, List.getElem_toArray, List.getElem_cons_succ, List.getElem_cons_zero, List.setIfInBounds_toArray, List.set_cons_zero, List.set_cons_succ]); refine regT 8 13 (v := ?_) rfl rfl (by kernel_rfl) (by kernel_rfl) (by kernel_rfl) (fun _ _ _ h => h) (by rfl) ?_ (by assumption) ?_; rotate_left; (focus (intro w hSw; (try dsimp only at hSw); go_simp; (try with_reducible rfl))); (try simp only [Act.put, List.getElem_toArray, List.getElem_cons_succ, List.getElem_cons_zero, List.setIfInBounds_toArray, List.set_cons_zero, List.set_cons_succ]); refine wpAnyH_ready (rs := [0]) (by kernel_rfl) (by simp) ?_; refine AllReadyH.cons rfl (fun K hK => ?_) ?_; rotate_left; (focus exact AllReadyH.nil); go_simp; refine hK.out _ _ ?_ (fun hHeld => ?_); (focus ((try dsimp only); (first | with_reducible assumption | with_reducible exact Held.start _ | with_reducible exact Held.of (by assumption) | with_reducible exact Held.ex (by assumption) (by assumption) | ((repeat (first | with_reducible refine Held.set ?_ (by simp only [zA, zC, zD, zN]; omega) | with_reducible refine Held.alloc ?_ _ | with_reducible refine Held.drew ?_)); (first | with_reducible assumption | with_reducible exact Held.refl _ | with_reducible exact Held.of (by assumption) | with_reducible exact Held.ex (by assumption) (by assumption))) | exact Held.of (by exact ext_)))); clear hK K; (try simp only [Act.put, List.getElem_toArray, List.getElem_cons_succ, List.getElem_cons_zero, List.setIfInBounds_toArray, List.set_cons_zero, List.set_cons_succ]); refine wpAnyH_ready (rs := [4]) (by kernel_rfl) (by simp) ?_; refine AllReadyH.cons rfl (fun K hK => ?_) ?_; rotate_left; (focus exact AllReadyH.nil); (first | (apply step_app (lo := W0.heap.size) el_D one_D rfl rfl rfl rfl; (first | assumption | exact Ow.nil _ _ | (apply Ow.keep; assumption; exact kf_) | (refine Ow.new [] (by (first | rfl | (simp only [zA, zC, zD, zN]; done) | omega)) rfl rfl (fun _ => rfl) (by exact sz_) (by omega))); (apply Rs.at0 s1; exact kf_); omega; (first | exact Nat.le_refl _ | exact sz_); intro A1 c1 w2 ho1 hch1 hat1 hex1 hlow1; have hbx := hex1 (fun _ => False) W0 (And.right (by assumption : Held W0 _)) (Nat.le_refl _); have hz1 := hbx.size; clear hex1 hlow1) | (apply step_app (lo := W0.heap.size) el_D one_D rfl rfl rfl rfl; (first | assumption | exact Ow.nil _ _ | (apply Ow.keep; assumption; exact kf_) | (refine Ow.new [] (by (first | rfl | (simp only [zA, zC, zD, zN]; done) | omega)) rfl rfl (fun _ => rfl) (by exact sz_) (by omega))); (apply Rs.at0 s2; exact kf_); omega; (first | exact Nat.le_refl _ | exact sz_); intro A1 c1 w2 ho1 hch1 hat1 hex1 hlow1; have hbx := hex1 (fun _ => False) W0 (And.right (by assumption : Held W0 _)) (Nat.le_refl _); have hz1 := hbx.size; clear hex1 hlow1)); (try simp only [Act.put, List.getElem_toArray, List.getElem_cons_succ, List.getElem_cons_zero, List.setIfInBounds_toArray, List.set_cons_zero, List.set_cons_succ]); refine hK.out _ _ ?_ (fun hHeld => ?_); (focus ((try dsimp only); (first | with_reducible assumption | with_reducible exact Held.start _ | with_reducible exact Held.of (by assumption) | with_reducible exact Held.ex (by assumption) (by assumption) | ((repeat (first | with_reducible refine Held.set ?_ (by simp only [zA, zC, zD, zN]; omega) | with_reducible refine Held.alloc ?_ _ | with_reducible refine Held.drew ?_)); (first | with_reducible assumption | with_reducible exact Held.refl _ | with_reducible exact Held.of (by assumption) | with_reducible exact Held.ex (by assumption) (by assumption))) | exact Held.of (by exact ext_)))); clear hK K; (try simp only [Act.put, List.getElem_toArray, List.getElem_cons_succ, List.getElem_cons_zero, List.setIfInBounds_toArray, List.set_cons_zero, List.set_cons_succ]); refine wpAnyH_ready (rs := [9]) (by kernel_rfl) (by simp) ?_; refine AllReadyH.cons rfl (fun K hK => ?_) ?_; rotate_left; (focus exact AllReadyH.nil); (first | (apply step_app (lo := W0.heap.size) el_D one_D rfl rfl rfl rfl; (first | assumption | exact Ow.nil _ _ | (apply Ow.keep; assumption; exact kf_) | (refine Ow.new [] (by (first | rfl | (simp only [zA, zC, zD, zN]; done) | omega)) rfl rfl (fun _ => rfl) (by exact sz_) (by omega))); (apply Rs.at0 s1; exact kf_); omega; (first | exact Nat.le_refl _ | exact sz_); intro A1 c1 w2 ho1 hch1 hat1 hex1 hlow1; have hbx := hex1 (fun _ => False) W0 (And.right (by assumption : Held W0 _)) (Nat.le_refl _); have hz1 := hbx.size; clear hex1 hlow1) | (apply step_app (lo := W0.heap.size) el_D one_D rfl rfl rfl rfl; (first | assumption | exact Ow.nil _ _ | (apply Ow.keep; assumption; exact kf_) | (refine Ow.new [] (by (first | rfl | (simp only [zA, zC, zD, zN]; done) | omega)) rfl rfl (fun _ => rfl) (by exact sz_) (by omega))); (apply Rs.at0 s2; exact kf_); omega; (first | exact Nat.le_refl _ | exact sz_); intro A1 c1 w2 ho1 hch1 hat1 hex1 hlow1; have hbx := hex1 (fun _ => False) W0 (And.right (by assumption : Held W0 _)) (Nat.le_refl _); have hz1 := hbx.size; clear hex1 hlow1)); (try simp only [Act.put, List.getElem_toArray, List.getElem_cons_succ, List.getElem_cons_zero, List.setIfInBounds_toArray, List.set_cons_zero, List.set_cons_succ]); refine hK.out _ _ ?_ (fun hHeld => ?_); (focus ((try dsimp only); (first | with_reducible assumption | with_reducible exact Held.start _ | with_reducible exact Held.of (by assumption) | with_reducible exact Held.ex (by assumption) (by assumption) | ((repeat (first | with_reducible refine Held.set ?_ (by simp only [zA, zC, zD, zN]; omega) | with_reducible refine Held.alloc ?_ _ | with_reducible refine Held.drew ?_)); (first | with_reducible assumption | with_reducible exact Held.refl _ | with_reducible exact Held.of (by assumption) | with_reducible exact Held.ex (by assumption) (by assumption))) | exact Held.of (by exact ext_)))); clear hK K; (try simp only [Act.put, List.getElem_toArray, List.getElem_cons_succ, List.getElem_cons_zero, List.setIfInBounds_toArray, List.set_cons_zero, List.set_cons_succ]); refine regT 10 4 (v := ?_) rfl rfl (by kernel_rfl) (by kernel_rfl) (by kernel_rfl) (fun _ _ _ h => h) (by rfl) ?_ (by assumption) ?_; rotate_left; (focus (intro w hSw; (try dsimp only at hSw); go_simp; (try with_reducible rfl))); (try simp only [Act.put, List.getElem_toArray, List.getElem_cons_succ, List.getElem_cons_zero, List.setIfInBounds_toArray, List.set_cons_zero, List.set_cons_succ]); refine wpAnyH_done (by kernel_rfl) ?_ _; all_goals (have hb := And.right (by assumption : Held W0 _); have hst := xr hb; (try simp only [zA, zC, zD, zN] at hst); obtain ⟨hc, hf, hz⟩ := hst))
    go_wp2_with fail
    go_ret
    rw [List.nil_append, ← List.eraseIdx_eq_take_drop_succ, Nat.zero_add, show k + (n - (k + 1)) = n - 1 from by omega] at ho1
    refine ⟨A1, c1, ?_, ho1.less hz0, ext_⟩
    rw [show k + (n - (k + 1)) = n - 1 from by omega]
    rfl
theorem insertDeal_step (d y : Sw.Deal) (r : List Sw.Deal) : Sw.insertDeal d (y :: r) = if d.ticket < y.ticket then d :: y :: r else y :: Sw.insertDeal d r := by rw [Sw.insertDeal]
theorem sPut_c (A : Option Addr) (c n : Nat) (ds : List Sw.Deal) (d : Sw.Deal) (w : World) (hxs : RDl w 0 A c n ds) (hn : n ≤ 4194304) : Calls Try.prog 210 #[.slice A n c, .agg #[.int .i64 d.ticket, .int .i64 d.seller, .int .i64 d.price, .int .i64 d.buyer, .int .i64 d.due]] w fun E w' => ∃ A' c', E = .returned (.slice A' (n + 1) c') ∧ OwD w' w.heap.size A' c' (n + 1) (Sw.insertDeal d ds) ∧ Ex w w' := by
  have hl := Lib.hid hxs.1
  go_enter Try.func210, Try.ntmps210
  go_wp2_with fail
  go_loopw [5, 6, 7] (fun o f i wr => ∃ (k : Nat) (dn : Bool) (B : Option Addr) (e : Nat) (m : Nat) (es : List Sw.Deal), k ≤ n ∧ i = .int .i64 k ∧ f = .bool dn ∧ o = .slice B m e ∧ (m = k + if dn then 1 else 0) ∧ Ex (w.alloc (.cells #[.int .i64 d.ticket, .int .i64 d.seller, .int .i64 d.price, .int .i64 d.buyer, .int .i64 d.due] 73)) wr ∧ OwD wr (w.heap.size + 1) B e m es ∧
    Sw.insertDeal d ds = (if dn then es ++ ds.drop k else es ++ Sw.insertDeal d (ds.drop k))) (fun _ _ i _ => n - (intOf i).toNat)
  case atStart =>
    exact ⟨0, false, some ⟨w.heap.size + 1, 0, none⟩, 0, 0, [], Nat.zero_le _, rfl, rfl, rfl, rfl, ext_, Ow.new [] (by simp) rfl rfl (fun _ => rfl) (Nat.le_refl _) (by omega), by simp⟩
  case round =>
    obtain ⟨k, dn, B, e, m, es, hk, rfl, rfl, rfl, hm, hb, ho, heq⟩ := hrel
    have hst := Ex.rules hb rfl
    (try simp only [zA, zC, zD] at hst)
    obtain ⟨hc, hf, hz⟩ := hst
    have HE := Lib.hid heq; clear heq
    have HM := Lib.hid hm
    have hmn : m ≤ n + 1 := by rw [hm]; split <;> omega
    clear hm
    by_cases hlt : k < n
    · obtain ⟨g, off, y, rfl, hg0, hg, hd, hy, hc0, hc1, hc2, hc3, hc4⟩ := at_D hxs hlt
      have HD := Lib.hid hd; clear hd hy
      cases dn
      case true =>
        go_wp2_with fail
        (go_quiet ((first | fail)); all_goals (generalize hWq : World.drewN _ nq = W0; have hb0 := Ex.ofN hWq; clear hWq; have hst := xr hb0; (try simp only [zA, zC, zD, zN] at hst); obtain ⟨hc0, hf0, hz0⟩ := hst))
        go_wp2_with (at_builtin; apply wpList_app (lo := w.heap.size + 1) el_D one_D rfl rfl rfl rfl; (first | assumption | exact Ow.nil _ _ | (apply Ow.keep; assumption; exact kf_) | (refine Ow.new [] (by (first | rfl | (simp only [zA, zC, zD, zN]; done) | omega)) rfl rfl (fun _ => rfl) (by exact sz_) (by omega))); (first | (refine Rs.new [y] (by (first | rfl | (simp only [zA, zC, zD, zN]; done) | omega)) rfl rfl (fun _ => rfl) (by omega))); omega; exact sz_; intro A1 c1 w2 ho1 hch1 hat1 hex1 hlow1; have hb := hex1 (fun _ => False) (w.alloc (.cells #[.int .i64 d.ticket, .int .i64 d.seller, .int .i64 d.price, .int .i64 d.buyer, .int .i64 d.due] 73)) (by exact ext_) (by exact sz_); have hz := hch1.size; (try simp only [zA, zC, zD, zN] at hz); obtain ⟨hc, hf⟩ := low_rules hlow1; clear hlow1 hex1)
        go_roundw
        case rel => exact ⟨k + 1, true, A1, c1, m + 1, es ++ [y], by omega, by go_num, rfl, rfl, by have := HM.out; simp at this ⊢; omega, hb, ho1, by rw [HE.out, HD.out]; simp⟩
        case measure => simp [intOf]; omega
      case false =>
        have HI := Lib.hid (insertDeal_step d y (ds.drop (k + 1)))
        by_cases hcmp : d.ticket < y.ticket
        · go_wp2_with fail
          (go_quiet ((first | fail)); all_goals (generalize hWq : World.drewN _ nq = W0; have hb0 := Ex.ofN hWq; clear hWq; have hst := xr hb0; (try simp only [zA, zC, zD, zN] at hst); obtain ⟨hc0, hf0, hz0⟩ := hst))
          go_wp2_with (first | (at_builtin; apply wpList_app (lo := w.heap.size + 1) el_D one_D rfl rfl rfl rfl; (first | assumption | exact Ow.nil _ _ | (apply Ow.keep; assumption; exact kf_) | (refine Ow.new [] (by (first | rfl | (simp only [zA, zC, zD, zN]; done) | omega)) rfl rfl (fun _ => rfl) (by exact sz_) (by omega))); (first | (refine Rs.new [d] (by (first | rfl | (simp only [zA, zC, zD, zN]; done) | omega)) rfl rfl (fun _ => rfl) (by omega))); omega; exact sz_; intro A1 c1 w2 ho1 hch1 hat1 hex1 hlow1; have hb := hex1 (fun _ => False) (w.alloc (.cells #[.int .i64 d.ticket, .int .i64 d.seller, .int .i64 d.price, .int .i64 d.buyer, .int .i64 d.due] 73)) (by exact ext_) (by exact sz_); have hz := hch1.size; (try simp only [zA, zC, zD, zN] at hz); obtain ⟨hc, hf⟩ := low_rules hlow1; clear hlow1 hex1) | (at_builtin; apply wpList_app (lo := w.heap.size + 1) el_D one_D rfl rfl rfl rfl; (first | assumption | exact Ow.nil _ _ | (apply Ow.keep; assumption; exact kf_) | (refine Ow.new [] (by (first | rfl | (simp only [zA, zC, zD, zN]; done) | omega)) rfl rfl (fun _ => rfl) (by exact sz_) (by omega))); (first | (refine Rs.new [y] (by (first | rfl | (simp only [zA, zC, zD, zN]; done) | omega)) rfl rfl (fun _ => rfl) (by omega))); omega; exact sz_; intro A1 c1 w2 ho1 hch1 hat1 hex1 hlow1; have hb := hex1 (fun _ => False) (w.alloc (.cells #[.int .i64 d.ticket, .int .i64 d.seller, .int .i64 d.price, .int .i64 d.buyer, .int .i64 d.due] 73)) (by exact ext_) (by exact sz_); have hz := hch1.size; (try simp only [zA, zC, zD, zN] at hz); obtain ⟨hc, hf⟩ := low_rules hlow1; clear hlow1 hex1))
          go_roundw
          case rel => exact ⟨k + 1, true, A1, c1, m + 1 + 1, es ++ [d] ++ [y], by omega, by go_num, rfl, rfl, by have := HM.out; simp at this ⊢; omega, hb, ho1, by rw [HE.out, HD.out, HI.out]; simp [hcmp]⟩
          case measure => simp [intOf]; omega
        · have HC := Lib.hid hcmp
          go_wp2_with fail
          (go_quiet ((first | fail)); all_goals (generalize hWq : World.drewN _ nq = W0; have hb0 := Ex.ofN hWq; clear hWq; have hst := xr hb0; (try simp only [zA, zC, zD, zN] at hst); obtain ⟨hc0, hf0, hz0⟩ := hst))
          go_wp2_with (at_builtin; apply wpList_app (lo := w.heap.size + 1) el_D one_D rfl rfl rfl rfl; (first | assumption | exact Ow.nil _ _ | (apply Ow.keep; assumption; exact kf_) | (refine Ow.new [] (by (first | rfl | (simp only [zA, zC, zD, zN]; done) | omega)) rfl rfl (fun _ => rfl) (by exact sz_) (by omega))); (first | (refine Rs.new [y] (by (first | rfl | (simp only [zA, zC, zD, zN]; done) | omega)) rfl rfl (fun _ => rfl) (by omega))); omega; exact sz_; intro A1 c1 w2 ho1 hch1 hat1 hex1 hlow1; have hb := hex1 (fun _ => False) (w.alloc (.cells #[.int .i64 d.ticket, .int .i64 d.seller, .int .i64 d.price, .int .i64 d.buyer, .int .i64 d.due] 73)) (by exact ext_) (by exact sz_); have hz := hch1.size; (try simp only [zA, zC, zD, zN] at hz); obtain ⟨hc, hf⟩ := low_rules hlow1; clear hlow1 hex1)
          go_roundw
          case rel => exact ⟨k + 1, false, A1, c1, m + 1, es ++ [y], by omega, by go_num, rfl, rfl, by have := HM.out; simp at this ⊢; omega, hb, ho1, by rw [HE.out, HD.out, HI.out]; have := HC.out; simp [show ¬ d.ticket < y.ticket from by omega]⟩
          case measure => simp [intOf]; omega
    · obtain rfl : k = n := by omega
      cases dn
      all_goals go_wp2_with (at_builtin; apply wpList_app (lo := w.heap.size + 1) el_D one_D rfl rfl rfl rfl; (first | assumption | exact Ow.nil _ _ | (apply Ow.keep; assumption; exact kf_) | (refine Ow.new [] (by (first | rfl | (simp only [zA, zC, zD, zN]; done) | omega)) rfl rfl (fun _ => rfl) (by exact sz_) (by omega))); (first | (refine Rs.new [d] (by (first | rfl | (simp only [zA, zC, zD, zN]; done) | omega)) rfl rfl (fun _ => rfl) (by omega))); omega; exact sz_; intro A1 c1 w2 ho1 hch1 hat1 hex1 hlow1; have hb := hex1 (fun _ => False) (w.alloc (.cells #[.int .i64 d.ticket, .int .i64 d.seller, .int .i64 d.price, .int .i64 d.buyer, .int .i64 d.due] 73)) (by exact ext_) (by exact sz_); have hz := hch1.size; (try simp only [zA, zC, zD, zN] at hz); obtain ⟨hc, hf⟩ := low_rules hlow1; clear hlow1 hex1)
      all_goals go_ret
      · have hmk : m + 1 = k + 1 := by have := HM.out; simp at this; omega
        rw [hmk] at ho1 ⊢
        refine ⟨A1, c1, rfl, ?_, ext_⟩
        rw [HE.out, List.drop_of_length_le (by have := hl.out; omega)]
        exact ho1.less (by omega)
      · have hmk : m = k + 1 := by have := HM.out; simp at this; omega
        rw [hmk] at ho ⊢
        refine ⟨B, e, rfl, ?_, ext_⟩
        rw [HE.out, List.drop_of_length_le (by have := hl.out; omega)]
        simp
        exact ho.less (by omega)
end Go.Proofs.Ytgceeggfdomdjaa

namespace Go.Proofs.Ytgceeggfdomdjaa
set_option maxRecDepth 100000
set_option linter.unusedSimpArgs false
set_option linter.unusedVariables false
open Go.RowKit Go
set_option maxHeartbeats 8000000

theorem sReqOk_c (r : Sw.Req) (w : World) : Calls Try.prog 63 #[.agg #[.int .i64 r.user, .int .i64 r.n, .int .i64 r.kind, .int .i64 r.ticket, .int .i64 r.who, .int .i64 r.price]] w fun E w' => E = .returned (.bool (Sw.reqOk r)) ∧ Ex w w' := by
  cases g1 : Sw.inR r.user 1 5
  case false => go_enter Try.func63, Try.ntmps63; go_wp2_with (first | (go_at_call 78; refine (l1In_c _ _ _ _).mono ?_; rintro E w' ⟨rfl, rfl⟩)); go_ret; exact ⟨ret_b (by simp [Sw.reqOk, g1]), ext_⟩
  cases g2 : Sw.inR r.n 1 99999
  case false => go_enter Try.func63, Try.ntmps63; go_wp2_with (first | (go_at_call 78; refine (l1In_c _ _ _ _).mono ?_; rintro E w' ⟨rfl, rfl⟩)); go_ret; exact ⟨ret_b (by simp [Sw.reqOk, g2]), ext_⟩
  cases g3 : Sw.inR r.kind 1 6
  case false => go_enter Try.func63, Try.ntmps63; go_wp2_with (first | (go_at_call 78; refine (l1In_c _ _ _ _).mono ?_; rintro E w' ⟨rfl, rfl⟩)); go_ret; exact ⟨ret_b (by simp [Sw.reqOk, g3]), ext_⟩
  cases g4 : Sw.inR r.ticket 0 7
  case false => go_enter Try.func63, Try.ntmps63; go_wp2_with (first | (go_at_call 78; refine (l1In_c _ _ _ _).mono ?_; rintro E w' ⟨rfl, rfl⟩)); go_ret; exact ⟨ret_b (by simp [Sw.reqOk, g4]), ext_⟩
  have e : Sw.reqOk r = (if r.kind = 1 then Sw.inR r.who 1 5 && Sw.inR r.price 1 50 else decide (r.who = 0) && (if r.kind = 2 then Sw.inR r.price 1 999 else decide (r.price = 0))) := by simp [Sw.reqOk, g1, g2, g3, g4]
  have He := Lib.hid e; clear e
  by_cases k1 : r.kind = 1
  · have k1' : (r.kind == 1) = true := by simp [k1]
    have K1 := Lib.hid k1; clear k1
    cases g5 : Sw.inR r.who 1 5
    all_goals
      go_enter Try.func63, Try.ntmps63
      go_wp2_with (first | (go_at_call 78; refine (l1In_c _ _ _ _).mono ?_; rintro E w' ⟨rfl, rfl⟩))
      go_ret
      exact ⟨ret_b (by rw [He.out, if_pos K1.out]; simp [g5]), ext_⟩
  have k1' : (r.kind == 1) = false := by simp [k1]
  cases g5 : (r.who == 0)
  case false =>
    go_enter Try.func63, Try.ntmps63
    go_wp2_with (first | (go_at_call 78; refine (l1In_c _ _ _ _).mono ?_; rintro E w' ⟨rfl, rfl⟩))
    go_ret
    exact ⟨ret_b (by rw [He.out, if_neg k1]; rw [← beqI, g5]; rfl), ext_⟩
  by_cases k2 : r.kind = 2
  · have k2' : (r.kind == 2) = true := by simp [k2]
    have k2'' : (r.kind != 2) = false := by simp [k2]
    have K2 := Lib.hid k2; clear k2
    cases g6 : Sw.inR r.price 1 999
    all_goals
      go_enter Try.func63, Try.ntmps63
      go_wp2_with (first | (go_at_call 78; refine (l1In_c _ _ _ _).mono ?_; rintro E w' ⟨rfl, rfl⟩))
      go_ret
      exact ⟨ret_b (by rw [He.out, if_neg k1, if_pos K2.out]; rw [← beqI, g5, g6]; rfl), ext_⟩
  have k2' : (r.kind == 2) = false := by simp [k2]
  have k2'' : (r.kind != 2) = true := by simp [k2]
  cases g6 : (r.price == 0)
  all_goals
    go_enter Try.func63, Try.ntmps63
    go_wp2_with (first | (go_at_call 78; refine (l1In_c _ _ _ _).mono ?_; rintro E w' ⟨rfl, rfl⟩))
    go_ret
    exact ⟨ret_b (by rw [He.out, if_neg k1, if_neg k2]; rw [← beqI, ← beqI, g5, g6]; rfl), ext_⟩

/-! ### a deal, as the reference asks -/
def buyerOk (clock : Int) (d : Sw.Deal) : Bool := if d.buyer = 0 then decide (d.due = 0) else Sw.inR d.buyer 1 5 && decide (d.buyer ≠ d.seller) && Sw.inR d.due clock (clock + 5)
theorem dealOk_b {clock : Int} {rows : List Sw.Row} {d : Sw.Deal} {r : Sw.Row} (ho : Sw.ownOk rows = true) (hr : Sw.rowAt rows d.ticket = r) :
    Sw.dealOk clock rows d = (Sw.inR d.ticket 0 7 && decide (r.who = d.seller) && decide (d.seller ≠ 0) && !r.used && Sw.inR d.price 1 (Sw.entCap r.face) && buyerOk clock d) := by
  have h1 := Sw.rowAt_ok ho d.ticket
  rw [hr, Sw.rowOk_iff] at h1
  unfold Sw.dealOk
  rw [hr]
  unfold buyerOk
  by_cases hs : r.who = d.seller
  · by_cases h0 : d.seller = 0
    · have : Sw.inR d.seller 1 5 = false := by rw [h0]; rfl
      have this0 : Sw.inR 0 1 5 = false := rfl
      simp [this0, h0]
    · have : Sw.inR d.seller 1 5 = true := Sw.inR_iff.2 (by omega)
      simp [this, h0]
  · simp [hs]
theorem dealsOk_cons {clock : Int} {rows : List Sw.Row} {p : Int} {d : Sw.Deal} {ds : List Sw.Deal} : Sw.dealsOk clock rows p (d :: ds) = (Sw.dealOk clock rows d && decide (p < d.ticket) && Sw.dealsOk clock rows d.ticket ds) := rfl
/-- Behind k deals: the last one's ticket. -/
def LastAt (xs : List Sw.Deal) (k : Nat) (p : Int) : Prop := k = 0 ∧ p = -1 ∨ ∃ j y, k = j + 1 ∧ xs[j]? = some y ∧ y.ticket = p ∧ 0 ≤ p
/-- What a market is asked first. -/
def mktGate (m : Sw.Mkt) : Bool := (Sw.ownFold m.log).isSome && Sw.monOk m.purses && decide (m.deals.length ≤ 8) && Sw.inR m.clock 0 99999 && decide (m.nums.length = 5) && decide (m.said.length = 5)
theorem mktOk_parts (m : Sw.Mkt) : Sw.mktOk m = (mktGate m && Sw.dealsOk m.clock (Sw.mktRows m) (-1) m.deals && Sw.numsOk m.nums m.said && decide (Sw.monSum m.purses + Sw.mktHeld m ≤ 100000)) := by
  simp [Sw.mktOk, mktGate]
theorem numsOk_at {ns ss : List Int} {k : Nat} {a b : Int} (ha : ns.drop k = a :: ns.drop (k + 1)) (hb : ss.drop k = b :: ss.drop (k + 1)) : Sw.numsOk (ns.drop k) (ss.drop k) = (Sw.numOk a b && Sw.numsOk (ns.drop (k + 1)) (ss.drop (k + 1))) := by rw [ha, hb]; rfl

end Go.Proofs.Ytgceeggfdomdjaa

namespace Go.Proofs.Ytgceeggfdomdjaa
set_option maxRecDepth 100000
set_option linter.unusedSimpArgs false
set_option linter.unusedVariables false
open Go.RowKit Go
set_option maxHeartbeats 1000000

/-- 'make([]T, n)' inside a region that draws its order. -/
theorem step_mk {P : Program} {w : World} {ops : Array Oper} {o : Oper} {a : Act} {Kx : Act → World → Prop} {Q : Exit → Act → World → Prop} {E : Prop} {α : Type} {enc : α → List Value} {sz bytes : Nat} {t e : TypeId} {l c : Operand} {lo n : Nat}
    (hel : ElemOk P t e sz bytes) (zx : α) (hzx : ∀ i z, P.info? e = some i → i.zero = some z → z.cells = (enc zx).toArray) (hsz : (enc zx).length = sz) (hgd : o.guard = none)
    (ho : o.op = .makeSlice t l c) (hl : a.eval l = .int .i64 n) (hc : a.eval c = .int .i64 n) (hb : bytes * n ≤ 281474976710656) (hn : n ≤ maxLen) (hlo : lo ≤ w.heap.size)
    (K : ∀ w', Ow enc sz e w' lo (some ⟨w.heap.size, 0, none⟩) n n (List.replicate n zx) → Ex w w' → w.heap.size + 1 ≤ w'.heap.size → Kx (a.put o.dst (.slice (some ⟨w.heap.size, 0, none⟩) n n)) w') :
    if Region.wanted o (yielded ops a.tmps) = true then o.wp P a w Kx Q else E := by
  rw [if_pos (by simp [Region.wanted, hgd])]
  obtain ⟨i, z, hi, hz, hsz', hby, hzs⟩ := hel.info
  obtain ⟨w', hrun, h1, h2⟩ := run_make_full (P := P) w lo t e i z sz hel.sl hi hz hsz' .i64 .i64 n (by rw [hby]; exact hb) hn hlo
  unfold Oper.wp
  simp [execOp, ho, hl, hc, hrun, Result.andThen]
  rw [hzx i z hi hz, madeCells_flat zx hsz hel.pos] at h1
  refine K w' ⟨(List.length_replicate ..).symm, h1⟩ ⟨h2.os, h2.tape, h2.output, h2.size, fun k hk _ => h2.block k hk (by simp)⟩ ?_
  rcases h1.2 with ⟨hv, h0⟩ | ⟨g, cap, cur, hv, hb, hh, _⟩
  · cases hv
  · injection hv with e1 e2 e3
    have e4 : w.heap.size = g := by injection e1 with e1; injection e1
    subst e4
    exact (Array.getElem?_eq_some_iff.1 hh).1
/-- How far one piece has come that is made at once. -/
inductive MakeSt {α : Type} (enc : α → List Value) (sz : Nat) (e : TypeId) (τ : Nat → Nat) (t : Nat) (w : World) (lo n : Nat) (xs : List α) : Bool → Value → Prop
  | none (v : Value) : MakeSt enc sz e τ t w lo n xs false v
  | done (A : Option Addr) (c : Nat) (h : OwT enc sz e τ t w lo A c n xs) : MakeSt enc sz e τ t w lo n xs true (.slice A n c)
section
variable {α : Type} {enc : α → List Value} {sz : Nat} {e : TypeId} {τ τ' : Nat → Nat} {t s : Nat} {w w' : World} {lo n c : Nat} {xs : List α} {l r : Bool} {v u : Value} {A A' : Option Addr}
theorem MakeSt.mv (h : MakeSt enc sz e τ t w lo n xs r u) (f : ∀ A c k ys, OwT enc sz e τ t w lo A c k ys → OwT enc sz e τ' t w' lo A c k ys) : MakeSt enc sz e τ' t w' lo n xs r u := by
  cases h with
  | none => exact .none _
  | done A c h => exact .done _ _ (f _ _ _ _ h)
theorem MakeSt.alloc {o : Obj} (h : MakeSt enc sz e τ t w lo n xs r u) : MakeSt enc sz e (glue τ w.heap.size (fun _ => s)) t (w.alloc o) lo n xs r u :=
  h.mv fun _ _ _ _ h => (h.glueL (Nat.le_refl _)).keep (KT.refl _ _ _ _).alloc
theorem MakeSt.app (h : MakeSt enc sz e τ t w lo n xs r u) (hb : Ch (atA A) w w') (ht : ∀ a, A = some a → τ a.block = s) (hne : t ≠ s) : MakeSt enc sz e (glue τ w.heap.size (fun _ => s)) t w' lo n xs r u :=
  h.mv fun _ _ _ _ h => (h.glueL (Nat.le_refl _)).keep (KT.ch hb (KT.refl _ _ _ _) fun i ⟨a, ha, hi⟩ => .inr (by rw [hi, glue_tag (ht a ha)]; exact Ne.symm hne))
/-- Something new elsewhere. -/
theorem MakeSt.ex (h : MakeSt enc sz e τ t w lo n xs r u) (hb : Ex w w') : MakeSt enc sz e (glue τ w.heap.size (fun _ => s)) t w' lo n xs r u :=
  h.mv fun _ _ _ _ h => (h.glueL (Nat.le_refl _)).keep (KT.ex hb (KT.refl _ _ _ _))
theorem CopySt.ex (h : CopySt enc sz e τ t w lo n xs l r v u) (hb : Ex w w') : CopySt enc sz e (glue τ w.heap.size (fun _ => s)) t w' lo n xs l r v u :=
  h.mv fun _ _ _ _ h => (h.glueL (Nat.le_refl _)).keep (KT.ex hb (KT.refl _ _ _ _))
/-- What is new is marked. -/
theorem OwT.newT {ys : List α} {m lo' : Nat} (h : Ow enc sz e w' lo' A c m ys) (hl : w.heap.size ≤ lo') (hlo : lo ≤ lo') : OwT enc sz e (glue τ w.heap.size (fun _ => t)) t w' lo A c m ys :=
  ⟨h.less hlo, fun a ha => by unfold glue; rw [if_neg (by have := (h.blk ha).1; omega)]⟩
end
end Go.Proofs.Ytgceeggfdomdjaa

