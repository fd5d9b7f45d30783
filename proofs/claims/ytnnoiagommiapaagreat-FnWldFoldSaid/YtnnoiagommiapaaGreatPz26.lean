/- Texts joined: DoE, DoF, DoG. -/
import Derived.Test.YtnnoiagommiapaaGreatPz3
import Derived.Test.YtnnoiagommiapaaGreatPz25
set_option maxRecDepth 100000
set_option linter.unusedSimpArgs false
set_option linter.unusedVariables false
namespace Go.Proofs.YtnnoiagommiapaaGreat
open Go.RowKit Go
set_option maxHeartbeats 2000000
theorem sOffer_c (aL : Option Addr) (aLc aLn : Nat) (aP : Option Addr) (aPc aPn : Nat) (aD : Option Addr) (aDc aDn : Nat) (aN : Option Addr) (aNc aNn : Nat) (aS : Option Addr) (aSc aSn : Nat) (m : Sw.Mkt) (ru rn : Int) (t : Nat) (rh rp : Int) (rows : List Sw.Row) (lo : Nat) (τ : Nat → Nat) (w : World) (hM : OwM τ w lo aL aLc aLn aP aPc aPn aD aDc aDn aN aNc aNn aS aSc aSn m) (hok : Sw.MOk m rows) (ht : t < 8) (hlo : lo ≤ w.heap.size) : Calls Tryz.prog 231 #[.agg #[.slice aL aLn aLc, .slice aP aPn aPc, .slice aD aDn aDc, .int .i64 m.clock, .slice aN aNn aNc, .slice aS aSn aSc], .agg #[.int .i64 ru, .int .i64 rn, .int .i64 2, .int .i64 t, .int .i64 rh, .int .i64 rp]] w fun E w' => MktPost lo τ w w' E (Sw.offer m ⟨ru, rn, 2, t, rh, rp⟩ (Sw.rowAt rows t) (Sw.dealAt m.deals t)) := by
 have hML := hM.log
 have hMD := hM.deals
 have hd8 : m.deals.length ≤ 8 := hok.dlen
 have l3 := hM.deals.ow.1
 have HO := Lib.hid hok.fold
 have i0 : (0 : Int) ≤ (t : Int) := by omega
 have i1 : (t : Int) < 8 := by omega
 clear hok
 have hcap := Lib.hid (show True from trivial)
 by_cases h1 : (Sw.rowAt rows t).who = ru
 case neg =>
   have g1 : ((Sw.rowAt rows t).who != ru) = true := by simpa using h1
   have e : Sw.offer m ⟨ru, rn, 2, t, rh, rp⟩ (Sw.rowAt rows t) (Sw.dealAt m.deals t) = (m, 2) := by unfold Sw.offer; rw [if_pos h1]
   rw [e]
   clear e h1 l3
   go_enter Tryz.func231, Tryz.ntmps231
   go_wp2_with fail
   (focus (refine wn_ fun W0 hb0 hc0 hf0 hz0 => ?_; refine wp_regionX [] (S := fun w' => Held W0 w') hdH (fun hHeld => ?_); refine GoesX.take 0 8 [] hHeld (h := ?_); refine GoesX.take 2 10 [] hHeld (h := ?_); refine GoesX.take 3 11 [] hHeld (h := ?_); refine GoesX.ready (rs := [1, 6]) (by kernel_rfl) (by simp) ?_; refine EachX.cons rfl (fun K hK => ?_) ?_; rotate_left; refine EachX.cons rfl (fun K hK => ?_) EachX.nil; (focus (go_simp; refine outS hK hdH (h := ?_); clear hK K hHeld; intro hHeld; refine GoesX.one 1 (h := fun K hK => ?_); go_simp; (go_at_call 195; apply Calls.mono; apply (sRowsT_c (rows := rows) (t := t)); (apply OwT.rs0 hML; (exact kf_)); exact HO.out; exact ht; rintro E w1 ⟨gr, dr, rfl, ⟨hoR, hgR0, hgR, q0, q1, q2⟩, hb⟩; obtain ⟨hc, hf, hz⟩ := xy hb); (try go_wp2_with fail); refine outS hK hdH (h := ?_); clear hK K hHeld; intro hHeld; refine GoesX.take 4 12 [] hHeld (h := ?_); refine GoesX.one 5 (h := fun K hK => ?_); go_simp; refine outS hK hdH (h := ?_); clear hK K hHeld; intro hHeld; refine GoesX.one 7 (h := fun K hK => ?_); go_simp; refine outS hK hdH (h := ?_); clear hK K hHeld; intro hHeld; refine GoesX.done (by kernel_rfl) ?_ _; all_goals (obtain ⟨hb, hc, hf, hz⟩ := xh (by assumption : Held W0 _)))); rotate_right 1; (focus (go_simp; (go_at_call 195; apply Calls.mono; apply (sRowsT_c (rows := rows) (t := t)); (apply OwT.rs0 hML; (exact kf_)); exact HO.out; exact ht; rintro E w1 ⟨gr, dr, rfl, ⟨hoR, hgR0, hgR, q0, q1, q2⟩, hb⟩; obtain ⟨hc, hf, hz⟩ := xy hb); (try go_wp2_with fail); refine outS hK hdH (h := ?_); clear hK K hHeld; intro hHeld; refine GoesX.take 4 12 [] hHeld (h := ?_); refine GoesX.ready (rs := [5, 6]) (by kernel_rfl) (by simp) ?_; refine EachX.cons rfl (fun K hK => ?_) ?_; rotate_left; refine EachX.cons rfl (fun K hK => ?_) EachX.nil; (focus (go_simp; refine outS hK hdH (h := ?_); clear hK K hHeld; intro hHeld; refine GoesX.one 5 (h := fun K hK => ?_); go_simp; refine outS hK hdH (h := ?_); clear hK K hHeld; intro hHeld; refine GoesX.one 7 (h := fun K hK => ?_); go_simp; refine outS hK hdH (h := ?_); clear hK K hHeld; intro hHeld; refine GoesX.done (by kernel_rfl) ?_ _; all_goals (obtain ⟨hb, hc, hf, hz⟩ := xh (by assumption : Held W0 _)))); rotate_right 1; (focus (go_simp; refine outS hK hdH (h := ?_); clear hK K hHeld; intro hHeld; refine GoesX.one 6 (h := fun K hK => ?_); go_simp; refine outS hK hdH (h := ?_); clear hK K hHeld; intro hHeld; refine GoesX.one 7 (h := fun K hK => ?_); go_simp; refine outS hK hdH (h := ?_); clear hK K hHeld; intro hHeld; refine GoesX.done (by kernel_rfl) ?_ _; all_goals (obtain ⟨hb, hc, hf, hz⟩ := xh (by assumption : Held W0 _))))))))
   all_goals go_wp2_with (first | (go_at_call 266; apply Calls.mono; apply sFind_c; (exact rdw_); rintro E w' ⟨rfl, rfl⟩))
   all_goals (refine bodyPost_ret (v := .tuple #[.agg #[.slice aL aLn aLc, .slice aP aPn aPc, .slice aD aDn aDc, .int .i64 m.clock, .slice aN aNn aNc, .slice aS aSn aSc], .int .i64 2]) (by simp [results, Tryz.results231, go_sem, *]) rfl ?_; exact ⟨_, _, _, _, _, _, _, _, _, _, _, _, _, _, _, τ, rfl, hM.keepF kf_, fun _ _ => rfl, ext_⟩)
 have g1 : ((Sw.rowAt rows t).who != ru) = false := by simpa using h1
 cases h3 : Sw.dealAt m.deals t
 case some kd =>
   have e : Sw.offer m ⟨ru, rn, 2, t, rh, rp⟩ (Sw.rowAt rows t) (some kd) = (m, 3) := by unfold Sw.offer; rw [if_neg (by simpa using h1), if_pos (.inl rfl)]
   rw [e]
   have HD := Lib.hid (dealIx_some h3)
   have k0 : (0 : Int) ≤ (kd : Int) := by omega
   clear e h1 l3 h3
   go_enter Tryz.func231, Tryz.ntmps231
   go_wp2_with fail
   (focus (refine wn_ fun W0 hb0 hc0 hf0 hz0 => ?_; refine wp_regionX [] (S := fun w' => Held W0 w') hdH (fun hHeld => ?_); refine GoesX.take 0 8 [] hHeld (h := ?_); refine GoesX.take 2 10 [] hHeld (h := ?_); refine GoesX.take 3 11 [] hHeld (h := ?_); refine GoesX.ready (rs := [1, 6]) (by kernel_rfl) (by simp) ?_; refine EachX.cons rfl (fun K hK => ?_) ?_; rotate_left; refine EachX.cons rfl (fun K hK => ?_) EachX.nil; (focus (go_simp; refine outS hK hdH (h := ?_); clear hK K hHeld; intro hHeld; refine GoesX.one 1 (h := fun K hK => ?_); go_simp; (go_at_call 195; apply Calls.mono; apply (sRowsT_c (rows := rows) (t := t)); (apply OwT.rs0 hML; (exact kf_)); exact HO.out; exact ht; rintro E w1 ⟨gr, dr, rfl, ⟨hoR, hgR0, hgR, q0, q1, q2⟩, hb⟩; obtain ⟨hc, hf, hz⟩ := xy hb); (try go_wp2_with fail); refine outS hK hdH (h := ?_); clear hK K hHeld; intro hHeld; refine GoesX.take 4 12 [] hHeld (h := ?_); refine GoesX.one 5 (h := fun K hK => ?_); go_simp; refine outS hK hdH (h := ?_); clear hK K hHeld; intro hHeld; refine GoesX.one 7 (h := fun K hK => ?_); go_simp; refine outS hK hdH (h := ?_); clear hK K hHeld; intro hHeld; refine GoesX.done (by kernel_rfl) ?_ _; all_goals (obtain ⟨hb, hc, hf, hz⟩ := xh (by assumption : Held W0 _)))); rotate_right 1; (focus (go_simp; (go_at_call 195; apply Calls.mono; apply (sRowsT_c (rows := rows) (t := t)); (apply OwT.rs0 hML; (exact kf_)); exact HO.out; exact ht; rintro E w1 ⟨gr, dr, rfl, ⟨hoR, hgR0, hgR, q0, q1, q2⟩, hb⟩; obtain ⟨hc, hf, hz⟩ := xy hb); (try go_wp2_with fail); refine outS hK hdH (h := ?_); clear hK K hHeld; intro hHeld; refine GoesX.take 4 12 [] hHeld (h := ?_); refine GoesX.ready (rs := [5, 6]) (by kernel_rfl) (by simp) ?_; refine EachX.cons rfl (fun K hK => ?_) ?_; rotate_left; refine EachX.cons rfl (fun K hK => ?_) EachX.nil; (focus (go_simp; refine outS hK hdH (h := ?_); clear hK K hHeld; intro hHeld; refine GoesX.one 5 (h := fun K hK => ?_); go_simp; refine outS hK hdH (h := ?_); clear hK K hHeld; intro hHeld; refine GoesX.one 7 (h := fun K hK => ?_); go_simp; refine outS hK hdH (h := ?_); clear hK K hHeld; intro hHeld; refine GoesX.done (by kernel_rfl) ?_ _; all_goals (obtain ⟨hb, hc, hf, hz⟩ := xh (by assumption : Held W0 _)))); rotate_right 1; (focus (go_simp; refine outS hK hdH (h := ?_); clear hK K hHeld; intro hHeld; refine GoesX.one 6 (h := fun K hK => ?_); go_simp; refine outS hK hdH (h := ?_); clear hK K hHeld; intro hHeld; refine GoesX.one 7 (h := fun K hK => ?_); go_simp; refine outS hK hdH (h := ?_); clear hK K hHeld; intro hHeld; refine GoesX.done (by kernel_rfl) ?_ _; all_goals (obtain ⟨hb, hc, hf, hz⟩ := xh (by assumption : Held W0 _))))))))
   all_goals go_wp2_with (go_at_call 266; apply Calls.mono; apply sFind_c; (apply OwT.rs0 hMD; (exact kf_)); rintro E w' ⟨rfl, rfl⟩; rw [HD.out])
   all_goals (refine bodyPost_ret (v := .tuple #[.agg #[.slice aL aLn aLc, .slice aP aPn aPc, .slice aD aDn aDc, .int .i64 m.clock, .slice aN aNn aNc, .slice aS aSn aSc], .int .i64 3]) (by simp [results, Tryz.results231, go_sem, *]) rfl ?_; exact ⟨_, _, _, _, _, _, _, _, _, _, _, _, _, _, _, τ, rfl, hM.keepF kf_, fun _ _ => rfl, ext_⟩)
 have HD := Lib.hid (dealIx_none h3)
 cases h2 : (Sw.rowAt rows t).used
 case true =>
   have e : Sw.offer m ⟨ru, rn, 2, t, rh, rp⟩ (Sw.rowAt rows t) none = (m, 3) := by unfold Sw.offer; rw [if_neg (by simpa using h1), if_pos (.inr h2)]
   rw [e]
   have H2 := Lib.hid h2
   clear e h1 l3 h3 h2
   go_enter Tryz.func231, Tryz.ntmps231
   go_wp2_with fail
   (focus (refine wn_ fun W0 hb0 hc0 hf0 hz0 => ?_; refine wp_regionX [] (S := fun w' => Held W0 w') hdH (fun hHeld => ?_); refine GoesX.take 0 8 [] hHeld (h := ?_); refine GoesX.take 2 10 [] hHeld (h := ?_); refine GoesX.take 3 11 [] hHeld (h := ?_); refine GoesX.ready (rs := [1, 6]) (by kernel_rfl) (by simp) ?_; refine EachX.cons rfl (fun K hK => ?_) ?_; rotate_left; refine EachX.cons rfl (fun K hK => ?_) EachX.nil; (focus (go_simp; refine outS hK hdH (h := ?_); clear hK K hHeld; intro hHeld; refine GoesX.one 1 (h := fun K hK => ?_); go_simp; (go_at_call 195; apply Calls.mono; apply (sRowsT_c (rows := rows) (t := t)); (apply OwT.rs0 hML; (exact kf_)); exact HO.out; exact ht; rintro E w1 ⟨gr, dr, rfl, ⟨hoR, hgR0, hgR, q0, q1, q2⟩, hb⟩; rw [H2.out] at q2; obtain ⟨hc, hf, hz⟩ := xy hb); (try go_wp2_with fail); refine outS hK hdH (h := ?_); clear hK K hHeld; intro hHeld; refine GoesX.take 4 12 [] hHeld (h := ?_); refine GoesX.one 5 (h := fun K hK => ?_); go_simp; refine outS hK hdH (h := ?_); clear hK K hHeld; intro hHeld; refine GoesX.one 7 (h := fun K hK => ?_); go_simp; refine outS hK hdH (h := ?_); clear hK K hHeld; intro hHeld; refine GoesX.done (by kernel_rfl) ?_ _; all_goals (obtain ⟨hb, hc, hf, hz⟩ := xh (by assumption : Held W0 _)))); rotate_right 1; (focus (go_simp; (go_at_call 195; apply Calls.mono; apply (sRowsT_c (rows := rows) (t := t)); (apply OwT.rs0 hML; (exact kf_)); exact HO.out; exact ht; rintro E w1 ⟨gr, dr, rfl, ⟨hoR, hgR0, hgR, q0, q1, q2⟩, hb⟩; rw [H2.out] at q2; obtain ⟨hc, hf, hz⟩ := xy hb); (try go_wp2_with fail); refine outS hK hdH (h := ?_); clear hK K hHeld; intro hHeld; refine GoesX.take 4 12 [] hHeld (h := ?_); refine GoesX.ready (rs := [5, 6]) (by kernel_rfl) (by simp) ?_; refine EachX.cons rfl (fun K hK => ?_) ?_; rotate_left; refine EachX.cons rfl (fun K hK => ?_) EachX.nil; (focus (go_simp; refine outS hK hdH (h := ?_); clear hK K hHeld; intro hHeld; refine GoesX.one 5 (h := fun K hK => ?_); go_simp; refine outS hK hdH (h := ?_); clear hK K hHeld; intro hHeld; refine GoesX.one 7 (h := fun K hK => ?_); go_simp; refine outS hK hdH (h := ?_); clear hK K hHeld; intro hHeld; refine GoesX.done (by kernel_rfl) ?_ _; all_goals (obtain ⟨hb, hc, hf, hz⟩ := xh (by assumption : Held W0 _)))); rotate_right 1; (focus (go_simp; refine outS hK hdH (h := ?_); clear hK K hHeld; intro hHeld; refine GoesX.one 6 (h := fun K hK => ?_); go_simp; refine outS hK hdH (h := ?_); clear hK K hHeld; intro hHeld; refine GoesX.one 7 (h := fun K hK => ?_); go_simp; refine outS hK hdH (h := ?_); clear hK K hHeld; intro hHeld; refine GoesX.done (by kernel_rfl) ?_ _; all_goals (obtain ⟨hb, hc, hf, hz⟩ := xh (by assumption : Held W0 _))))))))
   all_goals go_wp2_with (go_at_call 266; apply Calls.mono; apply sFind_c; (apply OwT.rs0 hMD; (exact kf_)); rintro E w' ⟨rfl, rfl⟩; rw [HD.out])
   all_goals (refine bodyPost_ret (v := .tuple #[.agg #[.slice aL aLn aLc, .slice aP aPn aPc, .slice aD aDn aDc, .int .i64 m.clock, .slice aN aNn aNc, .slice aS aSn aSc], .int .i64 3]) (by simp [results, Tryz.results231, go_sem, *]) rfl ?_; exact ⟨_, _, _, _, _, _, _, _, _, _, _, _, _, _, _, τ, rfl, hM.keepF kf_, fun _ _ => rfl, ext_⟩)
 have H2 := Lib.hid h2
 by_cases h4 : Sw.entCap (Sw.rowAt rows t).face < rp
 · have e : Sw.offer m ⟨ru, rn, 2, t, rh, rp⟩ (Sw.rowAt rows t) none = (m, 4) := by unfold Sw.offer; rw [if_neg (by simpa using h1), if_neg (by simp [h2]), if_pos h4]
   rw [e]
   clear e h1 l3 h3 h2
   go_enter Tryz.func231, Tryz.ntmps231
   go_wp2_with fail
   (focus (refine wn_ fun W0 hb0 hc0 hf0 hz0 => ?_; refine wp_regionX [] (S := fun w' => Held W0 w') hdH (fun hHeld => ?_); refine GoesX.take 0 8 [] hHeld (h := ?_); refine GoesX.take 2 10 [] hHeld (h := ?_); refine GoesX.take 3 11 [] hHeld (h := ?_); refine GoesX.ready (rs := [1, 6]) (by kernel_rfl) (by simp) ?_; refine EachX.cons rfl (fun K hK => ?_) ?_; rotate_left; refine EachX.cons rfl (fun K hK => ?_) EachX.nil; (focus (go_simp; refine outS hK hdH (h := ?_); clear hK K hHeld; intro hHeld; refine GoesX.one 1 (h := fun K hK => ?_); go_simp; (go_at_call 195; apply Calls.mono; apply (sRowsT_c (rows := rows) (t := t)); (apply OwT.rs0 hML; (exact kf_)); exact HO.out; exact ht; rintro E w1 ⟨gr, dr, rfl, ⟨hoR, hgR0, hgR, q0, q1, q2⟩, hb⟩; rw [H2.out] at q2; obtain ⟨hc, hf, hz⟩ := xy hb); (try go_wp2_with fail); refine outS hK hdH (h := ?_); clear hK K hHeld; intro hHeld; refine GoesX.take 4 12 [] hHeld (h := ?_); refine GoesX.one 5 (h := fun K hK => ?_); go_simp; refine outS hK hdH (h := ?_); clear hK K hHeld; intro hHeld; refine GoesX.one 7 (h := fun K hK => ?_); go_simp; refine outS hK hdH (h := ?_); clear hK K hHeld; intro hHeld; refine GoesX.done (by kernel_rfl) ?_ _; all_goals (obtain ⟨hb, hc, hf, hz⟩ := xh (by assumption : Held W0 _)))); rotate_right 1; (focus (go_simp; (go_at_call 195; apply Calls.mono; apply (sRowsT_c (rows := rows) (t := t)); (apply OwT.rs0 hML; (exact kf_)); exact HO.out; exact ht; rintro E w1 ⟨gr, dr, rfl, ⟨hoR, hgR0, hgR, q0, q1, q2⟩, hb⟩; rw [H2.out] at q2; obtain ⟨hc, hf, hz⟩ := xy hb); (try go_wp2_with fail); refine outS hK hdH (h := ?_); clear hK K hHeld; intro hHeld; refine GoesX.take 4 12 [] hHeld (h := ?_); refine GoesX.ready (rs := [5, 6]) (by kernel_rfl) (by simp) ?_; refine EachX.cons rfl (fun K hK => ?_) ?_; rotate_left; refine EachX.cons rfl (fun K hK => ?_) EachX.nil; (focus (go_simp; refine outS hK hdH (h := ?_); clear hK K hHeld; intro hHeld; refine GoesX.one 5 (h := fun K hK => ?_); go_simp; refine outS hK hdH (h := ?_); clear hK K hHeld; intro hHeld; refine GoesX.one 7 (h := fun K hK => ?_); go_simp; refine outS hK hdH (h := ?_); clear hK K hHeld; intro hHeld; refine GoesX.done (by kernel_rfl) ?_ _; all_goals (obtain ⟨hb, hc, hf, hz⟩ := xh (by assumption : Held W0 _)))); rotate_right 1; (focus (go_simp; refine outS hK hdH (h := ?_); clear hK K hHeld; intro hHeld; refine GoesX.one 6 (h := fun K hK => ?_); go_simp; refine outS hK hdH (h := ?_); clear hK K hHeld; intro hHeld; refine GoesX.one 7 (h := fun K hK => ?_); go_simp; refine outS hK hdH (h := ?_); clear hK K hHeld; intro hHeld; refine GoesX.done (by kernel_rfl) ?_ _; all_goals (obtain ⟨hb, hc, hf, hz⟩ := xh (by assumption : Held W0 _))))))))
   all_goals go_wp2_with (go_at_call 266; apply Calls.mono; apply sFind_c; (apply OwT.rs0 hMD; (exact kf_)); rintro E w' ⟨rfl, rfl⟩; rw [HD.out])
   all_goals (go_quiet ((first | (go_at_call 178; exact Calls.quiet_same (sEntCap_c _ _)))); all_goals (generalize hWq : World.drewN _ nq = W0; have hb0 := Ex.ofN hWq; clear hWq; obtain ⟨hc0, hf0, hz0⟩ := xy hb0))
   all_goals go_wp2
   all_goals (refine bodyPost_ret (v := .tuple #[.agg #[.slice aL aLn aLc, .slice aP aPn aPc, .slice aD aDn aDc, .int .i64 m.clock, .slice aN aNn aNc, .slice aS aSn aSc], .int .i64 4]) (by simp [results, Tryz.results231, go_sem, *]) rfl ?_; exact ⟨_, _, _, _, _, _, _, _, _, _, _, _, _, _, _, τ, rfl, hM.keepF kf_, fun _ _ => rfl, ext_⟩)
 · have e : Sw.offer m ⟨ru, rn, 2, t, rh, rp⟩ (Sw.rowAt rows t) none = ({ m with deals := Sw.insertDeal ⟨t, ru, rp, 0, 0⟩ m.deals }, 1) := by unfold Sw.offer; rw [if_neg (by simpa using h1), if_neg (by simp [h2]), if_neg h4]
   rw [e]
   have hn8 : aDn ≤ 4194304 := by omega
   clear e h1 l3 h3 h2
   go_enter Tryz.func231, Tryz.ntmps231
   go_wp2_with fail
   (focus (refine wn_ fun W0 hb0 hc0 hf0 hz0 => ?_; refine wp_regionX [] (S := fun w' => Held W0 w') hdH (fun hHeld => ?_); refine GoesX.take 0 8 [] hHeld (h := ?_); refine GoesX.take 2 10 [] hHeld (h := ?_); refine GoesX.take 3 11 [] hHeld (h := ?_); refine GoesX.ready (rs := [1, 6]) (by kernel_rfl) (by simp) ?_; refine EachX.cons rfl (fun K hK => ?_) ?_; rotate_left; refine EachX.cons rfl (fun K hK => ?_) EachX.nil; (focus (go_simp; refine outS hK hdH (h := ?_); clear hK K hHeld; intro hHeld; refine GoesX.one 1 (h := fun K hK => ?_); go_simp; (go_at_call 195; apply Calls.mono; apply (sRowsT_c (rows := rows) (t := t)); (apply OwT.rs0 hML; (exact kf_)); exact HO.out; exact ht; rintro E w1 ⟨gr, dr, rfl, ⟨hoR, hgR0, hgR, q0, q1, q2⟩, hb⟩; rw [H2.out] at q2; obtain ⟨hc, hf, hz⟩ := xy hb); (try go_wp2_with fail); refine outS hK hdH (h := ?_); clear hK K hHeld; intro hHeld; refine GoesX.take 4 12 [] hHeld (h := ?_); refine GoesX.one 5 (h := fun K hK => ?_); go_simp; refine outS hK hdH (h := ?_); clear hK K hHeld; intro hHeld; refine GoesX.one 7 (h := fun K hK => ?_); go_simp; refine outS hK hdH (h := ?_); clear hK K hHeld; intro hHeld; refine GoesX.done (by kernel_rfl) ?_ _; all_goals (obtain ⟨hb, hc, hf, hz⟩ := xh (by assumption : Held W0 _)))); rotate_right 1; (focus (go_simp; (go_at_call 195; apply Calls.mono; apply (sRowsT_c (rows := rows) (t := t)); (apply OwT.rs0 hML; (exact kf_)); exact HO.out; exact ht; rintro E w1 ⟨gr, dr, rfl, ⟨hoR, hgR0, hgR, q0, q1, q2⟩, hb⟩; rw [H2.out] at q2; obtain ⟨hc, hf, hz⟩ := xy hb); (try go_wp2_with fail); refine outS hK hdH (h := ?_); clear hK K hHeld; intro hHeld; refine GoesX.take 4 12 [] hHeld (h := ?_); refine GoesX.ready (rs := [5, 6]) (by kernel_rfl) (by simp) ?_; refine EachX.cons rfl (fun K hK => ?_) ?_; rotate_left; refine EachX.cons rfl (fun K hK => ?_) EachX.nil; (focus (go_simp; refine outS hK hdH (h := ?_); clear hK K hHeld; intro hHeld; refine GoesX.one 5 (h := fun K hK => ?_); go_simp; refine outS hK hdH (h := ?_); clear hK K hHeld; intro hHeld; refine GoesX.one 7 (h := fun K hK => ?_); go_simp; refine outS hK hdH (h := ?_); clear hK K hHeld; intro hHeld; refine GoesX.done (by kernel_rfl) ?_ _; all_goals (obtain ⟨hb, hc, hf, hz⟩ := xh (by assumption : Held W0 _)))); rotate_right 1; (focus (go_simp; refine outS hK hdH (h := ?_); clear hK K hHeld; intro hHeld; refine GoesX.one 6 (h := fun K hK => ?_); go_simp; refine outS hK hdH (h := ?_); clear hK K hHeld; intro hHeld; refine GoesX.one 7 (h := fun K hK => ?_); go_simp; refine outS hK hdH (h := ?_); clear hK K hHeld; intro hHeld; refine GoesX.done (by kernel_rfl) ?_ _; all_goals (obtain ⟨hb, hc, hf, hz⟩ := xh (by assumption : Held W0 _))))))))
   all_goals go_wp2_with (go_at_call 266; apply Calls.mono; apply sFind_c; (apply OwT.rs0 hMD; (exact kf_)); rintro E w' ⟨rfl, rfl⟩; rw [HD.out])
   all_goals (go_quiet ((first | (go_at_call 178; exact Calls.quiet_same (sEntCap_c _ _)))); all_goals (generalize hWq : World.drewN _ nq = W0; have hb0 := Ex.ofN hWq; clear hWq; obtain ⟨hc0, hf0, hz0⟩ := xy hb0))
   all_goals go_wp2_with (go_at_call 268; apply Calls.mono; apply (sPut_c (d := ⟨t, ru, rp, 0, 0⟩)); (apply OwT.rs0 hMD; (exact kf_)); omega; rintro E w3 ⟨A3, c3, rfl, ho3, hb3⟩; obtain ⟨hc3, hf3, hz3⟩ := xy hb3)
   all_goals (refine bodyPost_ret (v := .tuple #[.agg #[.slice aL aLn aLc, .slice aP aPn aPc, .slice A3 (aDn + 1) c3, .int .i64 m.clock, .slice aN aNn aNc, .slice aS aSn aSc], .int .i64 1]) (by simp [results, Tryz.results231, go_sem, *]) rfl ?_; (have m1 := OwM.dealt ((hM.glueL (τ' := fun _ => 0) (Nat.le_refl _)).keepF kf_) ho3 (Nat.le_refl _) sz_ (kE hb3 (kR _ _))); exact ⟨_, _, _, _, _, _, _, _, _, _, _, _, _, _, _, _, rfl, m1.box (g0 := w.heap.size) (g1 := w.heap.size + 3) bx_ (tag1 tag0 sz_), fun b hb => (if_pos sz_).trans (if_pos hb), ext_⟩)
set_option maxHeartbeats 2000000
theorem OwM.atD {aL : Option Addr} {aLc aLn : Nat} {aP : Option Addr} {aPc aPn : Nat} {aD : Option Addr} {aDc aDn : Nat} {aN : Option Addr} {aNc aNn : Nat} {aS : Option Addr} {aSc aSn : Nat} {m : Sw.Mkt} {τ : Nat → Nat} {w : World} {lo : Nat} (h : OwM τ w lo aL aLc aLn aP aPc aPn aD aDc aDn aN aNc aNn aS aSc aSn m) {g : Nat} (hg : aD = some ⟨g, 0, none⟩) : SM lo τ g :=
 ⟨(h.deals.ow.blk hg).1, by have := h.deals.tag _ hg; rw [show τ g = 3 from this]; decide, by have := h.deals.tag _ hg; rw [show τ g = 3 from this]; decide⟩
theorem OwM.funded {aL aP aN aS : Option Addr} {aLc aLn aPc aPn aDc aDn aNc aNn aSc aSn : Nat} {m : Sw.Mkt} {τ : Nat → Nat} {w : World} {lo : Nat} {gD k : Nat} {y : Sw.Deal} (h : OwM τ w lo aL aLc aLn aP aPc aPn (some ⟨gD, 0, none⟩) aDc aDn aN aNc aNn aS aSc aSn m) (hx : m.deals[k]? = some y) (b d : Int) :
   OwM τ ((w.setCell ⟨gD, k * 5 + 3, none⟩ (.int .i64 b)).setCell ⟨gD, k * 5 + 4, none⟩ (.int .i64 d)) lo aL aLc aLn aP aPc aPn (some ⟨gD, 0, none⟩) aDc aDn aN aNc aNn aS aSc aSn { m with deals := m.deals.set k { y with buyer := b, due := d } } := by
 have tD : τ gD = 3 := h.deals.tag _ rfl
 have K : ∀ t, t ≠ 3 → KT τ t lo w ((w.setCell ⟨gD, k * 5 + 3, none⟩ (.int .i64 b)).setCell ⟨gD, k * 5 + 4, none⟩ (.int .i64 d)) := fun t ht =>
   ((KT.refl _ _ _ _).setCell (.inr (by show τ gD ≠ t; rw [tD]; exact Ne.symm ht))).setCell (.inr (by show τ gD ≠ t; rw [tD]; exact Ne.symm ht))
 refine ⟨h.log.keep (K 1 (by decide)), h.purses.keep (K 2 (by decide)), ⟨?_, h.deals.tag⟩, h.nums.keep (K 4 (by decide)), h.said.keep (K 5 (by decide))⟩
 have h2 := OD_set4 (OD_set3 h.deals.ow rfl hx b) rfl (set_atM hx) d
 rw [List.set_set] at h2
 exact h2
theorem sFund_c (aL : Option Addr) (aLc aLn : Nat) (aP : Option Addr) (aPc aPn : Nat) (aD : Option Addr) (aDc aDn : Nat) (aN : Option Addr) (aNc aNn : Nat) (aS : Option Addr) (aSc aSn : Nat) (m : Sw.Mkt) (ru rn rk : Int) (t : Nat) (rh rp : Int) (rows : List Sw.Row) (lo : Nat) (τ : Nat → Nat) (w : World) (hM : OwM τ w lo aL aLc aLn aP aPc aPn aD aDc aDn aN aNc aNn aS aSc aSn m) (hok : Sw.MOk m rows) (ht : t < 8) (hu1 : 1 ≤ ru) (hu5 : ru ≤ 5) (hlo : lo ≤ w.heap.size) : Calls Tryz.prog 232 #[.agg #[.slice aL aLn aLc, .slice aP aPn aPc, .slice aD aDn aDc, .int .i64 m.clock, .slice aN aNn aNc, .slice aS aSn aSc], .agg #[.int .i64 ru, .int .i64 rn, .int .i64 rk, .int .i64 t, .int .i64 rh, .int .i64 rp]] w fun E w' => MktPost lo τ w w' E (Sw.fund m ⟨ru, rn, rk, t, rh, rp⟩ (Sw.dealAt m.deals t)) := by
 have hMD := hM.deals
 have hMP := hM.purses
 have hd8 : m.deals.length ≤ 8 := hok.dlen
 have l3 := hM.deals.ow.1
 have hp5 : aPn ≤ 4194304 := by have := hM.purses.ow.1; have := (Sw.monOk_iff.1 hok.mon).1; omega
 have hck := hok.clk
 obtain ⟨hck0, hck1⟩ := hck
 have i0 : (0 : Int) ≤ (t : Int) := by omega
 have i1 : (t : Int) < 8 := by omega
 cases h3 : Sw.dealAt m.deals t
 case none =>
   have e : Sw.fund m ⟨ru, rn, rk, t, rh, rp⟩ none = (m, 3) := rfl
   rw [e]
   have HD := Lib.hid (dealIx_none h3)
   clear e l3 h3 hok
   go_enter Tryz.func232, Tryz.ntmps232
   go_wp2_with (go_at_call 266; apply Calls.mono; apply sFind_c; (apply OwT.rs0 hMD; (exact kf_)); rintro E w' ⟨rfl, rfl⟩; rw [HD.out])
   refine bodyPost_ret (v := .tuple #[.agg #[.slice aL aLn aLc, .slice aP aPn aPc, .slice aD aDn aDc, .int .i64 m.clock, .slice aN aNn aNc, .slice aS aSn aSc], .int .i64 3]) (by simp [results, Tryz.results232, go_sem, *]) rfl ?_
   exact ⟨_, _, _, _, _, _, _, _, _, _, _, _, _, _, _, τ, rfl, hM.keepF kf_, fun _ _ => rfl, ext_⟩
 rename_i kd
 obtain ⟨d, hd, hdt⟩ := Sw.dealAt_some h3
 have hk : kd < aDn := by have := (List.getElem?_eq_some_iff.1 hd).1; omega
 have HD := Lib.hid (dealIx_some h3)
 have hgd := Sw.getD_of (z := Sw.dealZ) hd
 obtain ⟨gD, y, rfl, hloD, hltD, hy, d0, d1, d2, d3, d4, hfD⟩ := at_OD hM.deals.ow hk
 obtain rfl : y = d := Option.some.inj (hy.symm.trans hd)
 have hpr := (Sw.dealOk_iff.1 (hok.deals.get hd)).2.2.2.2.1
 have hcl := Sw.entCap_le (Sw.rowAt rows y.ticket).face
 have p0 : 1 ≤ y.price := by omega
 have p1 : y.price ≤ 60 := by omega
 clear hpr hcl hok
 have k0 : (0 : Int) ≤ (kd : Int) := by omega
 have k1 : (kd : Int) < (aDn : Int) := by omega
 have k2 : ¬ (kd : Int) < 0 := by omega
 by_cases h4 : 0 < y.buyer
 · have e : Sw.fund m ⟨ru, rn, rk, t, rh, rp⟩ (some kd) = (m, 3) := by unfold Sw.fund; dsimp only; rw [hgd, if_pos (by simp [Sw.held, h4])]
   rw [e]
   clear e l3 h3 hd hdt hy hgd
   go_enter Tryz.func232, Tryz.ntmps232
   go_wp2_with (go_at_call 266; apply Calls.mono; apply sFind_c; (apply OwT.rs0 hMD; (exact kf_)); rintro E w' ⟨rfl, rfl⟩; rw [HD.out])
   refine bodyPost_ret (v := .tuple #[.agg #[.slice aL aLn aLc, .slice aP aPn aPc, .slice (some ⟨gD, 0, none⟩) aDn aDc, .int .i64 m.clock, .slice aN aNn aNc, .slice aS aSn aSc], .int .i64 3]) (by simp [results, Tryz.results232, go_sem, *]) rfl ?_
   exact ⟨_, _, _, _, _, _, _, _, _, _, _, _, _, _, _, τ, rfl, hM.keepF kf_, fun _ _ => rfl, ext_⟩
 have hh : ¬ Sw.held y = true := by simp [Sw.held]; omega
 by_cases h5 : y.seller = ru
 · have g5 : (y.seller == ru) = true := by simpa using h5
   have e : Sw.fund m ⟨ru, rn, rk, t, rh, rp⟩ (some kd) = (m, 2) := by unfold Sw.fund; dsimp only; rw [hgd, if_neg hh, if_pos h5]
   rw [e]
   clear e l3 h3 hd hdt hy hgd h5 hh
   go_enter Tryz.func232, Tryz.ntmps232
   go_wp2_with (go_at_call 266; apply Calls.mono; apply sFind_c; (apply OwT.rs0 hMD; (exact kf_)); rintro E w' ⟨rfl, rfl⟩; rw [HD.out])
   (go_quiet ((first | fail)); all_goals (generalize hWq : World.drewN _ nq = W0; have hb0 := Ex.ofN hWq; clear hWq; obtain ⟨hc0, hf0, hz0⟩ := xy hb0))
   go_wp2
   refine bodyPost_ret (v := .tuple #[.agg #[.slice aL aLn aLc, .slice aP aPn aPc, .slice (some ⟨gD, 0, none⟩) aDn aDc, .int .i64 m.clock, .slice aN aNn aNc, .slice aS aSn aSc], .int .i64 2]) (by simp [results, Tryz.results232, go_sem, *]) rfl ?_
   exact ⟨_, _, _, _, _, _, _, _, _, _, _, _, _, _, _, τ, rfl, hM.keepF kf_, fun _ _ => rfl, ext_⟩
 have g5 : (y.seller == ru) = false := by simpa using h5
 have hwr : IntKind.i64.wrap (-y.price) = -y.price := IntWalk.i64_in _ (by omega)
 cases h6 : Sw.turnMay m.purses ru (-y.price)
 case false =>
   have e : Sw.fund m ⟨ru, rn, rk, t, rh, rp⟩ (some kd) = (m, 5) := by unfold Sw.fund; dsimp only; rw [hgd, if_neg hh, if_neg h5, if_neg (by simp [h6])]
   rw [e]
   clear e l3 h3 hd hdt hy hgd h5 hh
   go_enter Tryz.func232, Tryz.ntmps232
   go_wp2_with (go_at_call 266; apply Calls.mono; apply sFind_c; (apply OwT.rs0 hMD; (exact kf_)); rintro E w' ⟨rfl, rfl⟩; rw [HD.out])
   (go_quiet ((first | fail)); all_goals (generalize hWq : World.drewN _ nq = W0; have hb0 := Ex.ofN hWq; clear hWq; obtain ⟨hc0, hf0, hz0⟩ := xy hb0))
   go_wp2
   (refine wn_ fun W0 hb0 hc0 hf0 hz0 => ?_; go_region_held3 (fun w' => Held W0 w') ((exact hq_)) (((go_at_call 229; apply Calls.mono; apply sMonTurn_c; (exact rdw_); (first | assumption | omega); rintro E w1 ⟨A', c', rfl, hoP, hb⟩; obtain ⟨hc, hf, hz⟩ := xy hb))); all_goals (obtain ⟨hb, hc, hf, hz⟩ := xh (by assumption : Held W0 _)))
   all_goals go_wp2
   refine bodyPost_ret (v := .tuple #[.agg #[.slice aL aLn aLc, .slice aP aPn aPc, .slice (some ⟨gD, 0, none⟩) aDn aDc, .int .i64 m.clock, .slice aN aNn aNc, .slice aS aSn aSc], .int .i64 5]) (by simp [results, Tryz.results232, go_sem, *]) rfl ?_
   exact ⟨_, _, _, _, _, _, _, _, _, _, _, _, _, _, _, τ, rfl, hM.keepF kf_, fun _ _ => rfl, ext_⟩
 have e : Sw.fund m ⟨ru, rn, rk, t, rh, rp⟩ (some kd) = ({ m with purses := Sw.turned m.purses ru (-y.price), deals := m.deals.set kd { y with buyer := ru, due := m.clock + 5 } }, 1) := by unfold Sw.fund; dsimp only; rw [hgd, if_neg hh, if_neg h5, if_pos h6]
 rw [e]
 have HP := Lib.hid (show Sw.monTurn m.purses ru (-y.price) = Sw.turned m.purses ru (-y.price) from by unfold Sw.monTurn; rw [if_pos h6])
 have HY := Lib.hid hy
 clear e l3 h3 hd hdt hy hgd h5 hh
 go_enter Tryz.func232, Tryz.ntmps232
 go_wp2_with (go_at_call 266; apply Calls.mono; apply sFind_c; (apply OwT.rs0 hMD; (exact kf_)); rintro E w' ⟨rfl, rfl⟩; rw [HD.out])
 (go_quiet ((first | fail)); all_goals (generalize hWq : World.drewN _ nq = W0; have hb0 := Ex.ofN hWq; clear hWq; obtain ⟨hc0, hf0, hz0⟩ := xy hb0))
 go_wp2
 (refine wn_ fun W0 hb0 hc0 hf0 hz0 => ?_; go_region_held3 (fun w' => Held W0 w') ((exact hq_)) (((go_at_call 229; apply Calls.mono; apply sMonTurn_c; (exact rdw_); (first | assumption | omega); rintro E w1 ⟨A', c', rfl, hoP, hb⟩; obtain ⟨hc, hf, hz⟩ := xy hb))); all_goals (obtain ⟨hb, hc, hf, hz⟩ := xh (by assumption : Held W0 _)))
 all_goals go_wp2
 refine bodyPost_ret (v := .tuple #[.agg #[.slice aL aLn aLc, .slice A' aPn c', .slice (some ⟨gD, 0, none⟩) aDn aDc, .int .i64 m.clock, .slice aN aNn aNc, .slice aS aSn aSc], .int .i64 1]) (by simp [results, Tryz.results232, go_sem, *]) rfl ?_
 rw [HP.out] at hoP
 have m1 := OwM.pursed ((hM.glueL (τ' := fun _ => 0) (Nat.le_refl _)).keepF kf_) hoP (Nat.le_refl _) sz_ (kE (by assumption) (kR _ _))
 have m2 := OwM.funded (m1.box (w' := w1.setCell ⟨w.heap.size, 1, none⟩ (.slice A' aPn c')) (g0 := w.heap.size) (g1 := w.heap.size + 3) bx_ (tag1 tag0 sz_)) HY.out ru (m.clock + 5)
 have hgS : SM lo τ gD ∨ w.heap.size ≤ gD := .inl (hM.atD rfl)
 exact ⟨_, _, _, _, _, _, _, _, _, _, _, _, _, _, _, _, rfl, m2.box (g0 := w.heap.size) (g1 := w.heap.size + 3) bx_ (tag1 tag0 sz_), fun b hb => (if_pos sz_).trans (if_pos hb), by (with_reducible repeat (first | exact cR _ _ | apply cA | apply cD | apply cN | (refine cS ?_ (Or.inr (by first | omega | (simp only [zq_]; omega))) _) | (refine cS ?_ hgS _) | (apply cE; assumption) | (apply cK; assumption)))⟩
set_option maxHeartbeats 2000000
theorem sSettle_c (aL : Option Addr) (aLc aLn : Nat) (aP : Option Addr) (aPc aPn : Nat) (aD : Option Addr) (aDc aDn : Nat) (aN : Option Addr) (aNc aNn : Nat) (aS : Option Addr) (aSc aSn : Nat) (m : Sw.Mkt) (ru rn rk : Int) (t : Nat) (rh rp : Int) (rows : List Sw.Row) (lo : Nat) (τ : Nat → Nat) (w : World) (hM : OwM τ w lo aL aLc aLn aP aPc aPn aD aDc aDn aN aNc aNn aS aSc aSn m) (hok : Sw.MOk m rows) (ht : t < 8) (hlo : lo ≤ w.heap.size) : Calls Tryz.prog 233 #[.agg #[.slice aL aLn aLc, .slice aP aPn aPc, .slice aD aDn aDc, .int .i64 m.clock, .slice aN aNn aNc, .slice aS aSn aSc], .agg #[.int .i64 ru, .int .i64 rn, .int .i64 rk, .int .i64 t, .int .i64 rh, .int .i64 rp]] w fun E w' => MktPost lo τ w w' E (Sw.settle m ⟨ru, rn, rk, t, rh, rp⟩ (Sw.dealAt m.deals t)) := by
 have hML := hM.log
 have hMD := hM.deals
 have hMP := hM.purses
 have hd8 : m.deals.length ≤ 8 := hok.dlen
 have hL40 : m.log.length ≤ 40 := (Sw.ownFold_some.1 hok.fold).1
 have l1 := hM.log.ow.1
 have l3 := hM.deals.ow.1
 have hp5 : aPn ≤ 4194304 := by have := hM.purses.ow.1; have := (Sw.monOk_iff.1 hok.mon).1; omega
 have i0 : (0 : Int) ≤ (t : Int) := by omega
 have i1 : (t : Int) < 8 := by omega
 cases h3 : Sw.dealAt m.deals t
 case none =>
   have e : Sw.settle m ⟨ru, rn, rk, t, rh, rp⟩ none = (m, 3) := rfl
   rw [e]
   have HD := Lib.hid (dealIx_none h3)
   clear e l3 h3 hok l1
   go_enter Tryz.func233, Tryz.ntmps233
   go_wp2_with (go_at_call 266; apply Calls.mono; apply sFind_c; (apply OwT.rs0 hMD; (exact kf_)); rintro E w' ⟨rfl, rfl⟩; rw [HD.out])
   refine bodyPost_ret (v := .tuple #[.agg #[.slice aL aLn aLc, .slice aP aPn aPc, .slice aD aDn aDc, .int .i64 m.clock, .slice aN aNn aNc, .slice aS aSn aSc], .int .i64 3]) (by simp [results, Tryz.results233, go_sem, *]) rfl ?_
   exact ⟨_, _, _, _, _, _, _, _, _, _, _, _, _, _, _, τ, rfl, hM.keepF kf_, fun _ _ => rfl, ext_⟩
 rename_i kd
 obtain ⟨d, hd, hdt⟩ := Sw.dealAt_some h3
 have hk : kd < aDn := by have := (List.getElem?_eq_some_iff.1 hd).1; omega
 have HD := Lib.hid (dealIx_some h3)
 have hgd := Sw.getD_of (z := Sw.dealZ) hd
 obtain ⟨gD, y, rfl, hloD, hltD, hy, d0, d1, d2, d3, d4, hfD⟩ := at_OD hM.deals.ow hk
 obtain rfl : y = d := Option.some.inj (hy.symm.trans hd)
 have hby := (Sw.dealOk_iff.1 (hok.deals.get hd)).2.2.2.2.2
 have hby0 : 0 ≤ y.buyer := by omega
 clear hok hby
 have k0 : (0 : Int) ≤ (kd : Int) := by omega
 have k1 : (kd : Int) < (aDn : Int) := by omega
 have k2 : ¬ (kd : Int) < 0 := by omega
 by_cases h4 : y.buyer = 0
 · have g4 : (y.buyer == 0) = true := by simpa using h4
   have e : Sw.settle m ⟨ru, rn, rk, t, rh, rp⟩ (some kd) = (m, 3) := by unfold Sw.settle; dsimp only; rw [hgd, if_pos (by simp [Sw.held, h4])]
   rw [e]
   clear e l3 h3 hd hdt hy hgd l1 h4
   go_enter Tryz.func233, Tryz.ntmps233
   go_wp2_with (go_at_call 266; apply Calls.mono; apply sFind_c; (apply OwT.rs0 hMD; (exact kf_)); rintro E w' ⟨rfl, rfl⟩; rw [HD.out])
   refine bodyPost_ret (v := .tuple #[.agg #[.slice aL aLn aLc, .slice aP aPn aPc, .slice (some ⟨gD, 0, none⟩) aDn aDc, .int .i64 m.clock, .slice aN aNn aNc, .slice aS aSn aSc], .int .i64 3]) (by simp [results, Tryz.results233, go_sem, *]) rfl ?_
   exact ⟨_, _, _, _, _, _, _, _, _, _, _, _, _, _, _, τ, rfl, hM.keepF kf_, fun _ _ => rfl, ext_⟩
 have g4 : (y.buyer == 0) = false := by simpa using h4
 have hh : ¬ Sw.held y = false := by simp [Sw.held]; omega
 by_cases h5 : y.seller = ru
 case neg =>
   have g5 : (y.seller != ru) = true := by simpa using h5
   have e : Sw.settle m ⟨ru, rn, rk, t, rh, rp⟩ (some kd) = (m, 2) := by unfold Sw.settle; dsimp only; rw [hgd, if_neg hh, if_pos h5]
   rw [e]
   clear e l3 h3 hd hdt hy hgd h5 hh l1
   go_enter Tryz.func233, Tryz.ntmps233
   go_wp2_with (go_at_call 266; apply Calls.mono; apply sFind_c; (apply OwT.rs0 hMD; (exact kf_)); rintro E w' ⟨rfl, rfl⟩; rw [HD.out])
   refine bodyPost_ret (v := .tuple #[.agg #[.slice aL aLn aLc, .slice aP aPn aPc, .slice (some ⟨gD, 0, none⟩) aDn aDc, .int .i64 m.clock, .slice aN aNn aNc, .slice aS aSn aSc], .int .i64 2]) (by simp [results, Tryz.results233, go_sem, *]) rfl ?_
   exact ⟨_, _, _, _, _, _, _, _, _, _, _, _, _, _, _, τ, rfl, hM.keepF kf_, fun _ _ => rfl, ext_⟩
 have g5 : (y.seller != ru) = false := by simpa using h5
 by_cases h6 : m.log.length = 40
 · have g6 : ((aLn : Int) == 40) = true := by simp; omega
   have e : Sw.settle m ⟨ru, rn, rk, t, rh, rp⟩ (some kd) = (m, 6) := by unfold Sw.settle; dsimp only; rw [hgd, if_neg hh, if_neg (by simpa using h5), if_pos h6]
   rw [e]
   clear e l3 h3 hd hdt hy hgd h5 hh l1 h6
   go_enter Tryz.func233, Tryz.ntmps233
   go_wp2_with (go_at_call 266; apply Calls.mono; apply sFind_c; (apply OwT.rs0 hMD; (exact kf_)); rintro E w' ⟨rfl, rfl⟩; rw [HD.out])
   refine bodyPost_ret (v := .tuple #[.agg #[.slice aL aLn aLc, .slice aP aPn aPc, .slice (some ⟨gD, 0, none⟩) aDn aDc, .int .i64 m.clock, .slice aN aNn aNc, .slice aS aSn aSc], .int .i64 6]) (by simp [results, Tryz.results233, go_sem, *]) rfl ?_
   exact ⟨_, _, _, _, _, _, _, _, _, _, _, _, _, _, _, τ, rfl, hM.keepF kf_, fun _ _ => rfl, ext_⟩
 have g6 : ((aLn : Int) == 40) = false := by simp; omega
 have e : Sw.settle m ⟨ru, rn, rk, t, rh, rp⟩ (some kd) = ({ m with purses := Sw.monTurn m.purses y.seller y.price, log := m.log ++ [⟨2, t, y.buyer, y.price⟩], deals := m.deals.eraseIdx kd }, 1) := by unfold Sw.settle; dsimp only; rw [hgd, if_neg hh, if_neg (by simpa using h5), if_neg h6]
 rw [e]
 have hl40 : aLn ≤ 40 := by omega
 have hn8 : aDn ≤ 4194304 := by omega
 have hT := Lib.hid hdt
 clear e l3 h3 hd hdt hy hgd h5 hh l1 h6
 go_enter Tryz.func233, Tryz.ntmps233
 go_wp2_with (first | (go_at_call 266; apply Calls.mono; apply sFind_c; (apply OwT.rs0 hMD; (exact kf_)); rintro E w' ⟨rfl, rfl⟩; rw [HD.out]) | (go_at_call 229; apply Calls.mono; apply sMonTurn_c; (exact rdw_); (first | assumption | omega); rintro E w1 ⟨A', c', rfl, hoP, hb⟩; obtain ⟨hc, hf, hz⟩ := xy hb) | (at_builtin; apply wpList_app (lo := lo) el_E one_E rfl rfl rfl rfl; (exact Ow.keep (hML.ow) kf_); (refine Rs.new [⟨2, y.ticket, y.buyer, y.price⟩] (by (first | rfl | (simp only [zq_]; done) | omega)) rfl rfl (fun _ => rfl) (by omega)); omega; (exact sz_); intro A1 c1 w2 ho1 hch1 hat1 hex1 hlow1; clear hex1; obtain ⟨hB0, hF0⟩ := Ch.atA_keep hch1 (g := w.heap.size) (by exact sz_) (Ow.apart (hML.ow) (by omega)); obtain ⟨hB1, hF1⟩ := Ch.atA_keep hch1 (g := w.heap.size + 1) (by exact sz_) (Ow.apart (hML.ow) (by omega)); obtain ⟨hB2, hF2⟩ := Ch.atA_keep hch1 (g := w.heap.size + 1 + 1) (by exact sz_) (Ow.apart (hML.ow) (by omega)); have hzA := hch1.size; (try simp only [zq_] at hzA)))
 rw [hT.out] at ho1
 have m1 := OwM.pursed ((hM.glueL (τ' := fun _ => 0) (Nat.le_refl _)).keepF kf_) hoP (Nat.le_refl _) sz_ (kE (by assumption) (kR _ _))
 have m2 := OwM.logged (m1.box (g0 := w.heap.size) (g1 := w.heap.size + 4) bx_ (tag1 tag0 sz_)) ho1 hch1 hat1
 have m3 := m2.box (w' := w2.setCell ⟨w.heap.size, 0, none⟩ (.slice A1 (aLn + 1) c1)) (g0 := w.heap.size) (g1 := w.heap.size + 4) bx_ (tag1 (tag1 tag0 sz_) sz_)
 have hS := Ch.trans' (show Ch (SM lo τ) w _ from ext_) hch1 (fun i _ h => hM.atL h)
 apply Calls.mono
 apply (sOut_c (k := kd))
 · exact m3.deals.rs0 (kR _ _)
 · exact hk
 · exact hn8
 rintro E w3 ⟨A3, c3, rfl, ho3, hb3⟩
 have hst := xr hb3
 (try simp only [zq_] at hst)
 obtain ⟨hc3, hf3, hz3⟩ := hst
 go_wp2_with fail
 refine bodyPost_ret (v := .tuple #[.agg #[.slice A1 (aLn + 1) c1, .slice A' aPn c', .slice A3 (aDn - 1) c3, .int .i64 m.clock, .slice aN aNn aNc, .slice aS aSn aSc], .int .i64 1]) (by simp [results, Tryz.results233, go_sem, *]) rfl ?_
 have m4 := OwM.dealt m3 ho3 (Nat.le_refl _) sz_ (kE hb3 (kR _ _))
 exact ⟨_, _, _, _, _, _, _, _, _, _, _, _, _, _, _, _, rfl, m4.box (g0 := w.heap.size) (g1 := w.heap.size + 4) bx_ (tag1 (tag1 (tag1 tag0 sz_) sz_) sz_), fun b hb => (if_pos sz_).trans ((if_pos sz_).trans ((if_pos sz_).trans (if_pos hb))), ext_⟩
end Go.Proofs.YtnnoiagommiapaaGreat
