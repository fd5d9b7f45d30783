/-
  Walks: gates (the reference's), 3.
-/
import Derived.Test.YthdjaablgfepbaaGate3
namespace Go.Proofs.Ythdjaablgfepbaa
set_option maxRecDepth 100000
set_option linter.unusedSimpArgs false
set_option linter.unusedVariables false
open Go.RowKit Go
set_option maxHeartbeats 400000

theorem gatOk_len {g : Sw.Gate} (h : Sw.gatOk g = true) : g.done.length ≤ 8 := by
  simp only [Sw.gatOk, Bool.and_eq_true] at h
  have := rises_len g.done (-1) h.2 (by omega) (by omega)
  omega

theorem sGatSync_c (t u : Sw.Head) (A : Option Addr) (c n : Nat) (xs : List Int) (B : Option Addr) (d m : Nat) (ps : List Int) (w : World) (hxs : RI w 0 A c n xs) (hps : RI w 0 B d m ps) : Calls Try.prog 20 #[.agg #[.int .i64 t.size, .int .i64 t.log, .int .i64 t.own, .slice A n c], .agg #[.int .i64 u.size, .int .i64 u.log, .int .i64 u.own], .slice B m d] w fun E w' => ∃ A' c' n', E = .returned (.tuple #[.agg #[.int .i64 (Sw.gatSync ⟨t, xs⟩ u ps).1.head.size, .int .i64 (Sw.gatSync ⟨t, xs⟩ u ps).1.head.log, .int .i64 (Sw.gatSync ⟨t, xs⟩ u ps).1.head.own, .slice A' n' c'], .bool (Sw.gatSync ⟨t, xs⟩ u ps).2]) ∧ OwI w' w.heap.size A' c' n' (Sw.gatSync ⟨t, xs⟩ u ps).1.done ∧ Ex w w' := by
  have hl := Lib.hid hxs.1
  cases g1 : Sw.gatOk ⟨t, xs⟩
  case false =>
    have e : Sw.gatSync ⟨t, xs⟩ u ps = (Sw.gateZ, false) := by simp [Sw.gatSync, g1]
    have He := Lib.hid e; clear e
    go_enter Try.func20, Try.ntmps20
    go_wp2_with (first | (go_at_call 23; apply Calls.mono; apply sGatOk_c; ((first | (apply Rs.at0; assumption) | (apply Ow.rs0; assumption)); with_reducible repeat (first | exact kR _ _ | apply kA | apply kD | apply kN | (refine kS ?_ (by first | omega | (simp only [zA, zC, zD]; omega))) | (apply kE; assumption) | (refine kC (by assumption) ?_ (by first | omega | (simp only [zA, zC, zD]; omega))))); rintro E w1 ⟨rfl, hb⟩; have hst := xr hb; (try simp only [zA, zC, zD] at hst); obtain ⟨hc, hf, hz⟩ := hst))
    refine bodyPost_ret (v := .tuple #[.agg #[.int .i64 0, .int .i64 0, .int .i64 0, .slice none 0 0], .bool false]) (by simp [results, Try.results20, go_sem, *]) rfl ?_
    exact ⟨none, 0, 0, by rw [He.out]; rfl, by rw [He.out]; exact Ow.nil _ _, (by (with_reducible repeat (first | exact cR _ _ | apply cA | apply cD | apply cN | (refine cS ?_ (Or.inr (by first | omega | (simp only [zA, zC, zD]; omega))) _) | (apply cE; assumption) | (apply cK; assumption) | (refine cG (by assumption) ?_ (by first | omega | (simp only [zA, zC, zD]; omega))))))⟩
  have h8 : n ≤ 8 := by have := gatOk_len g1; have := hl.out; simp at *; omega
  cases g2 : Sw.hedFollows t u ps
  case false =>
    have e : Sw.gatSync ⟨t, xs⟩ u ps = (⟨t, xs⟩, false) := by simp [Sw.gatSync, g1, g2]
    have He := Lib.hid e; clear e
    go_enter Try.func20, Try.ntmps20
    go_wp2_with (first | (go_at_call 23; apply Calls.mono; apply sGatOk_c; ((first | (apply Rs.at0; assumption) | (apply Ow.rs0; assumption)); with_reducible repeat (first | exact kR _ _ | apply kA | apply kD | apply kN | (refine kS ?_ (by first | omega | (simp only [zA, zC, zD]; omega))) | (apply kE; assumption) | (refine kC (by assumption) ?_ (by first | omega | (simp only [zA, zC, zD]; omega))))); rintro E w1 ⟨rfl, hb⟩; have hst := xr hb; (try simp only [zA, zC, zD] at hst); obtain ⟨hc, hf, hz⟩ := hst) | (go_at_call 89; apply Calls.mono; apply sCopy_c; ((first | (apply Rs.at0; assumption) | (apply Ow.rs0; assumption)); with_reducible repeat (first | exact kR _ _ | apply kA | apply kD | apply kN | (refine kS ?_ (by first | omega | (simp only [zA, zC, zD]; omega))) | (apply kE; assumption) | (refine kC (by assumption) ?_ (by first | omega | (simp only [zA, zC, zD]; omega))))); (first | assumption | omega); rintro E w1 ⟨A', c', rfl, hr, hb⟩; have hst := xr hb; (try simp only [zA, zC, zD] at hst); obtain ⟨hc, hf, hz⟩ := hst) | (go_at_call 90; apply Calls.mono; apply sHedFollows_c; ((first | (apply Rs.at0; assumption) | (apply Ow.rs0; assumption)); with_reducible repeat (first | exact kR _ _ | apply kA | apply kD | apply kN | (refine kS ?_ (by first | omega | (simp only [zA, zC, zD]; omega))) | (apply kE; assumption) | (refine kC (by assumption) ?_ (by first | omega | (simp only [zA, zC, zD]; omega))))); rintro E w1 ⟨rfl, hb⟩; have hst := xr hb; (try simp only [zA, zC, zD] at hst); obtain ⟨hc, hf, hz⟩ := hst))
    refine bodyPost_ret (v := .tuple #[.agg #[.int .i64 t.size, .int .i64 t.log, .int .i64 t.own, .slice A' n c'], .bool false]) (by simp [results, Try.results20, go_sem, *]) rfl ?_
    exact ⟨A', c', n, by rw [He.out], by rw [He.out]; exact (hr.keep (by (with_reducible repeat (first | exact kR _ _ | apply kA | apply kD | apply kN | (refine kS ?_ (by first | omega | (simp only [zA, zC, zD]; omega))) | (apply kE; assumption) | (refine kC (by assumption) ?_ (by first | omega | (simp only [zA, zC, zD]; omega))))))).less (by (first | omega | (simp only [zA, zC, zD]; omega) | (simp only [zA, zC, zD] at *; omega))), (by (with_reducible repeat (first | exact cR _ _ | apply cA | apply cD | apply cN | (refine cS ?_ (Or.inr (by first | omega | (simp only [zA, zC, zD]; omega))) _) | (apply cE; assumption) | (apply cK; assumption) | (refine cG (by assumption) ?_ (by first | omega | (simp only [zA, zC, zD]; omega))))))⟩
  have e : Sw.gatSync ⟨t, xs⟩ u ps = (⟨u, xs⟩, true) := by simp [Sw.gatSync, g1, g2]
  have He := Lib.hid e; clear e
  go_enter Try.func20, Try.ntmps20
  go_wp2_with (first | (go_at_call 23; apply Calls.mono; apply sGatOk_c; ((first | (apply Rs.at0; assumption) | (apply Ow.rs0; assumption)); with_reducible repeat (first | exact kR _ _ | apply kA | apply kD | apply kN | (refine kS ?_ (by first | omega | (simp only [zA, zC, zD]; omega))) | (apply kE; assumption) | (refine kC (by assumption) ?_ (by first | omega | (simp only [zA, zC, zD]; omega))))); rintro E w1 ⟨rfl, hb⟩; have hst := xr hb; (try simp only [zA, zC, zD] at hst); obtain ⟨hc, hf, hz⟩ := hst) | (go_at_call 89; apply Calls.mono; apply sCopy_c; ((first | (apply Rs.at0; assumption) | (apply Ow.rs0; assumption)); with_reducible repeat (first | exact kR _ _ | apply kA | apply kD | apply kN | (refine kS ?_ (by first | omega | (simp only [zA, zC, zD]; omega))) | (apply kE; assumption) | (refine kC (by assumption) ?_ (by first | omega | (simp only [zA, zC, zD]; omega))))); (first | assumption | omega); rintro E w1 ⟨A', c', rfl, hr, hb⟩; have hst := xr hb; (try simp only [zA, zC, zD] at hst); obtain ⟨hc, hf, hz⟩ := hst) | (go_at_call 90; apply Calls.mono; apply sHedFollows_c; ((first | (apply Rs.at0; assumption) | (apply Ow.rs0; assumption)); with_reducible repeat (first | exact kR _ _ | apply kA | apply kD | apply kN | (refine kS ?_ (by first | omega | (simp only [zA, zC, zD]; omega))) | (apply kE; assumption) | (refine kC (by assumption) ?_ (by first | omega | (simp only [zA, zC, zD]; omega))))); rintro E w1 ⟨rfl, hb⟩; have hst := xr hb; (try simp only [zA, zC, zD] at hst); obtain ⟨hc, hf, hz⟩ := hst))
  refine bodyPost_ret (v := .tuple #[.agg #[.int .i64 u.size, .int .i64 u.log, .int .i64 u.own, .slice A' n c'], .bool true]) (by simp [results, Try.results20, go_sem, *]) rfl ?_
  exact ⟨A', c', n, by rw [He.out], by rw [He.out]; exact (hr.keep (by (with_reducible repeat (first | exact kR _ _ | apply kA | apply kD | apply kN | (refine kS ?_ (by first | omega | (simp only [zA, zC, zD]; omega))) | (apply kE; assumption) | (refine kC (by assumption) ?_ (by first | omega | (simp only [zA, zC, zD]; omega))))))).less (by (first | omega | (simp only [zA, zC, zD]; omega) | (simp only [zA, zC, zD] at *; omega))), (by (with_reducible repeat (first | exact cR _ _ | apply cA | apply cD | apply cN | (refine cS ?_ (Or.inr (by first | omega | (simp only [zA, zC, zD]; omega))) _) | (apply cE; assumption) | (apply cK; assumption) | (refine cG (by assumption) ?_ (by first | omega | (simp only [zA, zC, zD]; omega))))))⟩
end Go.Proofs.Ythdjaablgfepbaa
