/-
  Walks: heads that follow, gates (the reference's).
-/
import Derived.Test.YtncoiknpkebgoaaBoth
namespace Go.Proofs.Ytncoiknpkebgoaa
set_option maxRecDepth 100000
set_option linter.unusedSimpArgs false
set_option linter.unusedVariables false
open Go.RowKit Go
set_option maxHeartbeats 400000

theorem sConCheck_c (m old nn r : Int) (A : Option Addr) (c n : Nat) (xs : List Int) (w : World) (hxs : RI w 0 A c n xs) : Calls Try.prog 171 #[.int .i64 m, .int .i64 old, .int .i64 nn, .int .i64 r, .slice A n c] w fun E w' => E = .returned (.bool (Sw.conCheck m old nn r xs)) ∧ Ex w w' := by
  have hl := Lib.hid hxs.1
  by_cases hg : (Sw.inR nn 1 40 && Sw.inR m 1 nn && Sw.mixOk old && Sw.mixOk r && Sw.treOk xs) = true
  · have hg' := hg
    simp only [Bool.and_eq_true] at hg'
    obtain ⟨⟨⟨⟨g1, g2⟩, g3⟩, g4⟩, g5⟩ := hg'
    have b1 : 1 ≤ nn ∧ nn ≤ 40 := by simpa [Sw.inR] using g1
    have b2 : 1 ≤ m ∧ m ≤ nn := by simpa [Sw.inR] using g2
    have h40 : n ≤ 40 := by have := hl.out; simp [Sw.treOk] at g5; omega
    have hall : xs.all Sw.mixOk = true := by simp only [Sw.treOk, Bool.and_eq_true] at g5; exact g5.2
    obtain ⟨k, rfl⟩ := Int.eq_ofNat_of_zero_le (show 0 ≤ nn by omega)
    obtain ⟨j, rfl⟩ := Int.eq_ofNat_of_zero_le (show 0 ≤ m by omega)
    have e : Sw.conCheck j old k r xs = (Sw.grR j k old xs.reverse true == some (old, r)) := by
      rw [Sw.conCheck, hg]; rfl
    have He := Lib.hid e
    clear e hg
    go_enter Try.func171, Try.ntmps171
    go_wp2_with (first | (go_at_call 94; refine (l1In_c _ _ _ _).mono ?_; rintro E w' ⟨rfl, rfl⟩) | (go_at_call 172; refine (sMixOk_c _ _).mono ?_; rintro E w' ⟨rfl, rfl⟩) | (go_at_call 149; apply Calls.mono; apply sTreOk_c; ((first | (apply Rs.at0; assumption) | (apply Ow.rs0; assumption)); with_reducible repeat (first | exact kR _ _ | apply kA | apply kD | apply kN | (refine kS ?_ (by first | omega | (simp only [zA, zC, zD]; omega))) | (apply kE; assumption) | (refine kC (by assumption) ?_ (by first | omega | (simp only [zA, zC, zD]; omega))))); rintro E w' ⟨rfl, rfl⟩) | (go_at_call 211; apply Calls.mono; apply (sBoth_c 40); omega; ((first | (apply Rs.at0; assumption) | (apply Ow.rs0; assumption)); with_reducible repeat (first | exact kR _ _ | apply kA | apply kD | apply kN | (refine kS ?_ (by first | omega | (simp only [zA, zC, zD]; omega))) | (apply kE; assumption) | (refine kC (by assumption) ?_ (by first | omega | (simp only [zA, zC, zD]; omega))))); omega; exact hall; exact g3; omega; omega; omega; rintro E w1 ⟨a, b, rfl, hr, ha, hb', hb⟩; have Hr := Lib.hid hr; clear hr; cases hs : Sw.grR j k old xs.reverse true))
    all_goals (go_ret; refine ⟨ret_b ?_, (by (with_reducible repeat (first | exact cR _ _ | apply cA | apply cD | apply cN | (refine cS ?_ (Or.inr (by first | omega | (simp only [zA, zC, zD]; omega))) _) | (apply cE; assumption) | (apply cK; assumption) | (refine cG (by assumption) ?_ (by first | omega | (simp only [zA, zC, zD]; omega))))))⟩; rw [He.out, hs])
    · rfl
    all_goals
      obtain rfl := Hr.out _ hs
      rw [Bool.eq_iff_iff]
      simp [*]
  · have hg' : (Sw.inR nn 1 40 && Sw.inR m 1 nn && Sw.mixOk old && Sw.mixOk r && Sw.treOk xs) = false := by simpa using hg
    have e : Sw.conCheck m old nn r xs = false := by rw [Sw.conCheck, hg']; rfl
    rw [e]
    have Hg := Lib.hid hg'
    clear e hg hg'
    cases g1 : Sw.inR nn 1 40
    case false => go_enter Try.func171, Try.ntmps171; go_wp2_with (first | (go_at_call 94; refine (l1In_c _ _ _ _).mono ?_; rintro E w' ⟨rfl, rfl⟩)); go_ret; exact ⟨rfl, (by (with_reducible repeat (first | exact cR _ _ | apply cA | apply cD | apply cN | (refine cS ?_ (Or.inr (by first | omega | (simp only [zA, zC, zD]; omega))) _) | (apply cE; assumption) | (apply cK; assumption) | (refine cG (by assumption) ?_ (by first | omega | (simp only [zA, zC, zD]; omega))))))⟩
    cases g2 : Sw.inR m 1 nn
    case false => go_enter Try.func171, Try.ntmps171; go_wp2_with (first | (go_at_call 94; refine (l1In_c _ _ _ _).mono ?_; rintro E w' ⟨rfl, rfl⟩)); go_ret; exact ⟨rfl, (by (with_reducible repeat (first | exact cR _ _ | apply cA | apply cD | apply cN | (refine cS ?_ (Or.inr (by first | omega | (simp only [zA, zC, zD]; omega))) _) | (apply cE; assumption) | (apply cK; assumption) | (refine cG (by assumption) ?_ (by first | omega | (simp only [zA, zC, zD]; omega))))))⟩
    cases g3 : Sw.mixOk old
    case false => go_enter Try.func171, Try.ntmps171; go_wp2_with (first | (go_at_call 94; refine (l1In_c _ _ _ _).mono ?_; rintro E w' ⟨rfl, rfl⟩) | (go_at_call 172; refine (sMixOk_c _ _).mono ?_; rintro E w' ⟨rfl, rfl⟩)); go_ret; exact ⟨rfl, (by (with_reducible repeat (first | exact cR _ _ | apply cA | apply cD | apply cN | (refine cS ?_ (Or.inr (by first | omega | (simp only [zA, zC, zD]; omega))) _) | (apply cE; assumption) | (apply cK; assumption) | (refine cG (by assumption) ?_ (by first | omega | (simp only [zA, zC, zD]; omega))))))⟩
    cases g4 : Sw.mixOk r
    case false => go_enter Try.func171, Try.ntmps171; go_wp2_with (first | (go_at_call 94; refine (l1In_c _ _ _ _).mono ?_; rintro E w' ⟨rfl, rfl⟩) | (go_at_call 172; refine (sMixOk_c _ _).mono ?_; rintro E w' ⟨rfl, rfl⟩)); go_ret; exact ⟨rfl, (by (with_reducible repeat (first | exact cR _ _ | apply cA | apply cD | apply cN | (refine cS ?_ (Or.inr (by first | omega | (simp only [zA, zC, zD]; omega))) _) | (apply cE; assumption) | (apply cK; assumption) | (refine cG (by assumption) ?_ (by first | omega | (simp only [zA, zC, zD]; omega))))))⟩
    cases g5 : Sw.treOk xs
    case false => go_enter Try.func171, Try.ntmps171; go_wp2_with (first | (go_at_call 94; refine (l1In_c _ _ _ _).mono ?_; rintro E w' ⟨rfl, rfl⟩) | (go_at_call 172; refine (sMixOk_c _ _).mono ?_; rintro E w' ⟨rfl, rfl⟩) | (go_at_call 149; apply Calls.mono; apply sTreOk_c; ((first | (apply Rs.at0; assumption) | (apply Ow.rs0; assumption)); with_reducible repeat (first | exact kR _ _ | apply kA | apply kD | apply kN | (refine kS ?_ (by first | omega | (simp only [zA, zC, zD]; omega))) | (apply kE; assumption) | (refine kC (by assumption) ?_ (by first | omega | (simp only [zA, zC, zD]; omega))))); rintro E w' ⟨rfl, rfl⟩)); go_ret; exact ⟨rfl, (by (with_reducible repeat (first | exact cR _ _ | apply cA | apply cD | apply cN | (refine cS ?_ (Or.inr (by first | omega | (simp only [zA, zC, zD]; omega))) _) | (apply cE; assumption) | (apply cK; assumption) | (refine cG (by assumption) ?_ (by first | omega | (simp only [zA, zC, zD]; omega))))))⟩
    have := Hg.out
    rw [g1, g2, g3, g4, g5] at this
    cases this

theorem sHedAt_c (A : Option Addr) (c n : Nat) (s : Int) (xs : List Sw.Ent) (w : World) (hxs : RE w 0 A c n xs) : Calls Try.prog 165 #[.slice A n c, .int .i64 s] w fun E w' => E = .returned (.tuple #[.agg #[.int .i64 ((Sw.hedAt xs s).getD Sw.headZ).size, .int .i64 ((Sw.hedAt xs s).getD Sw.headZ).log, .int .i64 ((Sw.hedAt xs s).getD Sw.headZ).own], .bool (Sw.hedAt xs s).isSome]) ∧ Ex w w' := by
  have hl := Lib.hid hxs.1
  have hcap := hxs.2.le
  have hbig : n ≤ 9223372036854775807 := by have := hxs.2.cap; unfold maxLen at this; omega
  cases h1 : Sw.inR s 0 n with
  | true =>
    have b1 : 0 ≤ s ∧ s ≤ n := by simpa [Sw.inR] using h1
    obtain ⟨k, rfl⟩ := Int.eq_ofNat_of_zero_le (show 0 ≤ s by omega)
    have z0 : (0 : Int) ≤ ↑k := by omega
    have z1 : (↑k : Int) ≤ ↑n := by omega
    have z2 : (↑k : Int) ≤ ↑c := by omega
    have e : Sw.hedAt xs k = Sw.hedOf (xs.take k) := by rw [Sw.hedAt, ← hl.out, h1]; rfl
    rw [e]
    clear e
    go_enter Try.func165, Try.ntmps165
    go_wp2_with (first | (go_at_call 94; refine (l1In_c _ _ _ _).mono ?_; rintro E w' ⟨rfl, rfl⟩) | (go_at_call 84; apply Calls.mono; apply sHedOf_c; (apply Rs.at0; apply Rs.take hxs (fun _ => rfl); omega; (with_reducible repeat (first | exact kR _ _ | apply kA | apply kD | apply kN | (refine kS ?_ (by first | omega | (simp only [zA, zC, zD]; omega))) | (apply kE; assumption) | (refine kC (by assumption) ?_ (by first | omega | (simp only [zA, zC, zD]; omega)))))); rintro E w1 ⟨rfl, hb⟩; have hst := xr hb; (try simp only [zA, zC, zD] at hst); obtain ⟨hc, hf, hz⟩ := hst))
    refine bodyPost_ret (v := .tuple #[.agg #[.int .i64 ((Sw.hedOf (xs.take k)).getD Sw.headZ).size, .int .i64 ((Sw.hedOf (xs.take k)).getD Sw.headZ).log, .int .i64 ((Sw.hedOf (xs.take k)).getD Sw.headZ).own], .bool (Sw.hedOf (xs.take k)).isSome]) (by simp [results, Try.results165, go_sem, *]) rfl ?_
    exact ⟨rfl, (by (with_reducible repeat (first | exact cR _ _ | apply cA | apply cD | apply cN | (refine cS ?_ (Or.inr (by first | omega | (simp only [zA, zC, zD]; omega))) _) | (apply cE; assumption) | (apply cK; assumption) | (refine cG (by assumption) ?_ (by first | omega | (simp only [zA, zC, zD]; omega))))))⟩
  | false =>
    have e : Sw.hedAt xs s = none := by rw [Sw.hedAt, ← hl.out, h1]; rfl
    rw [e]
    go_enter Try.func165, Try.ntmps165
    go_wp2_with (first | (go_at_call 94; refine (l1In_c _ _ _ _).mono ?_; rintro E w' ⟨rfl, rfl⟩))
    refine bodyPost_ret (v := .tuple #[.agg #[.int .i64 0, .int .i64 0, .int .i64 0], .bool false]) (by simp [results, Try.results165, go_sem, *]) rfl ?_
    exact ⟨rfl, (by (with_reducible repeat (first | exact cR _ _ | apply cA | apply cD | apply cN | (refine cS ?_ (Or.inr (by first | omega | (simp only [zA, zC, zD]; omega))) _) | (apply cE; assumption) | (apply cK; assumption) | (refine cG (by assumption) ?_ (by first | omega | (simp only [zA, zC, zD]; omega))))))⟩

theorem sHedFollows_c (o t : Sw.Head) (A : Option Addr) (c n : Nat) (xs : List Int) (w : World) (hxs : RI w 0 A c n xs) : Calls Try.prog 90 #[.agg #[.int .i64 o.size, .int .i64 o.log, .int .i64 o.own], .agg #[.int .i64 t.size, .int .i64 t.log, .int .i64 t.own], .slice A n c] w fun E w' => E = .returned (.bool (Sw.hedFollows o t xs)) ∧ Ex w w' := by
  have hl := Lib.hid hxs.1
  cases g1 : Sw.hedOk o
  case false =>
    go_enter Try.func90, Try.ntmps90; go_wp2_with (first | (go_at_call 93; refine (sHedOk_c _ _).mono ?_; rintro E w1 ⟨rfl, hb⟩; have hst := xr hb; (try simp only [zA, zC, zD] at hst); obtain ⟨hc, hf, hz⟩ := hst)); go_ret; exact ⟨ret_b (by simp [Sw.hedFollows, g1]), (by (with_reducible repeat (first | exact cR _ _ | apply cA | apply cD | apply cN | (refine cS ?_ (Or.inr (by first | omega | (simp only [zA, zC, zD]; omega))) _) | (apply cE; assumption) | (apply cK; assumption) | (refine cG (by assumption) ?_ (by first | omega | (simp only [zA, zC, zD]; omega))))))⟩
  cases g2 : Sw.hedOk t
  case false =>
    go_enter Try.func90, Try.ntmps90; go_wp2_with (first | (go_at_call 93; refine (sHedOk_c _ _).mono ?_; rintro E w1 ⟨rfl, hb⟩; have hst := xr hb; (try simp only [zA, zC, zD] at hst); obtain ⟨hc, hf, hz⟩ := hst)); go_ret; exact ⟨ret_b (by simp [Sw.hedFollows, g2]), (by (with_reducible repeat (first | exact cR _ _ | apply cA | apply cD | apply cN | (refine cS ?_ (Or.inr (by first | omega | (simp only [zA, zC, zD]; omega))) _) | (apply cE; assumption) | (apply cK; assumption) | (refine cG (by assumption) ?_ (by first | omega | (simp only [zA, zC, zD]; omega))))))⟩
  by_cases g3 : o.size ≤ t.size
  case neg =>
    have e : Sw.hedFollows o t xs = false := by simp [Sw.hedFollows, g3]
    rw [e]; clear e
    have g3' : t.size < o.size := by omega
    go_enter Try.func90, Try.ntmps90; go_wp2_with (first | (go_at_call 93; refine (sHedOk_c _ _).mono ?_; rintro E w1 ⟨rfl, hb⟩; have hst := xr hb; (try simp only [zA, zC, zD] at hst); obtain ⟨hc, hf, hz⟩ := hst)); go_ret; exact ⟨rfl, (by (with_reducible repeat (first | exact cR _ _ | apply cA | apply cD | apply cN | (refine cS ?_ (Or.inr (by first | omega | (simp only [zA, zC, zD]; omega))) _) | (apply cE; assumption) | (apply cK; assumption) | (refine cG (by assumption) ?_ (by first | omega | (simp only [zA, zC, zD]; omega))))))⟩
  have n1 := g1; have n2 := g2
  simp only [Sw.hedOk, Sw.inR, Bool.and_eq_true, decide_eq_true_eq] at n1 n2
  obtain ⟨⟨⟨o0, _⟩, _⟩, _⟩ := n1
  obtain ⟨⟨⟨t0, _⟩, _⟩, _⟩ := n2
  by_cases g4 : o.size = 0
  · have z0 : (o.size == 0) = true := by simp [g4]
    have hle : decide (o.size ≤ t.size) = true := by simp [g3]
    have e : Sw.hedFollows o t xs = ((decide (o.size ≠ t.size) || decide (o = t)) && xs.isEmpty) := by rw [Sw.hedFollows, g1, g2, hle, if_pos g4]; simp
    have He := Lib.hid e
    have G4 := Lib.hid g4
    clear e g4
    by_cases hn : n = 0
    · have hx : xs = [] := List.eq_nil_of_length_eq_zero (by have := hl.out; omega)
      subst hx
      subst hn
      clear hl
      go_enter Try.func90, Try.ntmps90
      go_wp2_with (first | (go_at_call 93; refine (sHedOk_c _ _).mono ?_; rintro E w1 ⟨rfl, hb⟩; have hst := xr hb; (try simp only [zA, zC, zD] at hst); obtain ⟨hc, hf, hz⟩ := hst))
      all_goals (go_ret; refine ⟨ret_b ?_, (by (with_reducible repeat (first | exact cR _ _ | apply cA | apply cD | apply cN | (refine cS ?_ (Or.inr (by first | omega | (simp only [zA, zC, zD]; omega))) _) | (apply cE; assumption) | (apply cK; assumption) | (refine cG (by assumption) ?_ (by first | omega | (simp only [zA, zC, zD]; omega))))))⟩; rw [He.out]; have g4 := G4.out; clear He G4; go_tidy; simp only [head_ext])
      all_goals (first | (simp [*]; done) | (simp [*]; omega) | (simp_all; done) | (simp_all; omega))
    · have hb : ((n : Int) == 0) = false := by simp; omega
      have hx : xs.isEmpty = false := by
        cases xs with
        | nil => exact absurd hl.out hn
        | cons _ _ => rfl
      go_enter Try.func90, Try.ntmps90
      go_wp2_with (first | (go_at_call 93; refine (sHedOk_c _ _).mono ?_; rintro E w1 ⟨rfl, hb⟩; have hst := xr hb; (try simp only [zA, zC, zD] at hst); obtain ⟨hc, hf, hz⟩ := hst))
      go_ret
      exact ⟨ret_b (by rw [He.out, hx]; simp), (by (with_reducible repeat (first | exact cR _ _ | apply cA | apply cD | apply cN | (refine cS ?_ (Or.inr (by first | omega | (simp only [zA, zC, zD]; omega))) _) | (apply cE; assumption) | (apply cK; assumption) | (refine cG (by assumption) ?_ (by first | omega | (simp only [zA, zC, zD]; omega))))))⟩
  · have z0 : (o.size == 0) = false := by simp [g4]
    have hle : decide (o.size ≤ t.size) = true := by simp [g3]
    have e : Sw.hedFollows o t xs = ((decide (o.size ≠ t.size) || decide (o = t)) && Sw.conCheck o.size o.log t.size t.log xs) := by rw [Sw.hedFollows, g1, g2, hle, if_neg g4]; simp
    have He := Lib.hid e
    clear e g4
    go_enter Try.func90, Try.ntmps90
    go_wp2_with (first | (go_at_call 93; refine (sHedOk_c _ _).mono ?_; rintro E w1 ⟨rfl, hb⟩; have hst := xr hb; (try simp only [zA, zC, zD] at hst); obtain ⟨hc, hf, hz⟩ := hst) | (go_at_call 171; apply Calls.mono; apply sConCheck_c; ((first | (apply Rs.at0; assumption) | (apply Ow.rs0; assumption)); with_reducible repeat (first | exact kR _ _ | apply kA | apply kD | apply kN | (refine kS ?_ (by first | omega | (simp only [zA, zC, zD]; omega))) | (apply kE; assumption) | (refine kC (by assumption) ?_ (by first | omega | (simp only [zA, zC, zD]; omega))))); rintro E w1 ⟨rfl, hb⟩; have hst := xr hb; (try simp only [zA, zC, zD] at hst); obtain ⟨hc, hf, hz⟩ := hst))
    all_goals (go_ret; refine ⟨ret_b ?_, (by (with_reducible repeat (first | exact cR _ _ | apply cA | apply cD | apply cN | (refine cS ?_ (Or.inr (by first | omega | (simp only [zA, zC, zD]; omega))) _) | (apply cE; assumption) | (apply cK; assumption) | (refine cG (by assumption) ?_ (by first | omega | (simp only [zA, zC, zD]; omega))))))⟩; rw [He.out]; clear He; go_tidy; simp only [head_ext])
    all_goals (first | (simp [*]; done) | (simp [*]; omega) | (simp_all; done) | (simp_all; omega))

end Go.Proofs.Ytncoiknpkebgoaa
