/-
  Walks: what is ok; leaves.
-/
import Derived.Test.YtncoiknpkebgoaaLeaf
namespace Go.Proofs.Ytncoiknpkebgoaa
set_option maxRecDepth 100000
set_option linter.unusedSimpArgs false
set_option linter.unusedVariables false
open Go.RowKit Go
set_option maxHeartbeats 400000

theorem sEntLeaf_c (e : Sw.Ent) (w : World) : Calls Try.prog 207 #[.agg #[.int .i64 e.kind, .int .i64 e.ticket, .int .i64 e.who, .int .i64 e.price]] w fun E w' => E = .returned (.int .i64 (Sw.entLeaf e)) ∧ Ex w w' := by
  go_enter Try.func207, Try.ntmps207
  go_wp2_with (go_at_call 220; apply Calls.mono; apply (sMixLeaf_c (xs := [e.kind, e.ticket, e.who, e.price])); (refine Rs.new _ (by simp only [zA, zC, zD]) rfl rfl (fun _ => rfl) (by omega)); omega; rintro E w' ⟨rfl, rfl⟩)
  go_ret
  exact ⟨rfl, ((Ch.refl _ _).alloc _).alloc _⟩

theorem sOwnLeaf_c (t : Int) (r : Sw.Row) (w : World) : Calls Try.prog 192 #[.int .i64 t, .agg #[.int .i64 r.who, .int .i64 r.face, .bool r.used]] w fun E w' => E = .returned (.int .i64 (Sw.ownLeaf t r)) ∧ Ex w w' := by
  by_cases h : Sw.inR t 0 7 = true
  · have h' : 0 ≤ t ∧ t ≤ 7 := by simpa [Sw.inR] using h
    obtain ⟨t0, t1⟩ := h'
    cases hu : r.used
    · go_enter Try.func192, Try.ntmps192
      go_wp2_with (first | (go_at_call 94; refine (l1In_c _ _ _ _).mono ?_; rintro E w' ⟨rfl, rfl⟩) | (go_at_call 220; apply Calls.mono; apply (sMixLeaf_c (xs := [1000 + t, r.who, r.face, 0])); (refine Rs.new _ (by simp only [zA, zC, zD]) rfl rfl (fun _ => rfl) (by omega)); omega; rintro E w' ⟨rfl, rfl⟩))
      go_ret
      exact ⟨ret_i (by simp [Sw.ownLeaf, h, hu]), ((Ch.refl _ _).alloc _).alloc _⟩
    · go_enter Try.func192, Try.ntmps192
      go_wp2_with (first | (go_at_call 94; refine (l1In_c _ _ _ _).mono ?_; rintro E w' ⟨rfl, rfl⟩) | (go_at_call 220; apply Calls.mono; apply (sMixLeaf_c (xs := [1000 + t, r.who, r.face, 1])); (refine Rs.new _ (by simp only [zA, zC, zD]) rfl rfl (fun _ => rfl) (by omega)); omega; rintro E w' ⟨rfl, rfl⟩))
      go_ret
      exact ⟨ret_i (by simp [Sw.ownLeaf, h, hu]), ((Ch.refl _ _).alloc _).alloc _⟩
  · go_enter Try.func192, Try.ntmps192
    go_wp2_with (first | (go_at_call 94; refine (l1In_c _ _ _ _).mono ?_; rintro E w' ⟨rfl, rfl⟩))
    go_ret
    exact ⟨ret_i (by simp [Sw.ownLeaf, h]), (Ch.refl _ _).alloc _⟩

theorem sEntOk_c (e : Sw.Ent) (w : World) : Calls Try.prog 238 #[.agg #[.int .i64 e.kind, .int .i64 e.ticket, .int .i64 e.who, .int .i64 e.price]] w fun E w' => E = .returned (.bool (Sw.entOk e)) ∧ Ex w w' := by
  go_enter Try.func238, Try.ntmps238
  go_wp2_with (first | (go_at_call 94; refine (l1In_c _ _ _ _).mono ?_; rintro E w' ⟨rfl, rfl⟩) | (go_at_call 145; refine (sEntCap_c _ _).mono ?_; rintro E w' ⟨rfl, rfl⟩))
  all_goals (try (refine wp_name ?_; intro W0 hb0; have hst := xr hb0; (try simp only [zA, zC, zD] at hst); obtain ⟨hc0, hf0, hz0⟩ := hst; go_region_held3 (fun w' => Held W0 w') ((first | with_reducible assumption | with_reducible exact Held.start _ | with_reducible exact Held.of (by assumption) | with_reducible exact Held.ex (by assumption) (by assumption) | ((repeat (first | with_reducible refine Held.set ?_ (by simp only [zA, zC, zD]; omega) | with_reducible refine Held.alloc ?_ _ | with_reducible refine Held.drew ?_)); (first | with_reducible assumption | with_reducible exact Held.refl _ | with_reducible exact Held.of (by assumption) | with_reducible exact Held.ex (by assumption) (by assumption))) | exact Held.of (by (with_reducible repeat (first | exact cR _ _ | apply cA | apply cD | apply cN | (refine cS ?_ (Or.inr (by first | omega | (simp only [zA, zC, zD]; omega))) _) | (apply cE; assumption) | (apply cK; assumption) | (refine cG (by assumption) ?_ (by first | omega | (simp only [zA, zC, zD]; omega)))))))) ((first | (go_at_call 94; refine (l1In_c _ _ _ _).mono ?_; rintro E w' ⟨rfl, rfl⟩) | (go_at_call 145; refine (sEntCap_c _ _).mono ?_; rintro E w' ⟨rfl, rfl⟩))); all_goals (have hb := And.right (by assumption : Held W0 _); have hst := xr hb; (try simp only [zA, zC, zD] at hst); obtain ⟨hc, hf, hz⟩ := hst)))
  go_wp2
  all_goals (go_ret; refine ⟨ret_b ?_, (by first | rfl | (with_reducible repeat (first | exact cR _ _ | apply cA | apply cD | apply cN | (refine cS ?_ (Or.inr (by first | omega | (simp only [zA, zC, zD]; omega))) _) | (apply cE; assumption) | (apply cK; assumption) | (refine cG (by assumption) ?_ (by first | omega | (simp only [zA, zC, zD]; omega))))))⟩; go_tidy; (try simp only [Bool.not_eq_true', Bool.not_eq_false', Bool.not_eq_true, Bool.not_eq_false, beq_iff_eq, bne_iff_ne, ne_eq, beq_eq_false_iff_ne, bne_eq_false_iff_eq] at *); (first | rfl | (simp [Sw.entOk, Sw.entCap, show Sw.inR 50 1 50 = true from by decide, *]; done) | (simp [Sw.entOk, Sw.entCap, show Sw.inR 50 1 50 = true from by decide, *]; omega) | (simp [Sw.entOk, Sw.entCap, show Sw.inR 50 1 50 = true from by decide, beqI, *]; done) | (simp_all [Sw.entOk, Sw.entCap, show Sw.inR 50 1 50 = true from by decide, beqI]; done) | (simp_all [Sw.entOk, Sw.entCap, show Sw.inR 50 1 50 = true from by decide, beqI] <;> omega) | simp_all [Sw.entOk, Sw.entCap, show Sw.inR 50 1 50 = true from by decide, beqI]))

theorem sHedOk_c (t : Sw.Head) (w : World) : Calls Try.prog 93 #[.agg #[.int .i64 t.size, .int .i64 t.log, .int .i64 t.own]] w fun E w' => E = .returned (.bool (Sw.hedOk t)) ∧ Ex w w' := by
  go_enter Try.func93, Try.ntmps93
  go_wp2_with (first | (go_at_call 94; refine (l1In_c _ _ _ _).mono ?_; rintro E w' ⟨rfl, rfl⟩) | (go_at_call 172; refine (sMixOk_c _ _).mono ?_; rintro E w' ⟨rfl, rfl⟩))
  all_goals (go_ret; refine ⟨ret_b (by simp [Sw.hedOk, *]), (Ch.refl _ _).alloc _⟩)

theorem iHedOk_c (t : Sw.Head) (w : World) : Calls Try.prog 92 #[.agg #[.int .i64 t.size, .int .i64 t.log, .int .i64 t.own]] w fun E w' => E = .returned (.bool (Sw.hedOk t)) ∧ Ex w w' := by
  go_enter Try.func92, Try.ntmps92
  go_wp2_with (first | (go_at_call 113; refine (in_c _ _ _ _).mono ?_; rintro E w' ⟨rfl, rfl⟩) | (go_at_call 95; refine (iMixOk_c _ _).mono ?_; rintro E w' ⟨rfl, rfl⟩))
  all_goals (go_ret; refine ⟨ret_b (by simp [Sw.hedOk, *]), (Ch.refl _ _).alloc _⟩)

theorem sTreOk_c (A : Option Addr) (c n : Nat) (xs : List Int) (w : World) (h : RI w 0 A c n xs) : Calls Try.prog 149 #[.slice A n c] w fun E w' => E = .returned (.bool (Sw.treOk xs)) ∧ w = w' := by
  have hl := Lib.hid h.1
  have hm : n ≤ 9223372036854775807 := by have := h.2.le; have := h.2.cap; unfold maxLen at this; omega
  by_cases hn : n ≤ 40
  · have hb : decide (40 < n) = false := by simp; omega
    go_enter Try.func149, Try.ntmps149
    go_wp2
    go_loop [3] (fun i => ∃ k : Nat, k ≤ n ∧ i = .int .i64 k ∧ xs.all Sw.mixOk = (xs.drop k).all Sw.mixOk) (fun i => n - (intOf i).toNat)
    case atStart => exact ⟨0, Nat.zero_le _, rfl, rfl⟩
    case round =>
      obtain ⟨k, hk, rfl, hrel⟩ := hrel
      by_cases hlt : k < n
      · obtain ⟨g, off, y, rfl, hg0, hg, hd, hy, hc⟩ := at_I h hlt
        rw [hd] at hrel
        clear hd hy
        have Hrel := Lib.hid hrel; clear hrel
        go_wp2_with (first | (go_at_call 172; refine (sMixOk_c _ _).mono ?_; rintro E w' ⟨rfl, rfl⟩))
        all_goals (first | (refine ⟨⟨k + 1, by omega, by go_num, ?_⟩, by simp [intOf]; omega⟩; have hh := Hrel.out; clear Hrel; rw [List.all_cons] at hh; rw [hh]; clear hh; go_tidy; (try simp only [Bool.not_eq_true', Bool.not_eq_false', Bool.not_eq_true, Bool.not_eq_false, beq_iff_eq, bne_iff_ne, ne_eq, beq_eq_false_iff_ne, bne_eq_false_iff_eq] at *); have hp : Sw.mixOk y = true := (by (first | (simp [Sw.mixOk, *]; done) | (simp [Sw.mixOk, *]; omega) | (simp [Sw.mixOk, *]; intros; simp_all; done) | (simp_all [Sw.mixOk]; done))); simp [hp]) | (go_ret; refine ⟨ret_b ?_, rfl⟩; have hh := Hrel.out; clear Hrel; rw [List.all_cons] at hh; unfold Sw.treOk; rw [hh]; clear hh; go_tidy; (try simp only [Bool.not_eq_true', Bool.not_eq_false', Bool.not_eq_true, Bool.not_eq_false, beq_iff_eq, bne_iff_ne, ne_eq, beq_eq_false_iff_ne, bne_eq_false_iff_eq] at *); have hp : Sw.mixOk y = false := (by (first | (simp [Sw.mixOk, *]; done) | (simp [Sw.mixOk, *]; omega) | (simp [Sw.mixOk, *]; intros; simp_all; done) | (simp_all [Sw.mixOk]; done))); simp [hp]))
      · have Hrel := Lib.hid hrel; clear hrel
        go_wp2
        go_ret
        refine ⟨ret_b ?_, rfl⟩
        have := Hrel.out
        rw [List.drop_of_length_le (by have := hl.out; omega)] at this
        rw [Sw.treOk, this, ← hl.out]
        simp [hn]
  · go_enter Try.func149, Try.ntmps149
    go_wp2
    go_ret
    refine ⟨ret_b ?_, rfl⟩
    rw [Sw.treOk, ← hl.out]
    simp [hn]
end Go.Proofs.Ytncoiknpkebgoaa
