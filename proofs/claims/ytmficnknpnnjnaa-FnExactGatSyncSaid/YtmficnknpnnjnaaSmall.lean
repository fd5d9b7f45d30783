/-
  Walks: what is ok; leaves.
-/
import Derived.Test.YtmficnknpnnjnaaLeaf
namespace Go.Proofs.Ytmficnknpnnjnaa
open Go.RowKit Go
set_option maxHeartbeats 400000

theorem sEntLeaf_c (e : Sw.Ent) (w : World) : Calls Try.prog 66 #[.agg #[.int .i64 e.kind, .int .i64 e.ticket, .int .i64 e.who, .int .i64 e.price]] w fun E w' => E = .returned (.int .i64 (Sw.entLeaf e)) ∧ Ex w w' := by
  go_enter Try.func66, Try.ntmps66
  go_wp2_with (go_at_call 75; apply Calls.mono; apply (sMixLeaf_c (xs := [e.kind, e.ticket, e.who, e.price])); (refine Rs.new _ (by simp only [World.size_alloc, World.size_setCell, World.size_drew]) rfl rfl (fun _ => rfl) (by omega)); omega; rintro E w' ⟨rfl, rfl⟩)
  go_ret
  exact ⟨rfl, ((Ch.refl _ _).alloc _).alloc _⟩

theorem sOwnLeaf_c (t : Int) (r : Sw.Row) (w : World) : Calls Try.prog 76 #[.int .i64 t, .agg #[.int .i64 r.who, .int .i64 r.face, .bool r.used]] w fun E w' => E = .returned (.int .i64 (Sw.ownLeaf t r)) ∧ Ex w w' := by
  by_cases h : Sw.inR t 0 7 = true
  · have h' : 0 ≤ t ∧ t ≤ 7 := by simpa [Sw.inR] using h
    obtain ⟨t0, t1⟩ := h'
    cases hu : r.used
    · go_enter Try.func76, Try.ntmps76
      go_wp2_with (first | (go_at_call 39; refine (l1In_c _ _ _ _).mono ?_; rintro E w' ⟨rfl, rfl⟩) | (go_at_call 75; apply Calls.mono; apply (sMixLeaf_c (xs := [1000 + t, r.who, r.face, 0])); (refine Rs.new _ (by simp only [World.size_alloc, World.size_setCell, World.size_drew]) rfl rfl (fun _ => rfl) (by omega)); omega; rintro E w' ⟨rfl, rfl⟩))
      go_ret
      exact ⟨ret_i (by simp [Sw.ownLeaf, h, hu]), ((Ch.refl _ _).alloc _).alloc _⟩
    · go_enter Try.func76, Try.ntmps76
      go_wp2_with (first | (go_at_call 39; refine (l1In_c _ _ _ _).mono ?_; rintro E w' ⟨rfl, rfl⟩) | (go_at_call 75; apply Calls.mono; apply (sMixLeaf_c (xs := [1000 + t, r.who, r.face, 1])); (refine Rs.new _ (by simp only [World.size_alloc, World.size_setCell, World.size_drew]) rfl rfl (fun _ => rfl) (by omega)); omega; rintro E w' ⟨rfl, rfl⟩))
      go_ret
      exact ⟨ret_i (by simp [Sw.ownLeaf, h, hu]), ((Ch.refl _ _).alloc _).alloc _⟩
  · go_enter Try.func76, Try.ntmps76
    go_wp2_with (first | (go_at_call 39; refine (l1In_c _ _ _ _).mono ?_; rintro E w' ⟨rfl, rfl⟩))
    go_ret
    exact ⟨ret_i (by simp [Sw.ownLeaf, h]), (Ch.refl _ _).alloc _⟩

theorem sEntOk_c (e : Sw.Ent) (w : World) : Calls Try.prog 74 #[.agg #[.int .i64 e.kind, .int .i64 e.ticket, .int .i64 e.who, .int .i64 e.price]] w fun E w' => E = .returned (.bool (Sw.entOk e)) ∧ Ex w w' := by
  go_enter Try.func74, Try.ntmps74
  go_wp2_with (first | (go_at_call 39; refine (l1In_c _ _ _ _).mono ?_; rintro E w' ⟨rfl, rfl⟩) | (go_at_call 46; refine (sEntCap_c _ _).mono ?_; rintro E w' ⟨rfl, rfl⟩))
  all_goals (try (refine wp_name ?_; intro W0 hb0; have hst := Ex.rules hb0 rfl; (try simp only [World.size_alloc, World.size_setCell, World.size_drew] at hst); obtain ⟨hc0, hf0, hz0⟩ := hst; go_region_held3 (fun w' => Held W0 w') ((first | with_reducible assumption | with_reducible exact Held.start _ | with_reducible exact Held.of (by assumption) | with_reducible exact Held.ex (by assumption) (by assumption) | ((repeat (first | with_reducible refine Held.set ?_ (by simp only [World.size_alloc, World.size_setCell, World.size_drew]; omega) | with_reducible refine Held.alloc ?_ _ | with_reducible refine Held.drew ?_)); (first | with_reducible assumption | with_reducible exact Held.refl _ | with_reducible exact Held.of (by assumption) | with_reducible exact Held.ex (by assumption) (by assumption))) | exact Held.of (by (repeat (first | with_reducible exact Ch.refl _ _ | with_reducible apply Ch.alloc | with_reducible apply Ch.drew | with_reducible apply Ch.drewN | (with_reducible refine Ch.setCell ?_ (Or.inr (by first | omega | (simp only [World.size_alloc, World.size_setCell, World.size_drew]; omega))) _) | (with_reducible apply Ch.exk; with_reducible assumption) | (with_reducible apply Ch.chk; with_reducible assumption) | (with_reducible refine Ch.chg (by assumption) ?_ (by first | omega | (simp only [World.size_alloc, World.size_setCell, World.size_drew]; omega)))))))) ((first | (go_at_call 39; refine (l1In_c _ _ _ _).mono ?_; rintro E w' ⟨rfl, rfl⟩) | (go_at_call 46; refine (sEntCap_c _ _).mono ?_; rintro E w' ⟨rfl, rfl⟩))); all_goals (have hb := And.right (by assumption : Held W0 _); have hst := Ex.rules hb rfl; (try simp only [World.size_alloc, World.size_setCell, World.size_drew] at hst); obtain ⟨hc, hf, hz⟩ := hst)))
  go_wp2
  all_goals (go_ret; refine ⟨ret_b ?_, (by first | rfl | (repeat (first | with_reducible exact Ch.refl _ _ | with_reducible apply Ch.alloc | with_reducible apply Ch.drew | with_reducible apply Ch.drewN | (with_reducible refine Ch.setCell ?_ (Or.inr (by first | omega | (simp only [World.size_alloc, World.size_setCell, World.size_drew]; omega))) _) | (with_reducible apply Ch.exk; with_reducible assumption) | (with_reducible apply Ch.chk; with_reducible assumption) | (with_reducible refine Ch.chg (by assumption) ?_ (by first | omega | (simp only [World.size_alloc, World.size_setCell, World.size_drew]; omega))))))⟩; go_tidy; (try simp only [Bool.not_eq_true', Bool.not_eq_false', Bool.not_eq_true, Bool.not_eq_false, beq_iff_eq, bne_iff_ne, ne_eq, beq_eq_false_iff_ne, bne_eq_false_iff_eq] at *); (first | rfl | (simp [Sw.entOk, Sw.entCap, show Sw.inR 50 1 50 = true from by decide, *]; done) | (simp [Sw.entOk, Sw.entCap, show Sw.inR 50 1 50 = true from by decide, *]; omega) | (simp [Sw.entOk, Sw.entCap, show Sw.inR 50 1 50 = true from by decide, beqI, *]; done) | (simp_all [Sw.entOk, Sw.entCap, show Sw.inR 50 1 50 = true from by decide, beqI]; done) | (simp_all [Sw.entOk, Sw.entCap, show Sw.inR 50 1 50 = true from by decide, beqI] <;> omega) | simp_all [Sw.entOk, Sw.entCap, show Sw.inR 50 1 50 = true from by decide, beqI]))

theorem sHedOk_c (t : Sw.Head) (w : World) : Calls Try.prog 38 #[.agg #[.int .i64 t.size, .int .i64 t.log, .int .i64 t.own]] w fun E w' => E = .returned (.bool (Sw.hedOk t)) ∧ Ex w w' := by
  go_enter Try.func38, Try.ntmps38
  go_wp2_with (first | (go_at_call 39; refine (l1In_c _ _ _ _).mono ?_; rintro E w' ⟨rfl, rfl⟩) | (go_at_call 58; refine (sMixOk_c _ _).mono ?_; rintro E w' ⟨rfl, rfl⟩))
  all_goals (go_ret; refine ⟨ret_b (by simp [Sw.hedOk, *]), (Ch.refl _ _).alloc _⟩)

theorem iHedOk_c (t : Sw.Head) (w : World) : Calls Try.prog 37 #[.agg #[.int .i64 t.size, .int .i64 t.log, .int .i64 t.own]] w fun E w' => E = .returned (.bool (Sw.hedOk t)) ∧ Ex w w' := by
  go_enter Try.func37, Try.ntmps37
  go_wp2_with (first | (go_at_call 57; refine (in_c _ _ _ _).mono ?_; rintro E w' ⟨rfl, rfl⟩) | (go_at_call 40; refine (iMixOk_c _ _).mono ?_; rintro E w' ⟨rfl, rfl⟩))
  all_goals (go_ret; refine ⟨ret_b (by simp [Sw.hedOk, *]), (Ch.refl _ _).alloc _⟩)

theorem sTreOk_c (A : Option Addr) (c n : Nat) (xs : List Int) (w : World) (h : RI w 0 A c n xs) : Calls Try.prog 61 #[.slice A n c] w fun E w' => E = .returned (.bool (Sw.treOk xs)) ∧ w = w' := by
  have hl := Lib.hid h.1
  have hm : n ≤ 9223372036854775807 := by have := h.2.le; have := h.2.cap; unfold maxLen at this; omega
  by_cases hn : n ≤ 40
  · have hb : decide (40 < n) = false := by simp; omega
    go_enter Try.func61, Try.ntmps61
    go_wp2
    go_loop [3] (fun i => ∃ k : Nat, k ≤ n ∧ i = .int .i64 k ∧ xs.all Sw.mixOk = (xs.drop k).all Sw.mixOk) (fun i => n - (intOf i).toNat)
    case atStart => exact ⟨0, Nat.zero_le _, rfl, rfl⟩
    case round =>
      obtain ⟨k, hk, rfl, hrel⟩ := hrel
      by_cases hlt : k < n
      · obtain ⟨g, off, y, rfl, hg0, hg, hd, hy, hc⟩ := at_I h hlt
        rw [hd] at hrel
        clear hd hy
        have Hrel := Lib.hid hrel; clear hrel
        go_wp2_with (first | (go_at_call 58; refine (sMixOk_c _ _).mono ?_; rintro E w' ⟨rfl, rfl⟩))
        all_goals (first | (refine ⟨⟨k + 1, by omega, by go_num, ?_⟩, by simp [intOf]; omega⟩; have hh := Hrel.out; clear Hrel; rw [List.all_cons] at hh; rw [hh]; clear hh; go_tidy; (try simp only [Bool.not_eq_true', Bool.not_eq_false', Bool.not_eq_true, Bool.not_eq_false, beq_iff_eq, bne_iff_ne, ne_eq, beq_eq_false_iff_ne, bne_eq_false_iff_eq] at *); have hp : Sw.mixOk y = true := (by (first | (simp [Sw.mixOk, *]; done) | (simp [Sw.mixOk, *]; omega) | (simp [Sw.mixOk, *]; intros; simp_all; done) | (simp_all [Sw.mixOk]; done))); simp [hp]) | (go_ret; refine ⟨ret_b ?_, rfl⟩; have hh := Hrel.out; clear Hrel; rw [List.all_cons] at hh; unfold Sw.treOk; rw [hh]; clear hh; go_tidy; (try simp only [Bool.not_eq_true', Bool.not_eq_false', Bool.not_eq_true, Bool.not_eq_false, beq_iff_eq, bne_iff_ne, ne_eq, beq_eq_false_iff_ne, bne_eq_false_iff_eq] at *); have hp : Sw.mixOk y = false := (by (first | (simp [Sw.mixOk, *]; done) | (simp [Sw.mixOk, *]; omega) | (simp [Sw.mixOk, *]; intros; simp_all; done) | (simp_all [Sw.mixOk]; done))); simp [hp]))
      · have Hrel := Lib.hid hrel; clear hrel
        go_wp2
        go_ret
        refine ⟨ret_b ?_, rfl⟩
        have := Hrel.out
        rw [List.drop_of_length_le (by have := hl.out; omega)] at this
        rw [Sw.treOk, this, ← hl.out]
        simp [hn]
  · go_enter Try.func61, Try.ntmps61
    go_wp2
    go_ret
    refine ⟨ret_b ?_, rfl⟩
    rw [Sw.treOk, ← hl.out]
    simp [hn]
end Go.Proofs.Ytmficnknpnnjnaa
