/-
  Texts joined: Impl4, ImpA.
-/
import Derived.Test.YtdbnbembjebfhaaGreatPz22
import Derived.Test.YtdbnbembjebfhaaGreatPz13
import Derived.Test.YtdbnbembjebfhaaGreatPz8
import Derived.Test.YtdbnbembjebfhaaGreatPz7
namespace Go.Proofs.YtdbnbembjebfhaaGreat
set_option maxRecDepth 100000
set_option linter.unusedSimpArgs false
set_option linter.unusedVariables false
open Go.RowKit Go
set_option maxHeartbeats 400000

theorem iHedFollows_c (o t : Sw.Head) (A : Option Addr) (c n : Nat) (xs : List Int) (w : World) (hxs : RI w 0 A c n xs) : Calls Tryz.prog 225 #[.agg #[.int .i64 o.size, .int .i64 o.log, .int .i64 o.own], .agg #[.int .i64 t.size, .int .i64 t.log, .int .i64 t.own], .slice A n c] w fun E w' => E = .returned (.bool (Sw.hedFollows o t xs)) ∧ Ex w w' := by
  have hl := Lib.hid hxs.1
  cases g1 : Sw.hedOk o
  case false =>
    go_enter Tryz.func225, Tryz.ntmps225; go_wp2_with (first | (go_at_call 117; refine (iHedOk_c _ _).mono ?_; rintro E w1 ⟨rfl, hb⟩; have hst := xr hb; (try simp only [zA, zC, zD, zN] at hst); obtain ⟨hc, hf, hz⟩ := hst)); go_ret; exact ⟨ret_b (by simp [Sw.hedFollows, g1]), ext_⟩
  cases g2 : Sw.hedOk t
  case false =>
    go_enter Tryz.func225, Tryz.ntmps225; go_wp2_with (first | (go_at_call 117; refine (iHedOk_c _ _).mono ?_; rintro E w1 ⟨rfl, hb⟩; have hst := xr hb; (try simp only [zA, zC, zD, zN] at hst); obtain ⟨hc, hf, hz⟩ := hst)); go_ret; exact ⟨ret_b (by simp [Sw.hedFollows, g2]), ext_⟩
  by_cases g3 : o.size ≤ t.size
  case neg =>
    have e : Sw.hedFollows o t xs = false := by simp [Sw.hedFollows, g3]
    rw [e]; clear e
    have g3' : t.size < o.size := by omega
    go_enter Tryz.func225, Tryz.ntmps225; go_wp2_with (first | (go_at_call 117; refine (iHedOk_c _ _).mono ?_; rintro E w1 ⟨rfl, hb⟩; have hst := xr hb; (try simp only [zA, zC, zD, zN] at hst); obtain ⟨hc, hf, hz⟩ := hst)); go_ret; exact ⟨rfl, ext_⟩
  have n1 := g1; have n2 := g2
  simp only [Sw.hedOk, Sw.inR, Bool.and_eq_true, decide_eq_true_eq] at n1 n2
  obtain ⟨⟨⟨o0, _⟩, _⟩, _⟩ := n1
  obtain ⟨⟨⟨t0, _⟩, _⟩, _⟩ := n2
  have g3' : decide (t.size < o.size) = false := by simp; omega
  by_cases g4 : o.size = 0
  · have z0 : (o.size == 0) = true := by simp [g4]
    have hle : decide (o.size ≤ t.size) = true := by simp [g3]
    have e : Sw.hedFollows o t xs = ((decide (o.size ≠ t.size) || decide (o = t)) && xs.isEmpty) := by rw [Sw.hedFollows, g1, g2, hle, if_pos g4]; simp
    have He := Lib.hid e
    have G4 := Lib.hid g4
    clear e g4
    by_cases hn : n = 0
    · have hx : xs = [] := List.eq_nil_of_length_eq_zero (by have := hl.out; omega)
      subst hx
      subst hn
      clear hl
      go_enter Tryz.func225, Tryz.ntmps225
      go_wp2_with (first | (go_at_call 117; refine (iHedOk_c _ _).mono ?_; rintro E w1 ⟨rfl, hb⟩; have hst := xr hb; (try simp only [zA, zC, zD, zN] at hst); obtain ⟨hc, hf, hz⟩ := hst))
      all_goals (go_ret; refine ⟨ret_b ?_, ext_⟩; rw [He.out]; have g4 := G4.out; clear He G4; go_tidy; simp only [head_ext])
      all_goals (first | (simp [*]; done) | (simp [*]; omega) | (simp_all; done) | (simp_all; omega))
    · have hb : ((n : Int) == 0) = false := by simp; omega
      have hx : xs.isEmpty = false := by
        cases xs with
        | nil => exact absurd hl.out hn
        | cons _ _ => rfl
      go_enter Tryz.func225, Tryz.ntmps225
      go_wp2_with (first | (go_at_call 117; refine (iHedOk_c _ _).mono ?_; rintro E w1 ⟨rfl, hb⟩; have hst := xr hb; (try simp only [zA, zC, zD, zN] at hst); obtain ⟨hc, hf, hz⟩ := hst))
      all_goals (go_ret; exact ⟨ret_b (by rw [He.out, hx]; simp), ext_⟩)
  · have z0 : (o.size == 0) = false := by simp [g4]
    have hle : decide (o.size ≤ t.size) = true := by simp [g3]
    have e : Sw.hedFollows o t xs = ((decide (o.size ≠ t.size) || decide (o = t)) && Sw.conCheck o.size o.log t.size t.log xs) := by rw [Sw.hedFollows, g1, g2, hle, if_neg g4]; simp
    have He := Lib.hid e
    clear e g4
    go_enter Tryz.func225, Tryz.ntmps225
    go_wp2_with (first | (go_at_call 117; refine (iHedOk_c _ _).mono ?_; rintro E w1 ⟨rfl, hb⟩; have hst := xr hb; (try simp only [zA, zC, zD, zN] at hst); obtain ⟨hc, hf, hz⟩ := hst) | (go_at_call 247; apply Calls.mono; apply iConCheck_c; ((first | (apply Rs.at0; assumption) | (apply Ow.rs0; assumption)); exact kf_); rintro E w1 ⟨rfl, hb⟩; have hst := xr hb; (try simp only [zA, zC, zD, zN] at hst); obtain ⟨hc, hf, hz⟩ := hst))
    all_goals (go_ret; refine ⟨ret_b ?_, ext_⟩; rw [He.out]; clear He; go_tidy; simp only [head_ext])
    all_goals (first | (simp [*]; done) | (simp [*]; omega) | (simp_all; done) | (simp_all; omega))
end Go.Proofs.YtdbnbembjebfhaaGreat

namespace Go.Proofs.YtdbnbembjebfhaaGreat
set_option maxRecDepth 100000
set_option linter.unusedSimpArgs false
set_option linter.unusedVariables false
open Go.RowKit Go
set_option maxHeartbeats 400000

theorem isUser_c (n : Int) (w : World) : Calls Tryz.prog 52 #[.int .i64 n] w fun E w' => E = .returned (.bool (Sw.inR n 1 5)) ∧ w = w' := by
  go_enter Tryz.func52, Tryz.ntmps52
  go_wp2_with (first | (go_at_call 114; refine (in_c _ _ _ _).mono ?_; rintro E w' ⟨rfl, rfl⟩))
  all_goals (go_ret; exact ⟨rfl, rfl⟩)
theorem isFace_c (n : Int) (w : World) : Calls Tryz.prog 122 #[.int .i64 n] w fun E w' => E = .returned (.bool (Sw.inR n 1 50)) ∧ w = w' := by
  go_enter Tryz.func122, Tryz.ntmps122
  go_wp2_with (first | (go_at_call 114; refine (in_c _ _ _ _).mono ?_; rintro E w' ⟨rfl, rfl⟩))
  all_goals (go_ret; exact ⟨rfl, rfl⟩)
theorem iEntCap_c (f : Int) (w : World) : Calls Tryz.prog 231 #[.int .i64 f] w fun E w' => E = .returned (.int .i64 (Sw.entCap f)) ∧ w = w' := by
  by_cases h : Sw.inR f 1 50 = true
  · have h' : 1 ≤ f ∧ f ≤ 50 := by simpa [Sw.inR] using h
    obtain ⟨a, b⟩ := h'
    go_enter Tryz.func231, Tryz.ntmps231
    go_wp2_with (first | (go_at_call 122; refine (isFace_c _ _).mono ?_; rintro E w' ⟨rfl, rfl⟩))
    all_goals (go_ret; refine ⟨ret_i (by simp [Sw.entCap, h]), rfl⟩)
  · go_enter Tryz.func231, Tryz.ntmps231
    go_wp2_with (first | (go_at_call 122; refine (isFace_c _ _).mono ?_; rintro E w' ⟨rfl, rfl⟩))
    all_goals (go_ret; refine ⟨ret_i (by simp [Sw.entCap, h]), rfl⟩)
theorem iEntOk_c (e : Sw.Ent) (w : World) : Calls Tryz.prog 185 #[.agg #[.int .i64 e.kind, .int .i64 e.ticket, .int .i64 e.who, .int .i64 e.price]] w fun E w' => E = .returned (.bool (Sw.entOk e)) ∧ Ex w w' := by
  go_enter Tryz.func185, Tryz.ntmps185
  go_wp2_with (first | (go_at_call 57; refine (isTicket_c _ _).mono ?_; rintro E w' ⟨rfl, rfl⟩) | (go_at_call 52; refine (isUser_c _ _).mono ?_; rintro E w' ⟨rfl, rfl⟩) | (go_at_call 122; refine (isFace_c _ _).mono ?_; rintro E w' ⟨rfl, rfl⟩) | (go_at_call 114; refine (in_c _ _ _ _).mono ?_; rintro E w' ⟨rfl, rfl⟩) | (go_at_call 231; refine (iEntCap_c _ _).mono ?_; rintro E w' ⟨rfl, rfl⟩))
  all_goals (try (refine wp_name ?_; intro W0 hb0; have hst := xr hb0; (try simp only [zA, zC, zD, zN] at hst); obtain ⟨hc0, hf0, hz0⟩ := hst; go_region_held3 (fun w' => Held W0 w') ((first | with_reducible assumption | with_reducible exact Held.start _ | with_reducible exact Held.of (by assumption) | with_reducible exact Held.ex (by assumption) (by assumption) | ((repeat (first | with_reducible refine Held.set ?_ (by simp only [zA, zC, zD, zN]; omega) | with_reducible refine Held.alloc ?_ _ | with_reducible refine Held.drew ?_)); (first | with_reducible assumption | with_reducible exact Held.refl _ | with_reducible exact Held.of (by assumption) | with_reducible exact Held.ex (by assumption) (by assumption))) | exact Held.of (by exact ext_))) ((first | (go_at_call 57; refine (isTicket_c _ _).mono ?_; rintro E w' ⟨rfl, rfl⟩) | (go_at_call 52; refine (isUser_c _ _).mono ?_; rintro E w' ⟨rfl, rfl⟩) | (go_at_call 122; refine (isFace_c _ _).mono ?_; rintro E w' ⟨rfl, rfl⟩) | (go_at_call 114; refine (in_c _ _ _ _).mono ?_; rintro E w' ⟨rfl, rfl⟩) | (go_at_call 231; refine (iEntCap_c _ _).mono ?_; rintro E w' ⟨rfl, rfl⟩))); all_goals (have hb := And.right (by assumption : Held W0 _); have hst := xr hb; (try simp only [zA, zC, zD, zN] at hst); obtain ⟨hc, hf, hz⟩ := hst)))
  all_goals go_wp2
  all_goals (go_ret; refine ⟨ret_b ?_, (by first | rfl | exact ext_)⟩; go_tidy; (try simp only [Bool.not_eq_true', Bool.not_eq_false', Bool.not_eq_true, Bool.not_eq_false, beq_iff_eq, bne_iff_ne, ne_eq, beq_eq_false_iff_ne, bne_eq_false_iff_eq] at *); (first | rfl | (simp [Sw.entOk, Sw.entCap, show Sw.inR 50 1 50 = true from by decide, *]; done) | (simp [Sw.entOk, Sw.entCap, show Sw.inR 50 1 50 = true from by decide, *]; omega) | (simp [Sw.entOk, Sw.entCap, show Sw.inR 50 1 50 = true from by decide, beqI, *]; done) | (simp_all [Sw.entOk, Sw.entCap, show Sw.inR 50 1 50 = true from by decide, beqI]; done) | (simp_all [Sw.entOk, Sw.entCap, show Sw.inR 50 1 50 = true from by decide, beqI] <;> omega) | simp_all [Sw.entOk, Sw.entCap, show Sw.inR 50 1 50 = true from by decide, beqI]))

theorem iMixLeaf_c (A : Option Addr) (c n : Nat) (xs : List Int) (w : World) (h : RI w 0 A c n xs) (hn : n ≤ 4194304) : Calls Tryz.prog 60 #[.slice A n c] w fun E w' => E = .returned (.int .i64 (Sw.mixLeaf xs)) ∧ w = w' := by
  have hl := Lib.hid h.1
  go_enter Tryz.func60, Tryz.ntmps60
  go_wp2
  go_loop [3, 8] (fun m i => ∃ (k : Nat) (x : Int), k ≤ n ∧ i = .int .i64 k ∧ m = .int .i64 x ∧ 0 ≤ x ∧ x ≤ 65520 ∧ Sw.mixLeafFrom 7 xs = Sw.mixLeafFrom x (xs.drop k)) (fun _ i => n - (intOf i).toNat)
  case atStart => exact ⟨0, 7, Nat.zero_le _, rfl, rfl, by omega, by omega, rfl⟩
  case round =>
    obtain ⟨k, x, hk, rfl, rfl, x0, x1, hrel⟩ := hrel
    by_cases hlt : k < n
    · obtain ⟨g, off, y, rfl, hg0, hg, hd, hy, hc⟩ := at_I h hlt
      rw [hd] at hrel
      clear hd hy
      have Hrel := Lib.hid hrel; clear hrel
      obtain ⟨y0, y1⟩ := tmod_bd y
      have hbd := leafStep_bd x y
      by_cases hneg : y.tmod 65521 < 0
      · go_wp2
        go_round
        case rel => exact ⟨k + 1, Sw.leafStep x y, by omega, by go_num, int_i (by unfold Sw.leafStep; rw [Int.tmod_eq_emod] at *; split <;> omega), hbd.1, hbd.2, Hrel.out⟩
        case measure => simp [intOf]; omega
      · go_wp2
        go_round
        case rel => exact ⟨k + 1, Sw.leafStep x y, by omega, by go_num, int_i (by unfold Sw.leafStep; rw [Int.tmod_eq_emod] at *; split <;> omega), hbd.1, hbd.2, Hrel.out⟩
        case measure => simp [intOf]; omega
    · have Hrel := Lib.hid hrel; clear hrel
      go_wp2
      go_ret
      refine ⟨ret_i ?_, rfl⟩
      have := Hrel.out
      rw [List.drop_of_length_le (by have := hl.out; omega)] at this
      unfold Sw.mixLeaf
      rw [this, hl.out]
      rfl
theorem iEntLeaf_c (e : Sw.Ent) (w : World) : Calls Tryz.prog 110 #[.agg #[.int .i64 e.kind, .int .i64 e.ticket, .int .i64 e.who, .int .i64 e.price]] w fun E w' => E = .returned (.int .i64 (Sw.entLeaf e)) ∧ Ex w w' := by
  go_enter Tryz.func110, Tryz.ntmps110
  go_wp2_with (go_at_call 60; apply Calls.mono; apply (iMixLeaf_c (xs := [e.kind, e.ticket, e.who, e.price])); (refine Rs.new _ (by simp only [zA, zC, zD, zN]) rfl rfl (fun _ => rfl) (by omega)); omega; rintro E w' ⟨rfl, rfl⟩)
  go_ret
  exact ⟨rfl, ext_⟩
theorem iOwnLeaf_c (t : Int) (r : Sw.Row) (w : World) : Calls Tryz.prog 14 #[.int .i64 t, .agg #[.int .i64 r.who, .int .i64 r.face, .bool r.used]] w fun E w' => E = .returned (.int .i64 (Sw.ownLeaf t r)) ∧ Ex w w' := by
  by_cases h : Sw.inR t 0 7 = true
  · have h' : 0 ≤ t ∧ t ≤ 7 := by simpa [Sw.inR] using h
    obtain ⟨t0, t1⟩ := h'
    cases hu : r.used
    · go_enter Tryz.func14, Tryz.ntmps14
      go_wp2_with (first | (go_at_call 57; refine (isTicket_c _ _).mono ?_; rintro E w' ⟨rfl, rfl⟩) | (go_at_call 60; apply Calls.mono; apply (iMixLeaf_c (xs := [1000 + t, r.who, r.face, 0])); (refine Rs.new _ (by simp only [zA, zC, zD, zN]) rfl rfl (fun _ => rfl) (by omega)); omega; rintro E w' ⟨rfl, rfl⟩))
      go_ret
      exact ⟨ret_i (by simp [Sw.ownLeaf, h, hu]), ext_⟩
    · go_enter Tryz.func14, Tryz.ntmps14
      go_wp2_with (first | (go_at_call 57; refine (isTicket_c _ _).mono ?_; rintro E w' ⟨rfl, rfl⟩) | (go_at_call 60; apply Calls.mono; apply (iMixLeaf_c (xs := [1000 + t, r.who, r.face, 1])); (refine Rs.new _ (by simp only [zA, zC, zD, zN]) rfl rfl (fun _ => rfl) (by omega)); omega; rintro E w' ⟨rfl, rfl⟩))
      go_ret
      exact ⟨ret_i (by simp [Sw.ownLeaf, h, hu]), ext_⟩
  · go_enter Tryz.func14, Tryz.ntmps14
    go_wp2_with (first | (go_at_call 57; refine (isTicket_c _ _).mono ?_; rintro E w' ⟨rfl, rfl⟩))
    go_ret
    exact ⟨ret_i (by simp [Sw.ownLeaf, h]), ext_⟩

theorem iOwnOk_c (A : Option Addr) (c n : Nat) (xs : List Sw.Row) (w : World) (hxs : RR w 0 A c n xs) : Calls Tryz.prog 56 #[.slice A n c] w fun E w' => E = .returned (.bool (Sw.ownOk xs)) ∧ Ex w w' := by
  have hl := Lib.hid hxs.1
  have hbig := Rs.big hxs
  go_enter Tryz.func56, Tryz.ntmps56
  go_wp2_with fail
  go_loopw [7] (fun i wr => ∃ (k : Nat), k ≤ n ∧ i = .int .i64 k ∧ Ex w wr ∧ xs.all Sw.rowOk = (xs.drop k).all Sw.rowOk) (fun i _ => n - (intOf i).toNat)
  case atStart => exact ⟨0, Nat.zero_le _, rfl, ext_, rfl⟩
  case round =>
    obtain ⟨k, hk, rfl, hb, hrel⟩ := hrel
    have hst := Ex.rules hb rfl
    obtain ⟨hc, hf, hz⟩ := hst
    by_cases hlt : k < n
    · obtain ⟨g, off, y, rfl, hg0, hg, hd, hy, hc0, hc1, hc2⟩ := at_R hxs hlt
      rw [hd] at hrel
      have Hrel := Lib.hid hrel; clear hd hy hrel
      go_wp2_with (first | (go_at_call 52; refine (isUser_c _ _).mono ?_; rintro E w' ⟨rfl, rfl⟩) | (go_at_call 122; refine (isFace_c _ _).mono ?_; rintro E w' ⟨rfl, rfl⟩))
      all_goals (first | (refine ⟨⟨k + 1, by omega, by go_num, (by exact ext_), ?_⟩, by simp [intOf]; omega⟩; have hh := Hrel.out; clear Hrel; rw [List.all_cons] at hh; rw [hh]; clear hh; go_tidy; (try simp only [Bool.not_eq_true', Bool.not_eq_false', Bool.not_eq_true, Bool.not_eq_false, beq_iff_eq, bne_iff_ne, ne_eq, beq_eq_false_iff_ne, bne_eq_false_iff_eq] at *); have hp : Sw.rowOk y = true := (by (first | (simp [Sw.rowOk, show Sw.inR 0 1 5 = false from rfl, *]; done) | (simp [Sw.rowOk, show Sw.inR 0 1 5 = false from rfl, *]; omega) | (simp [Sw.rowOk, show Sw.inR 0 1 5 = false from rfl, *]; intros; simp_all; done) | (simp_all [Sw.rowOk, show Sw.inR 0 1 5 = false from rfl]; done))); simp [hp]) | (go_ret; refine ⟨ret_b ?_, (by first | rfl | exact ext_)⟩; have hh := Hrel.out; clear Hrel; rw [List.all_cons] at hh; unfold Sw.ownOk; rw [hh]; clear hh; go_tidy; (try simp only [Bool.not_eq_true', Bool.not_eq_false', Bool.not_eq_true, Bool.not_eq_false, beq_iff_eq, bne_iff_ne, ne_eq, beq_eq_false_iff_ne, bne_eq_false_iff_eq] at *); have hp : Sw.rowOk y = false := (by (first | (simp [Sw.rowOk, show Sw.inR 0 1 5 = false from rfl, *]; done) | (simp [Sw.rowOk, show Sw.inR 0 1 5 = false from rfl, *]; omega) | (simp [Sw.rowOk, show Sw.inR 0 1 5 = false from rfl, *]; intros; simp_all; done) | (simp_all [Sw.rowOk, show Sw.inR 0 1 5 = false from rfl]; done))); simp [hp]))
    · have Hrel := Lib.hid hrel; clear hrel
      go_wp2
      go_ret
      refine ⟨ret_b ?_, ext_⟩
      have := Hrel.out
      rw [List.drop_of_length_le (by have := hl.out; omega)] at this
      rw [Sw.ownOk, this, ← hl.out, show ((n : Int) == 8) = decide (n = 8) from by rw [beqI, decide_eq_decide]; omega]
      simp

theorem iFits_c (A : Option Addr) (c : Nat) (xs : List Sw.Row) (e : Sw.Ent) (w : World) (hxs : RR w 0 A c 8 xs) (ht0 : 0 ≤ e.ticket) (ht1 : e.ticket ≤ 7) : Calls Tryz.prog 186 #[.slice A 8 c, .agg #[.int .i64 e.kind, .int .i64 e.ticket, .int .i64 e.who, .int .i64 e.price]] w fun E w' => E = .returned (.bool (Sw.fitsRow (Sw.rowAt xs e.ticket) e)) ∧ Ex w w' := by
  have hl := Lib.hid hxs.1
  obtain ⟨t, ht'⟩ := Int.eq_ofNat_of_zero_le ht0
  have hlt : t < 8 := by omega
  obtain ⟨g, off, y, rfl, hg0, hg, hd, hy, hc0, hc1, hc2⟩ := at_R hxs hlt
  have hrow : Sw.rowAt xs e.ticket = y := by simp [Sw.rowAt, ht', hy]
  rw [hrow]
  clear hrow hd hy
  have Ht := Lib.hid ht'
  have ht2 : e.ticket < 8 := by omega
  have e0 : e.ticket.toNat = t := by omega
  clear ht'
  obtain ⟨yw, yf, yu⟩ := y
  dsimp only at hc0 hc1 hc2
  by_cases k1 : e.kind = 1
  · have hk1 : (e.kind == 1) = true := by simp [k1]
    have K1 := Lib.hid k1; clear k1
    go_enter Tryz.func186, Tryz.ntmps186
    go_wp2_with (first | (go_at_call 231; refine (iEntCap_c _ _).mono ?_; rintro E w' ⟨rfl, rfl⟩))
    go_ret
    exact ⟨ret_b (by simp [Sw.fitsRow, K1.out, beqI]), ext_⟩
  have hk1 : (e.kind == 1) = false := by simp [k1]
  by_cases k2 : e.kind = 2
  · have hk2 : (e.kind == 2) = true := by simp [k2]
    have K2 := Lib.hid k2; clear k2
    cases b1 : (yw == 0)
    case true =>
      have b1' : (yw != 0) = false := by rw [bne, b1]; rfl
      go_enter Tryz.func186, Tryz.ntmps186
      go_wp2_with fail
      go_quiet ((first | (go_at_call 231; exact Calls.quiet_same (iEntCap_c _ _))))
      go_wp2
      go_ret
      exact ⟨ret_b (by simp only [Sw.fitsRow, K2.out]; simp only [← beqI, decide_not, ne_eq, b1]; simp), ext_⟩
    have b1' : (yw != 0) = true := by rw [bne, b1]; rfl
    cases b2 : (yw == e.who)
    case true =>
      have b2' : (yw != e.who) = false := by rw [bne, b2]; rfl
      go_enter Tryz.func186, Tryz.ntmps186
      go_wp2_with fail
      go_quiet ((first | (go_at_call 231; exact Calls.quiet_same (iEntCap_c _ _))))
      go_wp2
      go_ret
      exact ⟨ret_b (by simp only [Sw.fitsRow, K2.out]; simp only [← beqI, decide_not, ne_eq, b2]; simp), ext_⟩
    have b2' : (yw != e.who) = true := by rw [bne, b2]; rfl
    cases yu
    all_goals
      go_enter Tryz.func186, Tryz.ntmps186
      go_wp2_with fail
      go_quiet ((first | (go_at_call 231; exact Calls.quiet_same (iEntCap_c _ _))))
      go_wp2
      go_ret
      exact ⟨ret_b (by simp only [Sw.fitsRow, K2.out]; simp only [← beqI, decide_not, ne_eq, b1, b2]; simp), ext_⟩
  have hk2 : (e.kind == 2) = false := by simp [k2]
  go_enter Tryz.func186, Tryz.ntmps186
  go_wp2_with (first | (go_at_call 231; refine (iEntCap_c _ _).mono ?_; rintro E w' ⟨rfl, rfl⟩))
  all_goals (go_ret; refine ⟨ret_b ?_, (by first | rfl | exact ext_)⟩; go_tidy; (try simp only [Bool.not_eq_true', Bool.not_eq_false', Bool.not_eq_true, Bool.not_eq_false, beq_iff_eq, bne_iff_ne, ne_eq, beq_eq_false_iff_ne, bne_eq_false_iff_eq] at *); (first | rfl | (simp [Sw.fitsRow, k1, k2, *]; done) | (simp [Sw.fitsRow, k1, k2, *]; omega) | (simp [Sw.fitsRow, k1, k2, beqI, *]; done) | (simp_all [Sw.fitsRow, k1, k2, beqI]; done) | (simp_all [Sw.fitsRow, k1, k2, beqI] <;> omega) | simp_all [Sw.fitsRow, k1, k2, beqI]))

theorem iOwnFits_c (A : Option Addr) (c n : Nat) (xs : List Sw.Row) (e : Sw.Ent) (w : World) (hxs : RR w 0 A c n xs) : Calls Tryz.prog 116 #[.slice A n c, .agg #[.int .i64 e.kind, .int .i64 e.ticket, .int .i64 e.who, .int .i64 e.price]] w fun E w' => E = .returned (.bool (Sw.ownFits xs e)) ∧ Ex w w' := by
  have hl := Lib.hid hxs.1
  cases h1 : Sw.ownOk xs
  case false =>
    go_enter Tryz.func116, Tryz.ntmps116; go_wp2_with (first | (go_at_call 56; apply Calls.mono; apply iOwnOk_c; ((first | (apply Rs.at0; assumption) | (apply Ow.rs0; assumption)); exact kf_); rintro E w1 ⟨rfl, hb⟩; have hst := xr hb; (try simp only [zA, zC, zD, zN] at hst); obtain ⟨hc, hf, hz⟩ := hst) | (go_at_call 185; refine (iEntOk_c _ _).mono ?_; rintro E w1 ⟨rfl, hb⟩; have hst := xr hb; (try simp only [zA, zC, zD, zN] at hst); obtain ⟨hc, hf, hz⟩ := hst)); go_ret; exact ⟨ret_b (by simp [Sw.ownFits, h1]), ext_⟩
  cases h2 : Sw.entOk e
  case false =>
    go_enter Tryz.func116, Tryz.ntmps116; go_wp2_with (first | (go_at_call 56; apply Calls.mono; apply iOwnOk_c; ((first | (apply Rs.at0; assumption) | (apply Ow.rs0; assumption)); exact kf_); rintro E w1 ⟨rfl, hb⟩; have hst := xr hb; (try simp only [zA, zC, zD, zN] at hst); obtain ⟨hc, hf, hz⟩ := hst) | (go_at_call 185; refine (iEntOk_c _ _).mono ?_; rintro E w1 ⟨rfl, hb⟩; have hst := xr hb; (try simp only [zA, zC, zD, zN] at hst); obtain ⟨hc, hf, hz⟩ := hst)); go_ret; exact ⟨ret_b (by simp [Sw.ownFits, h2]), ext_⟩
  obtain ⟨⟨t0, t7⟩, _⟩ := Sw.entOk_iff.1 h2
  have hn8 : n = 8 := by have := hl.out; have := Sw.ownOk_len h1; omega
  subst hn8
  go_enter Tryz.func116, Tryz.ntmps116
  go_wp2_with (first | (go_at_call 56; apply Calls.mono; apply iOwnOk_c; ((first | (apply Rs.at0; assumption) | (apply Ow.rs0; assumption)); exact kf_); rintro E w1 ⟨rfl, hb⟩; have hst := xr hb; (try simp only [zA, zC, zD, zN] at hst); obtain ⟨hc, hf, hz⟩ := hst) | (go_at_call 185; refine (iEntOk_c _ _).mono ?_; rintro E w1 ⟨rfl, hb⟩; have hst := xr hb; (try simp only [zA, zC, zD, zN] at hst); obtain ⟨hc, hf, hz⟩ := hst) | (go_at_call 186; apply Calls.mono; apply iFits_c; ((first | (apply Rs.at0; assumption) | (apply Ow.rs0; assumption)); exact kf_); (first | assumption | omega); (first | assumption | omega); rintro E w1 ⟨rfl, hb⟩; have hst := xr hb; (try simp only [zA, zC, zD, zN] at hst); obtain ⟨hc, hf, hz⟩ := hst))
  go_ret
  exact ⟨ret_b (by simp [Sw.ownFits, h1, h2]), ext_⟩

theorem iCloneRows_c (A : Option Addr) (c n : Nat) (xs : List Sw.Row) (w : World) (hxs : RR w 0 A c n xs) (hn : n ≤ 4194304) : Calls Tryz.prog 115 #[.slice A n c] w fun E w' => ∃ A' c', E = .returned (.slice A' n c') ∧ OwR w' w.heap.size A' c' n xs ∧ Ex w w' := by
  go_enter Tryz.func115, Tryz.ntmps115
  go_wp2_with (at_builtin; apply wpList_app (lo := w.heap.size) el_R one_R rfl rfl rfl rfl; (first | assumption | exact Ow.nil _ _ | (apply Ow.keep; assumption; exact kf_) | (refine Ow.new [] (by (first | rfl | (simp only [zA, zC, zD, zN]; done) | omega)) rfl rfl (fun _ => rfl) (by exact sz_) (by omega))); (first | ((first | (apply Rs.at0; assumption) | (apply Ow.rs0; assumption)); exact kf_)); omega; exact sz_; intro A1 c1 w2 ho1 hch1 hat1 hex1 hlow1; have hb := hex1 (fun _ => False) w (by exact ext_) (by exact sz_); have hz := hch1.size; (try simp only [zA, zC, zD, zN] at hz); obtain ⟨hc, hf⟩ := low_rules hlow1; clear hlow1 hex1)
  go_ret
  rw [Nat.zero_add, List.nil_append] at ho1
  exact ⟨A1, c1, rfl, ho1, ext_⟩
end Go.Proofs.YtdbnbembjebfhaaGreat

