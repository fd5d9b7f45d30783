/-
  Texts joined: RowsW, Rows2, Heads, Grow, Both, Impl2, Impl3, Impl4, Impl5, Gate, Gate2, Gate3, Gate4, Model2, Plain1.
-/
import Derived.Test.YtncoiknpkebgoaaPkShow1
namespace Go.Proofs.Ytncoiknpkebgoaa
set_option maxRecDepth 100000
set_option linter.unusedSimpArgs false
set_option linter.unusedVariables false
open Go.RowKit Go
set_option maxHeartbeats 400000
theorem take_snoc {α : Type} {xs : List α} {k : Nat} {y : α} (h : xs[k]? = some y) : xs.take (k + 1) = xs.take k ++ [y] := by rw [List.take_add_one, h]; rfl

theorem sEntLeaves_c (A : Option Addr) (c n : Nat) (xs : List Sw.Ent) (w : World) (hxs : RE w 0 A c n xs) (hn : n ≤ 4194304) : Calls Try.prog 167 #[.slice A n c] w fun E w' => ∃ A' c', E = .returned (.slice A' n c') ∧ OwI w' w.heap.size A' c' n (xs.map Sw.entLeaf) ∧ Ex w w' := by
  have hl := Lib.hid hxs.1
  go_enter Try.func167, Try.ntmps167
  go_wp2_with fail
  go_loopw [3, 4] (fun o i wr => ∃ (k : Nat) (B : Option Addr) (d : Nat), k ≤ n ∧ i = .int .i64 k ∧ o = .slice B k d ∧ Ex w wr ∧ OwI wr w.heap.size B d k ((xs.take k).map Sw.entLeaf)) (fun _ i _ => n - (intOf i).toNat)
  case atStart => exact ⟨0, _, 0, Nat.zero_le _, rfl, rfl, ext_, Ow.new [] rfl rfl rfl (fun _ => rfl) (Nat.le_refl _) (by omega)⟩
  case round =>
    obtain ⟨k, B, d, hk, rfl, rfl, hb, ho⟩ := hrel
    have hst := Ex.rules hb rfl
    obtain ⟨hc, hf, hz⟩ := hst
    by_cases hlt : k < n
    · obtain ⟨g, off, y, rfl, hg0, hg, hd, hy, hc0, hc1, hc2, hc3⟩ := at_E hxs hlt
      have Hd := Lib.hid hd; have Hy := Lib.hid hy; clear hd hy
      go_wp2_with (first | (go_at_call 207; refine (sEntLeaf_c _ _).mono ?_; rintro E w1 ⟨rfl, hb⟩; have hst := xr hb; (try simp only [zA, zC, zD, zN] at hst); obtain ⟨hc, hf, hz⟩ := hst) | (at_builtin; apply wpList_app (lo := w.heap.size) el_I one_I rfl rfl rfl rfl; (first | assumption | exact Ow.nil _ _ | (apply Ow.keep; assumption; exact kf_) | (refine Ow.new [] (by (first | rfl | (simp only [zA, zC, zD, zN]; done) | omega)) rfl rfl (fun _ => rfl) (by exact sz_) (by omega))); (first | (refine Rs.new [Sw.entLeaf y] (by (first | rfl | (simp only [zA, zC, zD, zN]; done) | omega)) rfl rfl (fun _ => rfl) (by omega))); omega; exact sz_; intro A1 c1 w2 ho1 hch1 hat1 hex1 hlow1; have hb := hex1 (fun _ => False) w (by exact ext_) (by exact sz_); have hz := hch1.size; (try simp only [zA, zC, zD, zN] at hz); obtain ⟨hc, hf⟩ := low_rules hlow1; clear hlow1 hex1))
      go_roundw
      case rel => exact ⟨k + 1, A1, c1, by omega, by go_num, rfl, hb, by rw [take_snoc Hy.out, List.map_append]; exact ho1⟩
      case measure => simp [intOf]; omega
    · go_wp2_with fail
      go_ret
      obtain rfl : k = n := by omega
      refine ⟨_, _, rfl, ?_, ext_⟩
      rw [List.take_of_length_le (by have := hl.out; omega)] at ho
      exact ho

theorem leavesFrom_length : ∀ (rows : List Sw.Row) (t : Int), (Sw.leavesFrom t rows).length = rows.length
  | [], _ => rfl
  | r :: rs, t => by simp [Sw.leavesFrom, leavesFrom_length rs]
theorem leavesFrom_snoc : ∀ (rows : List Sw.Row) (t : Int) (r : Sw.Row), Sw.leavesFrom t (rows ++ [r]) = Sw.leavesFrom t rows ++ [Sw.ownLeaf (t + rows.length) r]
  | [], t, r => by simp [Sw.leavesFrom]
  | x :: rs, t, r => by
    simp only [List.cons_append, Sw.leavesFrom, leavesFrom_snoc rs, List.length_cons]
    rw [show t + 1 + (rs.length : Int) = t + ((rs.length + 1 : Nat) : Int) from by omega]

theorem sLeaves_c (A : Option Addr) (c n : Nat) (xs : List Sw.Row) (w : World) (hxs : RR w 0 A c n xs) (hn : n ≤ 4194304) : Calls Try.prog 209 #[.slice A n c] w fun E w' => ∃ A' c', E = .returned (.slice A' n c') ∧ OwI w' w.heap.size A' c' n (Sw.ownLeaves xs) ∧ Ex w w' := by
  have hl := Lib.hid hxs.1
  go_enter Try.func209, Try.ntmps209
  go_wp2_with fail
  go_loopw [3, 4] (fun o i wr => ∃ (k : Nat) (B : Option Addr) (d : Nat), k ≤ n ∧ i = .int .i64 k ∧ o = .slice B k d ∧ Ex w wr ∧ OwI wr w.heap.size B d k (Sw.ownLeaves (xs.take k))) (fun _ i _ => n - (intOf i).toNat)
  case atStart => exact ⟨0, _, 0, Nat.zero_le _, rfl, rfl, ext_, Ow.new [] rfl rfl rfl (fun _ => rfl) (Nat.le_refl _) (by omega)⟩
  case round =>
    obtain ⟨k, B, d, hk, rfl, rfl, hb, ho⟩ := hrel
    have hst := Ex.rules hb rfl
    obtain ⟨hc, hf, hz⟩ := hst
    by_cases hlt : k < n
    · obtain ⟨g, off, y, rfl, hg0, hg, hd, hy, hc0, hc1, hc2⟩ := at_R hxs hlt
      have Hy := Lib.hid hy; clear hd hy
      go_wp2_with (first | (go_at_call 192; refine (sOwnLeaf_c _ _ _).mono ?_; rintro E w1 ⟨rfl, hb⟩; have hst := xr hb; (try simp only [zA, zC, zD, zN] at hst); obtain ⟨hc, hf, hz⟩ := hst) | (at_builtin; apply wpList_app (lo := w.heap.size) el_I one_I rfl rfl rfl rfl; (first | assumption | exact Ow.nil _ _ | (apply Ow.keep; assumption; exact kf_) | (refine Ow.new [] (by (first | rfl | (simp only [zA, zC, zD, zN]; done) | omega)) rfl rfl (fun _ => rfl) (by exact sz_) (by omega))); (first | (refine Rs.new [Sw.ownLeaf k y] (by (first | rfl | (simp only [zA, zC, zD, zN]; done) | omega)) rfl rfl (fun _ => rfl) (by omega))); omega; exact sz_; intro A1 c1 w2 ho1 hch1 hat1 hex1 hlow1; have hb := hex1 (fun _ => False) w (by exact ext_) (by exact sz_); have hz := hch1.size; (try simp only [zA, zC, zD, zN] at hz); obtain ⟨hc, hf⟩ := low_rules hlow1; clear hlow1 hex1))
      go_roundw
      case rel =>
        refine ⟨k + 1, A1, c1, by omega, by go_num, rfl, hb, ?_⟩
        rw [take_snoc Hy.out]
        unfold Sw.ownLeaves at ho1 ⊢
        rw [leavesFrom_snoc, List.length_take, Nat.min_eq_left (by have := hl.out; omega), Int.zero_add]
        exact ho1
      case measure => simp [intOf]; omega
    · go_wp2_with fail
      go_ret
      obtain rfl : k = n := by omega
      refine ⟨_, _, rfl, ?_, ext_⟩
      rw [List.take_of_length_le (by have := hl.out; omega)] at ho
      exact ho

theorem sOwnOk_c (A : Option Addr) (c n : Nat) (xs : List Sw.Row) (w : World) (hxs : RR w 0 A c n xs) : Calls Try.prog 208 #[.slice A n c] w fun E w' => E = .returned (.bool (Sw.ownOk xs)) ∧ Ex w w' := by
  have hl := Lib.hid hxs.1
  by_cases hn : n = 8
  · subst hn
    go_enter Try.func208, Try.ntmps208
    go_wp2_with fail
    go_loopw [3] (fun i wr => ∃ (k : Nat), k ≤ 8 ∧ i = .int .i64 k ∧ Ex w wr ∧ xs.all Sw.rowOk = (xs.drop k).all Sw.rowOk) (fun i _ => 8 - (intOf i).toNat)
    case atStart => exact ⟨0, Nat.zero_le _, rfl, ext_, rfl⟩
    case round =>
      obtain ⟨k, hk, rfl, hb, hrel⟩ := hrel
      have hst := Ex.rules hb rfl
      obtain ⟨hc, hf, hz⟩ := hst
      by_cases hlt : k < 8
      · obtain ⟨g, off, y, rfl, hg0, hg, hd, hy, hc0, hc1, hc2⟩ := at_R hxs hlt
        rw [hd] at hrel
        have Hrel := Lib.hid hrel; clear hd hy hrel
        go_wp2_with (first | (go_at_call 94; refine (l1In_c _ _ _ _).mono ?_; rintro E w' ⟨rfl, rfl⟩))
        all_goals (first | (refine ⟨⟨k + 1, by omega, by go_num, (by exact ext_), ?_⟩, by simp [intOf]; omega⟩; have hh := Hrel.out; clear Hrel; rw [List.all_cons] at hh; rw [hh]; clear hh; go_tidy; (try simp only [Bool.not_eq_true', Bool.not_eq_false', Bool.not_eq_true, Bool.not_eq_false, beq_iff_eq, bne_iff_ne, ne_eq, beq_eq_false_iff_ne, bne_eq_false_iff_eq] at *); have hp : Sw.rowOk y = true := (by (first | (simp [Sw.rowOk, show Sw.inR 0 1 5 = false from rfl, *]; done) | (simp [Sw.rowOk, show Sw.inR 0 1 5 = false from rfl, *]; omega) | (simp [Sw.rowOk, show Sw.inR 0 1 5 = false from rfl, *]; intros; simp_all; done) | (simp_all [Sw.rowOk, show Sw.inR 0 1 5 = false from rfl]; done))); simp [hp]) | (go_ret; refine ⟨ret_b ?_, (by first | rfl | exact ext_)⟩; have hh := Hrel.out; clear Hrel; rw [List.all_cons] at hh; unfold Sw.ownOk; rw [hh]; clear hh; go_tidy; (try simp only [Bool.not_eq_true', Bool.not_eq_false', Bool.not_eq_true, Bool.not_eq_false, beq_iff_eq, bne_iff_ne, ne_eq, beq_eq_false_iff_ne, bne_eq_false_iff_eq] at *); have hp : Sw.rowOk y = false := (by (first | (simp [Sw.rowOk, show Sw.inR 0 1 5 = false from rfl, *]; done) | (simp [Sw.rowOk, show Sw.inR 0 1 5 = false from rfl, *]; omega) | (simp [Sw.rowOk, show Sw.inR 0 1 5 = false from rfl, *]; intros; simp_all; done) | (simp_all [Sw.rowOk, show Sw.inR 0 1 5 = false from rfl]; done))); simp [hp]))
      · have Hrel := Lib.hid hrel; clear hrel
        go_wp2
        go_ret
        refine ⟨ret_b ?_, ext_⟩
        have := Hrel.out
        rw [List.drop_of_length_le (by have := hl.out; omega)] at this
        rw [Sw.ownOk, this, ← hl.out]
        simp
  · have hb : decide (n = 8) = false := by simp [hn]
    go_enter Try.func208, Try.ntmps208
    go_wp2
    go_ret
    refine ⟨ret_b ?_, Ch.refl _ _⟩
    rw [Sw.ownOk, ← hl.out]
    simp [hn]

theorem sOwnFits_c (A : Option Addr) (c n : Nat) (xs : List Sw.Row) (e : Sw.Ent) (w : World) (hxs : RR w 0 A c n xs) : Calls Try.prog 204 #[.slice A n c, .agg #[.int .i64 e.kind, .int .i64 e.ticket, .int .i64 e.who, .int .i64 e.price]] w fun E w' => E = .returned (.bool (Sw.ownFits xs e)) ∧ Ex w w' := by
  have hl := Lib.hid hxs.1
  by_cases h1 : Sw.ownOk xs = true
  · by_cases h2 : Sw.entOk e = true
    · have ht : 0 ≤ e.ticket ∧ e.ticket ≤ 7 := by simp [Sw.entOk, Sw.inR] at h2; omega
      obtain ⟨t, ht'⟩ := Int.eq_ofNat_of_zero_le ht.1
      have hn8 : n = 8 := by have := hl.out; simp [Sw.ownOk] at h1; omega
      subst hn8
      have hlt : t < 8 := by omega
      obtain ⟨g, off, y, rfl, hg0, hg, hd, hy, hc0, hc1, hc2⟩ := at_R hxs hlt
      have hrow : Sw.rowAt xs e.ticket = y := by simp [Sw.rowAt, ht', hy]
      have hfit : Sw.ownFits xs e = Sw.fitsRow y e := by simp [Sw.ownFits, h1, h2, hrow]
      have Hfit := Lib.hid hfit
      clear hfit hrow hd hy ht
      have Ht := Lib.hid ht'
      have ht2 : (0 : Int) ≤ e.ticket ∧ e.ticket < 8 := by omega
      obtain ⟨ht0, ht1⟩ := ht2
      have e0 : e.ticket.toNat = t := by omega
      clear ht'
      obtain ⟨yw, yf, yu⟩ := y
      dsimp only at hc0 hc1 hc2
      by_cases k1 : e.kind = 1
      · have hk1 : (e.kind == 1) = true := by simp [k1]
        have K1 := Lib.hid k1; clear k1
        go_enter Try.func204, Try.ntmps204
        go_wp2_with (first | (go_at_call 208; apply Calls.mono; apply sOwnOk_c; ((first | (apply Rs.at0; assumption) | (apply Ow.rs0; assumption)); exact kf_); rintro E w1 ⟨rfl, hb⟩; have hst := xr hb; (try simp only [zA, zC, zD, zN] at hst); obtain ⟨hc, hf, hz⟩ := hst) | (go_at_call 238; refine (sEntOk_c _ _).mono ?_; rintro E w1 ⟨rfl, hb⟩; have hst := xr hb; (try simp only [zA, zC, zD, zN] at hst); obtain ⟨hc, hf, hz⟩ := hst))
        go_ret
        refine ⟨ret_b ?_, ext_⟩
        rw [Hfit.out]
        simp [Sw.fitsRow, K1.out, beqI]
      have hk1 : (e.kind == 1) = false := by simp [k1]
      by_cases k2 : e.kind = 2
      · have hk2 : (e.kind == 2) = true := by simp [k2]
        have K2 := Lib.hid k2; clear k2
        by_cases b1 : yw = 0
        · have hb1 : (yw != 0) = false := by simp [b1]
          have B1 := Lib.hid b1; clear b1
          go_enter Try.func204, Try.ntmps204
          go_wp2_with (first | (go_at_call 208; apply Calls.mono; apply sOwnOk_c; ((first | (apply Rs.at0; assumption) | (apply Ow.rs0; assumption)); exact kf_); rintro E w1 ⟨rfl, hb⟩; have hst := xr hb; (try simp only [zA, zC, zD, zN] at hst); obtain ⟨hc, hf, hz⟩ := hst) | (go_at_call 238; refine (sEntOk_c _ _).mono ?_; rintro E w1 ⟨rfl, hb⟩; have hst := xr hb; (try simp only [zA, zC, zD, zN] at hst); obtain ⟨hc, hf, hz⟩ := hst))
          go_quiet ((first | (go_at_call 145; exact Calls.quiet_same (sEntCap_c _ _))))
          go_wp2
          go_ret
          refine ⟨ret_b ?_, ext_⟩
          rw [Hfit.out]
          simp [Sw.fitsRow, K2.out, B1.out]
        have hb1 : (yw != 0) = true := by simp [b1]
        cases yu with
        | true =>
          go_enter Try.func204, Try.ntmps204
          go_wp2_with (first | (go_at_call 208; apply Calls.mono; apply sOwnOk_c; ((first | (apply Rs.at0; assumption) | (apply Ow.rs0; assumption)); exact kf_); rintro E w1 ⟨rfl, hb⟩; have hst := xr hb; (try simp only [zA, zC, zD, zN] at hst); obtain ⟨hc, hf, hz⟩ := hst) | (go_at_call 238; refine (sEntOk_c _ _).mono ?_; rintro E w1 ⟨rfl, hb⟩; have hst := xr hb; (try simp only [zA, zC, zD, zN] at hst); obtain ⟨hc, hf, hz⟩ := hst))
          go_quiet ((first | (go_at_call 145; exact Calls.quiet_same (sEntCap_c _ _))))
          go_wp2
          go_ret
          refine ⟨ret_b ?_, ext_⟩
          rw [Hfit.out]
          simp [Sw.fitsRow, K2.out]
        | false =>
          by_cases b2 : yw = e.who
          · have hb2 : (yw != e.who) = false := by simp [b2]
            have B2 := Lib.hid b2; clear b2
            go_enter Try.func204, Try.ntmps204
            go_wp2_with (first | (go_at_call 208; apply Calls.mono; apply sOwnOk_c; ((first | (apply Rs.at0; assumption) | (apply Ow.rs0; assumption)); exact kf_); rintro E w1 ⟨rfl, hb⟩; have hst := xr hb; (try simp only [zA, zC, zD, zN] at hst); obtain ⟨hc, hf, hz⟩ := hst) | (go_at_call 238; refine (sEntOk_c _ _).mono ?_; rintro E w1 ⟨rfl, hb⟩; have hst := xr hb; (try simp only [zA, zC, zD, zN] at hst); obtain ⟨hc, hf, hz⟩ := hst))
            go_quiet ((first | (go_at_call 145; exact Calls.quiet_same (sEntCap_c _ _))))
            go_wp2
            go_ret
            refine ⟨ret_b ?_, ext_⟩
            rw [Hfit.out]
            simp [Sw.fitsRow, K2.out, B2.out]
          have hb2 : (yw != e.who) = true := by simp [b2]
          go_enter Try.func204, Try.ntmps204
          go_wp2_with (first | (go_at_call 208; apply Calls.mono; apply sOwnOk_c; ((first | (apply Rs.at0; assumption) | (apply Ow.rs0; assumption)); exact kf_); rintro E w1 ⟨rfl, hb⟩; have hst := xr hb; (try simp only [zA, zC, zD, zN] at hst); obtain ⟨hc, hf, hz⟩ := hst) | (go_at_call 238; refine (sEntOk_c _ _).mono ?_; rintro E w1 ⟨rfl, hb⟩; have hst := xr hb; (try simp only [zA, zC, zD, zN] at hst); obtain ⟨hc, hf, hz⟩ := hst))
          go_quiet ((first | (go_at_call 145; exact Calls.quiet_same (sEntCap_c _ _))))
          go_wp2
          go_ret
          refine ⟨ret_b ?_, ext_⟩
          rw [Hfit.out]
          simp [Sw.fitsRow, K2.out, b1, b2]
      have hk2 : (e.kind == 2) = false := by simp [k2]
      by_cases b1 : yw = e.who
      · have hb1 : (yw == e.who) = true := by simp [b1]
        have B1 := Lib.hid b1; clear b1
        go_enter Try.func204, Try.ntmps204
        go_wp2_with (first | (go_at_call 208; apply Calls.mono; apply sOwnOk_c; ((first | (apply Rs.at0; assumption) | (apply Ow.rs0; assumption)); exact kf_); rintro E w1 ⟨rfl, hb⟩; have hst := xr hb; (try simp only [zA, zC, zD, zN] at hst); obtain ⟨hc, hf, hz⟩ := hst) | (go_at_call 238; refine (sEntOk_c _ _).mono ?_; rintro E w1 ⟨rfl, hb⟩; have hst := xr hb; (try simp only [zA, zC, zD, zN] at hst); obtain ⟨hc, hf, hz⟩ := hst))
        go_ret
        refine ⟨ret_b ?_, ext_⟩
        rw [Hfit.out]
        simp [Sw.fitsRow, k1, k2, B1.out]
      have hb1 : (yw == e.who) = false := by simp [b1]
      go_enter Try.func204, Try.ntmps204
      go_wp2_with (first | (go_at_call 208; apply Calls.mono; apply sOwnOk_c; ((first | (apply Rs.at0; assumption) | (apply Ow.rs0; assumption)); exact kf_); rintro E w1 ⟨rfl, hb⟩; have hst := xr hb; (try simp only [zA, zC, zD, zN] at hst); obtain ⟨hc, hf, hz⟩ := hst) | (go_at_call 238; refine (sEntOk_c _ _).mono ?_; rintro E w1 ⟨rfl, hb⟩; have hst := xr hb; (try simp only [zA, zC, zD, zN] at hst); obtain ⟨hc, hf, hz⟩ := hst))
      go_ret
      refine ⟨ret_b ?_, ext_⟩
      rw [Hfit.out]
      simp [Sw.fitsRow, k1, k2, b1]
    · go_enter Try.func204, Try.ntmps204
      go_wp2_with (first | (go_at_call 208; apply Calls.mono; apply sOwnOk_c; ((first | (apply Rs.at0; assumption) | (apply Ow.rs0; assumption)); exact kf_); rintro E w1 ⟨rfl, hb⟩; have hst := xr hb; (try simp only [zA, zC, zD, zN] at hst); obtain ⟨hc, hf, hz⟩ := hst) | (go_at_call 238; refine (sEntOk_c _ _).mono ?_; rintro E w1 ⟨rfl, hb⟩; have hst := xr hb; (try simp only [zA, zC, zD, zN] at hst); obtain ⟨hc, hf, hz⟩ := hst))
      all_goals (go_ret; refine ⟨ret_b ?_, (by first | rfl | exact ext_)⟩; go_tidy; (try simp only [Bool.not_eq_true', Bool.not_eq_false', Bool.not_eq_true, Bool.not_eq_false, beq_iff_eq, bne_iff_ne, ne_eq, beq_eq_false_iff_ne, bne_eq_false_iff_eq] at *); (first | rfl | (simp [Sw.ownFits, *]; done) | (simp [Sw.ownFits, *]; omega) | (simp [Sw.ownFits, beqI, *]; done) | (simp_all [Sw.ownFits, beqI]; done) | (simp_all [Sw.ownFits, beqI] <;> omega) | simp_all [Sw.ownFits, beqI]))
  · go_enter Try.func204, Try.ntmps204
    go_wp2_with (first | (go_at_call 208; apply Calls.mono; apply sOwnOk_c; ((first | (apply Rs.at0; assumption) | (apply Ow.rs0; assumption)); exact kf_); rintro E w1 ⟨rfl, hb⟩; have hst := xr hb; (try simp only [zA, zC, zD, zN] at hst); obtain ⟨hc, hf, hz⟩ := hst) | (go_at_call 238; refine (sEntOk_c _ _).mono ?_; rintro E w1 ⟨rfl, hb⟩; have hst := xr hb; (try simp only [zA, zC, zD, zN] at hst); obtain ⟨hc, hf, hz⟩ := hst))
    all_goals (go_ret; refine ⟨ret_b ?_, (by first | rfl | exact ext_)⟩; go_tidy; (try simp only [Bool.not_eq_true', Bool.not_eq_false', Bool.not_eq_true, Bool.not_eq_false, beq_iff_eq, bne_iff_ne, ne_eq, beq_eq_false_iff_ne, bne_eq_false_iff_eq] at *); (first | rfl | (simp [Sw.ownFits, *]; done) | (simp [Sw.ownFits, *]; omega) | (simp [Sw.ownFits, beqI, *]; done) | (simp_all [Sw.ownFits, beqI]; done) | (simp_all [Sw.ownFits, beqI] <;> omega) | simp_all [Sw.ownFits, beqI]))
end Go.Proofs.Ytncoiknpkebgoaa

namespace Go.Proofs.Ytncoiknpkebgoaa
set_option maxRecDepth 100000
set_option linter.unusedSimpArgs false
set_option linter.unusedVariables false
open Go.RowKit Go
set_option maxHeartbeats 400000

theorem at_OR {w : World} {lo c n k : Nat} {A : Option Addr} {xs : List Sw.Row} (h : OwR w lo A c n xs) (hk : k < n) :
    ∃ g x, A = some ⟨g, 0, none⟩ ∧ lo ≤ g ∧ g < w.heap.size ∧ xs[k]? = some x ∧ w.cell? ⟨g, k * 3, none⟩ = some (.int .i64 x.who) ∧ w.cell? ⟨g, k * 3 + 1, none⟩ = some (.int .i64 x.face) ∧
      w.cell? ⟨g, k * 3 + 2, none⟩ = some (.bool x.used) ∧ (∀ i, w.frozen? ⟨g, i, none⟩ = false) := by
  obtain ⟨g, x, h1, h2, h3, h4, h5, h6⟩ := Ow.at_ h (fun _ => rfl) hk
  exact ⟨g, x, h1, h2, h3, h4, by simpa using h5 0 _ (by omega) rfl, h5 1 _ (by omega) rfl, h5 2 _ (by omega) rfl, h6⟩

theorem sNew_c (w : World) : Calls Try.prog 161 #[] w fun E w' => ∃ A, E = .returned (.slice A 8 8) ∧ OwR w' w.heap.size A 8 8 Sw.rows0 ∧ Ex w w' := by
  have hmk : ∀ w, (Instr.makeSlice 159 (.int .i64 8) (.int .i64 8)).run Try.prog w = .ok (.slice (some ⟨w.heap.size, 0, none⟩) 8 8) (w.alloc (.cells (Sw.rows0.flatMap Sw.Row.enc).toArray 93)) := fun _ => by kernel_rfl
  go_enter Try.func161, Try.ntmps161
  go_wp2
  go_ret
  exact ⟨_, rfl, Ow.new _ rfl rfl rfl (fun _ => rfl) (Nat.le_refl _) (by omega), ext_⟩

theorem OR_set0 {w : World} {lo c n k g : Nat} {A : Option Addr} {xs : List Sw.Row} (h : OwR w lo A c n xs) (hA : A = some ⟨g, 0, none⟩) {a b : Int} {u : Bool} (hx : xs[k]? = some ⟨a, b, u⟩) (v : Int) :
    OwR (w.setCell ⟨g, k * 3, none⟩ (.int .i64 v)) lo A c n (xs.set k ⟨v, b, u⟩) := by
  have := Ow.set h (fun _ => rfl) (j := 0) (u := .int .i64 v) hA hx (by omega) (y := ⟨v, b, u⟩) rfl
  simpa using this
theorem OR_set1 {w : World} {lo c n k g : Nat} {A : Option Addr} {xs : List Sw.Row} (h : OwR w lo A c n xs) (hA : A = some ⟨g, 0, none⟩) {a b : Int} {u : Bool} (hx : xs[k]? = some ⟨a, b, u⟩) (v : Int) :
    OwR (w.setCell ⟨g, k * 3 + 1, none⟩ (.int .i64 v)) lo A c n (xs.set k ⟨a, v, u⟩) :=
  Ow.set h (fun _ => rfl) (j := 1) (u := .int .i64 v) hA hx (by omega) (y := ⟨a, v, u⟩) rfl
theorem OR_set2 {w : World} {lo c n k g : Nat} {A : Option Addr} {xs : List Sw.Row} (h : OwR w lo A c n xs) (hA : A = some ⟨g, 0, none⟩) {a b : Int} {u : Bool} (hx : xs[k]? = some ⟨a, b, u⟩) (v : Bool) :
    OwR (w.setCell ⟨g, k * 3 + 2, none⟩ (.bool v)) lo A c n (xs.set k ⟨a, b, v⟩) :=
  Ow.set h (fun _ => rfl) (j := 2) (u := .bool v) hA hx (by omega) (y := ⟨a, b, v⟩) rfl
theorem set_at {α : Type} {xs : List α} {k : Nat} {x y : α} (h : xs[k]? = some x) : (xs.set k y)[k]? = some y := by
  have hk := (List.getElem?_eq_some_iff.1 h).1
  simp [hk]
theorem fits_facts {xs : List Sw.Row} {e : Sw.Ent} (h : Sw.ownFits xs e = true) : xs.length = 8 ∧ 0 ≤ e.ticket ∧ e.ticket < 8 ∧ (e.kind = 1 ∨ e.kind = 2 ∨ e.kind = 3) := by
  simp only [Sw.ownFits, Bool.and_eq_true, Sw.ownOk, Sw.entOk, Sw.inR, decide_eq_true_eq] at h
  obtain ⟨⟨⟨_, h1⟩, ⟨⟨h2, h3⟩, h4, h5⟩, h6⟩, h7⟩ := h
  refine ⟨h1, h2, by omega, ?_⟩
  split at h6
  · exact .inl ‹_›
  · split at h6
    · exact .inr (.inl ‹_›)
    · simp at h6; exact .inr (.inr h6.1)
/-- A ticket that is issued has not been used. -/
theorem fits_fresh {xs : List Sw.Row} {e : Sw.Ent} {t : Nat} {a b : Int} {u : Bool} (h : Sw.ownFits xs e = true) (hk : e.kind = 1) (ht : e.ticket = t) (hx : xs[t]? = some ⟨a, b, u⟩) : u = false := by
  simp only [Sw.ownFits, Bool.and_eq_true, Sw.ownOk, Sw.fitsRow, hk, Sw.rowAt, ht, Int.toNat_natCast, List.getD_eq_getElem?_getD, hx, Option.getD_some, if_true, decide_eq_true_eq] at h
  obtain ⟨⟨⟨h1, _⟩, _⟩, h2⟩ := h
  have := List.all_eq_true.1 h1 _ (List.mem_of_getElem? hx)
  simp [Sw.rowOk, Sw.inR] at this
  rcases this with h | h
  · exact h.2
  · omega
theorem put_eq {xs : List Sw.Row} {e : Sw.Ent} {t : Nat} {x : Sw.Row} (h : Sw.ownFits xs e = true) (ht : e.ticket = t) (hx : xs[t]? = some x) : Sw.ownPut xs e = xs.set t (Sw.putRow x e) := by
  simp [Sw.ownPut, h, Sw.putRows, Sw.rowAt, ht, hx]

theorem sOwnPut_c (A : Option Addr) (c n : Nat) (xs : List Sw.Row) (e : Sw.Ent) (w : World) (hxs : RR w 0 A c n xs) (hn : n ≤ 4194304) : Calls Try.prog 163 #[.slice A n c, .agg #[.int .i64 e.kind, .int .i64 e.ticket, .int .i64 e.who, .int .i64 e.price]] w fun E w' => ∃ A' c', E = .returned (.tuple #[.slice A' n c', .bool (Sw.ownFits xs e)]) ∧ OwR w' w.heap.size A' c' n (Sw.ownPut xs e) ∧ Ex w w' := by
  by_cases hfit : Sw.ownFits xs e = true
  · have hl := Lib.hid hxs.1
    obtain ⟨h8, t0, t1, hk⟩ := fits_facts hfit
    obtain ⟨t, ht⟩ := Int.eq_ofNat_of_zero_le t0
    have e0 : e.ticket.toNat = t := by omega
    have Ht := Lib.hid ht
    have htn : t < n := by have := hl.out; omega
    have hn8 : n = 8 := by have := hl.out; omega
    subst hn8
    have Hk := Lib.hid hk
    have H8 := Lib.hid h8
    clear ht hk h8
    have key : ∀ (b1 b2 : Bool), (e.kind == 1) = b1 → (e.kind == 2) = b2 → Calls Try.prog 163 #[.slice A 8 c, .agg #[.int .i64 e.kind, .int .i64 e.ticket, .int .i64 e.who, .int .i64 e.price]] w fun E w' => ∃ A' c', E = .returned (.tuple #[.slice A' 8 c', .bool (Sw.ownFits xs e)]) ∧ OwR w' w.heap.size A' c' 8 (Sw.ownPut xs e) ∧ Ex w w' := by
      intro b1 b2 hb1 hb2
      go_enter Try.func163, Try.ntmps163
      go_wp2_with (first | (at_builtin; apply wpList_app (lo := w.heap.size + 1) el_R one_R rfl rfl rfl rfl; (first | assumption | exact Ow.nil _ _ | (apply Ow.keep; assumption; exact kf_) | (refine Ow.new [] (by (first | rfl | (simp only [zA, zC, zD, zN]; done) | omega)) rfl rfl (fun _ => rfl) (by exact sz_) (by omega))); (first | ((first | (apply Rs.at0; assumption) | (apply Ow.rs0; assumption)); exact kf_)); omega; exact sz_; intro A1 c1 w2 ho1 hch1 hat1 hex1 hlow1; have hb := hex1 (fun _ => False) w (by exact ext_) (by exact sz_); have hz := hch1.size; (try simp only [zA, zC, zD, zN] at hz); obtain ⟨hc, hf⟩ := low_rules hlow1; clear hlow1 hex1))
      simp only [Nat.zero_add, List.nil_append] at ho1
      apply Calls.mono; apply sOwnFits_c; (first | assumption | ((first | (apply Rs.at0; assumption) | (apply Ow.rs0; assumption)); exact kf_) | omega); rintro E w3 ⟨rfl, hb3⟩; have hst := Ex.rules hb3 rfl; obtain ⟨hc3, hf3, hz3⟩ := hst
      have ho3 := Ow.keep ho1 (KF.ex hb3 (KF.refl _ _))
      obtain ⟨g, x, hA, hlo, hlt, hx, c0, c1, c2, hfz⟩ := at_OR ho3 htn
      obtain ⟨ya, yb, yu⟩ := x
      have Hx := Lib.hid hx
      have hlo' : w.heap.size ≤ g := by omega
      clear hx
      subst hA
      dsimp only at c0 c1 c2
      cases b1 with
      | true =>
        go_wp2_with fail
        go_ret2
        refine ⟨_, _, by rw [hfit]; rfl, ?_, ext_⟩
        have k1 : e.kind = 1 := by simpa using hb1
        rw [put_eq hfit Ht.out Hx.out]
        have hu := fits_fresh hfit k1 Ht.out Hx.out
        subst hu
        have r := OR_set2 (OR_set1 (OR_set0 ho3 rfl Hx.out e.who) rfl (set_at Hx.out) e.price) rfl (set_at (set_at Hx.out)) false
        simp only [List.set_set] at r
        simp only [Sw.putRow, k1, if_true]
        exact r.less (by omega)
      | false =>
        have k1 : ¬ e.kind = 1 := by simpa using hb1
        cases b2 with
        | true =>
          go_wp2_with fail
          go_ret2
          refine ⟨_, _, by rw [hfit]; rfl, ?_, ext_⟩
          have k2 : e.kind = 2 := by simpa using hb2
          rw [put_eq hfit Ht.out Hx.out]
          have r := OR_set0 ho3 rfl Hx.out e.who
          simp only [Sw.putRow, if_neg k1, k2, if_true]
          exact r.less (by omega)
        | false =>
          go_wp2_with fail
          go_ret2
          refine ⟨_, _, by rw [hfit]; rfl, ?_, ext_⟩
          have k2 : ¬ e.kind = 2 := by simpa using hb2
          rw [put_eq hfit Ht.out Hx.out]
          have r := OR_set2 ho3 rfl Hx.out true
          simp only [Sw.putRow, if_neg k1, if_neg k2]
          exact r.less (by omega)
    exact key _ _ rfl rfl
  · have hf0 : Sw.ownFits xs e = false := by simpa using hfit
    go_enter Try.func163, Try.ntmps163
    go_wp2_with (first | (at_builtin; apply wpList_app (lo := w.heap.size + 1) el_R one_R rfl rfl rfl rfl; (first | assumption | exact Ow.nil _ _ | (apply Ow.keep; assumption; exact kf_) | (refine Ow.new [] (by (first | rfl | (simp only [zA, zC, zD, zN]; done) | omega)) rfl rfl (fun _ => rfl) (by exact sz_) (by omega))); (first | ((first | (apply Rs.at0; assumption) | (apply Ow.rs0; assumption)); exact kf_)); omega; exact sz_; intro A1 c1 w2 ho1 hch1 hat1 hex1 hlow1; have hb := hex1 (fun _ => False) w (by exact ext_) (by exact sz_); have hz := hch1.size; (try simp only [zA, zC, zD, zN] at hz); obtain ⟨hc, hf⟩ := low_rules hlow1; clear hlow1 hex1) | (go_at_call 204; apply Calls.mono; apply sOwnFits_c; ((first | (apply Rs.at0; assumption) | (apply Ow.rs0; assumption)); exact kf_); rintro E w1 ⟨rfl, hb⟩; have hst := xr hb; (try simp only [zA, zC, zD, zN] at hst); obtain ⟨hc, hf, hz⟩ := hst))
    go_ret2
    refine ⟨_, _, by rw [hf0]; rfl, ?_, ext_⟩
    rw [show Sw.ownPut xs e = xs from by simp [Sw.ownPut, hf0]]
    simp only [Nat.zero_add, List.nil_append] at ho1
    refine Ow.less ?_ (show w.heap.size ≤ w.heap.size + 1 by omega)
    apply Ow.keep ho1; (exact kf_)
end Go.Proofs.Ytncoiknpkebgoaa

namespace Go.Proofs.Ytncoiknpkebgoaa
set_option maxRecDepth 100000
set_option linter.unusedSimpArgs false
set_option linter.unusedVariables false
open Go.RowKit Go
set_option maxHeartbeats 400000

theorem fold_ok : ∀ (es : List Sw.Ent) (rows r : List Sw.Row), Sw.foldFrom rows es = some r → rows.length = 8 → r.length = 8
  | [], rows, r, h, h8 => by simp [Sw.foldFrom] at h; rw [← h]; exact h8
  | e :: es, rows, r, h, h8 => by
    rw [Sw.foldFrom] at h
    split at h
    · exact fold_ok es _ r h (by simp [Sw.putRows, h8])
    · cases h
theorem ownFold_len {es : List Sw.Ent} {r : List Sw.Row} (h : Sw.ownFold es = some r) : r.length = 8 := by
  unfold Sw.ownFold at h
  split at h
  · exact fold_ok es _ r h rfl
  · cases h

theorem sOwnFold_c (A : Option Addr) (c n : Nat) (xs : List Sw.Ent) (w : World) (hxs : RE w 0 A c n xs) : Calls Try.prog 143 #[.slice A n c] w fun E w' => ∃ A' c' n', E = .returned (.tuple #[.slice A' n' c', .bool (Sw.ownFold xs).isSome]) ∧ OwR w' w.heap.size A' c' n' ((Sw.ownFold xs).getD []) ∧ Ex w w' := by
  have hl := Lib.hid hxs.1
  by_cases hn : n ≤ 40
  · have hn' : decide (40 < n) = false := by simp; omega
    go_enter Try.func143, Try.ntmps143
    go_wp2_with (first | (go_at_call 161; refine (sNew_c _).mono ?_; rintro E w1 ⟨A, rfl, hr, hb⟩; have hst := xr hb; (try simp only [zA, zC, zD, zN] at hst); obtain ⟨hc, hf, hz⟩ := hst))
    go_loopw [4, 5] (fun r i wr => ∃ (k : Nat) (B : Option Addr) (d : Nat) (rows : List Sw.Row), k ≤ n ∧ i = .int .i64 k ∧ r = .slice B 8 d ∧ Ex w wr ∧ OwR wr w.heap.size B d 8 rows ∧ Sw.ownFold xs = Sw.foldFrom rows (xs.drop k)) (fun _ i _ => n - (intOf i).toNat)
    case atStart => exact ⟨0, _, _, _, Nat.zero_le _, rfl, rfl, ext_, hr, by rw [Sw.ownFold, if_pos (by have := hl.out; omega)]; rfl⟩
    case round =>
      clear hb hc hf hz hr
      obtain ⟨k, B, d, rows, hk, rfl, rfl, hb, ho, hrel⟩ := hrel
      have hst := Ex.rules hb rfl
      obtain ⟨hc, hf, hz⟩ := hst
      by_cases hlt : k < n
      · obtain ⟨g, off, y, rfl, hg0, hg, hd, hy, hc0, hc1, hc2, hc3⟩ := at_E hxs hlt
        rw [hd, Sw.foldFrom] at hrel
        have Hrel := Lib.hid hrel
        clear hd hy hrel
        go_wp2_with (first | (go_at_call 163; apply Calls.mono; apply sOwnPut_c; (apply Ow.rs0 ho; exact KF.refl _ _); omega; rintro E w1 ⟨A1, c1, rfl, ho1, hb1⟩; have hst := Ex.rules hb1 rfl; obtain ⟨hc1', hf1', hz1'⟩ := hst))
        · go_ret2
          have hfit : Sw.ownFits rows y = false := by rename_i h; simpa using h
          have hh := Hrel.out
          rw [if_neg (by simp [hfit])] at hh
          refine ⟨_, _, _, by rw [hh]; rfl, ?_, ext_⟩
          rw [hh]
          (refine Ow.new [] (by (first | rfl | (simp only [zA, zC, zD, zN]; done) | omega)) rfl rfl (fun _ => rfl) (by exact sz_) (by omega))
        · have hfit : Sw.ownFits rows y = true := by rename_i h; simpa using h
          have hh := Hrel.out
          rw [if_pos hfit] at hh
          refine ⟨⟨k + 1, _, _, _, by omega, by go_num, rfl, ext_, ho1.less (by omega), ?_⟩, by simp [intOf]; omega⟩
          rw [hh, Sw.ownPut, if_pos hfit]
      · have Hrel := Lib.hid hrel; clear hrel
        go_wp2_with fail
        go_ret2
        obtain rfl : k = n := by omega
        have hh := Hrel.out
        rw [List.drop_of_length_le (by have := hl.out; omega)] at hh
        refine ⟨_, _, _, by rw [hh]; rfl, ?_, ext_⟩
        rw [hh]
        exact ho
  · have hn' : decide (40 < n) = true := by simp; omega
    go_enter Try.func143, Try.ntmps143
    go_wp2_with (first | (go_at_call 161; refine (sNew_c _).mono ?_; rintro E w1 ⟨A, rfl, hr, hb⟩; have hst := xr hb; (try simp only [zA, zC, zD, zN] at hst); obtain ⟨hc, hf, hz⟩ := hst))
    go_ret2
    have hh : Sw.ownFold xs = none := by rw [Sw.ownFold, if_neg (by have := hl.out; omega)]
    refine ⟨_, _, _, by rw [hh]; rfl, ?_, ext_⟩
    rw [hh]
    (refine Ow.new [] (by (first | rfl | (simp only [zA, zC, zD, zN]; done) | omega)) rfl rfl (fun _ => rfl) (by exact sz_) (by omega))

theorem mixLeaf_ok (l : List Int) : Sw.mixOk (Sw.mixLeaf l) = true := by
  rw [mixOk_bd]; unfold Sw.mixLeaf
  exact ⟨Int.emod_nonneg _ (by omega), by have := Int.emod_lt_of_pos (Sw.mixLeafFrom 7 l * 31 + l.length) (show (0 : Int) < 65521 by omega); omega⟩
theorem ownLeaf_ok (t : Int) (r : Sw.Row) : Sw.mixOk (Sw.ownLeaf t r) = true := by
  unfold Sw.ownLeaf
  split
  · exact mixLeaf_ok _
  · rfl
theorem leavesFrom_ok : ∀ (rows : List Sw.Row) (t : Int), (Sw.leavesFrom t rows).all Sw.mixOk = true
  | [], _ => rfl
  | r :: rs, t => by simp only [Sw.leavesFrom, List.all_cons, ownLeaf_ok, leavesFrom_ok rs, Bool.and_self]
theorem ownLeaves_ok (rows : List Sw.Row) : (Sw.ownLeaves rows).all Sw.mixOk = true := leavesFrom_ok rows 0
theorem entLeaves_ok (es : List Sw.Ent) : (es.map Sw.entLeaf).all Sw.mixOk = true := by
  rw [List.all_map, List.all_eq_true]; exact fun e _ => mixLeaf_ok _

theorem sOwnRoot_c (A : Option Addr) (c n : Nat) (xs : List Sw.Row) (w : World) (hxs : RR w 0 A c n xs) : Calls Try.prog 168 #[.slice A n c] w fun E w' => E = .returned (.int .i64 (Sw.ownRoot xs)) ∧ Ex w w' := by
  have hl := Lib.hid hxs.1
  by_cases hok : Sw.ownOk xs = true
  · have hn : n = 8 := by have := hl.out; simp [Sw.ownOk] at hok; omega
    subst hn
    go_enter Try.func168, Try.ntmps168
    go_wp2_with (first | (go_at_call 208; apply Calls.mono; apply sOwnOk_c; ((first | (apply Rs.at0; assumption) | (apply Ow.rs0; assumption)); exact kf_); rintro E w1 ⟨rfl, hb⟩; have hst := xr hb; (try simp only [zA, zC, zD, zN] at hst); obtain ⟨hc, hf, hz⟩ := hst) | (go_at_call 209; apply Calls.mono; apply sLeaves_c; (first | assumption | ((first | (apply Rs.at0; assumption) | (apply Ow.rs0; assumption)); exact kf_) | omega); omega; rintro E w1 ⟨A1, c1, rfl, ho1, hb1⟩) | (go_at_call 166; apply Calls.mono; apply (sRoot_c 8); omega; (apply Ow.rs0 ho1; exact KF.refl _ _); omega; exact ownLeaves_ok _; rintro E w2 ⟨rfl, hb2⟩))
    go_ret
    exact ⟨ret_i (by simp [Sw.ownRoot, hok]), ext_⟩
  · have hok' : Sw.ownOk xs = false := by simpa using hok
    go_enter Try.func168, Try.ntmps168
    go_wp2_with (first | (go_at_call 208; apply Calls.mono; apply sOwnOk_c; ((first | (apply Rs.at0; assumption) | (apply Ow.rs0; assumption)); exact kf_); rintro E w1 ⟨rfl, hb⟩; have hst := xr hb; (try simp only [zA, zC, zD, zN] at hst); obtain ⟨hc, hf, hz⟩ := hst))
    go_ret
    exact ⟨ret_i (by simp [Sw.ownRoot, hok']), ext_⟩

theorem sHedOf_c (A : Option Addr) (c n : Nat) (xs : List Sw.Ent) (w : World) (hxs : RE w 0 A c n xs) : Calls Try.prog 84 #[.slice A n c] w fun E w' => E = .returned (.tuple #[.agg #[.int .i64 ((Sw.hedOf xs).getD Sw.headZ).size, .int .i64 ((Sw.hedOf xs).getD Sw.headZ).log, .int .i64 ((Sw.hedOf xs).getD Sw.headZ).own], .bool (Sw.hedOf xs).isSome]) ∧ Ex w w' := by
  have hl := Lib.hid hxs.1
  cases hf : Sw.ownFold xs with
  | none =>
    have hh : Sw.hedOf xs = none := by simp [Sw.hedOf, hf]
    have hs : (Sw.ownFold xs).isSome = false := by simp [hf]
    have Hf := Lib.hid hf; have HH := Lib.hid hh; clear hf hh
    go_enter Try.func84, Try.ntmps84
    go_wp2_with (first | (go_at_call 143; apply Calls.mono; apply sOwnFold_c; ((first | (apply Rs.at0; assumption) | (apply Ow.rs0; assumption)); exact kf_); rintro E w1 ⟨A', c', n', rfl, hr, hb⟩; have hst := xr hb; (try simp only [zA, zC, zD, zN] at hst); obtain ⟨hc, hf, hz⟩ := hst))
    refine bodyPost_ret (v := .tuple #[.agg #[.int .i64 0, .int .i64 0, .int .i64 0], .bool false]) (by simp [results, Try.results84, go_sem, *]) rfl ?_
    exact ⟨by rw [HH.out]; rfl, ext_⟩
  | some rows =>
    have h8 := ownFold_len hf
    have hn : n ≤ 40 := by
      have := hl.out
      unfold Sw.ownFold at hf
      split at hf
      · omega
      · cases hf
    have hh : Sw.hedOf xs = some ⟨xs.length, Sw.root (xs.map Sw.entLeaf), Sw.ownRoot rows⟩ := by simp [Sw.hedOf, hf]
    have hs : (Sw.ownFold xs).isSome = true := by simp [hf]
    have hg : (Sw.ownFold xs).getD [] = rows := by simp [hf]
    have Hf := Lib.hid hf; have HH := Lib.hid hh; have H8 := Lib.hid h8; have HG := Lib.hid hg; clear hf hh h8 hg
    go_enter Try.func84, Try.ntmps84
    go_wp2_with (first | (go_at_call 143; apply Calls.mono; apply sOwnFold_c; (first | assumption | ((first | (apply Rs.at0; assumption) | (apply Ow.rs0; assumption)); exact kf_) | omega); rintro E w1 ⟨A1, c1, n1, rfl, ho1, hb⟩; rw [HG.out] at ho1; have hst := Ex.rules hb rfl; (try simp only [World.size_alloc, World.size_setCell, World.size_drew] at hst); obtain ⟨hc, hf, hz⟩ := hst) | (go_at_call 167; apply Calls.mono; apply sEntLeaves_c; (first | assumption | ((first | (apply Rs.at0; assumption) | (apply Ow.rs0; assumption)); exact kf_) | omega); omega; rintro E w2 ⟨A2, c2, rfl, ho2, hb2⟩; have hst := Ex.rules hb2 rfl; obtain ⟨hc2, hf2, hz2⟩ := hst) | (go_at_call 166; apply Calls.mono; apply (sRoot_c 40); omega; (apply Ow.rs0 ho2; exact KF.refl _ _); omega; exact entLeaves_ok _; rintro E w3 ⟨rfl, hb3⟩; have hst := Ex.rules hb3 rfl; obtain ⟨hc3, hf3, hz3⟩ := hst) | (go_at_call 168; apply Calls.mono; apply sOwnRoot_c; (apply Ow.rs0 ho1; (exact kf_)); rintro E w4 ⟨rfl, hb4⟩; have hst := Ex.rules hb4 rfl; obtain ⟨hc4, hf4, hz4⟩ := hst))
    refine bodyPost_ret (v := .tuple #[.agg #[.int .i64 n, .int .i64 (Sw.root (xs.map Sw.entLeaf)), .int .i64 (Sw.ownRoot rows)], .bool true]) (by simp [results, Try.results84, go_sem, *]) rfl ?_
    exact ⟨by rw [HH.out, ← hl.out]; rfl, ext_⟩
end Go.Proofs.Ytncoiknpkebgoaa

namespace Go.Proofs.Ytncoiknpkebgoaa
set_option maxRecDepth 100000
set_option linter.unusedSimpArgs false
set_option linter.unusedVariables false
open Go.RowKit Go
set_option maxHeartbeats 400000

theorem grow_len {N : Nat} {l : List Int} {m : Nat} {k : Bool} (h : m ≠ l.length) (hN : l.length ≤ N + 1) : Sw.grow (N + 1) l m k =
    if m ≤ Sw.split l.length then Sw.grow N (l.take (Sw.split l.length)) m k ++ [Sw.root (l.drop (Sw.split l.length))]
    else Sw.grow N (l.drop (Sw.split l.length)) (m - Sw.split l.length) false ++ [Sw.root (l.take (Sw.split l.length))] := by
  rw [Sw.grow, if_neg h]

theorem sGrow_c (N : Nat) (A : Option Addr) (c n m : Nat) (kn : Bool) (xs : List Int) (w : World) (hN : n ≤ N) (hN4 : N ≤ 40) (hxs : RI w 0 A c n xs) (h40 : n ≤ 40) (hok : xs.all Sw.mixOk = true) (hm : 1 ≤ m) (hmn : m ≤ n) : Calls Try.prog 210 #[.slice A n c, .int .i64 m, .bool kn] w fun E w' => ∃ A' c' n', E = .returned (.slice A' n' c') ∧ OwI w' w.heap.size A' c' n' (Sw.grow N xs m kn) ∧ n' ≤ N ∧ Ex w w' := by
  induction N generalizing A c n m kn xs w with
  | zero => omega
  | succ N ih =>
    have hl := Lib.hid hxs.1
    have hcap := hxs.2.le
    by_cases hmn' : m = n
    · subst hmn'
      have hg : Sw.grow (N + 1) xs m kn = if kn = true then [] else [Sw.root xs] := by rw [Sw.grow, if_pos hl.out]
      have Hg := Lib.hid hg; clear hg
      cases kn with
      | true =>
        go_enter Try.func210, Try.ntmps210
        go_wp2_with fail
        go_ret
        refine ⟨_, _, _, rfl, ?_, Nat.zero_le _, ext_⟩
        rw [Hg.out]
        (refine Ow.new [] (by (first | rfl | (simp only [zA, zC, zD, zN]; done) | omega)) rfl rfl (fun _ => rfl) (by exact sz_) (by omega))
      | false =>
        go_enter Try.func210, Try.ntmps210
        go_wp2_with (first | (go_at_call 166; apply Calls.mono; apply (sRoot_c 40); omega; ((first | (apply Rs.at0; assumption) | (apply Ow.rs0; assumption)); exact kf_); omega; exact hok; rintro E w1 ⟨rfl, hb⟩))
        go_ret
        refine ⟨_, _, _, rfl, ?_, by omega, ext_⟩
        rw [Hg.out]
        have hz := hb.size
        simp only [Bool.false_eq_true, if_false]
        (refine Ow.new [Sw.root xs] (by (first | rfl | (simp only [zA, zC, zD, zN]; done) | omega)) rfl rfl (fun _ => rfl) (by exact sz_) (by omega))
    · have h2 : 2 ≤ n := by omega
      have hs1 := Sw.split_lt h2
      have hs0 := Sw.split_pos n
      have hg := grow_len (N := N) (l := xs) (m := m) (k := kn) (by have := hl.out; omega) (by have := hl.out; omega)
      rw [← hl.out] at hg
      have Hg := Lib.hid hg
      clear hg
      have hmb : ((m : Int) == n) = false := by simp; omega
      have z3 : ¬ (c = Sw.split n) := by omega
      have z0 : (0 : Int) ≤ ↑(Sw.split n) := by omega
      have z1 : (↑(Sw.split n) : Int) ≤ ↑n := by omega
      have z2 : (↑(Sw.split n) : Int) ≤ ↑c := by omega
      by_cases hms : m ≤ Sw.split n
      · go_enter Try.func210, Try.ntmps210
        go_wp2_with (first | (go_at_call 205; apply Calls.mono; apply sTreSplit_c; (first | assumption | omega); (first | assumption | omega); rintro E w' ⟨rfl, rfl⟩))
        (refine wp_name ?_; intro W0 hb0; have hst := xr hb0; (try simp only [zA, zC, zD, zN] at hst); obtain ⟨hc0, hf0, hz0⟩ := hst; go_region_held3 (fun w' => Held W0 w') ((first | with_reducible assumption | with_reducible exact Held.start _ | with_reducible exact Held.of (by assumption) | with_reducible exact Held.ex (by assumption) (by assumption) | ((repeat (first | with_reducible refine Held.set ?_ (by simp only [zA, zC, zD, zN]; omega) | with_reducible refine Held.alloc ?_ _ | with_reducible refine Held.drew ?_)); (first | with_reducible assumption | with_reducible exact Held.refl _ | with_reducible exact Held.of (by assumption) | with_reducible exact Held.ex (by assumption) (by assumption))) | exact Held.of (by exact ext_))) ((first | (go_at_call 210; apply Calls.mono; apply ih; omega; omega; (apply Rs.at0; apply RI_take hxs; omega; (exact kf_)); omega; exact List.all_take hok; omega; omega; rintro E w1 ⟨A3, c3, n3, rfl, ho3, hn3, hb⟩; have hst := xr hb; (try simp only [zA, zC, zD, zN] at hst); obtain ⟨hc, hf, hz⟩ := hst) | (go_at_call 166; apply Calls.mono; apply (sRoot_c 40); omega; (apply Rs.at0; apply RI_drop hxs; omega; (exact kf_)); omega; exact List.all_drop hok; rintro E w1 ⟨rfl, hb⟩; have hst := xr hb; (try simp only [zA, zC, zD, zN] at hst); obtain ⟨hc, hf, hz⟩ := hst) | (apply step_app el_I one_I rfl rfl rfl rfl; (first | assumption | exact Ow.nil _ _ | (apply Ow.keep; assumption; exact kf_) | (refine Ow.new [] (by (first | rfl | (simp only [zA, zC, zD, zN]; done) | omega)) rfl rfl (fun _ => rfl) (by exact sz_) (by omega))); (first | (refine Rs.new [Sw.root (xs.drop (Sw.split n))] (by (first | rfl | (simp only [zA, zC, zD, zN]; done) | omega)) rfl rfl (fun _ => rfl) (by omega))); omega; exact sz_; intro A1 c1 w2 ho1 hch1 hat1 hex1 hlow1; have hbx := hex1 (fun _ => False) W0 (And.right (by assumption : Held W0 _)) (by exact sz_); clear hex1 hlow1))); all_goals (have hb := And.right (by assumption : Held W0 _); have hst := xr hb; (try simp only [zA, zC, zD, zN] at hst); obtain ⟨hc, hf, hz⟩ := hst))
        go_wp2
        go_ret
        refine ⟨_, _, _, rfl, ?_, by omega, ext_⟩
        rw [Hg.out, if_pos hms]
        exact ho1.less (by exact sz_)
      · have y0 : IntKind.i64.wrap ((m : Int) - ↑(Sw.split n)) = ((m - Sw.split n : Nat) : Int) := by rw [IntWalk.i64_in _ (by omega)]; omega
        go_enter Try.func210, Try.ntmps210
        go_wp2_with (first | (go_at_call 205; apply Calls.mono; apply sTreSplit_c; (first | assumption | omega); (first | assumption | omega); rintro E w' ⟨rfl, rfl⟩))
        (refine wp_name ?_; intro W0 hb0; have hst := xr hb0; (try simp only [zA, zC, zD, zN] at hst); obtain ⟨hc0, hf0, hz0⟩ := hst; go_region_held3 (fun w' => Held W0 w') ((first | with_reducible assumption | with_reducible exact Held.start _ | with_reducible exact Held.of (by assumption) | with_reducible exact Held.ex (by assumption) (by assumption) | ((repeat (first | with_reducible refine Held.set ?_ (by simp only [zA, zC, zD, zN]; omega) | with_reducible refine Held.alloc ?_ _ | with_reducible refine Held.drew ?_)); (first | with_reducible assumption | with_reducible exact Held.refl _ | with_reducible exact Held.of (by assumption) | with_reducible exact Held.ex (by assumption) (by assumption))) | exact Held.of (by exact ext_))) ((first | (go_at_call 210; apply Calls.mono; apply ih; omega; omega; (apply Rs.at0; apply RI_drop hxs; omega; (exact kf_)); omega; exact List.all_drop hok; omega; omega; rintro E w1 ⟨A3, c3, n3, rfl, ho3, hn3, hb⟩; have hst := xr hb; (try simp only [zA, zC, zD, zN] at hst); obtain ⟨hc, hf, hz⟩ := hst) | (go_at_call 166; apply Calls.mono; apply (sRoot_c 40); omega; (apply Rs.at0; apply RI_take hxs; omega; (exact kf_)); omega; exact List.all_take hok; rintro E w1 ⟨rfl, hb⟩; have hst := xr hb; (try simp only [zA, zC, zD, zN] at hst); obtain ⟨hc, hf, hz⟩ := hst) | (apply step_app el_I one_I rfl rfl rfl rfl; (first | assumption | exact Ow.nil _ _ | (apply Ow.keep; assumption; exact kf_) | (refine Ow.new [] (by (first | rfl | (simp only [zA, zC, zD, zN]; done) | omega)) rfl rfl (fun _ => rfl) (by exact sz_) (by omega))); (first | (refine Rs.new [Sw.root (xs.take (Sw.split n))] (by (first | rfl | (simp only [zA, zC, zD, zN]; done) | omega)) rfl rfl (fun _ => rfl) (by omega))); omega; exact sz_; intro A1 c1 w2 ho1 hch1 hat1 hex1 hlow1; have hbx := hex1 (fun _ => False) W0 (And.right (by assumption : Held W0 _)) (by exact sz_); clear hex1 hlow1))); all_goals (have hb := And.right (by assumption : Held W0 _); have hst := xr hb; (try simp only [zA, zC, zD, zN] at hst); obtain ⟨hc, hf, hz⟩ := hst))
        go_wp2
        go_ret
        refine ⟨_, _, _, rfl, ?_, by omega, ext_⟩
        rw [Hg.out, if_neg hms]
        exact ho1.less (by exact sz_)

theorem empty_len {xs : List Int} {N : Nat} (h : xs.length ≤ N) : xs.length ≤ N := h
theorem grow_N : ∀ (N M : Nat) (xs : List Int) (m : Nat) (kn : Bool), xs.length ≤ N → xs.length ≤ M → 1 ≤ m → m ≤ xs.length → Sw.grow N xs m kn = Sw.grow M xs m kn
  | 0, _, xs, m, kn, h1, h2, h3, h4 => by omega
  | _ + 1, 0, xs, m, kn, h1, h2, h3, h4 => by omega
  | N + 1, M + 1, xs, m, kn, h1, h2, h3, h4 => by
    rw [Sw.grow, Sw.grow]
    by_cases e : m = xs.length
    · rw [if_pos e, if_pos e]
    · have l2 : 2 ≤ xs.length := by omega
      have s1 := Sw.split_lt l2
      have s0 := Sw.split_pos xs.length
      rw [if_neg e, if_neg e]
      by_cases g : m ≤ Sw.split xs.length
      · rw [if_pos g, if_pos g, grow_N N M _ m kn (by rw [List.length_take]; omega) (by rw [List.length_take]; omega) h3 (by rw [List.length_take]; omega)]
      · rw [if_neg g, if_neg g, grow_N N M _ (m - Sw.split xs.length) false (by rw [List.length_drop]; omega) (by rw [List.length_drop]; omega) (by omega) (by rw [List.length_drop]; omega)]

theorem sConProof_c (A : Option Addr) (c n : Nat) (m : Int) (xs : List Int) (w : World) (hxs : RI w 0 A c n xs) : Calls Try.prog 169 #[.slice A n c, .int .i64 m] w fun E w' => ∃ A' c' n', E = .returned (.slice A' n' c') ∧ OwI w' w.heap.size A' c' n' (Sw.conProof xs m) ∧ Ex w w' := by
  have hl := Lib.hid hxs.1
  have hcap := hxs.2.le
  have hbig : n ≤ 9223372036854775807 := by have := hxs.2.cap; unfold maxLen at this; omega
  by_cases h1 : Sw.treOk xs = true
  · have h40 : n ≤ 40 := by have := hl.out; simp [Sw.treOk] at h1; omega
    have hall : xs.all Sw.mixOk = true := by simp only [Sw.treOk, Bool.and_eq_true] at h1; exact h1.2
    by_cases h2 : Sw.inR m 1 n = true
    · have hm : 1 ≤ m ∧ m ≤ n := by simpa [Sw.inR] using h2
      obtain ⟨k, rfl⟩ := Int.eq_ofNat_of_zero_le (show 0 ≤ m by omega)
      have e : Sw.conProof xs k = Sw.grow 40 xs k true := by
        rw [Sw.conProof, if_pos (by rw [h1, ← hl.out, h2]; rfl)]
        exact grow_N _ _ _ _ _ (Nat.le_refl _) (by have := hl.out; omega) (by omega) (by have := hl.out; omega)
      rw [e]
      clear e
      go_enter Try.func169, Try.ntmps169
      go_wp2_with (first | (go_at_call 149; apply Calls.mono; apply sTreOk_c; ((first | (apply Rs.at0; assumption) | (apply Ow.rs0; assumption)); exact kf_); rintro E w' ⟨rfl, rfl⟩) | (go_at_call 94; refine (l1In_c _ _ _ _).mono ?_; rintro E w' ⟨rfl, rfl⟩) | (go_at_call 210; apply Calls.mono; apply (sGrow_c 40); omega; omega; ((first | (apply Rs.at0; assumption) | (apply Ow.rs0; assumption)); exact kf_); omega; exact hall; omega; omega; rintro E w1 ⟨A1, c1, n1, rfl, ho1, hn1, hb⟩))
      go_ret
      exact ⟨_, _, _, rfl, ho1, ext_⟩
    · have h2' : Sw.inR m 1 n = false := by simpa using h2
      have e : Sw.conProof xs m = [] := by rw [Sw.conProof, if_neg (by rw [← hl.out, h2']; simp)]
      rw [e]
      go_enter Try.func169, Try.ntmps169
      go_wp2_with (first | (go_at_call 149; apply Calls.mono; apply sTreOk_c; ((first | (apply Rs.at0; assumption) | (apply Ow.rs0; assumption)); exact kf_); rintro E w' ⟨rfl, rfl⟩) | (go_at_call 94; refine (l1In_c _ _ _ _).mono ?_; rintro E w' ⟨rfl, rfl⟩))
      go_ret
      refine ⟨_, _, _, rfl, ?_, ext_⟩
      (refine Ow.new [] (by (first | rfl | (simp only [zA, zC, zD, zN]; done) | omega)) rfl rfl (fun _ => rfl) (by exact sz_) (by omega))
  · have h1' : Sw.treOk xs = false := by simpa using h1
    have e : Sw.conProof xs m = [] := by rw [Sw.conProof, if_neg (by rw [h1']; simp)]
    rw [e]
    go_enter Try.func169, Try.ntmps169
    go_wp2_with (first | (go_at_call 149; apply Calls.mono; apply sTreOk_c; ((first | (apply Rs.at0; assumption) | (apply Ow.rs0; assumption)); exact kf_); rintro E w' ⟨rfl, rfl⟩) | (go_at_call 94; refine (l1In_c _ _ _ _).mono ?_; rintro E w' ⟨rfl, rfl⟩))
    go_ret
    refine ⟨_, _, _, rfl, ?_, ext_⟩
    (refine Ow.new [] (by (first | rfl | (simp only [zA, zC, zD, zN]; done) | omega)) rfl rfl (fun _ => rfl) (by exact sz_) (by omega))

theorem sHedProof_c (A : Option Addr) (c n : Nat) (m : Int) (xs : List Sw.Ent) (w : World) (hxs : RE w 0 A c n xs) : Calls Try.prog 85 #[.slice A n c, .int .i64 m] w fun E w' => ∃ A' c' n', E = .returned (.slice A' n' c') ∧ OwI w' w.heap.size A' c' n' (Sw.hedProof xs m) ∧ Ex w w' := by
  have hl := Lib.hid hxs.1
  have hcap := hxs.2.le
  have hbig : n ≤ 9223372036854775807 := by have := hxs.2.cap; unfold maxLen at this; omega
  by_cases h2 : Sw.inR m 1 n = true
  · by_cases h40 : n ≤ 40
    · have hb40 : decide (40 < n) = false := by simp; omega
      have e : Sw.hedProof xs m = Sw.conProof (xs.map Sw.entLeaf) m := by rw [Sw.hedProof, if_pos (by simp; have := hl.out; omega)]
      rw [e]; clear e
      go_enter Try.func85, Try.ntmps85
      go_wp2_with (first | (go_at_call 94; refine (l1In_c _ _ _ _).mono ?_; rintro E w' ⟨rfl, rfl⟩) | (go_at_call 167; apply Calls.mono; apply sEntLeaves_c; (first | assumption | ((first | (apply Rs.at0; assumption) | (apply Ow.rs0; assumption)); exact kf_) | omega); omega; rintro E w1 ⟨A1, c1, rfl, ho1, hb⟩; have hst := xr hb; (try simp only [zA, zC, zD, zN] at hst); obtain ⟨hc, hf, hz⟩ := hst) | (go_at_call 169; apply Calls.mono; apply sConProof_c; ((first | (apply Rs.at0; assumption) | (apply Ow.rs0; assumption)); exact kf_); rintro E w2 ⟨A2, c2, n2, rfl, ho2, hb⟩; have hst := xr hb; (try simp only [zA, zC, zD, zN] at hst); obtain ⟨hc, hf, hz⟩ := hst))
      go_ret
      exact ⟨_, _, _, rfl, ho2.less (by omega), ext_⟩
    · have hb40 : decide (40 < n) = true := by simp; omega
      have e : Sw.hedProof xs m = [] := by rw [Sw.hedProof, if_neg (by simp; have := hl.out; omega)]
      rw [e]
      go_enter Try.func85, Try.ntmps85
      go_wp2_with (first | (go_at_call 94; refine (l1In_c _ _ _ _).mono ?_; rintro E w' ⟨rfl, rfl⟩))
      go_ret
      refine ⟨_, _, _, rfl, ?_, ext_⟩
      (refine Ow.new [] (by (first | rfl | (simp only [zA, zC, zD, zN]; done) | omega)) rfl rfl (fun _ => rfl) (by exact sz_) (by omega))
  · have h2' : Sw.inR m 1 n = false := by simpa using h2
    have e : Sw.hedProof xs m = [] := by
      rw [Sw.hedProof]
      split
      · rw [Sw.conProof, if_neg (by rw [List.length_map, ← hl.out, h2']; simp)]
      · rfl
    rw [e]
    go_enter Try.func85, Try.ntmps85
    go_wp2_with (first | (go_at_call 94; refine (l1In_c _ _ _ _).mono ?_; rintro E w' ⟨rfl, rfl⟩))
    go_ret
    refine ⟨_, _, _, rfl, ?_, ext_⟩
    (refine Ow.new [] (by (first | rfl | (simp only [zA, zC, zD, zN]; done) | omega)) rfl rfl (fun _ => rfl) (by exact sz_) (by omega))
end Go.Proofs.Ytncoiknpkebgoaa

namespace Go.Proofs.Ytncoiknpkebgoaa
set_option maxRecDepth 100000
set_option linter.unusedSimpArgs false
set_option linter.unusedVariables false
open Go.RowKit Go
set_option maxHeartbeats 400000

theorem snoc_of {α : Type} {xs : List α} {n : Nat} {y : α} (hn : n + 1 = xs.length) (h : xs[n]? = some y) : xs = xs.take n ++ [y] := by
  rw [← take_snoc h, List.take_of_length_le (by omega)]
theorem rev_snoc {α : Type} {xs : List α} {n : Nat} {y : α} (hn : n + 1 = xs.length) (h : xs[n]? = some y) : xs.reverse = y :: (xs.take n).reverse := by
  conv => lhs; rw [snoc_of hn h]
  simp

theorem sBoth_c (N : Nat) (A : Option Addr) (c n m k : Nat) (old : Int) (kn : Bool) (xs : List Int) (w : World) (hN : n ≤ N) (hxs : RI w 0 A c n xs) (h40 : n ≤ 40) (hall : xs.all Sw.mixOk = true) (hold : Sw.mixOk old = true) (hm : 1 ≤ m) (hmk : m ≤ k) (hk40 : k ≤ 40) : Calls Try.prog 211 #[.int .i64 m, .int .i64 k, .int .i64 old, .slice A n c, .bool kn] w fun E w' => ∃ a b, E = .returned (.tuple #[.int .i64 a, .int .i64 b, .bool (Sw.grR m k old xs.reverse kn).isSome]) ∧ (∀ r, Sw.grR m k old xs.reverse kn = some r → r = (a, b)) ∧ Sw.mixOk a = true ∧ Sw.mixOk b = true ∧ Ex w w' := by
  induction N generalizing A c n m k kn xs w with
  | zero =>
    have hl := hxs.1
    obtain rfl : n = 0 := by omega
    have hx : xs = [] := List.eq_nil_of_length_eq_zero (by omega)
    subst hx
    clear hl
    by_cases hmk' : m = k
    · subst hmk'
      cases kn with
      | true =>
        go_enter Try.func211, Try.ntmps211
        go_wp2_with fail
        go_ret3
        exact ⟨old, old, by simp [Sw.grR], by simp [Sw.grR], hold, hold, ext_⟩
      | false =>
        go_enter Try.func211, Try.ntmps211
        go_wp2_with fail
        go_ret3
        exact ⟨0, 0, by simp [Sw.grR], by simp [Sw.grR], rfl, rfl, ext_⟩
    · have hb : ((m : Int) == k) = false := by simp; omega
      go_enter Try.func211, Try.ntmps211
      go_wp2_with fail
      go_ret3
      exact ⟨0, 0, by simp [Sw.grR, hmk'], by simp [Sw.grR, hmk'], rfl, rfl, ext_⟩
  | succ N ih =>
    have hl := Lib.hid hxs.1
    have hcap := hxs.2.le
    by_cases h0 : n = 0
    · subst h0
      have hx : xs = [] := List.eq_nil_of_length_eq_zero (by have := hl.out; omega)
      subst hx
      exact ih _ c 0 m k kn [] w (by omega) hxs (by omega) hall hm hmk hk40
    · obtain ⟨p, rfl⟩ : ∃ p, n = p + 1 := ⟨n - 1, by omega⟩
      obtain ⟨g, off, y, rfl, hg0, hg, hd, hy, hc⟩ := at_I hxs (show p < p + 1 by omega)
      have hrev := rev_snoc (by have := hl.out; omega) hy
      have hyok : Sw.mixOk y = true := List.all_eq_true.1 hall y (List.mem_of_getElem? hy)
      rw [hrev]
      have Hy := Lib.hid hy
      clear hd hy hrev
      by_cases hmk' : m = k
      · subst hmk'
        cases kn with
        | true =>
          have hb1 : ((p : Int) + 1 == 0) = false := by simp; omega
          go_enter Try.func211, Try.ntmps211
          go_wp2_with fail
          go_ret3
          exact ⟨old, old, by simp [Sw.grR], by simp [Sw.grR], hold, hold, ext_⟩
        | false =>
          by_cases hp : p = 0
          · subst hp
            simp only [Nat.add_zero] at hc
            go_enter Try.func211, Try.ntmps211
            go_wp2_with fail
            go_quiet ((first | fail))
            go_wp2
            go_ret3
            exact ⟨y, y, by simp [Sw.grR], by simp [Sw.grR], hyok, hyok, ext_⟩
          · have hb1 : ((p : Int) + 1 != 1) = true := by simp; omega
            have hne : ¬ (xs.take p = []) := by
              intro e
              have e1 := congrArg List.length e
              rw [List.length_take, List.length_nil] at e1
              have := hl.out
              omega
            go_enter Try.func211, Try.ntmps211
            go_wp2_with fail
            go_ret3
            exact ⟨0, 0, by simp [Sw.grR, hne], by simp [Sw.grR, hne], rfl, rfl, ext_⟩
      · have h2 : 2 ≤ k := by omega
        have hs1 := Sw.split_lt h2
        have hs0 := Sw.split_pos k
        have hb : ((m : Int) == k) = false := by simp; omega
        have hb1 : ((p : Int) + 1 == 0) = false := by simp; omega
        by_cases hms : m ≤ Sw.split k
        · go_enter Try.func211, Try.ntmps211
          go_wp2_with (first | (go_at_call 205; apply Calls.mono; apply sTreSplit_c; (first | assumption | omega); (first | assumption | omega); rintro E w' ⟨rfl, rfl⟩) | (go_at_call 211; apply Calls.mono; apply ih; omega; (apply Rs.at0; apply RI_take hxs; omega; (exact kf_)); omega; exact List.all_take hall; omega; omega; omega; rintro E w1 ⟨a, b, rfl, hr, ha, hb', hb⟩; have hst := xr hb; (try simp only [zA, zC, zD, zN] at hst); obtain ⟨hc, hf, hz⟩ := hst) | (go_at_call 206; refine (sMixPair_c _ _ _).mono ?_; rintro E w' ⟨rfl, rfl⟩))
          go_ret3
          refine ⟨a, Sw.pair b y, ?_, ?_, ha, pair_ok _ _, ext_⟩
          · rw [mixPair_ok hb' hyok, Sw.grR, if_neg hmk', if_pos hms, Option.isSome_map]; rfl
          · intro r hr'
            rw [Sw.grR, if_neg hmk', if_pos hms, Option.map_eq_some_iff] at hr'
            obtain ⟨q, hq, rfl⟩ := hr'
            rw [hr q hq]
        · have y0 : IntKind.i64.wrap ((m : Int) - ↑(Sw.split k)) = ((m - Sw.split k : Nat) : Int) := by rw [IntWalk.i64_in _ (by omega)]; omega
          have y1 : IntKind.i64.wrap ((k : Int) - ↑(Sw.split k)) = ((k - Sw.split k : Nat) : Int) := by rw [IntWalk.i64_in _ (by omega)]; omega
          go_enter Try.func211, Try.ntmps211
          go_wp2_with (first | (go_at_call 205; apply Calls.mono; apply sTreSplit_c; (first | assumption | omega); (first | assumption | omega); rintro E w' ⟨rfl, rfl⟩) | (go_at_call 211; apply Calls.mono; apply ih; omega; (apply Rs.at0; apply RI_take hxs; omega; (exact kf_)); omega; exact List.all_take hall; omega; omega; omega; rintro E w1 ⟨a, b, rfl, hr, ha, hb', hb⟩; have hst := xr hb; (try simp only [zA, zC, zD, zN] at hst); obtain ⟨hc, hf, hz⟩ := hst) | (go_at_call 206; refine (sMixPair_c _ _ _).mono ?_; rintro E w' ⟨rfl, rfl⟩))
          go_ret3
          refine ⟨Sw.pair y a, Sw.pair y b, ?_, ?_, pair_ok _ _, pair_ok _ _, ext_⟩
          · rw [mixPair_ok hyok ha, mixPair_ok hyok hb', Sw.grR, if_neg hmk', if_neg hms, Option.isSome_map]; rfl
          · intro r hr'
            rw [Sw.grR, if_neg hmk', if_neg hms, Option.map_eq_some_iff] at hr'
            obtain ⟨q, hq, rfl⟩ := hr'
            rw [hr q hq]
end Go.Proofs.Ytncoiknpkebgoaa

namespace Go.Proofs.Ytncoiknpkebgoaa
set_option maxRecDepth 100000
set_option linter.unusedSimpArgs false
set_option linter.unusedVariables false
open Go.RowKit Go
set_option maxHeartbeats 400000

theorem iGrown_c (N : Nat) (A : Option Addr) (c n m k : Nat) (old : Int) (kn : Bool) (xs : List Int) (w : World) (hN : n ≤ N) (hxs : RI w 0 A c n xs) (h40 : n ≤ 40) (hall : xs.all Sw.mixOk = true) (hold : Sw.mixOk old = true) (hm : 1 ≤ m) (hmk : m ≤ k) (hk40 : k ≤ 40) : Calls Try.prog 173 #[.int .i64 m, .int .i64 k, .int .i64 old, .slice A n c, .bool kn] w fun E w' => ∃ a b, E = .returned (.tuple #[.agg #[.int .i64 a, .int .i64 b], .bool (Sw.grR m k old xs.reverse kn).isSome]) ∧ (∀ r, Sw.grR m k old xs.reverse kn = some r → r = (a, b)) ∧ Sw.mixOk a = true ∧ Sw.mixOk b = true ∧ Ex w w' := by
  induction N generalizing A c n m k kn xs w with
  | zero =>
    have hl := hxs.1
    obtain rfl : n = 0 := by omega
    have hx : xs = [] := List.eq_nil_of_length_eq_zero (by omega)
    subst hx
    clear hl
    by_cases hmk' : m = k
    · subst hmk'
      cases kn with
      | true =>
        go_enter Try.func173, Try.ntmps173
        go_wp2_with fail
        refine bodyPost_ret (v := .tuple #[.agg #[.int .i64 old, .int .i64 old], .bool true]) (by simp [results, Try.results173, go_sem, *]) rfl ?_
        exact ⟨old, old, by simp [Sw.grR], by simp [Sw.grR], hold, hold, ext_⟩
      | false =>
        go_enter Try.func173, Try.ntmps173
        go_wp2_with fail
        refine bodyPost_ret (v := .tuple #[.agg #[.int .i64 0, .int .i64 0], .bool false]) (by simp [results, Try.results173, go_sem, *]) rfl ?_
        exact ⟨0, 0, by simp [Sw.grR], by simp [Sw.grR], rfl, rfl, ext_⟩
    · have hb : ((m : Int) == k) = false := by simp; omega
      go_enter Try.func173, Try.ntmps173
      go_wp2_with fail
      refine bodyPost_ret (v := .tuple #[.agg #[.int .i64 0, .int .i64 0], .bool false]) (by simp [results, Try.results173, go_sem, *]) rfl ?_
      exact ⟨0, 0, by simp [Sw.grR, hmk'], by simp [Sw.grR, hmk'], rfl, rfl, ext_⟩
  | succ N ih =>
    have hl := Lib.hid hxs.1
    have hcap := hxs.2.le
    by_cases h0 : n = 0
    · subst h0
      have hx : xs = [] := List.eq_nil_of_length_eq_zero (by have := hl.out; omega)
      subst hx
      exact ih _ c 0 m k kn [] w (by omega) hxs (by omega) hall hm hmk hk40
    · obtain ⟨p, rfl⟩ : ∃ p, n = p + 1 := ⟨n - 1, by omega⟩
      obtain ⟨g, off, y, rfl, hg0, hg, hd, hy, hc⟩ := at_I hxs (show p < p + 1 by omega)
      have hrev := rev_snoc (by have := hl.out; omega) hy
      have hyok : Sw.mixOk y = true := List.all_eq_true.1 hall y (List.mem_of_getElem? hy)
      rw [hrev]
      have Hy := Lib.hid hy
      clear hd hy hrev
      have w1 : IntKind.i64.wrap ((p : Int) + 1 - 1) = p := by rw [IntWalk.i64_in _ (by omega)]; omega
      have tp : (p : Int) < (p : Int) + 1 := by omega
      by_cases hmk' : m = k
      · subst hmk'
        cases kn with
        | true =>
          have hb1 : decide ((p : Int) < 0) = false := by simp
          go_enter Try.func173, Try.ntmps173
          go_wp2_with fail
          refine bodyPost_ret (v := .tuple #[.agg #[.int .i64 old, .int .i64 old], .bool false]) (by simp [results, Try.results173, go_sem, *]) rfl ?_
          exact ⟨old, old, by simp [Sw.grR], by simp [Sw.grR], hold, hold, ext_⟩
        | false =>
          have hb1 : decide ((p : Int) < 0) = false := by simp
          obtain ⟨g', off', z, hA', hg0', hg', _, hz', hc'⟩ := at_I hxs (show 0 < p + 1 by omega)
          cases hA'
          simp only [Nat.add_zero] at hc'
          have hzok : Sw.mixOk z = true := List.all_eq_true.1 hall z (List.mem_of_getElem? hz')
          have Hz := Lib.hid hz'; clear hz'
          have t0 : (0 : Int) < (p : Int) + 1 := by omega
          go_enter Try.func173, Try.ntmps173
          go_wp2_with fail
          (refine wp_name ?_; intro W0 hb0; have hst := xr hb0; (try simp only [zA, zC, zD, zN] at hst); obtain ⟨hc0, hf0, hz0⟩ := hst; have hLb : Lb W0 (w.heap.size) 2 := Lb.ex (by exact lbc_) hb0; go_region_held3 (fun w' => HeldB (w.heap.size) 2 W0 w') ((first | with_reducible assumption | with_reducible exact HeldB.start hLb | with_reducible exact HeldB.of (by assumption) (by assumption) | ((repeat (first | with_reducible refine HeldB.set ?_ (by first | exact Or.inl rfl | exact Or.inr (by simp only [zA, zC, zD, zN]; omega) | exact Or.inr (by omega)) | with_reducible refine HeldB.alloc ?_ _ | with_reducible refine HeldB.drew ?_)); (first | with_reducible assumption | with_reducible exact HeldB.refl hLb | with_reducible exact HeldB.of (by assumption) (by assumption) | with_reducible exact HeldB.ex (by assumption) (by assumption))))) (fail); all_goals (rename HeldB (w.heap.size) 2 W0 _ => hHx; have hb := HeldB.ch hHx; have hst := xc hb; (try simp only [zA, zC, zD, zN] at hst); obtain ⟨hc, hf, hz⟩ := hst; have hLb3 := HeldB.lb hHx; (repeat (first | with_reducible replace hLb3 := Lb.unset hLb3 | with_reducible replace hLb3 := Lb.undrew hLb3)); obtain ⟨hcb, hfb⟩ := Lb.rules hLb3; clear hHx))
          go_wp2_with fail
          refine bodyPost_ret (v := .tuple #[.agg #[.int .i64 z, .int .i64 z], .bool ((p : Int) == 0)]) (by simp [results, Try.results173, go_sem, *]) rfl ?_
          have e : Sw.grR m m old (y :: (xs.take p).reverse) false = if p = 0 then some (y, y) else none := by
            rw [Sw.grR, if_pos rfl]
            simp only [Bool.false_eq_true, if_false, List.reverse_eq_nil_iff, List.take_eq_nil_iff]
            by_cases hp : p = 0
            · simp [hp]
            · have : xs ≠ [] := by rintro rfl; have := hl.out; simp at this
              simp [hp, this]
          rw [e]
          by_cases hp : p = 0
          · subst hp
            have : z = y := by have h1 := Hy.out; have h2 := Hz.out; rw [h1] at h2; exact (Option.some.inj h2).symm
            subst this
            exact ⟨z, z, by simp, by simp, hzok, hzok, ext_⟩
          · exact ⟨z, z, by simp [hp], by simp [hp], hzok, hzok, ext_⟩
      · have h2 : 2 ≤ k := by omega
        have hs1 := Sw.split_lt h2
        have hs0 := Sw.split_pos k
        have hb : ((m : Int) == k) = false := by simp; omega
        have hb1 : decide ((p : Int) < 0) = false := by simp
        by_cases hms : m ≤ Sw.split k
        · go_enter Try.func173, Try.ntmps173
          go_wp2_with (first | (go_at_call 212; apply Calls.mono; apply iSplit_c; (first | assumption | omega); (first | assumption | omega); rintro E w' ⟨rfl, rfl⟩) | (go_at_call 173; apply Calls.mono; apply ih; omega; (apply Rs.at0; apply RI_take hxs; omega; (exact kf_)); omega; exact List.all_take hall; omega; omega; omega; rintro E w1 ⟨a, b, rfl, hr, ha, hb', hb⟩; have hst := xr hb; (try simp only [zA, zC, zD, zN] at hst); obtain ⟨hc, hf, hz⟩ := hst))
          (refine wp_name ?_; intro W0 hb0; have hst := xr hb0; (try simp only [zA, zC, zD, zN] at hst); obtain ⟨hc0, hf0, hz0⟩ := hst; have hLb : Lb W0 (w.heap.size) 2 := Lb.ex (by exact lbc_) hb0; go_region_held3 (fun w' => HeldB (w.heap.size) 2 W0 w') ((first | with_reducible assumption | with_reducible exact HeldB.start hLb | with_reducible exact HeldB.of (by assumption) (by assumption) | ((repeat (first | with_reducible refine HeldB.set ?_ (by first | exact Or.inl rfl | exact Or.inr (by simp only [zA, zC, zD, zN]; omega) | exact Or.inr (by omega)) | with_reducible refine HeldB.alloc ?_ _ | with_reducible refine HeldB.drew ?_)); (first | with_reducible assumption | with_reducible exact HeldB.refl hLb | with_reducible exact HeldB.of (by assumption) (by assumption) | with_reducible exact HeldB.ex (by assumption) (by assumption))))) ((go_at_call 213; apply Calls.mono; apply pair_c; (first | assumption | omega); (first | assumption | omega); rintro E w' ⟨rfl, rfl⟩)); all_goals (rename HeldB (w.heap.size) 2 W0 _ => hHx; have hb := HeldB.ch hHx; have hst := xc hb; (try simp only [zA, zC, zD, zN] at hst); obtain ⟨hc, hf, hz⟩ := hst; have hLb3 := HeldB.lb hHx; (repeat (first | with_reducible replace hLb3 := Lb.unset hLb3 | with_reducible replace hLb3 := Lb.undrew hLb3)); obtain ⟨hcb, hfb⟩ := Lb.rules hLb3; clear hHx))
          go_wp2_with fail
          refine bodyPost_ret (v := .tuple #[.agg #[.int .i64 a, .int .i64 (Sw.pair b y)], .bool (Sw.grR m (Sw.split k) old (xs.take p).reverse kn).isSome]) (by simp [results, Try.results173, go_sem, *]) rfl ?_
          refine ⟨a, Sw.pair b y, ?_, ?_, ha, pair_ok _ _, ext_⟩
          · rw [Sw.grR, if_neg hmk', if_pos hms, Option.isSome_map]
          · intro r hr'
            rw [Sw.grR, if_neg hmk', if_pos hms, Option.map_eq_some_iff] at hr'
            obtain ⟨q, hq, rfl⟩ := hr'
            rw [hr q hq]
        · have y0 : IntKind.i64.wrap ((m : Int) - ↑(Sw.split k)) = ((m - Sw.split k : Nat) : Int) := by rw [IntWalk.i64_in _ (by omega)]; omega
          have y1 : IntKind.i64.wrap ((k : Int) - ↑(Sw.split k)) = ((k - Sw.split k : Nat) : Int) := by rw [IntWalk.i64_in _ (by omega)]; omega
          go_enter Try.func173, Try.ntmps173
          go_wp2_with (first | (go_at_call 212; apply Calls.mono; apply iSplit_c; (first | assumption | omega); (first | assumption | omega); rintro E w' ⟨rfl, rfl⟩) | (go_at_call 173; apply Calls.mono; apply ih; omega; (apply Rs.at0; apply RI_take hxs; omega; (exact kf_)); omega; exact List.all_take hall; omega; omega; omega; rintro E w1 ⟨a, b, rfl, hr, ha, hb', hb⟩; have hst := xr hb; (try simp only [zA, zC, zD, zN] at hst); obtain ⟨hc, hf, hz⟩ := hst))
          (refine wp_name ?_; intro W0 hb0; have hst := xr hb0; (try simp only [zA, zC, zD, zN] at hst); obtain ⟨hc0, hf0, hz0⟩ := hst; have hLb : Lb W0 (w.heap.size) 2 := Lb.ex (by exact lbc_) hb0; go_region_held3 (fun w' => HeldB (w.heap.size) 2 W0 w') ((first | with_reducible assumption | with_reducible exact HeldB.start hLb | with_reducible exact HeldB.of (by assumption) (by assumption) | ((repeat (first | with_reducible refine HeldB.set ?_ (by first | exact Or.inl rfl | exact Or.inr (by simp only [zA, zC, zD, zN]; omega) | exact Or.inr (by omega)) | with_reducible refine HeldB.alloc ?_ _ | with_reducible refine HeldB.drew ?_)); (first | with_reducible assumption | with_reducible exact HeldB.refl hLb | with_reducible exact HeldB.of (by assumption) (by assumption) | with_reducible exact HeldB.ex (by assumption) (by assumption))))) ((go_at_call 213; apply Calls.mono; apply pair_c; (first | assumption | omega); (first | assumption | omega); rintro E w' ⟨rfl, rfl⟩)); all_goals (rename HeldB (w.heap.size) 2 W0 _ => hHx; have hb := HeldB.ch hHx; have hst := xc hb; (try simp only [zA, zC, zD, zN] at hst); obtain ⟨hc, hf, hz⟩ := hst; have hLb3 := HeldB.lb hHx; (repeat (first | with_reducible replace hLb3 := Lb.unset hLb3 | with_reducible replace hLb3 := Lb.undrew hLb3)); obtain ⟨hcb, hfb⟩ := Lb.rules hLb3; clear hHx))
          go_wp2_with fail
          refine bodyPost_ret (v := .tuple #[.agg #[.int .i64 (Sw.pair y a), .int .i64 (Sw.pair y b)], .bool (Sw.grR (m - Sw.split k) (k - Sw.split k) old (xs.take p).reverse false).isSome]) (by simp [results, Try.results173, go_sem, *]) rfl ?_
          refine ⟨Sw.pair y a, Sw.pair y b, ?_, ?_, pair_ok _ _, pair_ok _ _, ext_⟩
          · rw [Sw.grR, if_neg hmk', if_neg hms, Option.isSome_map]
          · intro r hr'
            rw [Sw.grR, if_neg hmk', if_neg hms, Option.map_eq_some_iff] at hr'
            obtain ⟨q, hq, rfl⟩ := hr'
            rw [hr q hq]
end Go.Proofs.Ytncoiknpkebgoaa

namespace Go.Proofs.Ytncoiknpkebgoaa
set_option maxRecDepth 100000
set_option linter.unusedSimpArgs false
set_option linter.unusedVariables false
open Go.RowKit Go
set_option maxHeartbeats 400000

theorem iConCheck_c (m old nn r : Int) (A : Option Addr) (c n : Nat) (xs : List Int) (w : World) (hxs : RI w 0 A c n xs) : Calls Try.prog 96 #[.int .i64 m, .int .i64 old, .int .i64 nn, .int .i64 r, .slice A n c] w fun E w' => E = .returned (.bool (Sw.conCheck m old nn r xs)) ∧ Ex w w' := by
  have hl := Lib.hid hxs.1
  by_cases hg : (Sw.inR nn 1 40 && Sw.inR m 1 nn && Sw.mixOk old && Sw.mixOk r && Sw.treOk xs) = true
  · have hg' := hg
    simp only [Bool.and_eq_true] at hg'
    obtain ⟨⟨⟨⟨g1, g2⟩, g3⟩, g4⟩, g5⟩ := hg'
    have b1 : 1 ≤ nn ∧ nn ≤ 40 := by simpa [Sw.inR] using g1
    have b2 : 1 ≤ m ∧ m ≤ nn := by simpa [Sw.inR] using g2
    have h40 : n ≤ 40 := by have := hl.out; simp [Sw.treOk] at g5; omega
    have hall : xs.all Sw.mixOk = true := by simp only [Sw.treOk, Bool.and_eq_true] at g5; exact g5.2
    obtain ⟨k, rfl⟩ := Int.eq_ofNat_of_zero_le (show 0 ≤ nn by omega)
    obtain ⟨j, rfl⟩ := Int.eq_ofNat_of_zero_le (show 0 ≤ m by omega)
    have e : Sw.conCheck j old k r xs = (Sw.grR j k old xs.reverse true == some (old, r)) := by
      rw [Sw.conCheck, hg]; rfl
    have He := Lib.hid e
    clear e hg
    go_enter Try.func96, Try.ntmps96
    go_wp2_with (first | (go_at_call 113; refine (in_c _ _ _ _).mono ?_; rintro E w' ⟨rfl, rfl⟩) | (go_at_call 95; refine (iMixOk_c _ _).mono ?_; rintro E w' ⟨rfl, rfl⟩) | (go_at_call 114; apply Calls.mono; apply iTreOk_c; ((first | (apply Rs.at0; assumption) | (apply Ow.rs0; assumption)); exact kf_); rintro E w' ⟨rfl, rfl⟩) | (go_at_call 173; apply Calls.mono; apply (iGrown_c 40); omega; ((first | (apply Rs.at0; assumption) | (apply Ow.rs0; assumption)); exact kf_); omega; exact hall; exact g3; omega; omega; omega; rintro E w1 ⟨a, b, rfl, hr, ha, hb', hb⟩; have Hr := Lib.hid hr; clear hr; cases hs : Sw.grR j k old xs.reverse true))
    all_goals (go_ret; refine ⟨ret_b ?_, ext_⟩; rw [He.out, hs])
    · rfl
    all_goals
      obtain rfl := Hr.out _ hs
      rw [Bool.eq_iff_iff]
      simp [*]
  · have hg' : (Sw.inR nn 1 40 && Sw.inR m 1 nn && Sw.mixOk old && Sw.mixOk r && Sw.treOk xs) = false := by simpa using hg
    have e : Sw.conCheck m old nn r xs = false := by rw [Sw.conCheck, hg']; rfl
    rw [e]
    have Hg := Lib.hid hg'
    clear e hg hg'
    cases g1 : Sw.inR nn 1 40
    case false => go_enter Try.func96, Try.ntmps96; go_wp2_with (first | (go_at_call 113; refine (in_c _ _ _ _).mono ?_; rintro E w' ⟨rfl, rfl⟩)); go_ret; exact ⟨rfl, ext_⟩
    cases g2 : Sw.inR m 1 nn
    case false => go_enter Try.func96, Try.ntmps96; go_wp2_with (first | (go_at_call 113; refine (in_c _ _ _ _).mono ?_; rintro E w' ⟨rfl, rfl⟩)); go_ret; exact ⟨rfl, ext_⟩
    cases g3 : Sw.mixOk old
    case false => go_enter Try.func96, Try.ntmps96; go_wp2_with (first | (go_at_call 113; refine (in_c _ _ _ _).mono ?_; rintro E w' ⟨rfl, rfl⟩) | (go_at_call 95; refine (iMixOk_c _ _).mono ?_; rintro E w' ⟨rfl, rfl⟩)); go_ret; exact ⟨rfl, ext_⟩
    cases g4 : Sw.mixOk r
    case false => go_enter Try.func96, Try.ntmps96; go_wp2_with (first | (go_at_call 113; refine (in_c _ _ _ _).mono ?_; rintro E w' ⟨rfl, rfl⟩) | (go_at_call 95; refine (iMixOk_c _ _).mono ?_; rintro E w' ⟨rfl, rfl⟩)); go_ret; exact ⟨rfl, ext_⟩
    cases g5 : Sw.treOk xs
    case false => go_enter Try.func96, Try.ntmps96; go_wp2_with (first | (go_at_call 113; refine (in_c _ _ _ _).mono ?_; rintro E w' ⟨rfl, rfl⟩) | (go_at_call 95; refine (iMixOk_c _ _).mono ?_; rintro E w' ⟨rfl, rfl⟩) | (go_at_call 114; apply Calls.mono; apply iTreOk_c; ((first | (apply Rs.at0; assumption) | (apply Ow.rs0; assumption)); exact kf_); rintro E w' ⟨rfl, rfl⟩)); go_ret; exact ⟨rfl, ext_⟩
    have := Hg.out
    rw [g1, g2, g3, g4, g5] at this
    cases this

theorem iCloneInts_c (A : Option Addr) (c n : Nat) (xs : List Int) (w : World) (hxs : RI w 0 A c n xs) (hn : n ≤ 4194304) : Calls Try.prog 102 #[.slice A n c] w fun E w' => ∃ A' c', E = .returned (.slice A' n c') ∧ OwI w' w.heap.size A' c' n xs ∧ Ex w w' := by
  go_enter Try.func102, Try.ntmps102
  go_wp2_with (at_builtin; apply wpList_app (lo := w.heap.size) el_I one_I rfl rfl rfl rfl; (first | assumption | exact Ow.nil _ _ | (apply Ow.keep; assumption; exact kf_) | (refine Ow.new [] (by (first | rfl | (simp only [zA, zC, zD, zN]; done) | omega)) rfl rfl (fun _ => rfl) (by exact sz_) (by omega))); (first | ((first | (apply Rs.at0; assumption) | (apply Ow.rs0; assumption)); exact kf_)); omega; exact sz_; intro A1 c1 w2 ho1 hch1 hat1 hex1 hlow1; have hb := hex1 (fun _ => False) w (by exact ext_) (by exact sz_); have hz := hch1.size; (try simp only [zA, zC, zD, zN] at hz); obtain ⟨hc, hf⟩ := low_rules hlow1; clear hlow1 hex1)
  go_ret
  rw [Nat.zero_add, List.nil_append] at ho1
  exact ⟨A1, c1, rfl, ho1, ext_⟩
end Go.Proofs.Ytncoiknpkebgoaa

namespace Go.Proofs.Ytncoiknpkebgoaa
set_option maxRecDepth 100000
set_option linter.unusedSimpArgs false
set_option linter.unusedVariables false
open Go.RowKit Go
set_option maxHeartbeats 400000

theorem iHedFollows_c (o t : Sw.Head) (A : Option Addr) (c n : Nat) (xs : List Int) (w : World) (hxs : RI w 0 A c n xs) : Calls Try.prog 25 #[.agg #[.int .i64 o.size, .int .i64 o.log, .int .i64 o.own], .agg #[.int .i64 t.size, .int .i64 t.log, .int .i64 t.own], .slice A n c] w fun E w' => E = .returned (.bool (Sw.hedFollows o t xs)) ∧ Ex w w' := by
  have hl := Lib.hid hxs.1
  cases g1 : Sw.hedOk o
  case false =>
    go_enter Try.func25, Try.ntmps25; go_wp2_with (first | (go_at_call 92; refine (iHedOk_c _ _).mono ?_; rintro E w1 ⟨rfl, hb⟩; have hst := xr hb; (try simp only [zA, zC, zD, zN] at hst); obtain ⟨hc, hf, hz⟩ := hst)); go_ret; exact ⟨ret_b (by simp [Sw.hedFollows, g1]), ext_⟩
  cases g2 : Sw.hedOk t
  case false =>
    go_enter Try.func25, Try.ntmps25; go_wp2_with (first | (go_at_call 92; refine (iHedOk_c _ _).mono ?_; rintro E w1 ⟨rfl, hb⟩; have hst := xr hb; (try simp only [zA, zC, zD, zN] at hst); obtain ⟨hc, hf, hz⟩ := hst)); go_ret; exact ⟨ret_b (by simp [Sw.hedFollows, g2]), ext_⟩
  by_cases g3 : o.size ≤ t.size
  case neg =>
    have e : Sw.hedFollows o t xs = false := by simp [Sw.hedFollows, g3]
    rw [e]; clear e
    have g3' : t.size < o.size := by omega
    go_enter Try.func25, Try.ntmps25; go_wp2_with (first | (go_at_call 92; refine (iHedOk_c _ _).mono ?_; rintro E w1 ⟨rfl, hb⟩; have hst := xr hb; (try simp only [zA, zC, zD, zN] at hst); obtain ⟨hc, hf, hz⟩ := hst)); go_ret; exact ⟨rfl, ext_⟩
  have n1 := g1; have n2 := g2
  simp only [Sw.hedOk, Sw.inR, Bool.and_eq_true, decide_eq_true_eq] at n1 n2
  obtain ⟨⟨⟨o0, _⟩, _⟩, _⟩ := n1
  obtain ⟨⟨⟨t0, _⟩, _⟩, _⟩ := n2
  have g3' : decide (t.size < o.size) = false := by simp; omega
  by_cases g4 : o.size = 0
  · have z0 : (o.size == 0) = true := by simp [g4]
    have hle : decide (o.size ≤ t.size) = true := by simp [g3]
    have e : Sw.hedFollows o t xs = ((decide (o.size ≠ t.size) || decide (o = t)) && xs.isEmpty) := by rw [Sw.hedFollows, g1, g2, hle, if_pos g4]; simp
    have He := Lib.hid e
    have G4 := Lib.hid g4
    clear e g4
    by_cases hn : n = 0
    · have hx : xs = [] := List.eq_nil_of_length_eq_zero (by have := hl.out; omega)
      subst hx
      subst hn
      clear hl
      go_enter Try.func25, Try.ntmps25
      go_wp2_with (first | (go_at_call 92; refine (iHedOk_c _ _).mono ?_; rintro E w1 ⟨rfl, hb⟩; have hst := xr hb; (try simp only [zA, zC, zD, zN] at hst); obtain ⟨hc, hf, hz⟩ := hst))
      all_goals (go_ret; refine ⟨ret_b ?_, ext_⟩; rw [He.out]; have g4 := G4.out; clear He G4; go_tidy; simp only [head_ext])
      all_goals (first | (simp [*]; done) | (simp [*]; omega) | (simp_all; done) | (simp_all; omega))
    · have hb : ((n : Int) == 0) = false := by simp; omega
      have hx : xs.isEmpty = false := by
        cases xs with
        | nil => exact absurd hl.out hn
        | cons _ _ => rfl
      go_enter Try.func25, Try.ntmps25
      go_wp2_with (first | (go_at_call 92; refine (iHedOk_c _ _).mono ?_; rintro E w1 ⟨rfl, hb⟩; have hst := xr hb; (try simp only [zA, zC, zD, zN] at hst); obtain ⟨hc, hf, hz⟩ := hst))
      all_goals (go_ret; exact ⟨ret_b (by rw [He.out, hx]; simp), ext_⟩)
  · have z0 : (o.size == 0) = false := by simp [g4]
    have hle : decide (o.size ≤ t.size) = true := by simp [g3]
    have e : Sw.hedFollows o t xs = ((decide (o.size ≠ t.size) || decide (o = t)) && Sw.conCheck o.size o.log t.size t.log xs) := by rw [Sw.hedFollows, g1, g2, hle, if_neg g4]; simp
    have He := Lib.hid e
    clear e g4
    go_enter Try.func25, Try.ntmps25
    go_wp2_with (first | (go_at_call 92; refine (iHedOk_c _ _).mono ?_; rintro E w1 ⟨rfl, hb⟩; have hst := xr hb; (try simp only [zA, zC, zD, zN] at hst); obtain ⟨hc, hf, hz⟩ := hst) | (go_at_call 96; apply Calls.mono; apply iConCheck_c; ((first | (apply Rs.at0; assumption) | (apply Ow.rs0; assumption)); exact kf_); rintro E w1 ⟨rfl, hb⟩; have hst := xr hb; (try simp only [zA, zC, zD, zN] at hst); obtain ⟨hc, hf, hz⟩ := hst))
    all_goals (go_ret; refine ⟨ret_b ?_, ext_⟩; rw [He.out]; clear He; go_tidy; simp only [head_ext])
    all_goals (first | (simp [*]; done) | (simp [*]; omega) | (simp_all; done) | (simp_all; omega))
end Go.Proofs.Ytncoiknpkebgoaa

namespace Go.Proofs.Ytncoiknpkebgoaa
set_option maxRecDepth 100000
set_option linter.unusedSimpArgs false
set_option linter.unusedVariables false
open Go.RowKit Go
set_option maxHeartbeats 400000

theorem iGatOk_c (t : Sw.Head) (A : Option Addr) (c n : Nat) (xs : List Int) (w : World) (hxs : RI w 0 A c n xs) : Calls Try.prog 22 #[.agg #[.int .i64 t.size, .int .i64 t.log, .int .i64 t.own, .slice A n c]] w fun E w' => E = .returned (.bool (Sw.gatOk ⟨t, xs⟩)) ∧ Ex w w' := by
  have hl := Lib.hid hxs.1
  have hcap := hxs.2.le
  have hbig : n ≤ 9223372036854775807 := by have := hxs.2.cap; unfold maxLen at this; omega
  have e : Sw.gatOk ⟨t, xs⟩ = (Sw.hedOk t && Sw.risesFrom (-1) xs) := rfl
  rw [e]; clear e
  go_enter Try.func22, Try.ntmps22
  go_wp2_with fail
  go_loopw [8] (fun i wr => ∃ (k : Nat) (p : Int), k ≤ n ∧ i = .int .i64 k ∧ Ex (w.alloc (.cells #[.int .i64 t.size, .int .i64 t.log, .int .i64 t.own, .slice A n c] 50)) wr ∧ (k = 0 ∧ p = -1 ∨ ∃ j, k = j + 1 ∧ xs[j]? = some p ∧ 0 ≤ p) ∧ Sw.risesFrom (-1) xs = Sw.risesFrom p (xs.drop k)) (fun i _ => n - (intOf i).toNat)
  case atStart => exact ⟨0, -1, Nat.zero_le _, rfl, Ch.refl _ _, .inl ⟨rfl, rfl⟩, rfl⟩
  case round =>
    obtain ⟨k, p, hk, rfl, hb2, hp, hrel⟩ := hrel
    have hst := Ex.rules hb2 rfl
    simp only [World.size_alloc] at hst
    obtain ⟨hc2, hf2, hz2⟩ := hst
    by_cases hlt : k < n
    · obtain ⟨g, off, y, rfl, hg0, hg, hd, hy, hcy⟩ := at_I hxs hlt
      rw [hd, Sw.risesFrom] at hrel
      have Hrel := Lib.hid hrel
      have Hy := Lib.hid hy
      clear hd hy hrel
      cases hin : Sw.inR y 0 7
      case false =>
        go_wp2_with (first | (go_at_call 91; refine (isTicket_c _ _).mono ?_; rintro E w' ⟨rfl, rfl⟩))
        go_ret
        exact ⟨ret_b (by rw [Hrel.out, hin]; simp), ext_⟩
      have hy7 : 0 ≤ y ∧ y ≤ 7 := by simpa [Sw.inR] using hin
      obtain ⟨y0, y7⟩ := hy7
      rcases hp with ⟨rfl, rfl⟩ | ⟨j, rfl, hj, hj0⟩
      · simp only [Nat.add_zero] at hcy
        go_wp2_with (first | (go_at_call 91; refine (isTicket_c _ _).mono ?_; rintro E w' ⟨rfl, rfl⟩))
        go_roundw
        case rel => exact ⟨0 + 1, y, by omega, by go_num, ext_, .inr ⟨0, rfl, Hy.out, y0⟩, by rw [Hrel.out, hin]; simp; omega⟩
        case measure => simp [intOf]; omega
      · obtain ⟨g', off', p', hA', _, _, _, hp', hcp⟩ := at_I hxs (show j < n by omega)
        cases hA'
        obtain rfl : p' = p := by rw [hj] at hp'; exact (Option.some.inj hp').symm
        clear hj hp'
        have t1 : ((j : Int) + 1).toNat = j + 1 := by omega
        have t2 : IntKind.i64.wrap ((j : Int) + 1 - 1) = j := by rw [IntWalk.i64_in _ (by omega)]; omega
        have t3 : (0 : Int) ≤ (j : Int) + 1 := by omega
        have t4 : (j : Int) + 1 < (n : Int) := by omega
        have t5 : (j : Int) < (n : Int) := by omega
        have t6 : (0 : Int) < (j : Int) + 1 := by omega
        by_cases hpy : p' < y
        · have hpy' : decide (y ≤ p') = false := by simp; omega
          go_wp2_with (first | (go_at_call 91; refine (isTicket_c _ _).mono ?_; rintro E w' ⟨rfl, rfl⟩))
          go_roundw
          case rel => exact ⟨j + 1 + 1, y, by omega, by go_num, ext_, .inr ⟨j + 1, rfl, Hy.out, y0⟩, by rw [Hrel.out, hin]; simp [hpy]⟩
          case measure => simp [intOf]; omega
        · have hpy' : y ≤ p' := by omega
          go_wp2_with (first | (go_at_call 91; refine (isTicket_c _ _).mono ?_; rintro E w' ⟨rfl, rfl⟩))
          go_ret
          have hlt' : decide (p' < y) = false := by rw [decide_eq_false_iff_not]; omega
          exact ⟨ret_b (by rw [Hrel.out, hin, hlt']; simp), ext_⟩
    · have Hrel := Lib.hid hrel; clear hrel hp
      go_wp2_with (first | (go_at_call 92; refine (iHedOk_c _ _).mono ?_; rintro E w1 ⟨rfl, hb⟩; have hst := xr hb; (try simp only [zA, zC, zD, zN] at hst); obtain ⟨hc, hf, hz⟩ := hst))
      go_ret
      refine ⟨ret_b ?_, ext_⟩
      have hh := Hrel.out
      rw [List.drop_of_length_le (by have := hl.out; omega)] at hh
      rw [hh]; simp [Sw.risesFrom]

theorem iClone_c (t : Sw.Head) (A : Option Addr) (c n : Nat) (xs : List Int) (w : World) (hxs : RI w 0 A c n xs) (hn : n ≤ 4194304) : Calls Try.prog 88 #[.agg #[.int .i64 t.size, .int .i64 t.log, .int .i64 t.own, .slice A n c]] w fun E w' => ∃ A' c', E = .returned (.agg #[.int .i64 t.size, .int .i64 t.log, .int .i64 t.own, .slice A' n c']) ∧ OwI w' w.heap.size A' c' n xs ∧ Ex w w' := by
  go_enter Try.func88, Try.ntmps88
  go_wp2_with fail
  (refine wp_name ?_; intro W0 hb0; have hst := xr hb0; (try simp only [zA, zC, zD, zN] at hst); obtain ⟨hc0, hf0, hz0⟩ := hst; have hLb : Lb W0 (w.heap.size + 1) 4 := Lb.ex (by exact lbc_) hb0; go_region_held3 (fun w' => HeldB (w.heap.size + 1) 4 W0 w') ((first | with_reducible assumption | with_reducible exact HeldB.start hLb | with_reducible exact HeldB.of (by assumption) (by assumption) | ((repeat (first | with_reducible refine HeldB.set ?_ (by first | exact Or.inl rfl | exact Or.inr (by simp only [zA, zC, zD, zN]; omega) | exact Or.inr (by omega)) | with_reducible refine HeldB.alloc ?_ _ | with_reducible refine HeldB.drew ?_)); (first | with_reducible assumption | with_reducible exact HeldB.refl hLb | with_reducible exact HeldB.of (by assumption) (by assumption) | with_reducible exact HeldB.ex (by assumption) (by assumption))))) ((go_at_call 102; apply Calls.mono; apply iCloneInts_c; ((first | (apply Rs.at0; assumption) | (apply Ow.rs0; assumption)); exact kf_); (first | assumption | omega); rintro E w1 ⟨A', c', rfl, ho1, hb⟩; have hst := xr hb; (try simp only [zA, zC, zD, zN] at hst); obtain ⟨hc, hf, hz⟩ := hst)); all_goals (rename HeldB (w.heap.size + 1) 4 W0 _ => hHx; have hb := HeldB.ch hHx; have hst := xc hb; (try simp only [zA, zC, zD, zN] at hst); obtain ⟨hc, hf, hz⟩ := hst; have hLb3 := HeldB.lb hHx; (repeat (first | with_reducible replace hLb3 := Lb.unset hLb3 | with_reducible replace hLb3 := Lb.undrew hLb3)); obtain ⟨hcb, hfb⟩ := Lb.rules hLb3; clear hHx))
  go_wp2
  refine bodyPost_ret (v := .agg #[.int .i64 t.size, .int .i64 t.log, .int .i64 t.own, .slice A' n c']) (by simp [results, Try.results88, go_sem, *]) rfl ?_
  exact ⟨A', c', rfl, (ho1.keep (by (exact kf_))).less (by exact sz_), ext_⟩

theorem iGatSync_c (t u : Sw.Head) (A : Option Addr) (c n : Nat) (xs : List Int) (B : Option Addr) (d m : Nat) (ps : List Int) (w : World) (hxs : RI w 0 A c n xs) (hps : RI w 0 B d m ps) : Calls Try.prog 19 #[.agg #[.int .i64 t.size, .int .i64 t.log, .int .i64 t.own, .slice A n c], .agg #[.int .i64 u.size, .int .i64 u.log, .int .i64 u.own], .slice B m d] w fun E w' => ∃ A' c' n', E = .returned (.tuple #[.agg #[.int .i64 (Sw.gatSync ⟨t, xs⟩ u ps).1.head.size, .int .i64 (Sw.gatSync ⟨t, xs⟩ u ps).1.head.log, .int .i64 (Sw.gatSync ⟨t, xs⟩ u ps).1.head.own, .slice A' n' c'], .bool (Sw.gatSync ⟨t, xs⟩ u ps).2]) ∧ OwI w' w.heap.size A' c' n' (Sw.gatSync ⟨t, xs⟩ u ps).1.done ∧ Ex w w' := by
  have hl := Lib.hid hxs.1
  cases g1 : Sw.gatOk ⟨t, xs⟩
  case false =>
    have e : Sw.gatSync ⟨t, xs⟩ u ps = (Sw.gateZ, false) := by simp [Sw.gatSync, g1]
    have He := Lib.hid e; clear e
    go_enter Try.func19, Try.ntmps19
    go_wp2_with (first | (go_at_call 22; apply Calls.mono; apply iGatOk_c; ((first | (apply Rs.at0; assumption) | (apply Ow.rs0; assumption)); exact kf_); rintro E w1 ⟨rfl, hb⟩; have hst := xr hb; (try simp only [zA, zC, zD, zN] at hst); obtain ⟨hc, hf, hz⟩ := hst))
    refine bodyPost_ret (v := .tuple #[.agg #[.int .i64 0, .int .i64 0, .int .i64 0, .slice none 0 0], .bool false]) (by simp [results, Try.results19, go_sem, *]) rfl ?_
    exact ⟨none, 0, 0, by rw [He.out]; rfl, by rw [He.out]; exact Ow.nil _ _, ext_⟩
  have h8 : n ≤ 8 := by have := gatOk_len g1; have := hl.out; simp at *; omega
  cases g2 : Sw.hedFollows t u ps
  case false =>
    have e : Sw.gatSync ⟨t, xs⟩ u ps = (⟨t, xs⟩, false) := by simp [Sw.gatSync, g1, g2]
    have He := Lib.hid e; clear e
    go_enter Try.func19, Try.ntmps19
    go_wp2_with (first | (go_at_call 22; apply Calls.mono; apply iGatOk_c; ((first | (apply Rs.at0; assumption) | (apply Ow.rs0; assumption)); exact kf_); rintro E w1 ⟨rfl, hb⟩; have hst := xr hb; (try simp only [zA, zC, zD, zN] at hst); obtain ⟨hc, hf, hz⟩ := hst) | (go_at_call 88; apply Calls.mono; apply iClone_c; ((first | (apply Rs.at0; assumption) | (apply Ow.rs0; assumption)); exact kf_); (first | assumption | omega); rintro E w1 ⟨A', c', rfl, hr, hb⟩; have hst := xr hb; (try simp only [zA, zC, zD, zN] at hst); obtain ⟨hc, hf, hz⟩ := hst) | (go_at_call 25; apply Calls.mono; apply iHedFollows_c; ((first | (apply Rs.at0; assumption) | (apply Ow.rs0; assumption)); exact kf_); rintro E w1 ⟨rfl, hb⟩; have hst := xr hb; (try simp only [zA, zC, zD, zN] at hst); obtain ⟨hc, hf, hz⟩ := hst))
    refine bodyPost_ret (v := .tuple #[.agg #[.int .i64 t.size, .int .i64 t.log, .int .i64 t.own, .slice A' n c'], .bool false]) (by simp [results, Try.results19, go_sem, *]) rfl ?_
    exact ⟨A', c', n, by rw [He.out], by rw [He.out]; exact (hr.keep (by (exact kf_))).less (by exact sz_), ext_⟩
  have e : Sw.gatSync ⟨t, xs⟩ u ps = (⟨u, xs⟩, true) := by simp [Sw.gatSync, g1, g2]
  have He := Lib.hid e; clear e
  go_enter Try.func19, Try.ntmps19
  go_wp2_with (first | (go_at_call 22; apply Calls.mono; apply iGatOk_c; ((first | (apply Rs.at0; assumption) | (apply Ow.rs0; assumption)); exact kf_); rintro E w1 ⟨rfl, hb⟩; have hst := xr hb; (try simp only [zA, zC, zD, zN] at hst); obtain ⟨hc, hf, hz⟩ := hst) | (go_at_call 88; apply Calls.mono; apply iClone_c; ((first | (apply Rs.at0; assumption) | (apply Ow.rs0; assumption)); exact kf_); (first | assumption | omega); rintro E w1 ⟨A', c', rfl, hr, hb⟩; have hst := xr hb; (try simp only [zA, zC, zD, zN] at hst); obtain ⟨hc, hf, hz⟩ := hst) | (go_at_call 25; apply Calls.mono; apply iHedFollows_c; ((first | (apply Rs.at0; assumption) | (apply Ow.rs0; assumption)); exact kf_); rintro E w1 ⟨rfl, hb⟩; have hst := xr hb; (try simp only [zA, zC, zD, zN] at hst); obtain ⟨hc, hf, hz⟩ := hst))
  refine bodyPost_ret (v := .tuple #[.agg #[.int .i64 u.size, .int .i64 u.log, .int .i64 u.own, .slice A' n c'], .bool true]) (by simp [results, Try.results19, go_sem, *]) rfl ?_
  exact ⟨A', c', n, by rw [He.out], by rw [He.out]; exact (hr.keep (by (exact kf_))).less (by exact sz_), ext_⟩
end Go.Proofs.Ytncoiknpkebgoaa

namespace Go.Proofs.Ytncoiknpkebgoaa
set_option maxRecDepth 100000
set_option linter.unusedSimpArgs false
set_option linter.unusedVariables false
open Go.RowKit Go
set_option maxHeartbeats 400000

theorem sConCheck_c (m old nn r : Int) (A : Option Addr) (c n : Nat) (xs : List Int) (w : World) (hxs : RI w 0 A c n xs) : Calls Try.prog 171 #[.int .i64 m, .int .i64 old, .int .i64 nn, .int .i64 r, .slice A n c] w fun E w' => E = .returned (.bool (Sw.conCheck m old nn r xs)) ∧ Ex w w' := by
  have hl := Lib.hid hxs.1
  by_cases hg : (Sw.inR nn 1 40 && Sw.inR m 1 nn && Sw.mixOk old && Sw.mixOk r && Sw.treOk xs) = true
  · have hg' := hg
    simp only [Bool.and_eq_true] at hg'
    obtain ⟨⟨⟨⟨g1, g2⟩, g3⟩, g4⟩, g5⟩ := hg'
    have b1 : 1 ≤ nn ∧ nn ≤ 40 := by simpa [Sw.inR] using g1
    have b2 : 1 ≤ m ∧ m ≤ nn := by simpa [Sw.inR] using g2
    have h40 : n ≤ 40 := by have := hl.out; simp [Sw.treOk] at g5; omega
    have hall : xs.all Sw.mixOk = true := by simp only [Sw.treOk, Bool.and_eq_true] at g5; exact g5.2
    obtain ⟨k, rfl⟩ := Int.eq_ofNat_of_zero_le (show 0 ≤ nn by omega)
    obtain ⟨j, rfl⟩ := Int.eq_ofNat_of_zero_le (show 0 ≤ m by omega)
    have e : Sw.conCheck j old k r xs = (Sw.grR j k old xs.reverse true == some (old, r)) := by
      rw [Sw.conCheck, hg]; rfl
    have He := Lib.hid e
    clear e hg
    go_enter Try.func171, Try.ntmps171
    go_wp2_with (first | (go_at_call 94; refine (l1In_c _ _ _ _).mono ?_; rintro E w' ⟨rfl, rfl⟩) | (go_at_call 172; refine (sMixOk_c _ _).mono ?_; rintro E w' ⟨rfl, rfl⟩) | (go_at_call 149; apply Calls.mono; apply sTreOk_c; ((first | (apply Rs.at0; assumption) | (apply Ow.rs0; assumption)); exact kf_); rintro E w' ⟨rfl, rfl⟩) | (go_at_call 211; apply Calls.mono; apply (sBoth_c 40); omega; ((first | (apply Rs.at0; assumption) | (apply Ow.rs0; assumption)); exact kf_); omega; exact hall; exact g3; omega; omega; omega; rintro E w1 ⟨a, b, rfl, hr, ha, hb', hb⟩; have Hr := Lib.hid hr; clear hr; cases hs : Sw.grR j k old xs.reverse true))
    all_goals (go_ret; refine ⟨ret_b ?_, ext_⟩; rw [He.out, hs])
    · rfl
    all_goals
      obtain rfl := Hr.out _ hs
      rw [Bool.eq_iff_iff]
      simp [*]
  · have hg' : (Sw.inR nn 1 40 && Sw.inR m 1 nn && Sw.mixOk old && Sw.mixOk r && Sw.treOk xs) = false := by simpa using hg
    have e : Sw.conCheck m old nn r xs = false := by rw [Sw.conCheck, hg']; rfl
    rw [e]
    have Hg := Lib.hid hg'
    clear e hg hg'
    cases g1 : Sw.inR nn 1 40
    case false => go_enter Try.func171, Try.ntmps171; go_wp2_with (first | (go_at_call 94; refine (l1In_c _ _ _ _).mono ?_; rintro E w' ⟨rfl, rfl⟩)); go_ret; exact ⟨rfl, ext_⟩
    cases g2 : Sw.inR m 1 nn
    case false => go_enter Try.func171, Try.ntmps171; go_wp2_with (first | (go_at_call 94; refine (l1In_c _ _ _ _).mono ?_; rintro E w' ⟨rfl, rfl⟩)); go_ret; exact ⟨rfl, ext_⟩
    cases g3 : Sw.mixOk old
    case false => go_enter Try.func171, Try.ntmps171; go_wp2_with (first | (go_at_call 94; refine (l1In_c _ _ _ _).mono ?_; rintro E w' ⟨rfl, rfl⟩) | (go_at_call 172; refine (sMixOk_c _ _).mono ?_; rintro E w' ⟨rfl, rfl⟩)); go_ret; exact ⟨rfl, ext_⟩
    cases g4 : Sw.mixOk r
    case false => go_enter Try.func171, Try.ntmps171; go_wp2_with (first | (go_at_call 94; refine (l1In_c _ _ _ _).mono ?_; rintro E w' ⟨rfl, rfl⟩) | (go_at_call 172; refine (sMixOk_c _ _).mono ?_; rintro E w' ⟨rfl, rfl⟩)); go_ret; exact ⟨rfl, ext_⟩
    cases g5 : Sw.treOk xs
    case false => go_enter Try.func171, Try.ntmps171; go_wp2_with (first | (go_at_call 94; refine (l1In_c _ _ _ _).mono ?_; rintro E w' ⟨rfl, rfl⟩) | (go_at_call 172; refine (sMixOk_c _ _).mono ?_; rintro E w' ⟨rfl, rfl⟩) | (go_at_call 149; apply Calls.mono; apply sTreOk_c; ((first | (apply Rs.at0; assumption) | (apply Ow.rs0; assumption)); exact kf_); rintro E w' ⟨rfl, rfl⟩)); go_ret; exact ⟨rfl, ext_⟩
    have := Hg.out
    rw [g1, g2, g3, g4, g5] at this
    cases this

theorem sHedAt_c (A : Option Addr) (c n : Nat) (s : Int) (xs : List Sw.Ent) (w : World) (hxs : RE w 0 A c n xs) : Calls Try.prog 165 #[.slice A n c, .int .i64 s] w fun E w' => E = .returned (.tuple #[.agg #[.int .i64 ((Sw.hedAt xs s).getD Sw.headZ).size, .int .i64 ((Sw.hedAt xs s).getD Sw.headZ).log, .int .i64 ((Sw.hedAt xs s).getD Sw.headZ).own], .bool (Sw.hedAt xs s).isSome]) ∧ Ex w w' := by
  have hl := Lib.hid hxs.1
  have hcap := hxs.2.le
  have hbig : n ≤ 9223372036854775807 := by have := hxs.2.cap; unfold maxLen at this; omega
  cases h1 : Sw.inR s 0 n with
  | true =>
    have b1 : 0 ≤ s ∧ s ≤ n := by simpa [Sw.inR] using h1
    obtain ⟨k, rfl⟩ := Int.eq_ofNat_of_zero_le (show 0 ≤ s by omega)
    have z0 : (0 : Int) ≤ ↑k := by omega
    have z1 : (↑k : Int) ≤ ↑n := by omega
    have z2 : (↑k : Int) ≤ ↑c := by omega
    have e : Sw.hedAt xs k = Sw.hedOf (xs.take k) := by rw [Sw.hedAt, ← hl.out, h1]; rfl
    rw [e]
    clear e
    go_enter Try.func165, Try.ntmps165
    go_wp2_with (first | (go_at_call 94; refine (l1In_c _ _ _ _).mono ?_; rintro E w' ⟨rfl, rfl⟩) | (go_at_call 84; apply Calls.mono; apply sHedOf_c; (apply Rs.at0; apply Rs.take hxs (fun _ => rfl); omega; (exact kf_)); rintro E w1 ⟨rfl, hb⟩; have hst := xr hb; (try simp only [zA, zC, zD, zN] at hst); obtain ⟨hc, hf, hz⟩ := hst))
    refine bodyPost_ret (v := .tuple #[.agg #[.int .i64 ((Sw.hedOf (xs.take k)).getD Sw.headZ).size, .int .i64 ((Sw.hedOf (xs.take k)).getD Sw.headZ).log, .int .i64 ((Sw.hedOf (xs.take k)).getD Sw.headZ).own], .bool (Sw.hedOf (xs.take k)).isSome]) (by simp [results, Try.results165, go_sem, *]) rfl ?_
    exact ⟨rfl, ext_⟩
  | false =>
    have e : Sw.hedAt xs s = none := by rw [Sw.hedAt, ← hl.out, h1]; rfl
    rw [e]
    go_enter Try.func165, Try.ntmps165
    go_wp2_with (first | (go_at_call 94; refine (l1In_c _ _ _ _).mono ?_; rintro E w' ⟨rfl, rfl⟩))
    refine bodyPost_ret (v := .tuple #[.agg #[.int .i64 0, .int .i64 0, .int .i64 0], .bool false]) (by simp [results, Try.results165, go_sem, *]) rfl ?_
    exact ⟨rfl, ext_⟩

theorem sHedFollows_c (o t : Sw.Head) (A : Option Addr) (c n : Nat) (xs : List Int) (w : World) (hxs : RI w 0 A c n xs) : Calls Try.prog 90 #[.agg #[.int .i64 o.size, .int .i64 o.log, .int .i64 o.own], .agg #[.int .i64 t.size, .int .i64 t.log, .int .i64 t.own], .slice A n c] w fun E w' => E = .returned (.bool (Sw.hedFollows o t xs)) ∧ Ex w w' := by
  have hl := Lib.hid hxs.1
  cases g1 : Sw.hedOk o
  case false =>
    go_enter Try.func90, Try.ntmps90; go_wp2_with (first | (go_at_call 93; refine (sHedOk_c _ _).mono ?_; rintro E w1 ⟨rfl, hb⟩; have hst := xr hb; (try simp only [zA, zC, zD, zN] at hst); obtain ⟨hc, hf, hz⟩ := hst)); go_ret; exact ⟨ret_b (by simp [Sw.hedFollows, g1]), ext_⟩
  cases g2 : Sw.hedOk t
  case false =>
    go_enter Try.func90, Try.ntmps90; go_wp2_with (first | (go_at_call 93; refine (sHedOk_c _ _).mono ?_; rintro E w1 ⟨rfl, hb⟩; have hst := xr hb; (try simp only [zA, zC, zD, zN] at hst); obtain ⟨hc, hf, hz⟩ := hst)); go_ret; exact ⟨ret_b (by simp [Sw.hedFollows, g2]), ext_⟩
  by_cases g3 : o.size ≤ t.size
  case neg =>
    have e : Sw.hedFollows o t xs = false := by simp [Sw.hedFollows, g3]
    rw [e]; clear e
    have g3' : t.size < o.size := by omega
    go_enter Try.func90, Try.ntmps90; go_wp2_with (first | (go_at_call 93; refine (sHedOk_c _ _).mono ?_; rintro E w1 ⟨rfl, hb⟩; have hst := xr hb; (try simp only [zA, zC, zD, zN] at hst); obtain ⟨hc, hf, hz⟩ := hst)); go_ret; exact ⟨rfl, ext_⟩
  have n1 := g1; have n2 := g2
  simp only [Sw.hedOk, Sw.inR, Bool.and_eq_true, decide_eq_true_eq] at n1 n2
  obtain ⟨⟨⟨o0, _⟩, _⟩, _⟩ := n1
  obtain ⟨⟨⟨t0, _⟩, _⟩, _⟩ := n2
  by_cases g4 : o.size = 0
  · have z0 : (o.size == 0) = true := by simp [g4]
    have hle : decide (o.size ≤ t.size) = true := by simp [g3]
    have e : Sw.hedFollows o t xs = ((decide (o.size ≠ t.size) || decide (o = t)) && xs.isEmpty) := by rw [Sw.hedFollows, g1, g2, hle, if_pos g4]; simp
    have He := Lib.hid e
    have G4 := Lib.hid g4
    clear e g4
    by_cases hn : n = 0
    · have hx : xs = [] := List.eq_nil_of_length_eq_zero (by have := hl.out; omega)
      subst hx
      subst hn
      clear hl
      go_enter Try.func90, Try.ntmps90
      go_wp2_with (first | (go_at_call 93; refine (sHedOk_c _ _).mono ?_; rintro E w1 ⟨rfl, hb⟩; have hst := xr hb; (try simp only [zA, zC, zD, zN] at hst); obtain ⟨hc, hf, hz⟩ := hst))
      all_goals (go_ret; refine ⟨ret_b ?_, ext_⟩; rw [He.out]; have g4 := G4.out; clear He G4; go_tidy; simp only [head_ext])
      all_goals (first | (simp [*]; done) | (simp [*]; omega) | (simp_all; done) | (simp_all; omega))
    · have hb : ((n : Int) == 0) = false := by simp; omega
      have hx : xs.isEmpty = false := by
        cases xs with
        | nil => exact absurd hl.out hn
        | cons _ _ => rfl
      go_enter Try.func90, Try.ntmps90
      go_wp2_with (first | (go_at_call 93; refine (sHedOk_c _ _).mono ?_; rintro E w1 ⟨rfl, hb⟩; have hst := xr hb; (try simp only [zA, zC, zD, zN] at hst); obtain ⟨hc, hf, hz⟩ := hst))
      go_ret
      exact ⟨ret_b (by rw [He.out, hx]; simp), ext_⟩
  · have z0 : (o.size == 0) = false := by simp [g4]
    have hle : decide (o.size ≤ t.size) = true := by simp [g3]
    have e : Sw.hedFollows o t xs = ((decide (o.size ≠ t.size) || decide (o = t)) && Sw.conCheck o.size o.log t.size t.log xs) := by rw [Sw.hedFollows, g1, g2, hle, if_neg g4]; simp
    have He := Lib.hid e
    clear e g4
    go_enter Try.func90, Try.ntmps90
    go_wp2_with (first | (go_at_call 93; refine (sHedOk_c _ _).mono ?_; rintro E w1 ⟨rfl, hb⟩; have hst := xr hb; (try simp only [zA, zC, zD, zN] at hst); obtain ⟨hc, hf, hz⟩ := hst) | (go_at_call 171; apply Calls.mono; apply sConCheck_c; ((first | (apply Rs.at0; assumption) | (apply Ow.rs0; assumption)); exact kf_); rintro E w1 ⟨rfl, hb⟩; have hst := xr hb; (try simp only [zA, zC, zD, zN] at hst); obtain ⟨hc, hf, hz⟩ := hst))
    all_goals (go_ret; refine ⟨ret_b ?_, ext_⟩; rw [He.out]; clear He; go_tidy; simp only [head_ext])
    all_goals (first | (simp [*]; done) | (simp [*]; omega) | (simp_all; done) | (simp_all; omega))

end Go.Proofs.Ytncoiknpkebgoaa

namespace Go.Proofs.Ytncoiknpkebgoaa
set_option maxRecDepth 100000
set_option linter.unusedSimpArgs false
set_option linter.unusedVariables false
open Go.RowKit Go
set_option maxHeartbeats 400000

theorem sGatOk_c (t : Sw.Head) (A : Option Addr) (c n : Nat) (xs : List Int) (w : World) (hxs : RI w 0 A c n xs) : Calls Try.prog 23 #[.agg #[.int .i64 t.size, .int .i64 t.log, .int .i64 t.own, .slice A n c]] w fun E w' => E = .returned (.bool (Sw.gatOk ⟨t, xs⟩)) ∧ Ex w w' := by
  have hl := Lib.hid hxs.1
  have hcap := hxs.2.le
  have hbig : n ≤ 9223372036854775807 := by have := hxs.2.cap; unfold maxLen at this; omega
  cases g1 : Sw.hedOk t
  case false =>
    go_enter Try.func23, Try.ntmps23; go_wp2_with (first | (go_at_call 93; refine (sHedOk_c _ _).mono ?_; rintro E w1 ⟨rfl, hb⟩; have hst := xr hb; (try simp only [zA, zC, zD, zN] at hst); obtain ⟨hc, hf, hz⟩ := hst)); go_ret; exact ⟨ret_b (by simp [Sw.gatOk, g1]), ext_⟩
  by_cases hn : n ≤ 8
  case neg =>
    have hb8 : decide (8 < n) = true := by simp; omega
    have e : Sw.gatOk ⟨t, xs⟩ = false := by
      cases hr : Sw.risesFrom (-1) xs with
      | true => have := rises_len xs (-1) hr (by omega) (by omega); have := hl.out; omega
      | false => simp [Sw.gatOk, hr]
    rw [e]; clear e
    go_enter Try.func23, Try.ntmps23; go_wp2_with (first | (go_at_call 93; refine (sHedOk_c _ _).mono ?_; rintro E w1 ⟨rfl, hb⟩; have hst := xr hb; (try simp only [zA, zC, zD, zN] at hst); obtain ⟨hc, hf, hz⟩ := hst)); go_ret; exact ⟨rfl, ext_⟩
  have hb8 : decide (8 < n) = false := by simp; omega
  have e : Sw.gatOk ⟨t, xs⟩ = Sw.risesFrom (-1) xs := by simp [Sw.gatOk, g1]
  rw [e]; clear e
  go_enter Try.func23, Try.ntmps23
  go_wp2_with (first | (go_at_call 93; refine (sHedOk_c _ _).mono ?_; rintro E w1 ⟨rfl, hb⟩; have hst := xr hb; (try simp only [zA, zC, zD, zN] at hst); obtain ⟨hc, hf, hz⟩ := hst))
  go_loopw [3] (fun i wr => ∃ (k : Nat) (p : Int), k ≤ n ∧ i = .int .i64 k ∧ Ex w1 wr ∧ (k = 0 ∧ p = -1 ∨ ∃ j, k = j + 1 ∧ xs[j]? = some p ∧ 0 ≤ p) ∧ Sw.risesFrom (-1) xs = Sw.risesFrom p (xs.drop k)) (fun i _ => n - (intOf i).toNat)
  case atStart => exact ⟨0, -1, Nat.zero_le _, rfl, Ch.refl _ _, .inl ⟨rfl, rfl⟩, rfl⟩
  case round =>
    obtain ⟨k, p, hk, rfl, hb2, hp, hrel⟩ := hrel
    have hst := Ex.rules hb2 rfl
    obtain ⟨hc2, hf2, hz2⟩ := hst
    by_cases hlt : k < n
    · obtain ⟨g, off, y, rfl, hg0, hg, hd, hy, hcy⟩ := at_I hxs hlt
      rw [hd, Sw.risesFrom] at hrel
      have Hrel := Lib.hid hrel
      have Hy := Lib.hid hy
      clear hd hy hrel
      cases hin : Sw.inR y 0 7
      case false =>
        go_wp2_with fail
        go_quiet ((first | (go_at_call 94; exact Calls.quiet_same (l1In_c _ _ _ _))))
        go_wp2
        go_ret
        exact ⟨ret_b (by rw [Hrel.out, hin]; rfl), ext_⟩
      have hy7 : 0 ≤ y ∧ y ≤ 7 := by simpa [Sw.inR] using hin
      obtain ⟨y0, y7⟩ := hy7
      rcases hp with ⟨rfl, rfl⟩ | ⟨j, rfl, hj, hj0⟩
      · simp only [Nat.add_zero] at hcy
        go_wp2_with fail
        go_quiet ((first | (go_at_call 94; exact Calls.quiet_same (l1In_c _ _ _ _))))
        go_wp2
        go_roundw
        case rel => exact ⟨0 + 1, y, by omega, by go_num, ext_, .inr ⟨0, rfl, Hy.out, y0⟩, by rw [Hrel.out, hin]; simp; omega⟩
        case measure => simp [intOf]; omega
      · obtain ⟨g', off', p', hA', _, _, _, hp', hcp⟩ := at_I hxs (show j < n by omega)
        cases hA'
        obtain rfl : p' = p := by rw [hj] at hp'; exact (Option.some.inj hp').symm
        clear hj hp'
        have t1 : ((j : Int) + 1).toNat = j + 1 := by omega
        have t2 : IntKind.i64.wrap ((j : Int) + 1 - 1) = j := by rw [IntWalk.i64_in _ (by omega)]; omega
        have t3 : (0 : Int) ≤ (j : Int) + 1 := by omega
        have t4 : (j : Int) + 1 < (n : Int) := by omega
        have t5 : (j : Int) < (n : Int) := by omega
        by_cases hpy : p' < y
        · go_wp2_with fail
          go_quiet ((first | (go_at_call 94; exact Calls.quiet_same (l1In_c _ _ _ _))))
          go_wp2
          go_roundw
          case rel => exact ⟨j + 1 + 1, y, by omega, by go_num, ext_, .inr ⟨j + 1, rfl, Hy.out, y0⟩, by rw [Hrel.out, hin]; simp [hpy]⟩
          case measure => simp [intOf]; omega
        · have hpy' : y ≤ p' := by omega
          go_wp2_with fail
          go_quiet ((first | (go_at_call 94; exact Calls.quiet_same (l1In_c _ _ _ _))))
          go_wp2
          go_ret
          have hlt' : decide (p' < y) = false := by rw [decide_eq_false_iff_not]; omega
          exact ⟨ret_b (by rw [Hrel.out, hin, hlt']; rfl), ext_⟩
    · have Hrel := Lib.hid hrel; clear hrel hp
      go_wp2_with fail
      go_ret
      refine ⟨ret_b ?_, ext_⟩
      have hh := Hrel.out
      rw [List.drop_of_length_le (by have := hl.out; omega)] at hh
      rw [hh]; rfl

end Go.Proofs.Ytncoiknpkebgoaa

namespace Go.Proofs.Ytncoiknpkebgoaa
set_option maxRecDepth 100000
set_option linter.unusedSimpArgs false
set_option linter.unusedVariables false
open Go.RowKit Go
set_option maxHeartbeats 400000

theorem sCopy_c (t : Sw.Head) (A : Option Addr) (c n : Nat) (xs : List Int) (w : World) (hxs : RI w 0 A c n xs) (hn : n ≤ 4194304) : Calls Try.prog 89 #[.agg #[.int .i64 t.size, .int .i64 t.log, .int .i64 t.own, .slice A n c]] w fun E w' => ∃ A' c', E = .returned (.agg #[.int .i64 t.size, .int .i64 t.log, .int .i64 t.own, .slice A' n c']) ∧ OwI w' w.heap.size A' c' n xs ∧ Ex w w' := by
  go_enter Try.func89, Try.ntmps89
  go_wp2_with fail
  (refine wp_name ?_; intro W0 hb0; have hst := xr hb0; (try simp only [zA, zC, zD, zN] at hst); obtain ⟨hc0, hf0, hz0⟩ := hst; have hLb : Lb W0 (w.heap.size + 1) 4 := Lb.ex (by exact lbc_) hb0; go_region_held3 (fun w' => HeldB (w.heap.size + 1) 4 W0 w') ((first | with_reducible assumption | with_reducible exact HeldB.start hLb | with_reducible exact HeldB.of (by assumption) (by assumption) | ((repeat (first | with_reducible refine HeldB.set ?_ (by first | exact Or.inl rfl | exact Or.inr (by simp only [zA, zC, zD, zN]; omega) | exact Or.inr (by omega)) | with_reducible refine HeldB.alloc ?_ _ | with_reducible refine HeldB.drew ?_)); (first | with_reducible assumption | with_reducible exact HeldB.refl hLb | with_reducible exact HeldB.of (by assumption) (by assumption) | with_reducible exact HeldB.ex (by assumption) (by assumption))))) ((apply step_app (lo := W0.heap.size) el_I one_I rfl rfl rfl rfl; (first | assumption | exact Ow.nil _ _ | (apply Ow.keep; assumption; exact kf_) | (refine Ow.new [] (by (first | rfl | (simp only [zA, zC, zD, zN]; done) | omega)) rfl rfl (fun _ => rfl) (by exact sz_) (by omega))); (first | ((first | (apply Rs.at0; assumption) | (apply Ow.rs0; assumption)); exact kf_)); omega; exact sz_; intro A1 c1 w2 ho1 hch1 hat1 hex1 hlow1; have hbx := hex1 (· = (w.heap.size + 1)) W0 (HeldB.ch (by assumption : HeldB (w.heap.size + 1) 4 W0 _)) (by exact sz_); have hlbx := Lb.low hlow1 (by have := hLb.lt; omega) (HeldB.lb (by assumption : HeldB (w.heap.size + 1) 4 W0 _)); clear hex1 hlow1)); all_goals (rename HeldB (w.heap.size + 1) 4 W0 _ => hHx; have hb := HeldB.ch hHx; have hst := xc hb; (try simp only [zA, zC, zD, zN] at hst); obtain ⟨hc, hf, hz⟩ := hst; have hLb3 := HeldB.lb hHx; (repeat (first | with_reducible replace hLb3 := Lb.unset hLb3 | with_reducible replace hLb3 := Lb.undrew hLb3)); obtain ⟨hcb, hfb⟩ := Lb.rules hLb3; clear hHx))
  go_wp2
  refine bodyPost_ret (v := .agg #[.int .i64 t.size, .int .i64 t.log, .int .i64 t.own, .slice A1 n c1]) (by simp [results, Try.results89, go_sem, *]) rfl ?_
  refine ⟨A1, c1, rfl, ?_, ?_⟩
  · rw [List.nil_append, Nat.zero_add] at ho1
    exact (ho1.keep (by (exact kf_))).less (by omega)
  · exact ext_

theorem sGatNew_c (w : World) : Calls Try.prog 104 #[] w fun E w' => E = .returned (.agg #[.int .i64 ((Sw.hedOf []).getD Sw.headZ).size, .int .i64 ((Sw.hedOf []).getD Sw.headZ).log, .int .i64 ((Sw.hedOf []).getD Sw.headZ).own, .slice none 0 0]) ∧ Ex w w' := by
  go_enter Try.func104, Try.ntmps104
  go_wp2_with (first | (go_at_call 84; apply Calls.mono; apply (sHedOf_c (xs := [])); (refine Rs.new [] (by simp only [World.size_alloc]) rfl rfl (fun _ => rfl) (by omega)); rintro E w1 ⟨rfl, hb⟩; have hst := xr hb; (try simp only [zA, zC, zD, zN] at hst); obtain ⟨hc, hf, hz⟩ := hst))
  refine bodyPost_ret (v := .agg #[.int .i64 ((Sw.hedOf []).getD Sw.headZ).size, .int .i64 ((Sw.hedOf []).getD Sw.headZ).log, .int .i64 ((Sw.hedOf []).getD Sw.headZ).own, .slice none 0 0]) (by simp [results, Try.results104, go_sem, *]) rfl ?_
  exact ⟨rfl, ext_⟩
end Go.Proofs.Ytncoiknpkebgoaa

namespace Go.Proofs.Ytncoiknpkebgoaa
set_option maxRecDepth 100000
set_option linter.unusedSimpArgs false
set_option linter.unusedVariables false
open Go.RowKit Go
set_option maxHeartbeats 400000

theorem sGatSync_c (t u : Sw.Head) (A : Option Addr) (c n : Nat) (xs : List Int) (B : Option Addr) (d m : Nat) (ps : List Int) (w : World) (hxs : RI w 0 A c n xs) (hps : RI w 0 B d m ps) : Calls Try.prog 20 #[.agg #[.int .i64 t.size, .int .i64 t.log, .int .i64 t.own, .slice A n c], .agg #[.int .i64 u.size, .int .i64 u.log, .int .i64 u.own], .slice B m d] w fun E w' => ∃ A' c' n', E = .returned (.tuple #[.agg #[.int .i64 (Sw.gatSync ⟨t, xs⟩ u ps).1.head.size, .int .i64 (Sw.gatSync ⟨t, xs⟩ u ps).1.head.log, .int .i64 (Sw.gatSync ⟨t, xs⟩ u ps).1.head.own, .slice A' n' c'], .bool (Sw.gatSync ⟨t, xs⟩ u ps).2]) ∧ OwI w' w.heap.size A' c' n' (Sw.gatSync ⟨t, xs⟩ u ps).1.done ∧ Ex w w' := by
  have hl := Lib.hid hxs.1
  cases g1 : Sw.gatOk ⟨t, xs⟩
  case false =>
    have e : Sw.gatSync ⟨t, xs⟩ u ps = (Sw.gateZ, false) := by simp [Sw.gatSync, g1]
    have He := Lib.hid e; clear e
    go_enter Try.func20, Try.ntmps20
    go_wp2_with (first | (go_at_call 23; apply Calls.mono; apply sGatOk_c; ((first | (apply Rs.at0; assumption) | (apply Ow.rs0; assumption)); exact kf_); rintro E w1 ⟨rfl, hb⟩; have hst := xr hb; (try simp only [zA, zC, zD, zN] at hst); obtain ⟨hc, hf, hz⟩ := hst))
    refine bodyPost_ret (v := .tuple #[.agg #[.int .i64 0, .int .i64 0, .int .i64 0, .slice none 0 0], .bool false]) (by simp [results, Try.results20, go_sem, *]) rfl ?_
    exact ⟨none, 0, 0, by rw [He.out]; rfl, by rw [He.out]; exact Ow.nil _ _, ext_⟩
  have h8 : n ≤ 8 := by have := gatOk_len g1; have := hl.out; simp at *; omega
  cases g2 : Sw.hedFollows t u ps
  case false =>
    have e : Sw.gatSync ⟨t, xs⟩ u ps = (⟨t, xs⟩, false) := by simp [Sw.gatSync, g1, g2]
    have He := Lib.hid e; clear e
    go_enter Try.func20, Try.ntmps20
    go_wp2_with (first | (go_at_call 23; apply Calls.mono; apply sGatOk_c; ((first | (apply Rs.at0; assumption) | (apply Ow.rs0; assumption)); exact kf_); rintro E w1 ⟨rfl, hb⟩; have hst := xr hb; (try simp only [zA, zC, zD, zN] at hst); obtain ⟨hc, hf, hz⟩ := hst) | (go_at_call 89; apply Calls.mono; apply sCopy_c; ((first | (apply Rs.at0; assumption) | (apply Ow.rs0; assumption)); exact kf_); (first | assumption | omega); rintro E w1 ⟨A', c', rfl, hr, hb⟩; have hst := xr hb; (try simp only [zA, zC, zD, zN] at hst); obtain ⟨hc, hf, hz⟩ := hst) | (go_at_call 90; apply Calls.mono; apply sHedFollows_c; ((first | (apply Rs.at0; assumption) | (apply Ow.rs0; assumption)); exact kf_); rintro E w1 ⟨rfl, hb⟩; have hst := xr hb; (try simp only [zA, zC, zD, zN] at hst); obtain ⟨hc, hf, hz⟩ := hst))
    refine bodyPost_ret (v := .tuple #[.agg #[.int .i64 t.size, .int .i64 t.log, .int .i64 t.own, .slice A' n c'], .bool false]) (by simp [results, Try.results20, go_sem, *]) rfl ?_
    exact ⟨A', c', n, by rw [He.out], by rw [He.out]; exact (hr.keep (by (exact kf_))).less (by exact sz_), ext_⟩
  have e : Sw.gatSync ⟨t, xs⟩ u ps = (⟨u, xs⟩, true) := by simp [Sw.gatSync, g1, g2]
  have He := Lib.hid e; clear e
  go_enter Try.func20, Try.ntmps20
  go_wp2_with (first | (go_at_call 23; apply Calls.mono; apply sGatOk_c; ((first | (apply Rs.at0; assumption) | (apply Ow.rs0; assumption)); exact kf_); rintro E w1 ⟨rfl, hb⟩; have hst := xr hb; (try simp only [zA, zC, zD, zN] at hst); obtain ⟨hc, hf, hz⟩ := hst) | (go_at_call 89; apply Calls.mono; apply sCopy_c; ((first | (apply Rs.at0; assumption) | (apply Ow.rs0; assumption)); exact kf_); (first | assumption | omega); rintro E w1 ⟨A', c', rfl, hr, hb⟩; have hst := xr hb; (try simp only [zA, zC, zD, zN] at hst); obtain ⟨hc, hf, hz⟩ := hst) | (go_at_call 90; apply Calls.mono; apply sHedFollows_c; ((first | (apply Rs.at0; assumption) | (apply Ow.rs0; assumption)); exact kf_); rintro E w1 ⟨rfl, hb⟩; have hst := xr hb; (try simp only [zA, zC, zD, zN] at hst); obtain ⟨hc, hf, hz⟩ := hst))
  refine bodyPost_ret (v := .tuple #[.agg #[.int .i64 u.size, .int .i64 u.log, .int .i64 u.own, .slice A' n c'], .bool true]) (by simp [results, Try.results20, go_sem, *]) rfl ?_
  exact ⟨A', c', n, by rw [He.out], by rw [He.out]; exact (hr.keep (by (exact kf_))).less (by exact sz_), ext_⟩
end Go.Proofs.Ytncoiknpkebgoaa

namespace Go.Proofs.Ytncoiknpkebgoaa.Sw
set_option maxRecDepth 100000
set_option linter.unusedSimpArgs false
set_option linter.unusedVariables false
open Go.RowKit (wrap64)

/-! ### money -/
def monOk (p : List Int) : Bool := decide (p.length = 5) && p.all (fun n => inR n 0 100000)
def purse (p : List Int) (who : Int) : Int := p.getD (who - 1).toNat 0
def monHas (p : List Int) (who : Int) : Int := if monOk p && inR who 1 5 then purse p who else 0
def turnMay (p : List Int) (who n : Int) : Bool := monOk p && inR who 1 5 && inR n (-100000) 100000 && inR (purse p who + n) 0 100000
def turned (p : List Int) (who n : Int) : List Int := p.set (who - 1).toNat (purse p who + n)
def monTurn (p : List Int) (who n : Int) : List Int := if turnMay p who n then turned p who n else p
def moveMay (p : List Int) (a b n : Int) : Bool := inR n 0 100000 && decide (a ≠ b) && turnMay p a (-n) && turnMay (turned p a (-n)) b n
def monMove (p : List Int) (a b n : Int) : List Int := if moveMay p a b n then turned (turned p a (-n)) b n else p
def sumFrom (s : Int) (p : List Int) : Int := p.foldl (fun s n => wrap64 (s + n)) s
def monSum (p : List Int) : Int := sumFrom 0 p

/-! ### the market -/
structure Deal where
  ticket : Int
  seller : Int
  price : Int
  buyer : Int
  due : Int
  deriving DecidableEq
structure Req where
  user : Int
  n : Int
  kind : Int
  ticket : Int
  who : Int
  price : Int
  deriving DecidableEq
structure Mkt where
  log : List Ent
  purses : List Int
  deals : List Deal
  clock : Int
  nums : List Int
  said : List Int
  deriving DecidableEq
def dealZ : Deal := ⟨0, 0, 0, 0, 0⟩
def reqZ : Req := ⟨0, 0, 0, 0, 0, 0⟩
def mktZ : Mkt := ⟨[], [], [], 0, [], []⟩
def mktNew (p : List Int) : Mkt :=
  if monOk p && decide (monSum p ≤ 100000) then ⟨[], p, [], 0, [0, 0, 0, 0, 0], [0, 0, 0, 0, 0]⟩ else mktZ
def held (d : Deal) : Bool := decide (0 < d.buyer)
def heldStep (s : Int) (d : Deal) : Int := if held d then wrap64 (s + d.price) else s
def heldFrom (s : Int) (ds : List Deal) : Int := ds.foldl heldStep s
def heldOf (ds : List Deal) : Int := heldFrom 0 ds
def mktHeld (m : Mkt) : Int := heldOf m.deals
def dealOk (clock : Int) (rows : List Row) (d : Deal) : Bool :=
  inR d.ticket 0 7 && inR d.seller 1 5 && decide ((rowAt rows d.ticket).who = d.seller) && !(rowAt rows d.ticket).used &&
    inR d.price 1 (entCap (rowAt rows d.ticket).face) &&
    (if d.buyer = 0 then decide (d.due = 0) else inR d.buyer 1 5 && decide (d.buyer ≠ d.seller) && inR d.due clock (clock + 5))
/-- Deals that are ok, of rising tickets behind a number. -/
def dealsOk (clock : Int) (rows : List Row) : Int → List Deal → Bool
  | _, [] => true
  | p, d :: ds => dealOk clock rows d && decide (p < d.ticket) && dealsOk clock rows d.ticket ds
def numOk (n s : Int) : Bool := inR n 0 99999 && inR s 0 6 && (decide (n = 0) == decide (s = 0))
def numsOk : List Int → List Int → Bool
  | [], _ => true
  | _ :: _, [] => false
  | n :: ns, s :: ss => numOk n s && numsOk ns ss
def mktRows (m : Mkt) : List Row := (ownFold m.log).getD []
def mktOk (m : Mkt) : Bool :=
  (ownFold m.log).isSome && monOk m.purses && decide (m.deals.length ≤ 8) && inR m.clock 0 99999 && decide (m.nums.length = 5) && decide (m.said.length = 5) &&
    dealsOk m.clock (mktRows m) (-1) m.deals && numsOk m.nums m.said && decide (monSum m.purses + mktHeld m ≤ 100000)
def dealAt (ds : List Deal) (t : Int) : Option Nat := ds.findIdx? (fun d => decide (d.ticket = t))
def dealIx (ds : List Deal) (t : Int) : Int := match dealAt ds t with
  | some k => k
  | none => -1
def dealOf (ds : List Deal) (t : Int) : Option Deal := ds.find? (fun d => decide (d.ticket = t))
def reqOk (r : Req) : Bool :=
  inR r.user 1 5 && inR r.n 1 99999 && inR r.kind 1 6 && inR r.ticket 0 7 &&
    (if r.kind = 1 then inR r.who 1 5 && inR r.price 1 50 else decide (r.who = 0) && (if r.kind = 2 then inR r.price 1 999 else decide (r.price = 0)))
def insertDeal (d : Deal) : List Deal → List Deal
  | [] => [d]
  | x :: xs => if d.ticket < x.ticket then d :: x :: xs else x :: insertDeal d xs
/-- What a request does to the log, the purses and the deals, and its answer; row: how its ticket stands; k: the deal about it. -/
def issue (m : Mkt) (r : Req) (row : Row) : Mkt × Int :=
  if r.user ≠ 1 ∨ r.who = 1 then (m, 2)
  else if row.who ≠ 0 then (m, 3)
  else if m.log.length = 40 then (m, 6)
  else if moveMay m.purses r.who 1 r.price then ({ m with purses := turned (turned m.purses r.who (-r.price)) 1 r.price, log := m.log ++ [⟨1, r.ticket, r.who, r.price⟩] }, 1)
  else (m, 5)
def offer (m : Mkt) (r : Req) (row : Row) (k : Option Nat) : Mkt × Int :=
  if row.who ≠ r.user then (m, 2)
  else if k.isSome ∨ row.used = true then (m, 3)
  else if entCap row.face < r.price then (m, 4)
  else ({ m with deals := insertDeal ⟨r.ticket, r.user, r.price, 0, 0⟩ m.deals }, 1)
def dropIt (m : Mkt) (r : Req) (row : Row) (k : Option Nat) : Mkt × Int :=
  if row.who ≠ r.user then (m, 2)
  else match k with
  | none => (m, 3)
  | some k => if held (m.deals.getD k dealZ) then (m, 3) else ({ m with deals := m.deals.eraseIdx k }, 1)
def fund (m : Mkt) (r : Req) (k : Option Nat) : Mkt × Int :=
  match k with
  | none => (m, 3)
  | some k =>
    if held (m.deals.getD k dealZ) then (m, 3)
    else if (m.deals.getD k dealZ).seller = r.user then (m, 2)
    else if turnMay m.purses r.user (-(m.deals.getD k dealZ).price) then
      ({ m with purses := turned m.purses r.user (-(m.deals.getD k dealZ).price), deals := m.deals.set k { m.deals.getD k dealZ with buyer := r.user, due := m.clock + 5 } }, 1)
    else (m, 5)
def settle (m : Mkt) (r : Req) (k : Option Nat) : Mkt × Int :=
  match k with
  | none => (m, 3)
  | some k =>
    if held (m.deals.getD k dealZ) = false then (m, 3)
    else if (m.deals.getD k dealZ).seller ≠ r.user then (m, 2)
    else if m.log.length = 40 then (m, 6)
    else ({ m with purses := monTurn m.purses (m.deals.getD k dealZ).seller (m.deals.getD k dealZ).price,
                   log := m.log ++ [⟨2, r.ticket, (m.deals.getD k dealZ).buyer, (m.deals.getD k dealZ).price⟩],
                   deals := m.deals.eraseIdx k }, 1)
def enter (m : Mkt) (r : Req) (row : Row) (k : Option Nat) : Mkt × Int :=
  if row.who ≠ r.user then (m, 2)
  else if row.used = true ∨ k.isSome then (m, 3)
  else if m.log.length = 40 then (m, 6)
  else ({ m with log := m.log ++ [⟨3, r.ticket, r.user, 0⟩] }, 1)
def effect (m : Mkt) (r : Req) : Mkt × Int :=
  if r.kind = 1 then issue m r (rowAt (mktRows m) r.ticket)
  else if r.kind = 2 then offer m r (rowAt (mktRows m) r.ticket) (dealAt m.deals r.ticket)
  else if r.kind = 3 then dropIt m r (rowAt (mktRows m) r.ticket) (dealAt m.deals r.ticket)
  else if r.kind = 4 then fund m r (dealAt m.deals r.ticket)
  else if r.kind = 5 then settle m r (dealAt m.deals r.ticket)
  else enter m r (rowAt (mktRows m) r.ticket) (dealAt m.deals r.ticket)
def lastOf (l : List Int) (user : Int) : Int := l.getD (user - 1).toNat 0
def noted (m : Mkt) (r : Req) (a : Int) : Mkt := { m with nums := m.nums.set (r.user - 1).toNat r.n, said := m.said.set (r.user - 1).toNat a }
/-- A request that is ok, of a market that is. -/
def doIt (m : Mkt) (r : Req) : Mkt × Int :=
  if r.n = lastOf m.nums r.user then (m, lastOf m.said r.user)
  else if r.n < lastOf m.nums r.user then (m, 7)
  else (noted (effect m r).1 r (effect m r).2, (effect m r).2)
def mktDo (m : Mkt) (r : Req) : Mkt × Int := if mktOk m && reqOk r then doIt m r else (mktZ, 0)
/-- What is held longer than may be goes back: purses and deals. -/
def backDeal (clock : Int) (d : Deal) : Deal := if held d && decide (d.due < clock) then { d with buyer := 0, due := 0 } else d
def backPurse (clock : Int) (p : List Int) (d : Deal) : List Int := if held d && decide (d.due < clock) then monTurn p d.buyer d.price else p
def tick (m : Mkt) : Mkt := { m with clock := m.clock + 1, purses := m.deals.foldl (backPurse (m.clock + 1)) m.purses, deals := m.deals.map (backDeal (m.clock + 1)) }
def mktTick (m : Mkt) : Mkt × Bool := if mktOk m then (if m.clock = 99999 then (m, false) else (tick m, true)) else (mktZ, false)
def mktOffers (m : Mkt) : List Int := (m.deals.filter fun d => !held d).map (·.ticket)
def mktFor (m : Mkt) (who : Int) : List Int := (m.deals.filter fun d => held d && decide (d.buyer = who)).map (·.ticket)

/-! ### watching -/
def watFrom : Int → List Head → Bool
  | _, [] => true
  | p, h :: hs => hedOk h && decide (p < h.size) && watFrom h.size hs
def watOk (l : List Head) : Bool := decide (l.length ≤ 12) && watFrom (-1) l
def insertHead (h : Head) : List Head → List Head
  | [] => [h]
  | x :: xs => if h.size < x.size then h :: x :: xs else x :: insertHead h xs
def watSee (l : List Head) (h : Head) : List Head × Head × Bool :=
  if watOk l && hedOk h then
    match l.find? (fun x => decide (x.size = h.size)) with
    | some x => (l, x, hedFork x h)
    | none => if l.length = 12 then (l, headZ, false) else (insertHead h l, headZ, false)
  else (l, headZ, false)
def forkIn (a : Head) (l : List Head) : Option (Head × Head) := (l.find? (fun b => hedFork a b)).map fun b => (a, b)
def watMeet (a b : List Head) : Option (Head × Head) := if watOk a && watOk b then a.findSome? (fun x => forkIn x b) else none
def watAll (l : List Head) (log : List Ent) : Bool := watOk l && l.all (fun h => decide (hedAt log h.size = some h))

/-! ### the world -/
structure Msg where
  gate : Int
  head : Head
  proof : List Int
  deriving DecidableEq
structure World where
  first : List Int
  market : Mkt
  lines : List Req
  gates : List Gate
  bag : List Msg
  deriving DecidableEq
structure Ev where
  kind : Int
  req : Req
  at_ : Int
  ticket : Int
  who : Int
  deriving DecidableEq
def worldZ : World := ⟨[], mktZ, [], [], []⟩
def gatNew : Gate := ⟨(hedOf []).getD headZ, []⟩
def wldNew (p : List Int) : World := if monOk p && decide (monSum p ≤ 100000) then ⟨p, mktNew p, [], [gatNew, gatNew], []⟩ else worldZ
def lineOk (r : Req) : Bool := decide (r = reqZ) || reqOk r
def msgOk (x : Msg) : Bool := inR x.gate 0 1 && hedOk x.head && treOk x.proof
def wldOk (w : World) : Bool :=
  mktOk w.market && monOk w.first && decide (w.lines.length ≤ 300) && decide (w.gates.length = 2) && decide (w.bag.length ≤ 6) &&
    w.lines.all lineOk && w.gates.all gatOk && w.bag.all msgOk
def foldLines : Mkt → List Req → Option Mkt
  | m, [] => some m
  | m, r :: rs =>
    if r = reqZ then (if m.clock = 99999 then none else foldLines (tick m) rs)
    else if reqOk r then foldLines (doIt m r).1 rs else none
def wldFold (first : List Int) (lines : List Req) : Option Mkt :=
  if monOk first && decide (monSum first ≤ 100000) && decide (lines.length ≤ 300) then foldLines (mktNew first) lines else none
def ask (w : World) (r : Req) : World × Int :=
  if reqOk r && decide (w.lines.length < 300) then ({ w with market := (doIt w.market r).1, lines := w.lines ++ [r] }, (doIt w.market r).2) else (w, 0)
def tickW (w : World) : World :=
  if decide (w.market.clock ≠ 99999) && decide (w.lines.length < 300) then { w with market := tick w.market, lines := w.lines ++ [reqZ] } else w
def fall (w : World) : World := { w with market := (wldFold w.first w.lines).getD w.market, bag := [] }
def gateAt (w : World) (k : Int) : Gate := w.gates.getD k.toNat gateZ
def send (w : World) (k : Int) : World :=
  if inR k 0 1 && decide (w.bag.length < 6) then { w with bag := w.bag ++ [⟨k, (hedOf w.market.log).getD headZ, hedProof w.market.log (gateAt w k).head.size⟩] } else w
def msgZ : Msg := ⟨0, headZ, []⟩
def msgAt (w : World) (i : Int) : Msg := w.bag.getD i.toNat msgZ
def lose (w : World) (i : Int) : World := { w with bag := w.bag.eraseIdx i.toNat }
def heard (w : World) (x : Msg) : World := { w with gates := w.gates.set x.gate.toNat (gatSync (gateAt w x.gate) x.head x.proof).1 }
def hear (w : World) (i : Int) : World := heard (lose w i) (msgAt w i)
def twice (w : World) (i : Int) : World := if w.bag.length < 6 then { w with bag := w.bag ++ [msgAt w i] } else w
def showIt (w : World) (k t who : Int) : World × Int :=
  if inR k 0 1 && inR t 0 7 && decide ((gateAt w k).head.size ≤ w.market.log.length) then
    match ownFold (w.market.log.take (gateAt w k).head.size.toNat) with
    | none => (w, 0)
    | some rows =>
      if (gatShow (gateAt w k) t who (rowAt rows t) (ownProof rows t)).2 then
        ({ w with gates := w.gates.set k.toNat (gatShow (gateAt w k) t who (rowAt rows t) (ownProof rows t)).1 }, 1)
      else (w, 3)
  else (w, 0)
def tellOne (w : World) (t : Int) : World :=
  if decide (0 < (rowAt (mktRows w.market) t).who) && !(rowAt (mktRows w.market) t).used && decide (lastOf w.market.nums (rowAt (mktRows w.market) t).who < 99999) then
    (ask w ⟨(rowAt (mktRows w.market) t).who, lastOf w.market.nums (rowAt (mktRows w.market) t).who + 1, 6, t, 0, 0⟩).1
  else w
def tell (w : World) (k : Int) : World := if inR k 0 1 then (gateAt w k).done.foldl tellOne w else w
/-- One event, of a world that is ok. -/
def step (w : World) (e : Ev) : World × Int :=
  if e.kind = 1 then ask w e.req
  else if e.kind = 2 then (tickW w, 0)
  else if e.kind = 3 then (fall w, 0)
  else if e.kind = 4 then (send w e.at_, 0)
  else if e.kind = 5 then (if inR e.at_ 0 (w.bag.length - 1) then hear w e.at_ else w, 0)
  else if e.kind = 6 then (if inR e.at_ 0 (w.bag.length - 1) then lose w e.at_ else w, 0)
  else if e.kind = 7 then (if inR e.at_ 0 (w.bag.length - 1) then twice w e.at_ else w, 0)
  else if e.kind = 8 then showIt w e.at_ e.ticket e.who
  else if e.kind = 9 then (tell w e.at_, 0)
  else (w, 0)
def wldStep (w : World) (e : Ev) : World × Int := if wldOk w then step w e else (worldZ, 0)
def runFrom (w : World) (es : List Ev) : World := es.foldl (fun w e => (step w e).1) w
def wldRun (w : World) (es : List Ev) : World := if wldOk w && decide (es.length ≤ 300) then runFrom w es else worldZ
def wldMoney (w : World) : Int := wrap64 (monSum w.market.purses + mktHeld w.market)
end Go.Proofs.Ytncoiknpkebgoaa.Sw

namespace Go.Proofs.Ytncoiknpkebgoaa.Sw
set_option maxRecDepth 100000
set_option linter.unusedSimpArgs false
set_option linter.unusedVariables false
open Go.RowKit (wrap64)

theorem inR_iff {n a b : Int} : inR n a b = true ↔ a ≤ n ∧ n ≤ b := by simp [inR]
theorem inR_no {n a b : Int} : inR n a b = false ↔ n < a ∨ b < n := by simp [inR]; omega

/-! ### rows -/
theorem rowAt_ok {rows : List Row} (h : ownOk rows = true) (t : Int) : rowOk (rowAt rows t) = true := by
  simp only [ownOk, Bool.and_eq_true] at h
  unfold rowAt
  rw [List.getD_eq_getElem?_getD]
  cases he : rows[t.toNat]? with
  | none => rfl
  | some r => exact List.all_eq_true.1 h.1 r (List.mem_of_getElem? he)
theorem ownOk_len {rows : List Row} (h : ownOk rows = true) : rows.length = 8 := by
  simp only [ownOk, Bool.and_eq_true, decide_eq_true_eq] at h; exact h.2
theorem entOk_iff {e : Ent} : entOk e = true ↔ (0 ≤ e.ticket ∧ e.ticket ≤ 7) ∧ (1 ≤ e.who ∧ e.who ≤ 5) ∧ ((e.kind = 1 ∧ 1 ≤ e.price ∧ e.price ≤ 50) ∨ (e.kind = 2 ∧ 1 ≤ e.price ∧ e.price ≤ 60) ∨ (e.kind = 3 ∧ e.price = 0)) := by
  unfold entOk
  rw [Bool.and_eq_true, Bool.and_eq_true, inR_iff, inR_iff, and_assoc]
  refine and_congr_right fun _ => and_congr_right fun _ => ?_
  split
  · rw [inR_iff]; omega
  · split
    · rw [inR_iff]; omega
    · simp only [Bool.and_eq_true, decide_eq_true_eq]; omega
theorem rowOk_iff {r : Row} : rowOk r = true ↔ (r.who = 0 ∧ r.face = 0 ∧ r.used = false) ∨ ((1 ≤ r.who ∧ r.who ≤ 5) ∧ 1 ≤ r.face ∧ r.face ≤ 50) := by
  unfold rowOk
  rw [Bool.or_eq_true, Bool.and_eq_true, Bool.and_eq_true, Bool.and_eq_true, inR_iff, inR_iff]
  simp [and_assoc]
theorem fitsRow_iff {r : Row} {e : Ent} (hk : e.kind = 1 ∨ e.kind = 2 ∨ e.kind = 3) : fitsRow r e = true ↔
    (e.kind = 1 ∧ r.who = 0) ∨ (e.kind = 2 ∧ r.who ≠ 0 ∧ r.who ≠ e.who ∧ r.used = false ∧ e.price ≤ entCap r.face) ∨ (e.kind = 3 ∧ r.who = e.who ∧ r.used = false) := by
  unfold fitsRow
  rcases hk with h | h | h <;> simp [h, and_assoc]
theorem ownFits_iff {rows : List Row} {e : Ent} : ownFits rows e = true ↔ ownOk rows = true ∧ entOk e = true ∧ fitsRow (rowAt rows e.ticket) e = true := by
  simp [ownFits, and_assoc]
theorem putRow_ok {r : Row} {e : Ent} (hr : rowOk r = true) (he : entOk e = true) (hf : fitsRow r e = true) : rowOk (putRow r e) = true := by
  have he' := entOk_iff.1 he
  have hk : e.kind = 1 ∨ e.kind = 2 ∨ e.kind = 3 := by omega
  rw [fitsRow_iff hk] at hf
  rw [rowOk_iff] at hr
  rw [rowOk_iff]
  unfold putRow
  rcases hk with h | h | h <;> simp only [h] at hf he' ⊢ <;> simp <;> omega
theorem putRows_ok {rows : List Row} {e : Ent} (h : ownFits rows e = true) : ownOk (putRows rows e) = true := by
  rw [ownFits_iff] at h
  obtain ⟨h1, h2, h3⟩ := h
  have hr := putRow_ok (rowAt_ok h1 e.ticket) h2 h3
  have h8 := ownOk_len h1
  simp only [ownOk, Bool.and_eq_true, decide_eq_true_eq, putRows, List.length_set] at h1 ⊢
  refine ⟨?_, h8⟩
  rw [List.all_eq_true] at h1 ⊢
  intro x hx
  rcases List.mem_or_eq_of_mem_set hx with hx | rfl
  · exact h1.1 x hx
  · exact hr
theorem rows0_ok : ownOk rows0 = true := by decide
theorem foldFrom_ok : ∀ (es : List Ent) (rows r : List Row), foldFrom rows es = some r → ownOk rows = true → ownOk r = true
  | [], rows, r, h, h8 => by simp [foldFrom] at h; rw [← h]; exact h8
  | e :: es, rows, r, h, h8 => by
    rw [foldFrom] at h
    split at h
    · exact foldFrom_ok es _ r h (putRows_ok ‹_›)
    · cases h
theorem ownFold_some {es : List Ent} {rows : List Row} : ownFold es = some rows ↔ es.length ≤ 40 ∧ foldFrom rows0 es = some rows := by
  unfold ownFold
  split <;> simp [*]
theorem ownFold_ok {es : List Ent} {rows : List Row} (h : ownFold es = some rows) : ownOk rows = true := foldFrom_ok es _ _ (ownFold_some.1 h).2 rows0_ok
theorem foldFrom_append : ∀ (es fs : List Ent) (rows : List Row), foldFrom rows (es ++ fs) = (foldFrom rows es).bind fun r => foldFrom r fs
  | [], fs, rows => rfl
  | e :: es, fs, rows => by
    rw [List.cons_append, foldFrom, foldFrom]
    split
    · exact foldFrom_append es fs _
    · rfl
theorem ownFold_snoc {es : List Ent} {rows : List Row} {e : Ent} (h : ownFold es = some rows) (hl : es.length < 40) (hf : ownFits rows e = true) : ownFold (es ++ [e]) = some (putRows rows e) := by
  rw [ownFold_some] at h ⊢
  refine ⟨by simp; omega, ?_⟩
  rw [foldFrom_append, h.2]
  simp [foldFrom, hf]
theorem ownFold_take {es : List Ent} {rows : List Row} (h : ownFold es = some rows) (k : Nat) : ∃ r, ownFold (es.take k) = some r := by
  rw [ownFold_some] at h
  obtain ⟨h1, h2⟩ := h
  rw [← List.take_append_drop k es, foldFrom_append] at h2
  cases hh : foldFrom rows0 (es.take k) with
  | none => rw [hh] at h2; cases h2
  | some r => exact ⟨r, ownFold_some.2 ⟨by rw [List.length_take]; omega, hh⟩⟩
theorem rowAt_put {rows : List Row} {e : Ent} {t : Int} (h8 : rows.length = 8) (he : 0 ≤ e.ticket ∧ e.ticket ≤ 7) (ht : 0 ≤ t) : rowAt (putRows rows e) t = if t = e.ticket then putRow (rowAt rows e.ticket) e else rowAt rows t := by
  unfold rowAt putRows
  rw [List.getD_eq_getElem?_getD, List.getElem?_set]
  by_cases h : t = e.ticket
  · subst h
    rw [if_pos rfl, if_pos rfl, if_pos (by omega)]
    rfl
  · rw [if_neg (by omega), if_neg h, List.getD_eq_getElem?_getD]

/-! ### money -/
theorem wrap64_in {n : Int} (h : -9223372036854775808 ≤ n ∧ n ≤ 9223372036854775807) : wrap64 n = n := by unfold wrap64; omega
theorem monOk_iff {p : List Int} : monOk p = true ↔ p.length = 5 ∧ ∀ n ∈ p, 0 ≤ n ∧ n ≤ 100000 := by
  simp [monOk, List.all_eq_true, inR_iff]
theorem sum_bd : ∀ (p : List Int) (b : Int), 0 ≤ b → (∀ n ∈ p, 0 ≤ n ∧ n ≤ b) → 0 ≤ p.sum ∧ p.sum ≤ b * p.length
  | [], b, hb, h => by simp
  | x :: xs, b, hb, h => by
    have h1 := h x (List.mem_cons_self ..)
    have h2 := sum_bd xs b hb (fun n hn => h n (List.mem_cons_of_mem _ hn))
    have e : b * ((x :: xs).length : Int) = b * (xs.length : Int) + b := by rw [List.length_cons, Int.natCast_add, Int.mul_add]; simp
    rw [e, List.sum_cons]
    omega
theorem sumFrom_eq : ∀ (p : List Int) (s : Int), 0 ≤ s → s + 100000 * p.length ≤ 9223372036854775807 → (∀ n ∈ p, 0 ≤ n ∧ n ≤ 100000) → sumFrom s p = s + p.sum
  | [], s, _, _, _ => by simp [sumFrom]
  | x :: xs, s, h0, h1, h => by
    have hx := h x (List.mem_cons_self ..)
    have e : (100000 : Int) * ((x :: xs).length : Int) = 100000 * (xs.length : Int) + 100000 := by rw [List.length_cons, Int.natCast_add, Int.mul_add]; simp
    rw [e] at h1
    have := sumFrom_eq xs (s + x) (by omega) (by omega) (fun n hn => h n (List.mem_cons_of_mem _ hn))
    unfold sumFrom at this ⊢
    rw [List.foldl_cons, wrap64_in (by omega), this, List.sum_cons]
    omega
theorem monSum_eq {p : List Int} (h : monOk p = true) : monSum p = p.sum := by
  rw [monOk_iff] at h
  have := sumFrom_eq p 0 (by omega) (by rw [h.1]; decide) h.2
  rw [monSum, this]; omega
theorem monSum_bd {p : List Int} (h : monOk p = true) : 0 ≤ monSum p ∧ monSum p ≤ 500000 := by
  rw [monSum_eq h]
  rw [monOk_iff] at h
  have := sum_bd p 100000 (by omega) h.2
  rw [h.1] at this
  omega
theorem sum_set : ∀ (p : List Int) (k : Nat) (v : Int), k < p.length → (p.set k v).sum = p.sum - p.getD k 0 + v
  | [], k, v, h => by simp at h
  | x :: xs, 0, v, h => by simp; omega
  | x :: xs, k + 1, v, h => by
    have := sum_set xs k v (by simpa using h)
    simp only [List.set_cons_succ, List.sum_cons, this, List.getD_cons_succ]
    omega
theorem turnMay_iff {p : List Int} {who n : Int} : turnMay p who n = true ↔ monOk p = true ∧ (1 ≤ who ∧ who ≤ 5) ∧ (-100000 ≤ n ∧ n ≤ 100000) ∧ (0 ≤ purse p who + n ∧ purse p who + n ≤ 100000) := by
  simp [turnMay, inR_iff, and_assoc]
theorem turned_ok {p : List Int} {who n : Int} (h : turnMay p who n = true) : monOk (turned p who n) = true := by
  rw [turnMay_iff] at h
  obtain ⟨h1, h2, h3, h4⟩ := h
  rw [monOk_iff] at h1 ⊢
  refine ⟨by simp [turned, h1.1], fun x hx => ?_⟩
  rcases List.mem_or_eq_of_mem_set hx with hx | rfl
  · exact h1.2 x hx
  · exact h4
theorem turned_sum {p : List Int} {who n : Int} (h : turnMay p who n = true) : (turned p who n).sum = p.sum + n := by
  rw [turnMay_iff, monOk_iff] at h
  rw [turned, sum_set p _ _ (by omega)]
  unfold purse
  omega
theorem purse_turned {p : List Int} {who n u : Int} (h : turnMay p who n = true) (hu : 1 ≤ u) : purse (turned p who n) u = if u = who then purse p who + n else purse p u := by
  rw [turnMay_iff, monOk_iff] at h
  unfold turned purse
  rw [List.getD_eq_getElem?_getD, List.getElem?_set]
  by_cases hw : u = who
  · subst hw
    rw [if_pos rfl, if_pos rfl, if_pos (by omega)]
    rfl
  · rw [if_neg (by omega), if_neg hw, List.getD_eq_getElem?_getD]
theorem purse_bd {p : List Int} (h : monOk p = true) (who : Int) : 0 ≤ purse p who ∧ purse p who ≤ 100000 := by
  rw [monOk_iff] at h
  unfold purse
  rw [List.getD_eq_getElem?_getD]
  cases he : p[(who - 1).toNat]? with
  | none => simp
  | some x => exact h.2 x (List.mem_of_getElem? he)
/-- One purse is no more than all together. -/
theorem purse_le_sum {p : List Int} (h : monOk p = true) (who : Int) : purse p who ≤ p.sum := by
  rw [monOk_iff] at h
  have key : ∀ (l : List Int) (k : Nat), (∀ n ∈ l, 0 ≤ n) → l.getD k 0 ≤ l.sum := by
    intro l
    induction l with
    | nil => intro k _; simp
    | cons x xs ih =>
      intro k hl
      have h1 := hl x (List.mem_cons_self ..)
      have h2 : 0 ≤ xs.sum := by
        clear ih
        induction xs with
        | nil => simp
        | cons y ys ih2 =>
          have := hl y (by simp)
          have := ih2 (fun n hn => hl n (by
            rcases List.mem_cons.1 hn with rfl | hn
            · exact List.mem_cons_self ..
            · exact List.mem_cons_of_mem _ (List.mem_cons_of_mem _ hn)))
          rw [List.sum_cons]; omega
      cases k with
      | zero => simp only [List.getD_cons_zero, List.sum_cons]; omega
      | succ k =>
        have := ih k (fun n hn => hl n (List.mem_cons_of_mem _ hn))
        simp only [List.getD_cons_succ, List.sum_cons]; omega
  exact key p _ (fun n hn => (h.2 n hn).1)
theorem turnMay_in {p : List Int} {who n : Int} (h : monOk p = true) (hw : 1 ≤ who ∧ who ≤ 5) (hn : 0 ≤ n) (hs : p.sum + n ≤ 100000) : turnMay p who n = true := by
  rw [turnMay_iff]
  have h1 := purse_bd h who
  have h2 := purse_le_sum h who
  have h3 := sum_bd p 100000 (by omega) (monOk_iff.1 h).2
  exact ⟨h, hw, by omega, by omega⟩
theorem moveMay_iff {p : List Int} {a b n : Int} : moveMay p a b n = true ↔ (0 ≤ n ∧ n ≤ 100000) ∧ a ≠ b ∧ turnMay p a (-n) = true ∧ turnMay (turned p a (-n)) b n = true := by
  simp [moveMay, inR_iff, and_assoc]
end Go.Proofs.Ytncoiknpkebgoaa.Sw

