/- Texts joined: RowsW. -/
import Derived.Test.YtnnoiagommiapaaGreatPy7
import Derived.Test.YtnnoiagommiapaaGreatPy9
set_option maxRecDepth 100000
set_option linter.unusedSimpArgs false
set_option linter.unusedVariables false
namespace Go.Proofs.YtnnoiagommiapaaGreat
open Go.RowKit Go
set_option maxHeartbeats 400000
theorem take_snoc {α : Type} {xs : List α} {k : Nat} {y : α} (h : xs[k]? = some y) : xs.take (k + 1) = xs.take k ++ [y] := by rw [List.take_add_one, h]; rfl
theorem sEntLeaves_c (A : Option Addr) (c n : Nat) (xs : List Sw.Ent) (w : World) (hxs : RE w 0 A c n xs) (hn : n ≤ 4194304) : Calls Tryz.prog 245 #[.slice A n c] w fun E w' => ∃ A' c', E = .returned (.slice A' n c') ∧ OwI w' w.heap.size A' c' n (xs.map Sw.entLeaf) ∧ Ex w w' := by
 have hl := Lib.hid hxs.1
 go_enter Tryz.func245, Tryz.ntmps245
 go_wp2_with fail
 go_loopw [3, 4] (fun o i wr => ∃ (k : Nat) (B : Option Addr) (d : Nat), k ≤ n ∧ i = .int .i64 k ∧ o = .slice B k d ∧ Ex w wr ∧ OwI wr w.heap.size B d k ((xs.take k).map Sw.entLeaf)) (fun _ i _ => n - (intOf i).toNat)
 case atStart => exact ⟨0, _, 0, Nat.zero_le _, rfl, rfl, ext_, Ow.new [] rfl rfl rfl (fun _ => rfl) (Nat.le_refl _) (by omega)⟩
 case round =>
   obtain ⟨k, B, d, hk, rfl, rfl, hb, ho⟩ := hrel
   have hst := Ex.rules hb rfl
   obtain ⟨hc, hf, hz⟩ := hst
   by_cases hlt : k < n
   · obtain ⟨g, off, y, rfl, hg0, hg, hd, hy, hc0, hc1, hc2, hc3⟩ := at_E hxs hlt
     have Hd := Lib.hid hd; have Hy := Lib.hid hy; clear hd hy
     go_wp2_with (first | (go_at_call 274; refine (sEntLeaf_c _ _).mono ?_; rintro E w1 ⟨rfl, hb⟩; obtain ⟨hc, hf, hz⟩ := xy hb) | (at_builtin; apply wpList_app (lo := w.heap.size) el_I one_I rfl rfl rfl rfl; (first | assumption | exact Ow.nil _ _ | (apply Ow.keep; assumption; exact kf_) | (refine own_)); (first | (refine Rs.new [Sw.entLeaf y] (by (first | rfl | (simp only [zq_]; done) | omega)) rfl rfl (fun _ => rfl) (by omega))); omega; exact sz_; intro A1 c1 w2 ho1 hch1 hat1 hex1 hlow1; have hb := hex1 (fun _ => False) w (by exact ext_) (by exact sz_); have hz := hch1.size; (try simp only [zq_] at hz); obtain ⟨hc, hf⟩ := low_rules hlow1; clear hlow1 hex1))
     go_roundw
     case rel => exact ⟨k + 1, A1, c1, by omega, by go_num, rfl, hb, by rw [take_snoc Hy.out, List.map_append]; exact ho1⟩
     case measure => simp [intOf]; omega
   · go_wp2_with fail
     go_ret
     obtain rfl : k = n := by omega
     refine ⟨_, _, rfl, ?_, ext_⟩
     rw [List.take_of_length_le (by have := hl.out; omega)] at ho
     exact ho
theorem leavesFrom_snoc : ∀ (rows : List Sw.Row) (t : Int) (r : Sw.Row), Sw.leavesFrom t (rows ++ [r]) = Sw.leavesFrom t rows ++ [Sw.ownLeaf (t + rows.length) r]
 | [], t, r => by simp [Sw.leavesFrom]
 | x :: rs, t, r => by
   simp only [List.cons_append, Sw.leavesFrom, leavesFrom_snoc rs, List.length_cons]
   rw [show t + 1 + (rs.length : Int) = t + ((rs.length + 1 : Nat) : Int) from by omega]
theorem sLeaves_c (A : Option Addr) (c n : Nat) (xs : List Sw.Row) (w : World) (hxs : RR w 0 A c n xs) (hn : n ≤ 4194304) : Calls Tryz.prog 254 #[.slice A n c] w fun E w' => ∃ A' c', E = .returned (.slice A' n c') ∧ OwI w' w.heap.size A' c' n (Sw.ownLeaves xs) ∧ Ex w w' := by
 have hl := Lib.hid hxs.1
 go_enter Tryz.func254, Tryz.ntmps254
 go_wp2_with fail
 go_loopw [3, 4] (fun o i wr => ∃ (k : Nat) (B : Option Addr) (d : Nat), k ≤ n ∧ i = .int .i64 k ∧ o = .slice B k d ∧ Ex w wr ∧ OwI wr w.heap.size B d k (Sw.ownLeaves (xs.take k))) (fun _ i _ => n - (intOf i).toNat)
 case atStart => exact ⟨0, _, 0, Nat.zero_le _, rfl, rfl, ext_, Ow.new [] rfl rfl rfl (fun _ => rfl) (Nat.le_refl _) (by omega)⟩
 case round =>
   obtain ⟨k, B, d, hk, rfl, rfl, hb, ho⟩ := hrel
   have hst := Ex.rules hb rfl
   obtain ⟨hc, hf, hz⟩ := hst
   by_cases hlt : k < n
   · obtain ⟨g, off, y, rfl, hg0, hg, hd, hy, hc0, hc1, hc2⟩ := at_R hxs hlt
     have Hy := Lib.hid hy; clear hd hy
     go_wp2_with (first | (go_at_call 278; refine (sOwnLeaf_c _ _ _).mono ?_; rintro E w1 ⟨rfl, hb⟩; obtain ⟨hc, hf, hz⟩ := xy hb) | (at_builtin; apply wpList_app (lo := w.heap.size) el_I one_I rfl rfl rfl rfl; (first | assumption | exact Ow.nil _ _ | (apply Ow.keep; assumption; exact kf_) | (refine own_)); (first | (refine Rs.new [Sw.ownLeaf k y] (by (first | rfl | (simp only [zq_]; done) | omega)) rfl rfl (fun _ => rfl) (by omega))); omega; exact sz_; intro A1 c1 w2 ho1 hch1 hat1 hex1 hlow1; have hb := hex1 (fun _ => False) w (by exact ext_) (by exact sz_); have hz := hch1.size; (try simp only [zq_] at hz); obtain ⟨hc, hf⟩ := low_rules hlow1; clear hlow1 hex1))
     go_roundw
     case rel =>
       refine ⟨k + 1, A1, c1, by omega, by go_num, rfl, hb, ?_⟩
       rw [take_snoc Hy.out]
       unfold Sw.ownLeaves at ho1 ⊢
       rw [leavesFrom_snoc, List.length_take, Nat.min_eq_left (by have := hl.out; omega), Int.zero_add]
       exact ho1
     case measure => simp [intOf]; omega
   · go_wp2_with fail
     go_ret
     obtain rfl : k = n := by omega
     refine ⟨_, _, rfl, ?_, ext_⟩
     rw [List.take_of_length_le (by have := hl.out; omega)] at ho
     exact ho
theorem sOwnOk_c (A : Option Addr) (c n : Nat) (xs : List Sw.Row) (w : World) (hxs : RR w 0 A c n xs) : Calls Tryz.prog 252 #[.slice A n c] w fun E w' => E = .returned (.bool (Sw.ownOk xs)) ∧ Ex w w' := by
 have hl := Lib.hid hxs.1
 by_cases hn : n = 8
 · subst hn
   go_enter Tryz.func252, Tryz.ntmps252
   go_wp2_with fail
   go_loopw [3] (fun i wr => ∃ (k : Nat), k ≤ 8 ∧ i = .int .i64 k ∧ Ex w wr ∧ xs.all Sw.rowOk = (xs.drop k).all Sw.rowOk) (fun i _ => 8 - (intOf i).toNat)
   case atStart => exact ⟨0, Nat.zero_le _, rfl, ext_, rfl⟩
   case round =>
     obtain ⟨k, hk, rfl, hb, hrel⟩ := hrel
     have hst := Ex.rules hb rfl
     obtain ⟨hc, hf, hz⟩ := hst
     by_cases hlt : k < 8
     · obtain ⟨g, off, y, rfl, hg0, hg, hd, hy, hc0, hc1, hc2⟩ := at_R hxs hlt
       rw [hd] at hrel
       have Hrel := Lib.hid hrel; clear hd hy hrel
       go_wp2_with (first | (go_at_call 99; refine (l1In_c _ _ _ _).mono ?_; rintro E w' ⟨rfl, rfl⟩))
       all_goals (first | (refine ⟨⟨k + 1, by omega, by go_num, (by exact ext_), ?_⟩, by simp [intOf]; omega⟩; have hh := Hrel.out; clear Hrel; rw [List.all_cons] at hh; rw [hh]; clear hh; go_tidy; (try simp only [Bool.not_eq_true', Bool.not_eq_false', Bool.not_eq_true, Bool.not_eq_false, beq_iff_eq, bne_iff_ne, ne_eq, beq_eq_false_iff_ne, bne_eq_false_iff_eq] at *); have hp : Sw.rowOk y = true := (by (first | (simp [Sw.rowOk, show Sw.inR 0 1 5 = false from rfl, *]; done) | (simp [Sw.rowOk, show Sw.inR 0 1 5 = false from rfl, *]; omega) | (simp [Sw.rowOk, show Sw.inR 0 1 5 = false from rfl, *]; intros; simp_all; done) | (simp_all [Sw.rowOk, show Sw.inR 0 1 5 = false from rfl]; done))); simp [hp]) | (go_ret; refine ⟨ret_b ?_, (by first | rfl | exact ext_)⟩; have hh := Hrel.out; clear Hrel; rw [List.all_cons] at hh; unfold Sw.ownOk; rw [hh]; clear hh; go_tidy; (try simp only [Bool.not_eq_true', Bool.not_eq_false', Bool.not_eq_true, Bool.not_eq_false, beq_iff_eq, bne_iff_ne, ne_eq, beq_eq_false_iff_ne, bne_eq_false_iff_eq] at *); have hp : Sw.rowOk y = false := (by (first | (simp [Sw.rowOk, show Sw.inR 0 1 5 = false from rfl, *]; done) | (simp [Sw.rowOk, show Sw.inR 0 1 5 = false from rfl, *]; omega) | (simp [Sw.rowOk, show Sw.inR 0 1 5 = false from rfl, *]; intros; simp_all; done) | (simp_all [Sw.rowOk, show Sw.inR 0 1 5 = false from rfl]; done))); simp [hp]))
     · have Hrel := Lib.hid hrel; clear hrel
       go_wp2
       go_ret
       refine ⟨ret_b ?_, ext_⟩
       have := Hrel.out
       rw [List.drop_of_length_le (by have := hl.out; omega)] at this
       rw [Sw.ownOk, this, ← hl.out]
       simp
 · have hb : decide (n = 8) = false := by simp [hn]
   go_enter Tryz.func252, Tryz.ntmps252
   go_wp2
   go_ret
   refine ⟨ret_b ?_, Ch.refl _ _⟩
   rw [Sw.ownOk, ← hl.out]
   simp [hn]
theorem sOwnFits_c (A : Option Addr) (c n : Nat) (xs : List Sw.Row) (e : Sw.Ent) (w : World) (hxs : RR w 0 A c n xs) : Calls Tryz.prog 260 #[.slice A n c, .agg #[.int .i64 e.kind, .int .i64 e.ticket, .int .i64 e.who, .int .i64 e.price]] w fun E w' => E = .returned (.bool (Sw.ownFits xs e)) ∧ Ex w w' := by
 have hl := Lib.hid hxs.1
 by_cases h1 : Sw.ownOk xs = true
 · by_cases h2 : Sw.entOk e = true
   · have ht : 0 ≤ e.ticket ∧ e.ticket ≤ 7 := by simp [Sw.entOk, Sw.inR] at h2; omega
     obtain ⟨t, ht'⟩ := Int.eq_ofNat_of_zero_le ht.1
     have hn8 : n = 8 := by have := hl.out; simp [Sw.ownOk] at h1; omega
     subst hn8
     have hlt : t < 8 := by omega
     obtain ⟨g, off, y, rfl, hg0, hg, hd, hy, hc0, hc1, hc2⟩ := at_R hxs hlt
     have hrow : Sw.rowAt xs e.ticket = y := by simp [Sw.rowAt, ht', hy]
     have hfit : Sw.ownFits xs e = Sw.fitsRow y e := by simp [Sw.ownFits, h1, h2, hrow]
     have Hfit := Lib.hid hfit
     clear hfit hrow hd hy ht
     have Ht := Lib.hid ht'
     have ht2 : (0 : Int) ≤ e.ticket ∧ e.ticket < 8 := by omega
     obtain ⟨ht0, ht1⟩ := ht2
     have e0 : e.ticket.toNat = t := by omega
     clear ht'
     obtain ⟨yw, yf, yu⟩ := y
     dsimp only at hc0 hc1 hc2
     by_cases k1 : e.kind = 1
     · have hk1 : (e.kind == 1) = true := by simp [k1]
       have K1 := Lib.hid k1; clear k1
       go_enter Tryz.func260, Tryz.ntmps260
       go_wp2_with (first | (go_at_call 252; apply Calls.mono; apply sOwnOk_c; (exact rd_); rintro E w1 ⟨rfl, hb⟩; obtain ⟨hc, hf, hz⟩ := xy hb) | (go_at_call 284; refine (sEntOk_c _ _).mono ?_; rintro E w1 ⟨rfl, hb⟩; obtain ⟨hc, hf, hz⟩ := xy hb))
       go_ret
       refine ⟨ret_b ?_, ext_⟩
       rw [Hfit.out]
       simp [Sw.fitsRow, K1.out, beqI]
     have hk1 : (e.kind == 1) = false := by simp [k1]
     by_cases k2 : e.kind = 2
     · have hk2 : (e.kind == 2) = true := by simp [k2]
       have K2 := Lib.hid k2; clear k2
       by_cases b1 : yw = 0
       · have hb1 : (yw != 0) = false := by simp [b1]
         have B1 := Lib.hid b1; clear b1
         go_enter Tryz.func260, Tryz.ntmps260
         go_wp2_with (first | (go_at_call 252; apply Calls.mono; apply sOwnOk_c; (exact rd_); rintro E w1 ⟨rfl, hb⟩; obtain ⟨hc, hf, hz⟩ := xy hb) | (go_at_call 284; refine (sEntOk_c _ _).mono ?_; rintro E w1 ⟨rfl, hb⟩; obtain ⟨hc, hf, hz⟩ := xy hb))
         go_quiet ((first | (go_at_call 178; exact Calls.quiet_same (sEntCap_c _ _))))
         go_wp2
         go_ret
         refine ⟨ret_b ?_, ext_⟩
         rw [Hfit.out]
         simp [Sw.fitsRow, K2.out, B1.out]
       have hb1 : (yw != 0) = true := by simp [b1]
       cases yu with
       | true =>
         go_enter Tryz.func260, Tryz.ntmps260
         go_wp2_with (first | (go_at_call 252; apply Calls.mono; apply sOwnOk_c; (exact rd_); rintro E w1 ⟨rfl, hb⟩; obtain ⟨hc, hf, hz⟩ := xy hb) | (go_at_call 284; refine (sEntOk_c _ _).mono ?_; rintro E w1 ⟨rfl, hb⟩; obtain ⟨hc, hf, hz⟩ := xy hb))
         go_quiet ((first | (go_at_call 178; exact Calls.quiet_same (sEntCap_c _ _))))
         go_wp2
         go_ret
         refine ⟨ret_b ?_, ext_⟩
         rw [Hfit.out]
         simp [Sw.fitsRow, K2.out]
       | false =>
         by_cases b2 : yw = e.who
         · have hb2 : (yw != e.who) = false := by simp [b2]
           have B2 := Lib.hid b2; clear b2
           go_enter Tryz.func260, Tryz.ntmps260
           go_wp2_with (first | (go_at_call 252; apply Calls.mono; apply sOwnOk_c; (exact rd_); rintro E w1 ⟨rfl, hb⟩; obtain ⟨hc, hf, hz⟩ := xy hb) | (go_at_call 284; refine (sEntOk_c _ _).mono ?_; rintro E w1 ⟨rfl, hb⟩; obtain ⟨hc, hf, hz⟩ := xy hb))
           go_quiet ((first | (go_at_call 178; exact Calls.quiet_same (sEntCap_c _ _))))
           go_wp2
           go_ret
           refine ⟨ret_b ?_, ext_⟩
           rw [Hfit.out]
           simp [Sw.fitsRow, K2.out, B2.out]
         have hb2 : (yw != e.who) = true := by simp [b2]
         go_enter Tryz.func260, Tryz.ntmps260
         go_wp2_with (first | (go_at_call 252; apply Calls.mono; apply sOwnOk_c; (exact rd_); rintro E w1 ⟨rfl, hb⟩; obtain ⟨hc, hf, hz⟩ := xy hb) | (go_at_call 284; refine (sEntOk_c _ _).mono ?_; rintro E w1 ⟨rfl, hb⟩; obtain ⟨hc, hf, hz⟩ := xy hb))
         go_quiet ((first | (go_at_call 178; exact Calls.quiet_same (sEntCap_c _ _))))
         go_wp2
         go_ret
         refine ⟨ret_b ?_, ext_⟩
         rw [Hfit.out]
         simp [Sw.fitsRow, K2.out, b1, b2]
     have hk2 : (e.kind == 2) = false := by simp [k2]
     by_cases b1 : yw = e.who
     · have hb1 : (yw == e.who) = true := by simp [b1]
       have B1 := Lib.hid b1; clear b1
       go_enter Tryz.func260, Tryz.ntmps260
       go_wp2_with (first | (go_at_call 252; apply Calls.mono; apply sOwnOk_c; (exact rd_); rintro E w1 ⟨rfl, hb⟩; obtain ⟨hc, hf, hz⟩ := xy hb) | (go_at_call 284; refine (sEntOk_c _ _).mono ?_; rintro E w1 ⟨rfl, hb⟩; obtain ⟨hc, hf, hz⟩ := xy hb))
       go_ret
       refine ⟨ret_b ?_, ext_⟩
       rw [Hfit.out]
       simp [Sw.fitsRow, k1, k2, B1.out]
     have hb1 : (yw == e.who) = false := by simp [b1]
     go_enter Tryz.func260, Tryz.ntmps260
     go_wp2_with (first | (go_at_call 252; apply Calls.mono; apply sOwnOk_c; (exact rd_); rintro E w1 ⟨rfl, hb⟩; obtain ⟨hc, hf, hz⟩ := xy hb) | (go_at_call 284; refine (sEntOk_c _ _).mono ?_; rintro E w1 ⟨rfl, hb⟩; obtain ⟨hc, hf, hz⟩ := xy hb))
     go_ret
     refine ⟨ret_b ?_, ext_⟩
     rw [Hfit.out]
     simp [Sw.fitsRow, k1, k2, b1]
   · go_enter Tryz.func260, Tryz.ntmps260
     go_wp2_with (first | (go_at_call 252; apply Calls.mono; apply sOwnOk_c; (exact rd_); rintro E w1 ⟨rfl, hb⟩; obtain ⟨hc, hf, hz⟩ := xy hb) | (go_at_call 284; refine (sEntOk_c _ _).mono ?_; rintro E w1 ⟨rfl, hb⟩; obtain ⟨hc, hf, hz⟩ := xy hb))
     all_goals (go_ret; refine ⟨ret_b ?_, (by first | rfl | exact ext_)⟩; go_tidy; (try simp only [Bool.not_eq_true', Bool.not_eq_false', Bool.not_eq_true, Bool.not_eq_false, beq_iff_eq, bne_iff_ne, ne_eq, beq_eq_false_iff_ne, bne_eq_false_iff_eq] at *); (first | rfl | (simp [Sw.ownFits, *]; done) | (simp [Sw.ownFits, *]; omega) | (simp [Sw.ownFits, beqI, *]; done) | (simp_all [Sw.ownFits, beqI]; done) | (simp_all [Sw.ownFits, beqI] <;> omega) | simp_all [Sw.ownFits, beqI]))
 · go_enter Tryz.func260, Tryz.ntmps260
   go_wp2_with (first | (go_at_call 252; apply Calls.mono; apply sOwnOk_c; (exact rd_); rintro E w1 ⟨rfl, hb⟩; obtain ⟨hc, hf, hz⟩ := xy hb) | (go_at_call 284; refine (sEntOk_c _ _).mono ?_; rintro E w1 ⟨rfl, hb⟩; obtain ⟨hc, hf, hz⟩ := xy hb))
   all_goals (go_ret; refine ⟨ret_b ?_, (by first | rfl | exact ext_)⟩; go_tidy; (try simp only [Bool.not_eq_true', Bool.not_eq_false', Bool.not_eq_true, Bool.not_eq_false, beq_iff_eq, bne_iff_ne, ne_eq, beq_eq_false_iff_ne, bne_eq_false_iff_eq] at *); (first | rfl | (simp [Sw.ownFits, *]; done) | (simp [Sw.ownFits, *]; omega) | (simp [Sw.ownFits, beqI, *]; done) | (simp_all [Sw.ownFits, beqI]; done) | (simp_all [Sw.ownFits, beqI] <;> omega) | simp_all [Sw.ownFits, beqI]))
end Go.Proofs.YtnnoiagommiapaaGreat
