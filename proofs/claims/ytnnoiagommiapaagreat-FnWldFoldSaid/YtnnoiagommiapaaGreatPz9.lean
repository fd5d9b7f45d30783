/- Texts joined: RowsW, Draw1. -/
import Derived.Test.YtnnoiagommiapaaGreatPz7
import Derived.Test.YtnnoiagommiapaaGreatPz8
import Derived.Laws.BitsAllLaws
import Derived.Deep.DeepCutAuto
set_option maxRecDepth 100000
set_option linter.unusedSimpArgs false
set_option linter.unusedVariables false
namespace Go.Proofs.YtnnoiagommiapaaGreat
open Go.RowKit Go
set_option maxHeartbeats 400000
theorem take_snoc {α : Type} {xs : List α} {k : Nat} {y : α} (h : xs[k]? = some y) : xs.take (k + 1) = xs.take k ++ [y] := by rw [List.take_add_one, h]; rfl
theorem sEntLeaves_c (A : Option Addr) (c n : Nat) (xs : List Sw.Ent) (w : World) (hxs : RE w 0 A c n xs) (hn : n ≤ 4194304) : Calls Tryz.prog 245 #[.slice A n c] w fun E w' => ∃ A' c', E = .returned (.slice A' n c') ∧ OwI w' w.heap.size A' c' n (xs.map Sw.entLeaf) ∧ Ex w w' := by
 have hl := Lib.hid hxs.1
 go_enter Tryz.func245, Tryz.ntmps245
 go_wp2_with fail
 go_loopw [3, 4] (fun o i wr => ∃ (k : Nat) (B : Option Addr) (d : Nat), k ≤ n ∧ i = .int .i64 k ∧ o = .slice B k d ∧ Ex w wr ∧ OwI wr w.heap.size B d k ((xs.take k).map Sw.entLeaf)) (fun _ i _ => n - (intOf i).toNat)
 case atStart => exact ⟨0, _, 0, Nat.zero_le _, rfl, rfl, ext_, Ow.new [] rfl rfl rfl (fun _ => rfl) (Nat.le_refl _) (by omega)⟩
 case round =>
   obtain ⟨k, B, d, hk, rfl, rfl, hb, ho⟩ := hrel
   have hst := Ex.rules hb rfl
   obtain ⟨hc, hf, hz⟩ := hst
   by_cases hlt : k < n
   · obtain ⟨g, off, y, rfl, hg0, hg, hd, hy, hc0, hc1, hc2, hc3⟩ := at_E hxs hlt
     have Hd := Lib.hid hd; have Hy := Lib.hid hy; clear hd hy
     go_wp2_with (first | (go_at_call 274; refine (sEntLeaf_c _ _).mono ?_; rintro E w1 ⟨rfl, hb⟩; obtain ⟨hc, hf, hz⟩ := xy hb) | (at_builtin; apply wpList_app (lo := w.heap.size) el_I one_I rfl rfl rfl rfl; (first | assumption | exact Ow.nil _ _ | (apply Ow.keep; assumption; exact kf_) | (refine own_)); (first | (refine Rs.new [Sw.entLeaf y] (by (first | rfl | (simp only [zq_]; done) | omega)) rfl rfl (fun _ => rfl) (by omega))); omega; exact sz_; intro A1 c1 w2 ho1 hch1 hat1 hex1 hlow1; have hb := hex1 (fun _ => False) w (by exact ext_) (by exact sz_); have hz := hch1.size; (try simp only [zq_] at hz); obtain ⟨hc, hf⟩ := low_rules hlow1; clear hlow1 hex1))
     go_roundw
     case rel => exact ⟨k + 1, A1, c1, by omega, by go_num, rfl, hb, by rw [take_snoc Hy.out, List.map_append]; exact ho1⟩
     case measure => simp [intOf]; omega
   · go_wp2_with fail
     go_ret
     obtain rfl : k = n := by omega
     refine ⟨_, _, rfl, ?_, ext_⟩
     rw [List.take_of_length_le (by have := hl.out; omega)] at ho
     exact ho
theorem leavesFrom_snoc : ∀ (rows : List Sw.Row) (t : Int) (r : Sw.Row), Sw.leavesFrom t (rows ++ [r]) = Sw.leavesFrom t rows ++ [Sw.ownLeaf (t + rows.length) r]
 | [], t, r => by simp [Sw.leavesFrom]
 | x :: rs, t, r => by
   simp only [List.cons_append, Sw.leavesFrom, leavesFrom_snoc rs, List.length_cons]
   rw [show t + 1 + (rs.length : Int) = t + ((rs.length + 1 : Nat) : Int) from by omega]
theorem sLeaves_c (A : Option Addr) (c n : Nat) (xs : List Sw.Row) (w : World) (hxs : RR w 0 A c n xs) (hn : n ≤ 4194304) : Calls Tryz.prog 254 #[.slice A n c] w fun E w' => ∃ A' c', E = .returned (.slice A' n c') ∧ OwI w' w.heap.size A' c' n (Sw.ownLeaves xs) ∧ Ex w w' := by
 have hl := Lib.hid hxs.1
 go_enter Tryz.func254, Tryz.ntmps254
 go_wp2_with fail
 go_loopw [3, 4] (fun o i wr => ∃ (k : Nat) (B : Option Addr) (d : Nat), k ≤ n ∧ i = .int .i64 k ∧ o = .slice B k d ∧ Ex w wr ∧ OwI wr w.heap.size B d k (Sw.ownLeaves (xs.take k))) (fun _ i _ => n - (intOf i).toNat)
 case atStart => exact ⟨0, _, 0, Nat.zero_le _, rfl, rfl, ext_, Ow.new [] rfl rfl rfl (fun _ => rfl) (Nat.le_refl _) (by omega)⟩
 case round =>
   obtain ⟨k, B, d, hk, rfl, rfl, hb, ho⟩ := hrel
   have hst := Ex.rules hb rfl
   obtain ⟨hc, hf, hz⟩ := hst
   by_cases hlt : k < n
   · obtain ⟨g, off, y, rfl, hg0, hg, hd, hy, hc0, hc1, hc2⟩ := at_R hxs hlt
     have Hy := Lib.hid hy; clear hd hy
     go_wp2_with (first | (go_at_call 278; refine (sOwnLeaf_c _ _ _).mono ?_; rintro E w1 ⟨rfl, hb⟩; obtain ⟨hc, hf, hz⟩ := xy hb) | (at_builtin; apply wpList_app (lo := w.heap.size) el_I one_I rfl rfl rfl rfl; (first | assumption | exact Ow.nil _ _ | (apply Ow.keep; assumption; exact kf_) | (refine own_)); (first | (refine Rs.new [Sw.ownLeaf k y] (by (first | rfl | (simp only [zq_]; done) | omega)) rfl rfl (fun _ => rfl) (by omega))); omega; exact sz_; intro A1 c1 w2 ho1 hch1 hat1 hex1 hlow1; have hb := hex1 (fun _ => False) w (by exact ext_) (by exact sz_); have hz := hch1.size; (try simp only [zq_] at hz); obtain ⟨hc, hf⟩ := low_rules hlow1; clear hlow1 hex1))
     go_roundw
     case rel =>
       refine ⟨k + 1, A1, c1, by omega, by go_num, rfl, hb, ?_⟩
       rw [take_snoc Hy.out]
       unfold Sw.ownLeaves at ho1 ⊢
       rw [leavesFrom_snoc, List.length_take, Nat.min_eq_left (by have := hl.out; omega), Int.zero_add]
       exact ho1
     case measure => simp [intOf]; omega
   · go_wp2_with fail
     go_ret
     obtain rfl : k = n := by omega
     refine ⟨_, _, rfl, ?_, ext_⟩
     rw [List.take_of_length_le (by have := hl.out; omega)] at ho
     exact ho
theorem sOwnOk_c (A : Option Addr) (c n : Nat) (xs : List Sw.Row) (w : World) (hxs : RR w 0 A c n xs) : Calls Tryz.prog 252 #[.slice A n c] w fun E w' => E = .returned (.bool (Sw.ownOk xs)) ∧ Ex w w' := by
 have hl := Lib.hid hxs.1
 by_cases hn : n = 8
 · subst hn
   go_enter Tryz.func252, Tryz.ntmps252
   go_wp2_with fail
   go_loopw [3] (fun i wr => ∃ (k : Nat), k ≤ 8 ∧ i = .int .i64 k ∧ Ex w wr ∧ xs.all Sw.rowOk = (xs.drop k).all Sw.rowOk) (fun i _ => 8 - (intOf i).toNat)
   case atStart => exact ⟨0, Nat.zero_le _, rfl, ext_, rfl⟩
   case round =>
     obtain ⟨k, hk, rfl, hb, hrel⟩ := hrel
     have hst := Ex.rules hb rfl
     obtain ⟨hc, hf, hz⟩ := hst
     by_cases hlt : k < 8
     · obtain ⟨g, off, y, rfl, hg0, hg, hd, hy, hc0, hc1, hc2⟩ := at_R hxs hlt
       rw [hd] at hrel
       have Hrel := Lib.hid hrel; clear hd hy hrel
       go_wp2_with (first | (go_at_call 99; refine (l1In_c _ _ _ _).mono ?_; rintro E w' ⟨rfl, rfl⟩))
       all_goals (first | (refine ⟨⟨k + 1, by omega, by go_num, (by exact ext_), ?_⟩, by simp [intOf]; omega⟩; have hh := Hrel.out; clear Hrel; rw [List.all_cons] at hh; rw [hh]; clear hh; go_tidy; (try simp only [Bool.not_eq_true', Bool.not_eq_false', Bool.not_eq_true, Bool.not_eq_false, beq_iff_eq, bne_iff_ne, ne_eq, beq_eq_false_iff_ne, bne_eq_false_iff_eq] at *); have hp : Sw.rowOk y = true := (by (first | (simp [Sw.rowOk, show Sw.inR 0 1 5 = false from rfl, *]; done) | (simp [Sw.rowOk, show Sw.inR 0 1 5 = false from rfl, *]; omega) | (simp [Sw.rowOk, show Sw.inR 0 1 5 = false from rfl, *]; intros; simp_all; done) | (simp_all [Sw.rowOk, show Sw.inR 0 1 5 = false from rfl]; done))); simp [hp]) | (go_ret; refine ⟨ret_b ?_, (by first | rfl | exact ext_)⟩; have hh := Hrel.out; clear Hrel; rw [List.all_cons] at hh; unfold Sw.ownOk; rw [hh]; clear hh; go_tidy; (try simp only [Bool.not_eq_true', Bool.not_eq_false', Bool.not_eq_true, Bool.not_eq_false, beq_iff_eq, bne_iff_ne, ne_eq, beq_eq_false_iff_ne, bne_eq_false_iff_eq] at *); have hp : Sw.rowOk y = false := (by (first | (simp [Sw.rowOk, show Sw.inR 0 1 5 = false from rfl, *]; done) | (simp [Sw.rowOk, show Sw.inR 0 1 5 = false from rfl, *]; omega) | (simp [Sw.rowOk, show Sw.inR 0 1 5 = false from rfl, *]; intros; simp_all; done) | (simp_all [Sw.rowOk, show Sw.inR 0 1 5 = false from rfl]; done))); simp [hp]))
     · have Hrel := Lib.hid hrel; clear hrel
       go_wp2
       go_ret
       refine ⟨ret_b ?_, ext_⟩
       have := Hrel.out
       rw [List.drop_of_length_le (by have := hl.out; omega)] at this
       rw [Sw.ownOk, this, ← hl.out]
       simp
 · have hb : decide (n = 8) = false := by simp [hn]
   go_enter Tryz.func252, Tryz.ntmps252
   go_wp2
   go_ret
   refine ⟨ret_b ?_, Ch.refl _ _⟩
   rw [Sw.ownOk, ← hl.out]
   simp [hn]
theorem sOwnFits_c (A : Option Addr) (c n : Nat) (xs : List Sw.Row) (e : Sw.Ent) (w : World) (hxs : RR w 0 A c n xs) : Calls Tryz.prog 260 #[.slice A n c, .agg #[.int .i64 e.kind, .int .i64 e.ticket, .int .i64 e.who, .int .i64 e.price]] w fun E w' => E = .returned (.bool (Sw.ownFits xs e)) ∧ Ex w w' := by
 have hl := Lib.hid hxs.1
 by_cases h1 : Sw.ownOk xs = true
 · by_cases h2 : Sw.entOk e = true
   · have ht : 0 ≤ e.ticket ∧ e.ticket ≤ 7 := by simp [Sw.entOk, Sw.inR] at h2; omega
     obtain ⟨t, ht'⟩ := Int.eq_ofNat_of_zero_le ht.1
     have hn8 : n = 8 := by have := hl.out; simp [Sw.ownOk] at h1; omega
     subst hn8
     have hlt : t < 8 := by omega
     obtain ⟨g, off, y, rfl, hg0, hg, hd, hy, hc0, hc1, hc2⟩ := at_R hxs hlt
     have hrow : Sw.rowAt xs e.ticket = y := by simp [Sw.rowAt, ht', hy]
     have hfit : Sw.ownFits xs e = Sw.fitsRow y e := by simp [Sw.ownFits, h1, h2, hrow]
     have Hfit := Lib.hid hfit
     clear hfit hrow hd hy ht
     have Ht := Lib.hid ht'
     have ht2 : (0 : Int) ≤ e.ticket ∧ e.ticket < 8 := by omega
     obtain ⟨ht0, ht1⟩ := ht2
     have e0 : e.ticket.toNat = t := by omega
     clear ht'
     obtain ⟨yw, yf, yu⟩ := y
     dsimp only at hc0 hc1 hc2
     by_cases k1 : e.kind = 1
     · have hk1 : (e.kind == 1) = true := by simp [k1]
       have K1 := Lib.hid k1; clear k1
       go_enter Tryz.func260, Tryz.ntmps260
       go_wp2_with (first | (go_at_call 252; apply Calls.mono; apply sOwnOk_c; (exact rd_); rintro E w1 ⟨rfl, hb⟩; obtain ⟨hc, hf, hz⟩ := xy hb) | (go_at_call 284; refine (sEntOk_c _ _).mono ?_; rintro E w1 ⟨rfl, hb⟩; obtain ⟨hc, hf, hz⟩ := xy hb))
       go_ret
       refine ⟨ret_b ?_, ext_⟩
       rw [Hfit.out]
       simp [Sw.fitsRow, K1.out, beqI]
     have hk1 : (e.kind == 1) = false := by simp [k1]
     by_cases k2 : e.kind = 2
     · have hk2 : (e.kind == 2) = true := by simp [k2]
       have K2 := Lib.hid k2; clear k2
       by_cases b1 : yw = 0
       · have hb1 : (yw != 0) = false := by simp [b1]
         have B1 := Lib.hid b1; clear b1
         go_enter Tryz.func260, Tryz.ntmps260
         go_wp2_with (first | (go_at_call 252; apply Calls.mono; apply sOwnOk_c; (exact rd_); rintro E w1 ⟨rfl, hb⟩; obtain ⟨hc, hf, hz⟩ := xy hb) | (go_at_call 284; refine (sEntOk_c _ _).mono ?_; rintro E w1 ⟨rfl, hb⟩; obtain ⟨hc, hf, hz⟩ := xy hb))
         go_quiet ((first | (go_at_call 178; exact Calls.quiet_same (sEntCap_c _ _))))
         go_wp2
         go_ret
         refine ⟨ret_b ?_, ext_⟩
         rw [Hfit.out]
         simp [Sw.fitsRow, K2.out, B1.out]
       have hb1 : (yw != 0) = true := by simp [b1]
       cases yu with
       | true =>
         go_enter Tryz.func260, Tryz.ntmps260
         go_wp2_with (first | (go_at_call 252; apply Calls.mono; apply sOwnOk_c; (exact rd_); rintro E w1 ⟨rfl, hb⟩; obtain ⟨hc, hf, hz⟩ := xy hb) | (go_at_call 284; refine (sEntOk_c _ _).mono ?_; rintro E w1 ⟨rfl, hb⟩; obtain ⟨hc, hf, hz⟩ := xy hb))
         go_quiet ((first | (go_at_call 178; exact Calls.quiet_same (sEntCap_c _ _))))
         go_wp2
         go_ret
         refine ⟨ret_b ?_, ext_⟩
         rw [Hfit.out]
         simp [Sw.fitsRow, K2.out]
       | false =>
         by_cases b2 : yw = e.who
         · have hb2 : (yw != e.who) = false := by simp [b2]
           have B2 := Lib.hid b2; clear b2
           go_enter Tryz.func260, Tryz.ntmps260
           go_wp2_with (first | (go_at_call 252; apply Calls.mono; apply sOwnOk_c; (exact rd_); rintro E w1 ⟨rfl, hb⟩; obtain ⟨hc, hf, hz⟩ := xy hb) | (go_at_call 284; refine (sEntOk_c _ _).mono ?_; rintro E w1 ⟨rfl, hb⟩; obtain ⟨hc, hf, hz⟩ := xy hb))
           go_quiet ((first | (go_at_call 178; exact Calls.quiet_same (sEntCap_c _ _))))
           go_wp2
           go_ret
           refine ⟨ret_b ?_, ext_⟩
           rw [Hfit.out]
           simp [Sw.fitsRow, K2.out, B2.out]
         have hb2 : (yw != e.who) = true := by simp [b2]
         go_enter Tryz.func260, Tryz.ntmps260
         go_wp2_with (first | (go_at_call 252; apply Calls.mono; apply sOwnOk_c; (exact rd_); rintro E w1 ⟨rfl, hb⟩; obtain ⟨hc, hf, hz⟩ := xy hb) | (go_at_call 284; refine (sEntOk_c _ _).mono ?_; rintro E w1 ⟨rfl, hb⟩; obtain ⟨hc, hf, hz⟩ := xy hb))
         go_quiet ((first | (go_at_call 178; exact Calls.quiet_same (sEntCap_c _ _))))
         go_wp2
         go_ret
         refine ⟨ret_b ?_, ext_⟩
         rw [Hfit.out]
         simp [Sw.fitsRow, K2.out, b1, b2]
     have hk2 : (e.kind == 2) = false := by simp [k2]
     by_cases b1 : yw = e.who
     · have hb1 : (yw == e.who) = true := by simp [b1]
       have B1 := Lib.hid b1; clear b1
       go_enter Tryz.func260, Tryz.ntmps260
       go_wp2_with (first | (go_at_call 252; apply Calls.mono; apply sOwnOk_c; (exact rd_); rintro E w1 ⟨rfl, hb⟩; obtain ⟨hc, hf, hz⟩ := xy hb) | (go_at_call 284; refine (sEntOk_c _ _).mono ?_; rintro E w1 ⟨rfl, hb⟩; obtain ⟨hc, hf, hz⟩ := xy hb))
       go_ret
       refine ⟨ret_b ?_, ext_⟩
       rw [Hfit.out]
       simp [Sw.fitsRow, k1, k2, B1.out]
     have hb1 : (yw == e.who) = false := by simp [b1]
     go_enter Tryz.func260, Tryz.ntmps260
     go_wp2_with (first | (go_at_call 252; apply Calls.mono; apply sOwnOk_c; (exact rd_); rintro E w1 ⟨rfl, hb⟩; obtain ⟨hc, hf, hz⟩ := xy hb) | (go_at_call 284; refine (sEntOk_c _ _).mono ?_; rintro E w1 ⟨rfl, hb⟩; obtain ⟨hc, hf, hz⟩ := xy hb))
     go_ret
     refine ⟨ret_b ?_, ext_⟩
     rw [Hfit.out]
     simp [Sw.fitsRow, k1, k2, b1]
   · go_enter Tryz.func260, Tryz.ntmps260
     go_wp2_with (first | (go_at_call 252; apply Calls.mono; apply sOwnOk_c; (exact rd_); rintro E w1 ⟨rfl, hb⟩; obtain ⟨hc, hf, hz⟩ := xy hb) | (go_at_call 284; refine (sEntOk_c _ _).mono ?_; rintro E w1 ⟨rfl, hb⟩; obtain ⟨hc, hf, hz⟩ := xy hb))
     all_goals (go_ret; refine ⟨ret_b ?_, (by first | rfl | exact ext_)⟩; go_tidy; (try simp only [Bool.not_eq_true', Bool.not_eq_false', Bool.not_eq_true, Bool.not_eq_false, beq_iff_eq, bne_iff_ne, ne_eq, beq_eq_false_iff_ne, bne_eq_false_iff_eq] at *); (first | rfl | (simp [Sw.ownFits, *]; done) | (simp [Sw.ownFits, *]; omega) | (simp [Sw.ownFits, beqI, *]; done) | (simp_all [Sw.ownFits, beqI]; done) | (simp_all [Sw.ownFits, beqI] <;> omega) | simp_all [Sw.ownFits, beqI]))
 · go_enter Tryz.func260, Tryz.ntmps260
   go_wp2_with (first | (go_at_call 252; apply Calls.mono; apply sOwnOk_c; (exact rd_); rintro E w1 ⟨rfl, hb⟩; obtain ⟨hc, hf, hz⟩ := xy hb) | (go_at_call 284; refine (sEntOk_c _ _).mono ?_; rintro E w1 ⟨rfl, hb⟩; obtain ⟨hc, hf, hz⟩ := xy hb))
   all_goals (go_ret; refine ⟨ret_b ?_, (by first | rfl | exact ext_)⟩; go_tidy; (try simp only [Bool.not_eq_true', Bool.not_eq_false', Bool.not_eq_true, Bool.not_eq_false, beq_iff_eq, bne_iff_ne, ne_eq, beq_eq_false_iff_ne, bne_eq_false_iff_eq] at *); (first | rfl | (simp [Sw.ownFits, *]; done) | (simp [Sw.ownFits, *]; omega) | (simp [Sw.ownFits, beqI, *]; done) | (simp_all [Sw.ownFits, beqI]; done) | (simp_all [Sw.ownFits, beqI] <;> omega) | simp_all [Sw.ownFits, beqI]))
end Go.Proofs.YtnnoiagommiapaaGreat
namespace Go.Proofs.YtnnoiagommiapaaGreat
open Go.RowKit Go
set_option maxHeartbeats 1000000
structure Rdr (w : World) (rb p : Nat) : Prop where
 ex : ∃ A c n bs, w.cell? ⟨rb, 0, none⟩ = some (.slice A n c) ∧ RB w 0 A c n bs ∧ n ≤ 2000 ∧ (∀ x ∈ bs, 0 ≤ x ∧ x ≤ 255) ∧ ∀ a, A = some a → 0 < n → a.block < rb
 pos : w.cell? ⟨rb, 1, none⟩ = some (.int .i64 p)
 free : ∀ i, w.frozen? ⟨rb, i, none⟩ = false
 lt : rb < w.heap.size
 lb : Lb w rb 2
structure KB (rb : Nat) (w w' : World) : Prop where
 size : w.heap.size ≤ w'.heap.size
 block : ∀ b, b ≤ rb → b < w.heap.size → w'.heap[b]? = w.heap[b]?
theorem bR (rb : Nat) (w : World) : KB rb w w := ⟨Nat.le_refl _, fun _ _ _ => rfl⟩
theorem bA {rb : Nat} {a w : World} {o : Obj} (h : KB rb a w) : KB rb a (w.alloc o) :=
 ⟨by simp; have := h.size; omega, fun i hl hi => (Below.heap_alloc _ _ _ (Nat.lt_of_lt_of_le hi h.size)).trans (h.block i hl hi)⟩
theorem bD {rb : Nat} {a w : World} (h : KB rb a w) : KB rb a w.drew := ⟨h.size, h.block⟩
theorem bN {rb : Nat} {a w : World} {n : Nat} (h : KB rb a w) : KB rb a (w.drewN n) := ⟨h.size, h.block⟩
theorem bS {rb : Nat} {a w : World} {p : Addr} {u : Value} (h : KB rb a w) (hp : rb < p.block) : KB rb a (w.setCell p u) :=
 ⟨by simpa [World.setCell] using h.size, fun i hl hi => (Below.heap_setCell _ _ _ _ (by rintro rfl; omega)).trans (h.block i hl hi)⟩
theorem bE {rb : Nat} {a w w' : World} (hb : Ex w w') (h : KB rb a w) : KB rb a w' :=
 ⟨Nat.le_trans h.size hb.size, fun i hl hi => (hb.block i (Nat.lt_of_lt_of_le hi h.size) (fun h => h)).trans (h.block i hl hi)⟩
theorem bC {g rb : Nat} {a w w' : World} (hb : Ch (· = g) w w') (h : KB rb a w) (hg : rb < g) : KB rb a w' :=
 ⟨Nat.le_trans h.size hb.size, fun i hl hi => (hb.block i (Nat.lt_of_lt_of_le hi h.size) (by omega)).trans (h.block i hl hi)⟩
theorem kb_ {p : Prop} (h : p := by with_reducible repeat (first | exact bR _ _ | apply bA | apply bD | apply bN | (refine bS ?_ (by first | omega | (simp only [zq_]; omega))) | (apply bE; assumption) | (refine bC (by assumption) ?_ (by first | omega | (simp only [zq_]; omega))))) : p := h
theorem Rdr.keep {w w' : World} {rb p : Nat} (h : Rdr w rb p) (k : KB rb w w') : Rdr w' rb p := by
 obtain ⟨A, c, n, bs, h1, h2, h3, h4, h5⟩ := h.ex
 have hb := k.block rb (Nat.le_refl _) h.lt
 refine ⟨⟨A, c, n, bs, (World.cell?_of_block (w := w) (a := ⟨rb, 0, none⟩) hb).trans h1, ⟨h2.1, ?_⟩, h3, h4, h5⟩, (World.cell?_of_block (w := w) (a := ⟨rb, 1, none⟩) hb).trans h.pos, fun i => (World.frozen?_of_block (w := w) (a := ⟨rb, i, none⟩) hb).trans (h.free i), Nat.lt_of_lt_of_le h.lt k.size, ?_⟩
 case refine_2 => obtain ⟨cs, T, h6, h7⟩ := h.lb; exact ⟨cs, T, hb.trans h6, h7⟩
 refine ⟨h2.2.len, h2.2.le, h2.2.cap, h2.2.nil, fun a ha hn => ?_⟩
 obtain ⟨q1, q2, q3, q4⟩ := h2.2.cells a ha hn
 exact ⟨q1, q2, Nat.lt_of_lt_of_le q3 k.size, fun j u hu => (World.cell?_of_block (w := w) (a := ⟨a.block, a.off + j, none⟩) (k.block a.block (Nat.le_of_lt (h5 a ha hn)) q3)).trans (q4 j u hu)⟩
theorem Rdr.step {w : World} {rb p : Nat} (h : Rdr w rb p) : Rdr (w.setCell ⟨rb, 1, none⟩ (.int .i64 ((p : Int) + 1))) rb (p + 1) := by
 obtain ⟨A, c, n, bs, h1, h2, h3, h4, h5⟩ := h.ex
 have hne : ∀ b, b ≠ rb → (w.setCell ⟨rb, 1, none⟩ (.int .i64 ((p : Int) + 1))).heap[b]? = w.heap[b]? := fun b hb => Below.heap_setCell _ _ _ _ hb
 obtain ⟨o, ho⟩ : ∃ o, w.heap[rb]? = some o := ⟨_, Array.getElem?_eq_getElem h.lt⟩
 have hpos := h.pos
 cases o with
 | cells cs T fz =>
   have hs : ∀ i, i ≠ 1 → (w.setCell ⟨rb, 1, none⟩ (.int .i64 ((p : Int) + 1))).cell? ⟨rb, i, none⟩ = w.cell? ⟨rb, i, none⟩ := by
     intro i hi
     simp [World.cell?, World.setCell, Array.getElem?_modify, ho, Array.getElem?_setIfInBounds, Ne.symm hi]
   refine ⟨⟨A, c, n, bs, (hs 0 (by omega)).trans h1, ⟨h2.1, ?_⟩, h3, h4, h5⟩, ?_, fun i => ?_, by simpa [World.setCell] using h.lt, h.lb.set⟩
   · refine ⟨h2.2.len, h2.2.le, h2.2.cap, h2.2.nil, fun a ha hn => ?_⟩
     obtain ⟨q1, q2, q3, q4⟩ := h2.2.cells a ha hn
     exact ⟨q1, q2, by simpa [World.setCell] using q3, fun j u hu => (World.cell?_of_block (w := w) (a := ⟨a.block, a.off + j, none⟩) (hne _ (show a.block ≠ rb by have := h5 a ha hn; omega))).trans (q4 j u hu)⟩
   · have hlt : 1 < cs.size := by
       simp only [World.cell?, ho] at hpos
       by_cases h : 1 < cs.size
       · exact h
       · simp [Array.getElem?_eq_none (by omega : cs.size ≤ 1)] at hpos
     simp [World.cell?, World.setCell, Array.getElem?_modify, ho, Array.getElem?_setIfInBounds, hlt]
   · have := h.free i
     simp [World.frozen?, World.setCell, Array.getElem?_modify, ho] at this ⊢
     exact this
 | _ => simp [World.cell?, ho] at hpos
theorem xor_nat (a b : Nat) (ha : a < 4611686018427387904) (hb : b < 4611686018427387904) : bits .xor .i64 (a : Int) (b : Int) = ((a ^^^ b : Nat) : Int) := by
 show IntKind.i64.wrap ((BitVec.ofInt 64 (a : Int) ^^^ BitVec.ofInt 64 (b : Int)).toNat : Int) = _
 have hx : a ^^^ b < 2 ^ 62 := Nat.xor_lt_two_pow (by omega) (by omega)
 rw [BitVec.toNat_xor, BitVec.ofInt_natCast, BitVec.ofInt_natCast, BitVec.toNat_ofNat, BitVec.toNat_ofNat, Nat.mod_eq_of_lt (by omega), Nat.mod_eq_of_lt (by omega), IntWalk.i64_in _ (by omega)]
def Rdp (w : World) (rb P : Nat) : Prop := ∃ p, p ≤ P ∧ Rdr w rb p
theorem Rdp.keep {w w' : World} {rb P : Nat} (h : Rdp w rb P) (k : KB rb w w') : Rdp w' rb P := by
 obtain ⟨p, hp, h⟩ := h
 exact ⟨p, hp, h.keep k⟩
theorem Rdp.more {w : World} {rb P Q : Nat} (h : Rdp w rb P) (k : P ≤ Q) : Rdp w rb Q := by
 obtain ⟨p, hp, h⟩ := h
 exact ⟨p, by omega, h⟩
theorem Rdp.lt {w : World} {rb P : Nat} (h : Rdp w rb P) : rb < w.heap.size := by
 obtain ⟨p, hp, h⟩ := h
 exact h.lt
theorem Rdp.lb {w : World} {rb P : Nat} (h : Rdp w rb P) : Lb w rb 2 := by
 obtain ⟨p, hp, h⟩ := h
 exact h.lb
theorem Rdr.new {w : World} {A : Option Addr} {c n : Nat} {bs : List Int} {T : TypeId} (h : RB w 0 A c n bs) (hn : n ≤ 2000) (hq : ∀ x ∈ bs, 0 ≤ x ∧ x ≤ 255) :
   Rdr (w.alloc (.cells #[.slice A n c, .int .i64 0] T)) w.heap.size 0 := by
 refine ⟨⟨A, c, n, bs, by simp [go_sem], h.keep (KF.refl _ _).alloc, hn, hq, fun a ha hn0 => ?_⟩, by simp [go_sem], fun i => by simp [go_sem], by simp, Lb.new rfl rfl⟩
 exact (h.2.cells a ha hn0).2.2.1
theorem bL {rb lo : Nat} {a w w' : World} (hz : w.heap.size ≤ w'.heap.size) (hl : ∀ b, b < lo → w'.heap[b]? = w.heap[b]?) (h : KB rb a w) (hr : rb < lo) : KB rb a w' :=
 ⟨Nat.le_trans h.size hz, fun i hi hs => (hl i (by omega)).trans (h.block i hi hs)⟩
theorem RB_take {w : World} {lo c n k : Nat} {A : Option Addr} {xs : List Int} (h : RB w lo A c n xs) (hk : k ≤ n) : RB w lo A c k (xs.take k) := Rs.take h (fun _ => rfl) hk
theorem l20Open_c (A : Option Addr) (c n : Nat) (bs : List Int) (w : World) (hxs : RB w 0 A c n bs) (hq : ∀ x ∈ bs, 0 ≤ x ∧ x ≤ 255) : Calls Tryz.prog 89 #[.slice A n c] w fun E w' => ∃ rb, E = .returned (.pointer (some ⟨rb, 0, none⟩)) ∧ Rdp w' rb 0 ∧ w.heap.size ≤ rb ∧ Ex w w' := by
 have hl := Lib.hid hxs.1
 have hcap := hxs.2.le
 have hbig := Rs.big hxs
 by_cases hn : n ≤ 2000
 · have hb : decide (2000 < n) = false := by simp; omega
   have H0 := Lib.hid (And.intro hxs hq)
   clear hxs hq
   go_enter Tryz.func89, Tryz.ntmps89
   go_wp2_with fail
   go_ret
   refine ⟨_, rfl, ⟨0, Nat.le_refl _, Rdr.new H0.out.1 hn H0.out.2⟩, Nat.le_refl _, ext_⟩
 · have H0 := Lib.hid (And.intro hxs hq)
   clear hxs hq
   go_enter Tryz.func89, Tryz.ntmps89
   go_wp2_with fail
   go_ret
   refine ⟨_, rfl, ⟨0, Nat.le_refl _, Rdr.new (RB_take H0.out.1 (show 2000 ≤ n by omega)) (Nat.le_refl _) (fun x hx => H0.out.2 x (List.mem_of_mem_take hx))⟩, Nat.le_refl _, ext_⟩
theorem emod_bd (a : Nat) {m : Nat} (hm : 0 < m) : (0 : Int) ≤ (a : Int) % (m : Int) ∧ (a : Int) % (m : Int) < m := ⟨Int.emod_nonneg _ (by omega), Int.emod_lt_of_pos _ (by omega)⟩
theorem tmod_nn {x n : Int} (hx : 0 ≤ x) (hn : 1 ≤ n) : 0 ≤ x.tmod n ∧ x.tmod n < n := by
 rw [Int.tmod_eq_emod_of_nonneg hx]
 exact ⟨Int.emod_nonneg _ (by omega), Int.emod_lt_of_pos _ (by omega)⟩
theorem pick_c (rb P : Nat) (n : Int) (w : World) (hr : Rdp w rb P) (hP : P ≤ 1000000) (h1 : 1 ≤ n) : Calls Tryz.prog 92 #[.pointer (some ⟨rb, 0, none⟩), .int .i64 n] w fun E w' => ∃ v, E = .returned (.int .i64 v) ∧ (0 ≤ v ∧ v < n) ∧ Rdp w' rb (P + 1) ∧ Ch (· = rb) w w' := by
 obtain ⟨p, hp, hr⟩ := hr
 have Hs := Lib.hid (show Rdp (w.setCell ⟨rb, 1, none⟩ (.int .i64 ((p : Int) + 1))) rb (P + 1) from ⟨p + 1, by omega, hr.step⟩)
 obtain ⟨⟨A, c, m, bs, hc0, hbs, hm, hq, hab⟩, hc1, hfr, hlt⟩ := hr
 have hbig := Rs.big hbs
 have Hq := Lib.hid hq
 clear hq
 by_cases h0 : m = 0
 · subst h0
   go_enter Tryz.func92, Tryz.ntmps92
   go_wp2_with fail
   go_ret
   exact ⟨0, rfl, ⟨by omega, by omega⟩, Hs.out, Ch.setCell (S := (· = rb)) (Ch.refl _ _) (.inl rfl) _⟩
 have hm0 : 0 < m := by omega
 have hb0 : ((m : Int) == 0) = false := by simp; omega
 by_cases hlt : p < m
 · obtain ⟨g, off, y, rfl, hg0, hg, hd, hy, hc⟩ := at_B hbs hlt
   have hgr := hab _ rfl hm0
   dsimp only at hgr
   have hyb := Hq.out y (List.mem_of_getElem? hy)
   obtain ⟨hy0, hy1⟩ := hyb
   clear hd hy hab
   go_enter Tryz.func92, Tryz.ntmps92
   go_wp2_with fail
   go_ret
   exact ⟨_, rfl, ⟨Int.emod_nonneg _ (by omega), Int.emod_lt_of_pos _ (by omega)⟩, Hs.out, Ch.setCell (S := (· = rb)) (Ch.refl _ _) (.inl rfl) _⟩
 · have t1 := emod_bd p hm0
   obtain ⟨t10, t11⟩ := t1
   have t2 : (0 : Int) ≤ ((p : Int) * 7 + 3) % (m : Int) ∧ ((p : Int) * 7 + 3) % (m : Int) < m := ⟨Int.emod_nonneg _ (by omega), Int.emod_lt_of_pos _ (by omega)⟩
   obtain ⟨t20, t21⟩ := t2
   obtain ⟨g, off, y, rfl, hg0, hg, hd, hy, hcy⟩ := at_B hbs (Nat.mod_lt p hm0)
   obtain ⟨g', off', z, hA', _, _, hd', hz, hcz⟩ := at_B hbs (Nat.mod_lt (p * 7 + 3) hm0)
   cases hA'
   have hgr := hab _ rfl hm0
   dsimp only at hgr
   have hyb := Hq.out y (List.mem_of_getElem? hy)
   obtain ⟨hy0, hy1⟩ := hyb
   have hzb := Hq.out z (List.mem_of_getElem? hz)
   obtain ⟨hz0, hz1⟩ := hzb
   rw [show p % m = ((p : Int) % (m : Int)).toNat from by rw [← Int.natCast_emod]; exact (Int.toNat_natCast _).symm] at hcy
   rw [show (p * 7 + 3) % m = (((p : Int) * 7 + 3) % (m : Int)).toNat from by
     rw [show (p : Int) * 7 + 3 = ((p * 7 + 3 : Nat) : Int) from by omega, ← Int.natCast_emod]; exact (Int.toNat_natCast _).symm] at hcz
   clear hd hy hd' hz hab
   have w1 : IntKind.i64.wrap ((p : Int) * 7) = (p : Int) * 7 := IntWalk.i64_in _ (by omega)
   have w2 : IntKind.i64.wrap ((p : Int) * 7 + 3) = (p : Int) * 7 + 3 := IntWalk.i64_in _ (by omega)
   have w3 : IntKind.i64.wrap (y * 131) = y * 131 := IntWalk.i64_in _ (by omega)
   have w4 : IntKind.i64.wrap (z * 1117) = z * 1117 := IntWalk.i64_in _ (by omega)
   have w5 : IntKind.i64.wrap (y * 131 + z * 1117) = y * 131 + z * 1117 := IntWalk.i64_in _ (by omega)
   have w6 : IntKind.i64.wrap ((p : Int) * 29) = (p : Int) * 29 := IntWalk.i64_in _ (by omega)
   have w7 : IntKind.i64.wrap (y * 131 + z * 1117 + (p : Int) * 29) = y * 131 + z * 1117 + (p : Int) * 29 := IntWalk.i64_in _ (by omega)
   have e1 : (p : Int).tmod (m : Int) = (p : Int) % (m : Int) := Int.tmod_eq_emod_of_nonneg (by omega)
   have e2 : ((p : Int) * 7 + 3).tmod (m : Int) = ((p : Int) * 7 + 3) % (m : Int) := Int.tmod_eq_emod_of_nonneg (by omega)
   have e3 : (p : Int).tdiv (m : Int) = (p : Int) / (m : Int) := Int.tdiv_eq_ediv_of_nonneg (by omega)
   have t30 : (0 : Int) ≤ (p : Int) / (m : Int) := Int.ediv_nonneg (by omega) (by omega)
   have t31 : (p : Int) / (m : Int) ≤ p := Int.ediv_le_self _ (by omega)
   have w8 : IntKind.i64.wrap ((p : Int) / (m : Int) * 53) = (p : Int) / (m : Int) * 53 := IntWalk.i64_in _ (by omega)
   have w9 : IntKind.i64.wrap (y * 131 + z * 1117 + (p : Int) * 29 + (p : Int) / (m : Int) * 53) = y * 131 + z * 1117 + (p : Int) * 29 + (p : Int) / (m : Int) * 53 := IntWalk.i64_in _ (by omega)
   go_enter Tryz.func92, Tryz.ntmps92
   go_wp2_with fail
   go_quiet ((first | fail))
   go_wp2
   go_ret
   obtain ⟨X, hX⟩ : ∃ X : Nat, y * 131 + z * 1117 + (p : Int) * 29 + (p : Int) / (m : Int) * 53 = X := ⟨_, (Int.toNat_of_nonneg (by omega)).symm⟩
   have hXb : X < 4611686018427387904 := by omega
   have hx := xor_nat X (X / 64) hXb (by omega)
   rw [show ((X / 64 : Nat) : Int) = (X : Int) / 64 from by omega] at hx
   refine ⟨_, rfl, ?_, Hs.out.keep (bN (bR _ _)), (Ch.setCell (S := (· = rb)) (Ch.refl _ _) (.inl rfl) _).drewN _⟩
   rw [hX, hx]
   exact tmod_nn (Int.natCast_nonneg _) h1
def LitQ (Q : Int → Prop) : List Value → Prop
 | [] => True
 | u :: us => (∃ x, u = .int .i64 x ∧ Q x) ∧ LitQ Q us
theorem LitQ.nil {Q : Int → Prop} : LitQ Q [] := trivial
theorem LitQ.cons {Q : Int → Prop} {u : Value} {us : List Value} (h : ∃ x, u = .int .i64 x ∧ Q x) (k : LitQ Q us) : LitQ Q (u :: us) := ⟨h, k⟩
theorem LitQ.at_ {Q : Int → Prop} : ∀ {us : List Value} {i : Nat}, LitQ Q us → i < us.length → ∃ x, us[i]? = some (.int .i64 x) ∧ Q x
 | [], i, _, h => absurd h (by simp)
 | u :: us, 0, h, _ => by obtain ⟨⟨x, rfl, hx⟩, _⟩ := h; exact ⟨x, rfl, hx⟩
 | u :: us, i + 1, h, hi => LitQ.at_ (us := us) h.2 (by simpa using hi)
theorem Rdp.low {w w' : World} {rb P lo : Nat} (h : Rdp w rb P) (hz : w.heap.size ≤ w'.heap.size) (hl : ∀ b, b < lo → w'.heap[b]? = w.heap[b]?) (hr : rb < lo) : Rdp w' rb P := h.keep (bL hz hl (bR _ _) hr)
theorem pickLit (Q : Int → Prop) {rb P : Nat} {n : Int} {w : World} {cs : Array Value} {T : TypeId} (hr : Rdp (w.alloc (.cells cs T)) rb P) (hP : P ≤ 1000000) (hn : n = cs.toList.length) (hQ : LitQ Q cs.toList) (h1 : 1 ≤ n) (hlt : rb < w.heap.size) :
   Calls Tryz.prog 92 #[.pointer (some ⟨rb, 0, none⟩), .int .i64 n] (w.alloc (.cells cs T)) fun E w' => ∃ (v : Nat) (x : Int), E = .returned (.int .i64 v) ∧ (v : Int) < n ∧ Q x ∧ w'.cell? ⟨w.heap.size, v, none⟩ = some (.int .i64 x) ∧ Rdp w' rb (P + 1) ∧ Ch (· = rb) (w.alloc (.cells cs T)) w' := by
 refine (pick_c rb P n _ hr hP h1).mono ?_
 rintro E w' ⟨v, rfl, ⟨h2, h3⟩, h4, h5⟩
 obtain ⟨v, rfl⟩ := Int.eq_ofNat_of_zero_le h2
 obtain ⟨x, hx, hq⟩ := LitQ.at_ (i := v) hQ (by omega)
 refine ⟨v, x, rfl, h3, hq, ?_, h4, h5⟩
 have := h5.cell (p := ⟨w.heap.size, v, none⟩) (by simp) (by show ¬ w.heap.size = rb; omega)
 rw [this]
 simp only [World.cell?, heap_alloc_new]
 simpa using hx
theorem odd_c (rb P : Nat) (n : Int) (w : World) (hr : Rdp w rb P) (hP : P ≤ 1000000) (h1 : 1 ≤ n) (h2 : n ≤ 1000000) : Calls Tryz.prog 93 #[.pointer (some ⟨rb, 0, none⟩), .int .i64 n] w fun E w' => ∃ b, E = .returned (.bool b) ∧ Rdp w' rb (P + 1) ∧ Ch (· = rb) w w' := by
 go_enter Tryz.func93, Tryz.ntmps93
 go_wp2_with (go_at_call 92; apply Calls.mono; apply pick_c; (apply Rdp.keep; assumption; (exact kb_)); (first | assumption | omega); (first | assumption | omega); rintro E w1 ⟨v, rfl, ⟨hv0, hv1⟩, hrd, hb⟩; obtain ⟨hc, hf, hz⟩ := xd hb)
 go_ret
 exact ⟨_, rfl, hrd, ext_⟩
def Ints (w : World) (g n : Nat) : Prop := ∃ (zs : List Int) (T : TypeId), zs.length = n ∧ w.heap[g]? = some (.cells (zs.map (Value.int .i64)).toArray T (0, 0))
section
variable {w w' : World} {g n : Nat}
theorem Ints.lt (h : Ints w g n) : g < w.heap.size := by
 obtain ⟨zs, T, h1, h2⟩ := h
 exact (Array.getElem?_eq_some_iff.1 h2).1
theorem Ints.new {cs : Array Value} {T : TypeId} {zs : List Int} (hg : g = w.heap.size) (hcs : cs = (zs.map (Value.int .i64)).toArray) (hn : zs.length = n) : Ints (w.alloc (.cells cs T)) g n := by
 subst hg hcs
 exact ⟨zs, T, hn, heap_alloc_new w _⟩
theorem Ints.alloc {o : Obj} (h : Ints w g n) : Ints (w.alloc o) g n := by
 have := h.lt
 obtain ⟨zs, T, h1, h2⟩ := h
 exact ⟨zs, T, h1, (Below.heap_alloc w o g this).trans h2⟩
theorem Ints.drew (h : Ints w g n) : Ints w.drew g n := h
theorem Ints.ch {S : Nat → Prop} (hb : Ch S w w') (hS : ¬ S g) (h : Ints w g n) : Ints w' g n := by
 have := h.lt
 obtain ⟨zs, T, h1, h2⟩ := h
 exact ⟨zs, T, h1, (hb.block g this hS).trans h2⟩
theorem Ints.set {p : Addr} {v : Int} (h : Ints w g n) (hp : p.spot = none) : Ints (w.setCell p (.int .i64 v)) g n := by
 obtain ⟨zs, T, h1, h2⟩ := h
 by_cases he : p.block = g
 · subst he
   refine ⟨zs.set p.off v, T, by rw [List.length_set]; exact h1, ?_⟩
   simp only [World.setCell, Array.getElem?_modify, if_true, h2, Option.map_some, hp]
   congr 2
   apply Array.ext'
   simp [List.map_set]
 · exact ⟨zs, T, h1, (Below.heap_setCell w p _ g (fun e => he e.symm)).trans h2⟩
theorem Ints.lb (h : Ints w g n) : Lb w g n := by
 obtain ⟨zs, T, h1, h2⟩ := h
 exact ⟨_, T, h2, by simp [h1]⟩
theorem Ints.free (h : Ints w g n) : ∀ i, w.frozen? ⟨g, i, none⟩ = false := h.lb.rules.2
theorem Ints.at_ (h : Ints w g n) {i : Nat} (hi : i < n) : ∃ a : Int, w.cell? ⟨g, i, none⟩ = some (.int .i64 a) := by
 obtain ⟨zs, T, h1, h2⟩ := h
 refine ⟨zs[i], ?_⟩
 simp [World.cell?, h2, h1, hi]
end
structure DrawAt (w0 w : World) (rb r g n P : Nat) : Prop where
 own : Ints w g n
 res : Ints w r n
 rd : Rdp w rb P
 ch : Ch (· = rb) w0 w
end Go.Proofs.YtnnoiagommiapaaGreat
