/- Texts joined: Rows2, Heads, Own2, OpenB. -/
import Derived.Test.YtnnoiagommiapaaGreatPz9
import Derived.Test.YtnnoiagommiapaaGreatPz7
import Derived.Test.YtnnoiagommiapaaGreatPz8
set_option maxRecDepth 100000
set_option linter.unusedSimpArgs false
set_option linter.unusedVariables false
namespace Go.Proofs.YtnnoiagommiapaaGreat
open Go.RowKit Go
set_option maxHeartbeats 400000
theorem at_OR {w : World} {lo c n k : Nat} {A : Option Addr} {xs : List Sw.Row} (h : OwR w lo A c n xs) (hk : k < n) :
   ∃ g x, A = some ⟨g, 0, none⟩ ∧ lo ≤ g ∧ g < w.heap.size ∧ xs[k]? = some x ∧ w.cell? ⟨g, k * 3, none⟩ = some (.int .i64 x.who) ∧ w.cell? ⟨g, k * 3 + 1, none⟩ = some (.int .i64 x.face) ∧
     w.cell? ⟨g, k * 3 + 2, none⟩ = some (.bool x.used) ∧ (∀ i, w.frozen? ⟨g, i, none⟩ = false) := by
 obtain ⟨g, x, h1, h2, h3, h4, h5, h6⟩ := Ow.at_ h (fun _ => rfl) hk
 exact ⟨g, x, h1, h2, h3, h4, by simpa using h5 0 _ (by omega) rfl, h5 1 _ (by omega) rfl, h5 2 _ (by omega) rfl, h6⟩
theorem sNew_c (w : World) : Calls Tryz.prog 221 #[] w fun E w' => ∃ A, E = .returned (.slice A 8 8) ∧ OwR w' w.heap.size A 8 8 Sw.rows0 ∧ Ex w w' := by
 have hmk : ∀ w, (Instr.makeSlice 102 (.int .i64 8) (.int .i64 8)).run Tryz.prog w = .ok (.slice (some ⟨w.heap.size, 0, none⟩) 8 8) (w.alloc (.cells (Sw.rows0.flatMap Sw.Row.enc).toArray 109)) := fun _ => by kernel_rfl
 go_enter Tryz.func221, Tryz.ntmps221
 go_wp2
 go_ret
 exact ⟨_, rfl, Ow.new _ rfl rfl rfl (fun _ => rfl) (Nat.le_refl _) (by omega), ext_⟩
theorem OR_set0 {w : World} {lo c n k g : Nat} {A : Option Addr} {xs : List Sw.Row} (h : OwR w lo A c n xs) (hA : A = some ⟨g, 0, none⟩) {a b : Int} {u : Bool} (hx : xs[k]? = some ⟨a, b, u⟩) (v : Int) :
   OwR (w.setCell ⟨g, k * 3, none⟩ (.int .i64 v)) lo A c n (xs.set k ⟨v, b, u⟩) := by
 have := Ow.set h (fun _ => rfl) (j := 0) (u := .int .i64 v) hA hx (by omega) (y := ⟨v, b, u⟩) rfl
 simpa using this
theorem OR_set1 {w : World} {lo c n k g : Nat} {A : Option Addr} {xs : List Sw.Row} (h : OwR w lo A c n xs) (hA : A = some ⟨g, 0, none⟩) {a b : Int} {u : Bool} (hx : xs[k]? = some ⟨a, b, u⟩) (v : Int) :
   OwR (w.setCell ⟨g, k * 3 + 1, none⟩ (.int .i64 v)) lo A c n (xs.set k ⟨a, v, u⟩) :=
 Ow.set h (fun _ => rfl) (j := 1) (u := .int .i64 v) hA hx (by omega) (y := ⟨a, v, u⟩) rfl
theorem OR_set2 {w : World} {lo c n k g : Nat} {A : Option Addr} {xs : List Sw.Row} (h : OwR w lo A c n xs) (hA : A = some ⟨g, 0, none⟩) {a b : Int} {u : Bool} (hx : xs[k]? = some ⟨a, b, u⟩) (v : Bool) :
   OwR (w.setCell ⟨g, k * 3 + 2, none⟩ (.bool v)) lo A c n (xs.set k ⟨a, b, v⟩) :=
 Ow.set h (fun _ => rfl) (j := 2) (u := .bool v) hA hx (by omega) (y := ⟨a, b, v⟩) rfl
theorem set_at {α : Type} {xs : List α} {k : Nat} {x y : α} (h : xs[k]? = some x) : (xs.set k y)[k]? = some y := by
 have hk := (List.getElem?_eq_some_iff.1 h).1
 simp [hk]
theorem fits_facts {xs : List Sw.Row} {e : Sw.Ent} (h : Sw.ownFits xs e = true) : xs.length = 8 ∧ 0 ≤ e.ticket ∧ e.ticket < 8 ∧ (e.kind = 1 ∨ e.kind = 2 ∨ e.kind = 3) := by
 simp only [Sw.ownFits, Bool.and_eq_true, Sw.ownOk, Sw.entOk, Sw.inR, decide_eq_true_eq] at h
 obtain ⟨⟨⟨_, h1⟩, ⟨⟨h2, h3⟩, h4, h5⟩, h6⟩, h7⟩ := h
 refine ⟨h1, h2, by omega, ?_⟩
 split at h6
 · exact .inl ‹_›
 · split at h6
   · exact .inr (.inl ‹_›)
   · simp at h6; exact .inr (.inr h6.1)
theorem fits_fresh {xs : List Sw.Row} {e : Sw.Ent} {t : Nat} {a b : Int} {u : Bool} (h : Sw.ownFits xs e = true) (hk : e.kind = 1) (ht : e.ticket = t) (hx : xs[t]? = some ⟨a, b, u⟩) : u = false := by
 simp only [Sw.ownFits, Bool.and_eq_true, Sw.ownOk, Sw.fitsRow, hk, Sw.rowAt, ht, Int.toNat_natCast, List.getD_eq_getElem?_getD, hx, Option.getD_some, if_true, decide_eq_true_eq] at h
 obtain ⟨⟨⟨h1, _⟩, _⟩, h2⟩ := h
 have := List.all_eq_true.1 h1 _ (List.mem_of_getElem? hx)
 simp [Sw.rowOk, Sw.inR] at this
 rcases this with h | h
 · exact h.2
 · omega
theorem put_eq {xs : List Sw.Row} {e : Sw.Ent} {t : Nat} {x : Sw.Row} (h : Sw.ownFits xs e = true) (ht : e.ticket = t) (hx : xs[t]? = some x) : Sw.ownPut xs e = xs.set t (Sw.putRow x e) := by
 simp [Sw.ownPut, h, Sw.putRows, Sw.rowAt, ht, hx]
theorem sOwnPut_c (A : Option Addr) (c n : Nat) (xs : List Sw.Row) (e : Sw.Ent) (w : World) (hxs : RR w 0 A c n xs) (hn : n ≤ 4194304) : Calls Tryz.prog 222 #[.slice A n c, .agg #[.int .i64 e.kind, .int .i64 e.ticket, .int .i64 e.who, .int .i64 e.price]] w fun E w' => ∃ A' c', E = .returned (.tuple #[.slice A' n c', .bool (Sw.ownFits xs e)]) ∧ OwR w' w.heap.size A' c' n (Sw.ownPut xs e) ∧ Ex w w' := by
 by_cases hfit : Sw.ownFits xs e = true
 · have hl := Lib.hid hxs.1
   obtain ⟨h8, t0, t1, hk⟩ := fits_facts hfit
   obtain ⟨t, ht⟩ := Int.eq_ofNat_of_zero_le t0
   have e0 : e.ticket.toNat = t := by omega
   have Ht := Lib.hid ht
   have htn : t < n := by have := hl.out; omega
   have hn8 : n = 8 := by have := hl.out; omega
   subst hn8
   have Hk := Lib.hid hk
   have H8 := Lib.hid h8
   clear ht hk h8
   have key : ∀ (b1 b2 : Bool), (e.kind == 1) = b1 → (e.kind == 2) = b2 → Calls Tryz.prog 222 #[.slice A 8 c, .agg #[.int .i64 e.kind, .int .i64 e.ticket, .int .i64 e.who, .int .i64 e.price]] w fun E w' => ∃ A' c', E = .returned (.tuple #[.slice A' 8 c', .bool (Sw.ownFits xs e)]) ∧ OwR w' w.heap.size A' c' 8 (Sw.ownPut xs e) ∧ Ex w w' := by
     intro b1 b2 hb1 hb2
     go_enter Tryz.func222, Tryz.ntmps222
     go_wp2_with (first | (at_builtin; apply wpList_app (lo := w.heap.size + 1) el_R one_R rfl rfl rfl rfl; (first | assumption | exact Ow.nil _ _ | (apply Ow.keep; assumption; exact kf_) | (refine own_)); (first | (exact rd_)); omega; exact sz_; intro A1 c1 w2 ho1 hch1 hat1 hex1 hlow1; have hb := hex1 (fun _ => False) w (by exact ext_) (by exact sz_); have hz := hch1.size; (try simp only [zq_] at hz); obtain ⟨hc, hf⟩ := low_rules hlow1; clear hlow1 hex1))
     simp only [Nat.zero_add, List.nil_append] at ho1
     apply Calls.mono; apply sOwnFits_c; (first | assumption | (exact rd_) | omega); rintro E w3 ⟨rfl, hb3⟩; have hst := Ex.rules hb3 rfl; obtain ⟨hc3, hf3, hz3⟩ := hst
     have ho3 := Ow.keep ho1 (KF.ex hb3 (KF.refl _ _))
     obtain ⟨g, x, hA, hlo, hlt, hx, c0, c1, c2, hfz⟩ := at_OR ho3 htn
     obtain ⟨ya, yb, yu⟩ := x
     have Hx := Lib.hid hx
     have hlo' : w.heap.size ≤ g := by omega
     clear hx
     subst hA
     dsimp only at c0 c1 c2
     cases b1 with
     | true =>
       go_wp2_with fail
       go_ret2
       refine ⟨_, _, by rw [hfit]; rfl, ?_, ext_⟩
       have k1 : e.kind = 1 := by simpa using hb1
       rw [put_eq hfit Ht.out Hx.out]
       have hu := fits_fresh hfit k1 Ht.out Hx.out
       subst hu
       have r := OR_set2 (OR_set1 (OR_set0 ho3 rfl Hx.out e.who) rfl (set_at Hx.out) e.price) rfl (set_at (set_at Hx.out)) false
       simp only [List.set_set] at r
       simp only [Sw.putRow, k1, if_true]
       exact r.less (by omega)
     | false =>
       have k1 : ¬ e.kind = 1 := by simpa using hb1
       cases b2 with
       | true =>
         go_wp2_with fail
         go_ret2
         refine ⟨_, _, by rw [hfit]; rfl, ?_, ext_⟩
         have k2 : e.kind = 2 := by simpa using hb2
         rw [put_eq hfit Ht.out Hx.out]
         have r := OR_set0 ho3 rfl Hx.out e.who
         simp only [Sw.putRow, if_neg k1, k2, if_true]
         exact r.less (by omega)
       | false =>
         go_wp2_with fail
         go_ret2
         refine ⟨_, _, by rw [hfit]; rfl, ?_, ext_⟩
         have k2 : ¬ e.kind = 2 := by simpa using hb2
         rw [put_eq hfit Ht.out Hx.out]
         have r := OR_set2 ho3 rfl Hx.out true
         simp only [Sw.putRow, if_neg k1, if_neg k2]
         exact r.less (by omega)
   exact key _ _ rfl rfl
 · have hf0 : Sw.ownFits xs e = false := by simpa using hfit
   go_enter Tryz.func222, Tryz.ntmps222
   go_wp2_with (first | (at_builtin; apply wpList_app (lo := w.heap.size + 1) el_R one_R rfl rfl rfl rfl; (first | assumption | exact Ow.nil _ _ | (apply Ow.keep; assumption; exact kf_) | (refine own_)); (first | (exact rd_)); omega; exact sz_; intro A1 c1 w2 ho1 hch1 hat1 hex1 hlow1; have hb := hex1 (fun _ => False) w (by exact ext_) (by exact sz_); have hz := hch1.size; (try simp only [zq_] at hz); obtain ⟨hc, hf⟩ := low_rules hlow1; clear hlow1 hex1) | (go_at_call 260; apply Calls.mono; apply sOwnFits_c; (exact rd_); rintro E w1 ⟨rfl, hb⟩; obtain ⟨hc, hf, hz⟩ := xy hb))
   go_ret2
   refine ⟨_, _, by rw [hf0]; rfl, ?_, ext_⟩
   rw [show Sw.ownPut xs e = xs from by simp [Sw.ownPut, hf0]]
   simp only [Nat.zero_add, List.nil_append] at ho1
   refine Ow.less ?_ (show w.heap.size ≤ w.heap.size + 1 by omega)
   apply Ow.keep ho1; (exact kf_)
set_option maxHeartbeats 400000
theorem fold_ok : ∀ (es : List Sw.Ent) (rows r : List Sw.Row), Sw.foldFrom rows es = some r → rows.length = 8 → r.length = 8
 | [], rows, r, h, h8 => by simp [Sw.foldFrom] at h; rw [← h]; exact h8
 | e :: es, rows, r, h, h8 => by
   rw [Sw.foldFrom] at h
   split at h
   · exact fold_ok es _ r h (by simp [Sw.putRows, h8])
   · cases h
theorem ownFold_len {es : List Sw.Ent} {r : List Sw.Row} (h : Sw.ownFold es = some r) : r.length = 8 := by
 unfold Sw.ownFold at h
 split at h
 · exact fold_ok es _ r h rfl
 · cases h
theorem sOwnFold_c (A : Option Addr) (c n : Nat) (xs : List Sw.Ent) (w : World) (hxs : RE w 0 A c n xs) : Calls Tryz.prog 177 #[.slice A n c] w fun E w' => ∃ A' c' n', E = .returned (.tuple #[.slice A' n' c', .bool (Sw.ownFold xs).isSome]) ∧ OwR w' w.heap.size A' c' n' ((Sw.ownFold xs).getD []) ∧ Ex w w' := by
 have hl := Lib.hid hxs.1
 by_cases hn : n ≤ 40
 · have hn' : decide (40 < n) = false := by simp; omega
   go_enter Tryz.func177, Tryz.ntmps177
   go_wp2_with (first | (go_at_call 221; refine (sNew_c _).mono ?_; rintro E w1 ⟨A, rfl, hr, hb⟩; obtain ⟨hc, hf, hz⟩ := xy hb))
   go_loopw [4, 5] (fun r i wr => ∃ (k : Nat) (B : Option Addr) (d : Nat) (rows : List Sw.Row), k ≤ n ∧ i = .int .i64 k ∧ r = .slice B 8 d ∧ Ex w wr ∧ OwR wr w.heap.size B d 8 rows ∧ Sw.ownFold xs = Sw.foldFrom rows (xs.drop k)) (fun _ i _ => n - (intOf i).toNat)
   case atStart => exact ⟨0, _, _, _, Nat.zero_le _, rfl, rfl, ext_, hr, by rw [Sw.ownFold, if_pos (by have := hl.out; omega)]; rfl⟩
   case round =>
     clear hb hc hf hz hr
     obtain ⟨k, B, d, rows, hk, rfl, rfl, hb, ho, hrel⟩ := hrel
     have hst := Ex.rules hb rfl
     obtain ⟨hc, hf, hz⟩ := hst
     by_cases hlt : k < n
     · obtain ⟨g, off, y, rfl, hg0, hg, hd, hy, hc0, hc1, hc2, hc3⟩ := at_E hxs hlt
       rw [hd, Sw.foldFrom] at hrel
       have Hrel := Lib.hid hrel
       clear hd hy hrel
       go_wp2_with (first | (go_at_call 222; apply Calls.mono; apply sOwnPut_c; (apply Ow.rs0 ho; exact KF.refl _ _); omega; rintro E w1 ⟨A1, c1, rfl, ho1, hb1⟩; have hst := Ex.rules hb1 rfl; obtain ⟨hc1', hf1', hz1'⟩ := hst))
       · go_ret2
         have hfit : Sw.ownFits rows y = false := by rename_i h; simpa using h
         have hh := Hrel.out
         rw [if_neg (by simp [hfit])] at hh
         refine ⟨_, _, _, by rw [hh]; rfl, ?_, ext_⟩
         rw [hh]
         (refine own_)
       · have hfit : Sw.ownFits rows y = true := by rename_i h; simpa using h
         have hh := Hrel.out
         rw [if_pos hfit] at hh
         refine ⟨⟨k + 1, _, _, _, by omega, by go_num, rfl, ext_, ho1.less (by omega), ?_⟩, by simp [intOf]; omega⟩
         rw [hh, Sw.ownPut, if_pos hfit]
     · have Hrel := Lib.hid hrel; clear hrel
       go_wp2_with fail
       go_ret2
       obtain rfl : k = n := by omega
       have hh := Hrel.out
       rw [List.drop_of_length_le (by have := hl.out; omega)] at hh
       refine ⟨_, _, _, by rw [hh]; rfl, ?_, ext_⟩
       rw [hh]
       exact ho
 · have hn' : decide (40 < n) = true := by simp; omega
   go_enter Tryz.func177, Tryz.ntmps177
   go_wp2_with (first | (go_at_call 221; refine (sNew_c _).mono ?_; rintro E w1 ⟨A, rfl, hr, hb⟩; obtain ⟨hc, hf, hz⟩ := xy hb))
   go_ret2
   have hh : Sw.ownFold xs = none := by rw [Sw.ownFold, if_neg (by have := hl.out; omega)]
   refine ⟨_, _, _, by rw [hh]; rfl, ?_, ext_⟩
   rw [hh]
   (refine own_)
theorem mixLeaf_ok (l : List Int) : Sw.mixOk (Sw.mixLeaf l) = true := by
 rw [mixOk_bd]; unfold Sw.mixLeaf
 exact ⟨Int.emod_nonneg _ (by omega), by have := Int.emod_lt_of_pos (Sw.mixLeafFrom 7 l * 31 + l.length) (show (0 : Int) < 65521 by omega); omega⟩
theorem ownLeaf_ok (t : Int) (r : Sw.Row) : Sw.mixOk (Sw.ownLeaf t r) = true := by
 unfold Sw.ownLeaf
 split
 · exact mixLeaf_ok _
 · rfl
theorem leavesFrom_ok : ∀ (rows : List Sw.Row) (t : Int), (Sw.leavesFrom t rows).all Sw.mixOk = true
 | [], _ => rfl
 | r :: rs, t => by simp only [Sw.leavesFrom, List.all_cons, ownLeaf_ok, leavesFrom_ok rs, Bool.and_self]
theorem ownLeaves_ok (rows : List Sw.Row) : (Sw.ownLeaves rows).all Sw.mixOk = true := leavesFrom_ok rows 0
theorem entLeaves_ok (es : List Sw.Ent) : (es.map Sw.entLeaf).all Sw.mixOk = true := by
 rw [List.all_map, List.all_eq_true]; exact fun e _ => mixLeaf_ok _
theorem sOwnRoot_c (A : Option Addr) (c n : Nat) (xs : List Sw.Row) (w : World) (hxs : RR w 0 A c n xs) : Calls Tryz.prog 246 #[.slice A n c] w fun E w' => E = .returned (.int .i64 (Sw.ownRoot xs)) ∧ Ex w w' := by
 have hl := Lib.hid hxs.1
 by_cases hok : Sw.ownOk xs = true
 · have hn : n = 8 := by have := hl.out; simp [Sw.ownOk] at hok; omega
   subst hn
   go_enter Tryz.func246, Tryz.ntmps246
   go_wp2_with (first | (go_at_call 252; apply Calls.mono; apply sOwnOk_c; (exact rd_); rintro E w1 ⟨rfl, hb⟩; obtain ⟨hc, hf, hz⟩ := xy hb) | (go_at_call 254; apply Calls.mono; apply sLeaves_c; (first | assumption | (exact rd_) | omega); omega; rintro E w1 ⟨A1, c1, rfl, ho1, hb1⟩) | (go_at_call 244; apply Calls.mono; apply (sRoot_c 8); omega; (apply Ow.rs0 ho1; exact KF.refl _ _); omega; exact ownLeaves_ok _; rintro E w2 ⟨rfl, hb2⟩))
   go_ret
   exact ⟨ret_i (by simp [Sw.ownRoot, hok]), ext_⟩
 · have hok' : Sw.ownOk xs = false := by simpa using hok
   go_enter Tryz.func246, Tryz.ntmps246
   go_wp2_with (first | (go_at_call 252; apply Calls.mono; apply sOwnOk_c; (exact rd_); rintro E w1 ⟨rfl, hb⟩; obtain ⟨hc, hf, hz⟩ := xy hb))
   go_ret
   exact ⟨ret_i (by simp [Sw.ownRoot, hok']), ext_⟩
theorem sHedOf_c (A : Option Addr) (c n : Nat) (xs : List Sw.Ent) (w : World) (hxs : RE w 0 A c n xs) : Calls Tryz.prog 204 #[.slice A n c] w fun E w' => E = .returned (.tuple #[.agg #[.int .i64 ((Sw.hedOf xs).getD Sw.headZ).size, .int .i64 ((Sw.hedOf xs).getD Sw.headZ).log, .int .i64 ((Sw.hedOf xs).getD Sw.headZ).own], .bool (Sw.hedOf xs).isSome]) ∧ Ex w w' := by
 have hl := Lib.hid hxs.1
 cases hf : Sw.ownFold xs with
 | none =>
   have hh : Sw.hedOf xs = none := by simp [Sw.hedOf, hf]
   have hs : (Sw.ownFold xs).isSome = false := by simp [hf]
   have Hf := Lib.hid hf; have HH := Lib.hid hh; clear hf hh
   go_enter Tryz.func204, Tryz.ntmps204
   go_wp2_with (first | (go_at_call 177; apply Calls.mono; apply sOwnFold_c; (exact rd_); rintro E w1 ⟨A', c', n', rfl, hr, hb⟩; obtain ⟨hc, hf, hz⟩ := xy hb))
   refine bodyPost_ret (v := .tuple #[.agg #[.int .i64 0, .int .i64 0, .int .i64 0], .bool false]) (by simp [results, Tryz.results204, go_sem, *]) rfl ?_
   exact ⟨by rw [HH.out]; rfl, ext_⟩
 | some rows =>
   have h8 := ownFold_len hf
   have hn : n ≤ 40 := by
     have := hl.out
     unfold Sw.ownFold at hf
     split at hf
     · omega
     · cases hf
   have hh : Sw.hedOf xs = some ⟨xs.length, Sw.root (xs.map Sw.entLeaf), Sw.ownRoot rows⟩ := by simp [Sw.hedOf, hf]
   have hs : (Sw.ownFold xs).isSome = true := by simp [hf]
   have hg : (Sw.ownFold xs).getD [] = rows := by simp [hf]
   have Hf := Lib.hid hf; have HH := Lib.hid hh; have H8 := Lib.hid h8; have HG := Lib.hid hg; clear hf hh h8 hg
   go_enter Tryz.func204, Tryz.ntmps204
   go_wp2_with (first | (go_at_call 177; apply Calls.mono; apply sOwnFold_c; (first | assumption | (exact rd_) | omega); rintro E w1 ⟨A1, c1, n1, rfl, ho1, hb⟩; rw [HG.out] at ho1; have hst := Ex.rules hb rfl; (try simp only [World.size_alloc, World.size_setCell, World.size_drew] at hst); obtain ⟨hc, hf, hz⟩ := hst) | (go_at_call 245; apply Calls.mono; apply sEntLeaves_c; (first | assumption | (exact rd_) | omega); omega; rintro E w2 ⟨A2, c2, rfl, ho2, hb2⟩; have hst := Ex.rules hb2 rfl; obtain ⟨hc2, hf2, hz2⟩ := hst) | (go_at_call 244; apply Calls.mono; apply (sRoot_c 40); omega; (apply Ow.rs0 ho2; exact KF.refl _ _); omega; exact entLeaves_ok _; rintro E w3 ⟨rfl, hb3⟩; have hst := Ex.rules hb3 rfl; obtain ⟨hc3, hf3, hz3⟩ := hst) | (go_at_call 246; apply Calls.mono; apply sOwnRoot_c; (apply Ow.rs0 ho1; (exact kf_)); rintro E w4 ⟨rfl, hb4⟩; have hst := Ex.rules hb4 rfl; obtain ⟨hc4, hf4, hz4⟩ := hst))
   refine bodyPost_ret (v := .tuple #[.agg #[.int .i64 n, .int .i64 (Sw.root (xs.map Sw.entLeaf)), .int .i64 (Sw.ownRoot rows)], .bool true]) (by simp [results, Tryz.results204, go_sem, *]) rfl ?_
   exact ⟨by rw [HH.out, ← hl.out]; rfl, ext_⟩
end Go.Proofs.YtnnoiagommiapaaGreat
namespace Go.Proofs.YtnnoiagommiapaaGreat
open Go.RowKit Go
theorem el_D : ElemOk Tryz.prog 38 105 5 40 := .mk' (z := .agg #[.int .i64 0, .int .i64 0, .int .i64 0, .int .i64 0, .int .i64 0]) Tryz.underlying38 (by kernel_rfl) rfl (by omega)
theorem el_Q : ElemOk Tryz.prog 41 82 6 48 := .mk' (z := .agg #[.int .i64 0, .int .i64 0, .int .i64 0, .int .i64 0, .int .i64 0, .int .i64 0]) Tryz.underlying41 (by kernel_rfl) rfl (by omega)
theorem el_G : ElemOk Tryz.prog 42 90 4 48 := .mk' (z := .agg #[.int .i64 0, .int .i64 0, .int .i64 0, .slice none 0 0]) Tryz.underlying42 (by kernel_rfl) rfl (by omega)
theorem el_X : ElemOk Tryz.prog 43 92 5 56 := .mk' (z := .agg #[.int .i64 0, .int .i64 0, .int .i64 0, .int .i64 0, .slice none 0 0]) Tryz.underlying43 (by kernel_rfl) rfl (by omega)
theorem one_D (x : Sw.Deal) : ∀ u ∈ x.enc, u.oneCell' = true := by simp [Sw.Deal.enc, Value.oneCell']
theorem one_Q (x : Sw.Req) : ∀ u ∈ x.enc, u.oneCell' = true := by simp [Sw.Req.enc, Value.oneCell']
theorem one_G (x : GV) : ∀ u ∈ x.enc, u.oneCell' = true := by simp [GV.enc, Value.oneCell']
theorem one_X (x : XV) : ∀ u ∈ x.enc, u.oneCell' = true := by simp [XV.enc, Value.oneCell']
abbrev OwD := Ow Sw.Deal.enc 5 105
abbrev OwQ := Ow Sw.Req.enc 6 82
abbrev OwGV := Ow GV.enc 4 90
abbrev OwXV := Ow XV.enc 5 92
def Sw.entZ : Sw.Ent := ⟨0, 0, 0, 0⟩
def GV.zero : GV := ⟨Sw.headZ, none, 0, 0⟩
def XV.zero : XV := ⟨0, Sw.headZ, none, 0, 0⟩
def setMany : List Value → Nat → List Value → List Value
 | cs, _, [] => cs
 | cs, i, v :: vs => setMany (cs.set i v) (i + 1) vs
def setCells : World → Nat → Nat → List Value → World
 | w, _, _, [] => w
 | w, g, i, v :: vs => setCells (w.setCell ⟨g, i, none⟩ v) g (i + 1) vs
theorem setMany_eq : ∀ (vs cs : List Value) (i : Nat), i + vs.length ≤ cs.length → setMany cs i vs = cs.take i ++ vs ++ cs.drop (i + vs.length)
 | [], cs, i, h => by simp [setMany]
 | v :: vs, cs, i, h => by
   rw [List.length_cons] at h
   rw [setMany, setMany_eq vs (cs.set i v) (i + 1) (by rw [List.length_set]; omega), List.take_add_one, List.getElem?_set]
   rw [if_pos rfl, if_pos (by omega), List.take_set_of_le (Nat.le_refl _), List.drop_set_of_lt (by omega), List.length_cons]
   simp only [Option.toList_some, List.append_assoc, List.singleton_append]
   rw [show i + 1 + vs.length = i + (vs.length + 1) from by omega]
section
variable {α : Type} {enc : α → List Value} {sz : Nat} {e : TypeId} {w w' : World} {lo lo' c n : Nat} {A : Option Addr} {xs : List α}
theorem flat_len (hsz : ∀ x, (enc x).length = sz) : ∀ xs : List α, (xs.flatMap enc).length = xs.length * sz := by
 intro xs
 induction xs with
 | nil => simp
 | cons x xs ih => simp only [List.flatMap_cons, List.length_append, hsz, ih, List.length_cons, Nat.succ_mul]; omega
theorem flat_split' (hsz : ∀ x, (enc x).length = sz) (P : List α) (x y : α) (Q : List α) :
   ((P ++ x :: Q).set P.length y).flatMap enc = ((P ++ x :: Q).flatMap enc).take (P.length * sz) ++ enc y ++ ((P ++ x :: Q).flatMap enc).drop (P.length * sz + sz) := by
 have hf : (P.flatMap enc).length = P.length * sz := flat_len hsz P
 rw [List.set_append_right _ _ (Nat.le_refl _), Nat.sub_self, List.set_cons_zero]
 simp only [List.flatMap_append, List.flatMap_cons]
 rw [List.take_append_of_le_length (by omega), List.take_of_length_le (by omega), List.drop_append, List.drop_of_length_le (by omega), hf, List.nil_append]
 rw [show P.length * sz + sz - P.length * sz = sz from by omega, List.drop_append, hsz, Nat.sub_self, List.drop_zero, List.drop_of_length_le (by rw [hsz]; omega), List.nil_append, List.append_assoc]
theorem flat_split (hsz : ∀ x, (enc x).length = sz) (xs : List α) {k : Nat} (hk : k < xs.length) (y : α) : (xs.set k y).flatMap enc = (xs.flatMap enc).take (k * sz) ++ enc y ++ (xs.flatMap enc).drop (k * sz + sz) := by
 have e : xs.take k ++ xs[k] :: xs.drop (k + 1) = xs := by rw [← List.drop_eq_getElem_cons hk, List.take_append_drop]
 have hl : (xs.take k).length = k := by rw [List.length_take]; omega
 have := flat_split' hsz (xs.take k) xs[k] y (xs.drop (k + 1))
 rw [e, hl] at this
 exact this
theorem ownsRow_set {cs : List Value} {g i m : Nat} {u : Value} (h : w.ownsRow lo e sz (.slice (some ⟨g, 0, none⟩) n c) m cs) (hi : i < cs.length) :
   (w.setCell ⟨g, i, none⟩ u).ownsRow lo e sz (.slice (some ⟨g, 0, none⟩) n c) m (cs.set i u) := by
 refine ⟨by rw [List.length_set]; exact h.1, ?_⟩
 rcases h.2 with ⟨hv, h0⟩ | ⟨g', cap, cur, hv, hb, hh, hn, hm, hs, ht⟩
 · injection hv with h1; cases h1
 · injection hv with h1 h2 h3
   injection h1 with h1; injection h1 with h1
   subst h1 h2 h3
   refine .inr ⟨g, c, cur.setIfInBounds i u, rfl, hb, ?_, hn, hm, by simpa using hs, ?_⟩
   · simp [World.setCell, Array.getElem?_modify, hh]
   · rw [Array.toList_setIfInBounds, List.take_set, ht]
theorem ownsRow_sets : ∀ (vs cs : List Value) (w : World) {g i m : Nat}, w.ownsRow lo e sz (.slice (some ⟨g, 0, none⟩) n c) m cs → i + vs.length ≤ cs.length →
   (setCells w g i vs).ownsRow lo e sz (.slice (some ⟨g, 0, none⟩) n c) m (setMany cs i vs)
 | [], cs, w, g, i, m, h, _ => h
 | v :: vs, cs, w, g, i, m, h, hi => by
   rw [List.length_cons] at hi
   exact ownsRow_sets vs (cs.set i v) _ (ownsRow_set h (by omega)) (by rw [List.length_set]; omega)
theorem Ow.put (h : Ow enc sz e w lo A c n xs) (hsz : ∀ x, (enc x).length = sz) {g k : Nat} (y : α) (hA : A = some ⟨g, 0, none⟩) (hk : k < n) : Ow enc sz e (setCells w g (k * sz) (enc y)) lo A c n (xs.set k y) := by
 subst hA
 have hk' : k < xs.length := by rw [← h.1]; exact hk
 have hle : k * sz + (enc y).length ≤ (xs.flatMap enc).length := by
   rw [hsz, flat_len hsz]
   calc k * sz + sz = (k + 1) * sz := (Nat.succ_mul k sz).symm
     _ ≤ xs.length * sz := Nat.mul_le_mul_right _ hk'
 have := ownsRow_sets (enc y) (xs.flatMap enc) w h.2 hle
 rw [setMany_eq _ _ _ hle, hsz, ← flat_split hsz xs hk' y] at this
 exact ⟨by rw [List.length_set]; exact h.1, this⟩
end
theorem Ow.lb {α : Type} {enc : α → List Value} {sz : Nat} {e : TypeId} {w : World} {lo c n g : Nat} {A : Option Addr} {xs : List α} (h : Ow enc sz e w lo A c n xs) (hA : A = some ⟨g, 0, none⟩) : Lb w g (c * sz) := by
 rcases h.form with ⟨h1, _⟩ | ⟨g', cur, h1, h2, h3, h4, h5, h6, h7, h8⟩
 · rw [h1] at hA; cases hA
 · rw [h1] at hA; cases hA; exact ⟨cur, e, h4, h7⟩
structure OwT {α : Type} (enc : α → List Value) (sz : Nat) (e : TypeId) (τ : Nat → Nat) (t : Nat) (w : World) (lo : Nat) (A : Option Addr) (c n : Nat) (xs : List α) : Prop where
 ow : Ow enc sz e w lo A c n xs
 tag : ∀ a, A = some a → τ a.block = t
structure KT (τ : Nat → Nat) (t lo : Nat) (w w' : World) : Prop where
 size : w.heap.size ≤ w'.heap.size
 block : ∀ b, lo ≤ b → b < w.heap.size → τ b = t → w'.heap[b]? = w.heap[b]?
theorem KT.refl (τ : Nat → Nat) (t lo : Nat) (w : World) : KT τ t lo w w := ⟨Nat.le_refl _, fun _ _ _ _ => rfl⟩
theorem KT.of {τ : Nat → Nat} {t lo : Nat} {w w' : World} (h : KF lo w w') : KT τ t lo w w' := ⟨h.size, fun b h1 h2 _ => h.block b h1 h2⟩
section
variable {τ : Nat → Nat} {t lo : Nat} {a w w' : World}
theorem KT.alloc {o : Obj} (h : KT τ t lo a w) : KT τ t lo a (w.alloc o) :=
 ⟨by simp; have := h.size; omega, fun i hl hi ht => (Below.heap_alloc _ _ _ (Nat.lt_of_lt_of_le hi h.size)).trans (h.block i hl hi ht)⟩
theorem KT.drew (h : KT τ t lo a w) : KT τ t lo a w.drew := ⟨h.size, h.block⟩
theorem KT.drewN {n : Nat} (h : KT τ t lo a w) : KT τ t lo a (w.drewN n) := ⟨h.size, h.block⟩
theorem KT.setCell {p : Addr} {u : Value} (h : KT τ t lo a w) (hp : a.heap.size ≤ p.block ∨ τ p.block ≠ t) : KT τ t lo a (w.setCell p u) :=
 ⟨by simpa [World.setCell] using h.size, fun i hl hi ht => (Below.heap_setCell _ _ _ _ (by rintro rfl; rcases hp with hp | hp <;> first | omega | exact hp ht)).trans (h.block i hl hi ht)⟩
theorem KT.ch {S : Nat → Prop} (hb : Ch S w w') (h : KT τ t lo a w) (hS : ∀ i, S i → a.heap.size ≤ i ∨ τ i ≠ t) : KT τ t lo a w' :=
 ⟨Nat.le_trans h.size hb.size, fun i hl hi ht => (hb.block i (Nat.lt_of_lt_of_le hi h.size) (fun hs => by rcases hS i hs with h1 | h1 <;> first | omega | exact h1 ht)).trans (h.block i hl hi ht)⟩
theorem KT.ex (hb : Ex w w') (h : KT τ t lo a w) : KT τ t lo a w' := h.ch hb (fun _ h => h.elim)
end
def glue (τ : Nat → Nat) (n : Nat) (τ' : Nat → Nat) : Nat → Nat := fun b => if b < n then τ b else τ' b
section
variable {α : Type} {enc : α → List Value} {sz : Nat} {e : TypeId} {τ τ' : Nat → Nat} {t : Nat} {w w' : World} {lo lo' c n : Nat} {A : Option Addr} {xs : List α}
theorem OwT.keep (h : OwT enc sz e τ t w lo A c n xs) (hk : KT τ t lo w w') : OwT enc sz e τ t w' lo A c n xs :=
 ⟨h.ow.keep_ fun a ha => hk.block _ (h.ow.blk ha).1 (h.ow.blk ha).2 (h.tag a ha), h.tag⟩
theorem OwT.less (h : OwT enc sz e τ t w lo A c n xs) (hl : lo' ≤ lo) : OwT enc sz e τ t w lo' A c n xs := ⟨h.ow.less hl, h.tag⟩
theorem OwT.retag (h : OwT enc sz e τ t w lo A c n xs) (ht : ∀ b, b < w.heap.size → τ' b = τ b) : OwT enc sz e τ' t w lo A c n xs :=
 ⟨h.ow, fun a ha => (ht _ (h.ow.blk ha).2).trans (h.tag a ha)⟩
theorem OwT.fresh (h : Ow enc sz e w lo A c n xs) (ht : ∀ b, lo ≤ b → b < w.heap.size → τ b = t) : OwT enc sz e τ t w lo A c n xs :=
 ⟨h, fun a ha => ht _ (h.blk ha).1 (h.blk ha).2⟩
theorem OwT.nil (τ : Nat → Nat) (t : Nat) (w : World) (lo : Nat) : OwT enc sz e τ t w lo none 0 0 [] := ⟨Ow.nil w lo, fun _ h => by cases h⟩
theorem OwT.glueL {k : Nat} (h : OwT enc sz e τ t w lo A c n xs) (hk : w.heap.size ≤ k) : OwT enc sz e (glue τ k τ') t w lo A c n xs := h.retag fun b hb => if_pos (by omega)
theorem OwT.glueR {k : Nat} (h : OwT enc sz e τ t w lo A c n xs) (hk : k ≤ lo) : OwT enc sz e (glue τ' k τ) t w lo A c n xs :=
 ⟨h.ow, fun a ha => by have := (h.ow.blk ha).1; unfold glue; rw [if_neg (by omega)]; exact h.tag a ha⟩
theorem OwT.rs (h : OwT enc sz e τ t w lo A c n xs) : Rs enc sz w lo A c n xs := h.ow.rs
end
abbrev OwTE := OwT Sw.Ent.enc 4 207
abbrev OwTI := OwT encI 1 3
abbrev OwTD := OwT Sw.Deal.enc 5 105
abbrev OwTQ := OwT Sw.Req.enc 6 82
abbrev OwTG := OwT GV.enc 4 90
abbrev OwTX := OwT XV.enc 5 92
structure OwM (τ : Nat → Nat) (w : World) (lo : Nat) (aL : Option Addr) (aLc aLn : Nat) (aP : Option Addr) (aPc aPn : Nat) (aD : Option Addr) (aDc aDn : Nat) (aN : Option Addr) (aNc aNn : Nat) (aS : Option Addr) (aSc aSn : Nat) (m : Sw.Mkt) : Prop where
 log : OwTE τ 1 w lo aL aLc aLn m.log
 purses : OwTI τ 2 w lo aP aPc aPn m.purses
 deals : OwTD τ 3 w lo aD aDc aDn m.deals
 nums : OwTI τ 4 w lo aN aNc aNn m.nums
 said : OwTI τ 5 w lo aS aSc aSn m.said
structure OwG (fd : Nat → Nat) (τ : Nat → Nat) (w : World) (lo : Nat) (A : Option Addr) (c n : Nat) (gs : List Sw.Gate) : Prop where
 ex : ∃ vs : List GV, OwTG τ 8 w lo A c n vs ∧ n = gs.length ∧ ∀ (k : Nat) (v : GV) (g : Sw.Gate), vs[k]? = some v → gs[k]? = some g → v.h = g.head ∧ OwTI τ (fd k) w lo v.A v.c v.n g.done
structure OwX (fp : Nat → Nat) (τ : Nat → Nat) (w : World) (lo : Nat) (A : Option Addr) (c n : Nat) (xs : List Sw.Msg) : Prop where
 ex : ∃ vs : List XV, OwTX τ 9 w lo A c n vs ∧ n = xs.length ∧ ∀ (k : Nat) (v : XV) (x : Sw.Msg), vs[k]? = some v → xs[k]? = some x → v.g = x.gate ∧ v.h = x.head ∧ OwTI τ (fp k) w lo v.A v.c v.n x.proof
structure OwW (fd fp : Nat → Nat) (τ : Nat → Nat) (w : World) (lo : Nat) (aF : Option Addr) (aFc aFn : Nat) (aL : Option Addr) (aLc aLn : Nat) (aP : Option Addr) (aPc aPn : Nat) (aD : Option Addr) (aDc aDn : Nat) (aN : Option Addr) (aNc aNn : Nat) (aS : Option Addr) (aSc aSn : Nat) (aI : Option Addr) (aIc aIn : Nat) (aG : Option Addr) (aGc aGn : Nat) (aB : Option Addr) (aBc aBn : Nat) (x : Sw.World) : Prop where
 first : OwTI τ 6 w lo aF aFc aFn x.first
 mkt : OwM τ w lo aL aLc aLn aP aPc aPn aD aDc aDn aN aNc aNn aS aSc aSn x.market
 lines : OwTQ τ 7 w lo aI aIc aIn x.lines
 gates : OwG fd τ w lo aG aGc aGn x.gates
 bag : OwX fp τ w lo aB aBc aBn x.bag
def fdS (k : Nat) : Nat := 20 + 2 * k
def fpS (k : Nat) : Nat := 21 + 2 * k
def fdL (_ : Nat) : Nat := 10
def fpL (_ : Nat) : Nat := 11
section
variable {fd fp τ τ' : Nat → Nat} {w w' : World} {lo lo' c n k : Nat} {A : Option Addr}
theorem OwM.rm {aL : Option Addr} {aLc aLn : Nat} {aP : Option Addr} {aPc aPn : Nat} {aD : Option Addr} {aDc aDn : Nat} {aN : Option Addr} {aNc aNn : Nat} {aS : Option Addr} {aSc aSn : Nat} {m : Sw.Mkt} (h : OwM τ w lo aL aLc aLn aP aPc aPn aD aDc aDn aN aNc aNn aS aSc aSn m) : RM w lo aL aLc aLn aP aPc aPn aD aDc aDn aN aNc aNn aS aSc aSn m := ⟨h.1.rs, h.2.rs, h.3.rs, h.4.rs, h.5.rs⟩
theorem OwG.rg {gs : List Sw.Gate} (h : OwG fd τ w lo A c n gs) : RG w lo A c n gs := by
 obtain ⟨vs, h1, h2, h3⟩ := h.ex
 exact ⟨vs, h1.rs, h2, fun k v g hv hg => ⟨(h3 k v g hv hg).1, (h3 k v g hv hg).2.rs⟩⟩
theorem OwX.rx {xs : List Sw.Msg} (h : OwX fp τ w lo A c n xs) : RX w lo A c n xs := by
 obtain ⟨vs, h1, h2, h3⟩ := h.ex
 exact ⟨vs, h1.rs, h2, fun k v g hv hg => ⟨(h3 k v g hv hg).1, (h3 k v g hv hg).2.1, (h3 k v g hv hg).2.2.rs⟩⟩
theorem OwW.rw_ {aF : Option Addr} {aFc aFn : Nat} {aL : Option Addr} {aLc aLn : Nat} {aP : Option Addr} {aPc aPn : Nat} {aD : Option Addr} {aDc aDn : Nat} {aN : Option Addr} {aNc aNn : Nat} {aS : Option Addr} {aSc aSn : Nat} {aI : Option Addr} {aIc aIn : Nat} {aG : Option Addr} {aGc aGn : Nat} {aB : Option Addr} {aBc aBn : Nat} {x : Sw.World} (h : OwW fd fp τ w lo aF aFc aFn aL aLc aLn aP aPc aPn aD aDc aDn aN aNc aNn aS aSc aSn aI aIc aIn aG aGc aGn aB aBc aBn x) : RW w lo aF aFc aFn aL aLc aLn aP aPc aPn aD aDc aDn aN aNc aNn aS aSc aSn aI aIc aIn aG aGc aGn aB aBc aBn x := ⟨h.1.rs, h.2.rm, h.3.rs, h.4.rg, h.5.rx⟩
theorem OwM.keep {aL : Option Addr} {aLc aLn : Nat} {aP : Option Addr} {aPc aPn : Nat} {aD : Option Addr} {aDc aDn : Nat} {aN : Option Addr} {aNc aNn : Nat} {aS : Option Addr} {aSc aSn : Nat} {m : Sw.Mkt} (h : OwM τ w lo aL aLc aLn aP aPc aPn aD aDc aDn aN aNc aNn aS aSc aSn m) (hk : ∀ t, 1 ≤ t → t ≤ 5 → KT τ t lo w w') : OwM τ w' lo aL aLc aLn aP aPc aPn aD aDc aDn aN aNc aNn aS aSc aSn m :=
 ⟨h.1.keep (hk _ (by omega) (by omega)), h.2.keep (hk _ (by omega) (by omega)), h.3.keep (hk _ (by omega) (by omega)), h.4.keep (hk _ (by omega) (by omega)), h.5.keep (hk _ (by omega) (by omega))⟩
theorem OwM.less {aL : Option Addr} {aLc aLn : Nat} {aP : Option Addr} {aPc aPn : Nat} {aD : Option Addr} {aDc aDn : Nat} {aN : Option Addr} {aNc aNn : Nat} {aS : Option Addr} {aSc aSn : Nat} {m : Sw.Mkt} (h : OwM τ w lo aL aLc aLn aP aPc aPn aD aDc aDn aN aNc aNn aS aSc aSn m) (hl : lo' ≤ lo) : OwM τ w lo' aL aLc aLn aP aPc aPn aD aDc aDn aN aNc aNn aS aSc aSn m := ⟨h.1.less hl, h.2.less hl, h.3.less hl, h.4.less hl, h.5.less hl⟩
theorem OwM.retag {aL : Option Addr} {aLc aLn : Nat} {aP : Option Addr} {aPc aPn : Nat} {aD : Option Addr} {aDc aDn : Nat} {aN : Option Addr} {aNc aNn : Nat} {aS : Option Addr} {aSc aSn : Nat} {m : Sw.Mkt} (h : OwM τ w lo aL aLc aLn aP aPc aPn aD aDc aDn aN aNc aNn aS aSc aSn m) (ht : ∀ b, b < w.heap.size → τ' b = τ b) : OwM τ' w lo aL aLc aLn aP aPc aPn aD aDc aDn aN aNc aNn aS aSc aSn m := ⟨h.1.retag ht, h.2.retag ht, h.3.retag ht, h.4.retag ht, h.5.retag ht⟩
theorem OwG.keep {gs : List Sw.Gate} (h : OwG fd τ w lo A c n gs) (h8 : KT τ 8 lo w w') (hk : ∀ k, KT τ (fd k) lo w w') : OwG fd τ w' lo A c n gs := by
 obtain ⟨vs, h1, h2, h3⟩ := h.ex
 exact ⟨vs, h1.keep h8, h2, fun k v g hv hg => ⟨(h3 k v g hv hg).1, (h3 k v g hv hg).2.keep (hk k)⟩⟩
theorem OwG.less {gs : List Sw.Gate} (h : OwG fd τ w lo A c n gs) (hl : lo' ≤ lo) : OwG fd τ w lo' A c n gs := by
 obtain ⟨vs, h1, h2, h3⟩ := h.ex
 exact ⟨vs, h1.less hl, h2, fun k v g hv hg => ⟨(h3 k v g hv hg).1, (h3 k v g hv hg).2.less hl⟩⟩
theorem OwG.retag {gs : List Sw.Gate} (h : OwG fd τ w lo A c n gs) (ht : ∀ b, b < w.heap.size → τ' b = τ b) : OwG fd τ' w lo A c n gs := by
 obtain ⟨vs, h1, h2, h3⟩ := h.ex
 exact ⟨vs, h1.retag ht, h2, fun k v g hv hg => ⟨(h3 k v g hv hg).1, (h3 k v g hv hg).2.retag ht⟩⟩
theorem OwG.glueR {gs : List Sw.Gate} (h : OwG fd τ w lo A c n gs) (hk : k ≤ lo) : OwG fd (glue τ' k τ) w lo A c n gs := by
 obtain ⟨vs, h1, h2, h3⟩ := h.ex
 exact ⟨vs, h1.glueR hk, h2, fun k v g hv hg => ⟨(h3 k v g hv hg).1, (h3 k v g hv hg).2.glueR hk⟩⟩
theorem OwX.keep {xs : List Sw.Msg} (h : OwX fp τ w lo A c n xs) (h9 : KT τ 9 lo w w') (hk : ∀ k, KT τ (fp k) lo w w') : OwX fp τ w' lo A c n xs := by
 obtain ⟨vs, h1, h2, h3⟩ := h.ex
 exact ⟨vs, h1.keep h9, h2, fun k v g hv hg => ⟨(h3 k v g hv hg).1, (h3 k v g hv hg).2.1, (h3 k v g hv hg).2.2.keep (hk k)⟩⟩
theorem OwX.less {xs : List Sw.Msg} (h : OwX fp τ w lo A c n xs) (hl : lo' ≤ lo) : OwX fp τ w lo' A c n xs := by
 obtain ⟨vs, h1, h2, h3⟩ := h.ex
 exact ⟨vs, h1.less hl, h2, fun k v g hv hg => ⟨(h3 k v g hv hg).1, (h3 k v g hv hg).2.1, (h3 k v g hv hg).2.2.less hl⟩⟩
theorem OwX.retag {xs : List Sw.Msg} (h : OwX fp τ w lo A c n xs) (ht : ∀ b, b < w.heap.size → τ' b = τ b) : OwX fp τ' w lo A c n xs := by
 obtain ⟨vs, h1, h2, h3⟩ := h.ex
 exact ⟨vs, h1.retag ht, h2, fun k v g hv hg => ⟨(h3 k v g hv hg).1, (h3 k v g hv hg).2.1, (h3 k v g hv hg).2.2.retag ht⟩⟩
theorem OwX.glueR {xs : List Sw.Msg} (h : OwX fp τ w lo A c n xs) (hk : k ≤ lo) : OwX fp (glue τ' k τ) w lo A c n xs := by
 obtain ⟨vs, h1, h2, h3⟩ := h.ex
 exact ⟨vs, h1.glueR hk, h2, fun k v g hv hg => ⟨(h3 k v g hv hg).1, (h3 k v g hv hg).2.1, (h3 k v g hv hg).2.2.glueR hk⟩⟩
theorem OwW.less {aF : Option Addr} {aFc aFn : Nat} {aL : Option Addr} {aLc aLn : Nat} {aP : Option Addr} {aPc aPn : Nat} {aD : Option Addr} {aDc aDn : Nat} {aN : Option Addr} {aNc aNn : Nat} {aS : Option Addr} {aSc aSn : Nat} {aI : Option Addr} {aIc aIn : Nat} {aG : Option Addr} {aGc aGn : Nat} {aB : Option Addr} {aBc aBn : Nat} {x : Sw.World} (h : OwW fd fp τ w lo aF aFc aFn aL aLc aLn aP aPc aPn aD aDc aDn aN aNc aNn aS aSc aSn aI aIc aIn aG aGc aGn aB aBc aBn x) (hl : lo' ≤ lo) : OwW fd fp τ w lo' aF aFc aFn aL aLc aLn aP aPc aPn aD aDc aDn aN aNc aNn aS aSc aSn aI aIc aIn aG aGc aGn aB aBc aBn x := ⟨h.1.less hl, h.2.less hl, h.3.less hl, h.4.less hl, h.5.less hl⟩
theorem OwW.retag {aF : Option Addr} {aFc aFn : Nat} {aL : Option Addr} {aLc aLn : Nat} {aP : Option Addr} {aPc aPn : Nat} {aD : Option Addr} {aDc aDn : Nat} {aN : Option Addr} {aNc aNn : Nat} {aS : Option Addr} {aSc aSn : Nat} {aI : Option Addr} {aIc aIn : Nat} {aG : Option Addr} {aGc aGn : Nat} {aB : Option Addr} {aBc aBn : Nat} {x : Sw.World} (h : OwW fd fp τ w lo aF aFc aFn aL aLc aLn aP aPc aPn aD aDc aDn aN aNc aNn aS aSc aSn aI aIc aIn aG aGc aGn aB aBc aBn x) (ht : ∀ b, b < w.heap.size → τ' b = τ b) : OwW fd fp τ' w lo aF aFc aFn aL aLc aLn aP aPc aPn aD aDc aDn aN aNc aNn aS aSc aSn aI aIc aIn aG aGc aGn aB aBc aBn x := ⟨h.1.retag ht, h.2.retag ht, h.3.retag ht, h.4.retag ht, h.5.retag ht⟩
end
end Go.Proofs.YtnnoiagommiapaaGreat
namespace Go.Proofs.YtnnoiagommiapaaGreat
open Go.ChangeShapes Go.WideShapes Go.ChangeAt Go.RowKit Go
section
variable {H : Type} {enc : TypeId × Value → H} {W : World}
theorem cells_B : Tryz.prog.cellsOf 5 = 1 := by kernel_rfl
theorem o_bytes {n : Nat} {cs : List Value} {y : DataW H × List MemPlace} (h : DataW.trod enc Tryz.prog W 0 (fun _ => true) true n 64 cs = some y) : ∃ A c n xs, cs = [.slice A n c] ∧ RB W 0 A c n xs ∧ ∀ x ∈ xs, 0 ≤ x ∧ x ≤ 255 :=
 rs_of_trod (ec := encB) (sz := 1) (Q := fun x => 0 ≤ x ∧ x ≤ 255) Tryz.underlying64 cells_B (by omega) (fun _ => rfl) (fun n cs y h => by
   obtain ⟨a, rfl, _, hw⟩ := DataW.trod_int Tryz.underlying5 h
   refine ⟨a, rfl, ?_⟩
   simp only [Lit.wf, Bool.and_eq_true, decide_eq_true_eq] at hw
   exact hw) h
end
end Go.Proofs.YtnnoiagommiapaaGreat
