/- Texts joined: Heads, Grow. -/
import Derived.Test.YtnnoiagommiapaaGreatPy13
set_option maxRecDepth 100000
set_option linter.unusedSimpArgs false
set_option linter.unusedVariables false
namespace Go.Proofs.YtnnoiagommiapaaGreat
open Go.RowKit Go
set_option maxHeartbeats 400000
theorem fold_ok : ∀ (es : List Sw.Ent) (rows r : List Sw.Row), Sw.foldFrom rows es = some r → rows.length = 8 → r.length = 8
 | [], rows, r, h, h8 => by simp [Sw.foldFrom] at h; rw [← h]; exact h8
 | e :: es, rows, r, h, h8 => by
   rw [Sw.foldFrom] at h
   split at h
   · exact fold_ok es _ r h (by simp [Sw.putRows, h8])
   · cases h
theorem ownFold_len {es : List Sw.Ent} {r : List Sw.Row} (h : Sw.ownFold es = some r) : r.length = 8 := by
 unfold Sw.ownFold at h
 split at h
 · exact fold_ok es _ r h rfl
 · cases h
theorem sOwnFold_c (A : Option Addr) (c n : Nat) (xs : List Sw.Ent) (w : World) (hxs : RE w 0 A c n xs) : Calls Tryz.prog 177 #[.slice A n c] w fun E w' => ∃ A' c' n', E = .returned (.tuple #[.slice A' n' c', .bool (Sw.ownFold xs).isSome]) ∧ OwR w' w.heap.size A' c' n' ((Sw.ownFold xs).getD []) ∧ Ex w w' := by
 have hl := Lib.hid hxs.1
 by_cases hn : n ≤ 40
 · have hn' : decide (40 < n) = false := by simp; omega
   go_enter Tryz.func177, Tryz.ntmps177
   go_wp2_with (first | (go_at_call 221; refine (sNew_c _).mono ?_; rintro E w1 ⟨A, rfl, hr, hb⟩; obtain ⟨hc, hf, hz⟩ := xy hb))
   go_loopw [4, 5] (fun r i wr => ∃ (k : Nat) (B : Option Addr) (d : Nat) (rows : List Sw.Row), k ≤ n ∧ i = .int .i64 k ∧ r = .slice B 8 d ∧ Ex w wr ∧ OwR wr w.heap.size B d 8 rows ∧ Sw.ownFold xs = Sw.foldFrom rows (xs.drop k)) (fun _ i _ => n - (intOf i).toNat)
   case atStart => exact ⟨0, _, _, _, Nat.zero_le _, rfl, rfl, ext_, hr, by rw [Sw.ownFold, if_pos (by have := hl.out; omega)]; rfl⟩
   case round =>
     clear hb hc hf hz hr
     obtain ⟨k, B, d, rows, hk, rfl, rfl, hb, ho, hrel⟩ := hrel
     have hst := Ex.rules hb rfl
     obtain ⟨hc, hf, hz⟩ := hst
     by_cases hlt : k < n
     · obtain ⟨g, off, y, rfl, hg0, hg, hd, hy, hc0, hc1, hc2, hc3⟩ := at_E hxs hlt
       rw [hd, Sw.foldFrom] at hrel
       have Hrel := Lib.hid hrel
       clear hd hy hrel
       go_wp2_with (first | (go_at_call 222; apply Calls.mono; apply sOwnPut_c; (apply Ow.rs0 ho; exact KF.refl _ _); omega; rintro E w1 ⟨A1, c1, rfl, ho1, hb1⟩; have hst := Ex.rules hb1 rfl; obtain ⟨hc1', hf1', hz1'⟩ := hst))
       · go_ret2
         have hfit : Sw.ownFits rows y = false := by rename_i h; simpa using h
         have hh := Hrel.out
         rw [if_neg (by simp [hfit])] at hh
         refine ⟨_, _, _, by rw [hh]; rfl, ?_, ext_⟩
         rw [hh]
         (refine own_)
       · have hfit : Sw.ownFits rows y = true := by rename_i h; simpa using h
         have hh := Hrel.out
         rw [if_pos hfit] at hh
         refine ⟨⟨k + 1, _, _, _, by omega, by go_num, rfl, ext_, ho1.less (by omega), ?_⟩, by simp [intOf]; omega⟩
         rw [hh, Sw.ownPut, if_pos hfit]
     · have Hrel := Lib.hid hrel; clear hrel
       go_wp2_with fail
       go_ret2
       obtain rfl : k = n := by omega
       have hh := Hrel.out
       rw [List.drop_of_length_le (by have := hl.out; omega)] at hh
       refine ⟨_, _, _, by rw [hh]; rfl, ?_, ext_⟩
       rw [hh]
       exact ho
 · have hn' : decide (40 < n) = true := by simp; omega
   go_enter Tryz.func177, Tryz.ntmps177
   go_wp2_with (first | (go_at_call 221; refine (sNew_c _).mono ?_; rintro E w1 ⟨A, rfl, hr, hb⟩; obtain ⟨hc, hf, hz⟩ := xy hb))
   go_ret2
   have hh : Sw.ownFold xs = none := by rw [Sw.ownFold, if_neg (by have := hl.out; omega)]
   refine ⟨_, _, _, by rw [hh]; rfl, ?_, ext_⟩
   rw [hh]
   (refine own_)
theorem mixLeaf_ok (l : List Int) : Sw.mixOk (Sw.mixLeaf l) = true := by
 rw [mixOk_bd]; unfold Sw.mixLeaf
 exact ⟨Int.emod_nonneg _ (by omega), by have := Int.emod_lt_of_pos (Sw.mixLeafFrom 7 l * 31 + l.length) (show (0 : Int) < 65521 by omega); omega⟩
theorem ownLeaf_ok (t : Int) (r : Sw.Row) : Sw.mixOk (Sw.ownLeaf t r) = true := by
 unfold Sw.ownLeaf
 split
 · exact mixLeaf_ok _
 · rfl
theorem leavesFrom_ok : ∀ (rows : List Sw.Row) (t : Int), (Sw.leavesFrom t rows).all Sw.mixOk = true
 | [], _ => rfl
 | r :: rs, t => by simp only [Sw.leavesFrom, List.all_cons, ownLeaf_ok, leavesFrom_ok rs, Bool.and_self]
theorem ownLeaves_ok (rows : List Sw.Row) : (Sw.ownLeaves rows).all Sw.mixOk = true := leavesFrom_ok rows 0
theorem entLeaves_ok (es : List Sw.Ent) : (es.map Sw.entLeaf).all Sw.mixOk = true := by
 rw [List.all_map, List.all_eq_true]; exact fun e _ => mixLeaf_ok _
theorem sOwnRoot_c (A : Option Addr) (c n : Nat) (xs : List Sw.Row) (w : World) (hxs : RR w 0 A c n xs) : Calls Tryz.prog 246 #[.slice A n c] w fun E w' => E = .returned (.int .i64 (Sw.ownRoot xs)) ∧ Ex w w' := by
 have hl := Lib.hid hxs.1
 by_cases hok : Sw.ownOk xs = true
 · have hn : n = 8 := by have := hl.out; simp [Sw.ownOk] at hok; omega
   subst hn
   go_enter Tryz.func246, Tryz.ntmps246
   go_wp2_with (first | (go_at_call 252; apply Calls.mono; apply sOwnOk_c; (exact rd_); rintro E w1 ⟨rfl, hb⟩; obtain ⟨hc, hf, hz⟩ := xy hb) | (go_at_call 254; apply Calls.mono; apply sLeaves_c; (first | assumption | (exact rd_) | omega); omega; rintro E w1 ⟨A1, c1, rfl, ho1, hb1⟩) | (go_at_call 244; apply Calls.mono; apply (sRoot_c 8); omega; (apply Ow.rs0 ho1; exact KF.refl _ _); omega; exact ownLeaves_ok _; rintro E w2 ⟨rfl, hb2⟩))
   go_ret
   exact ⟨ret_i (by simp [Sw.ownRoot, hok]), ext_⟩
 · have hok' : Sw.ownOk xs = false := by simpa using hok
   go_enter Tryz.func246, Tryz.ntmps246
   go_wp2_with (first | (go_at_call 252; apply Calls.mono; apply sOwnOk_c; (exact rd_); rintro E w1 ⟨rfl, hb⟩; obtain ⟨hc, hf, hz⟩ := xy hb))
   go_ret
   exact ⟨ret_i (by simp [Sw.ownRoot, hok']), ext_⟩
theorem sHedOf_c (A : Option Addr) (c n : Nat) (xs : List Sw.Ent) (w : World) (hxs : RE w 0 A c n xs) : Calls Tryz.prog 204 #[.slice A n c] w fun E w' => E = .returned (.tuple #[.agg #[.int .i64 ((Sw.hedOf xs).getD Sw.headZ).size, .int .i64 ((Sw.hedOf xs).getD Sw.headZ).log, .int .i64 ((Sw.hedOf xs).getD Sw.headZ).own], .bool (Sw.hedOf xs).isSome]) ∧ Ex w w' := by
 have hl := Lib.hid hxs.1
 cases hf : Sw.ownFold xs with
 | none =>
   have hh : Sw.hedOf xs = none := by simp [Sw.hedOf, hf]
   have hs : (Sw.ownFold xs).isSome = false := by simp [hf]
   have Hf := Lib.hid hf; have HH := Lib.hid hh; clear hf hh
   go_enter Tryz.func204, Tryz.ntmps204
   go_wp2_with (first | (go_at_call 177; apply Calls.mono; apply sOwnFold_c; (exact rd_); rintro E w1 ⟨A', c', n', rfl, hr, hb⟩; obtain ⟨hc, hf, hz⟩ := xy hb))
   refine bodyPost_ret (v := .tuple #[.agg #[.int .i64 0, .int .i64 0, .int .i64 0], .bool false]) (by simp [results, Tryz.results204, go_sem, *]) rfl ?_
   exact ⟨by rw [HH.out]; rfl, ext_⟩
 | some rows =>
   have h8 := ownFold_len hf
   have hn : n ≤ 40 := by
     have := hl.out
     unfold Sw.ownFold at hf
     split at hf
     · omega
     · cases hf
   have hh : Sw.hedOf xs = some ⟨xs.length, Sw.root (xs.map Sw.entLeaf), Sw.ownRoot rows⟩ := by simp [Sw.hedOf, hf]
   have hs : (Sw.ownFold xs).isSome = true := by simp [hf]
   have hg : (Sw.ownFold xs).getD [] = rows := by simp [hf]
   have Hf := Lib.hid hf; have HH := Lib.hid hh; have H8 := Lib.hid h8; have HG := Lib.hid hg; clear hf hh h8 hg
   go_enter Tryz.func204, Tryz.ntmps204
   go_wp2_with (first | (go_at_call 177; apply Calls.mono; apply sOwnFold_c; (first | assumption | (exact rd_) | omega); rintro E w1 ⟨A1, c1, n1, rfl, ho1, hb⟩; rw [HG.out] at ho1; have hst := Ex.rules hb rfl; (try simp only [World.size_alloc, World.size_setCell, World.size_drew] at hst); obtain ⟨hc, hf, hz⟩ := hst) | (go_at_call 245; apply Calls.mono; apply sEntLeaves_c; (first | assumption | (exact rd_) | omega); omega; rintro E w2 ⟨A2, c2, rfl, ho2, hb2⟩; have hst := Ex.rules hb2 rfl; obtain ⟨hc2, hf2, hz2⟩ := hst) | (go_at_call 244; apply Calls.mono; apply (sRoot_c 40); omega; (apply Ow.rs0 ho2; exact KF.refl _ _); omega; exact entLeaves_ok _; rintro E w3 ⟨rfl, hb3⟩; have hst := Ex.rules hb3 rfl; obtain ⟨hc3, hf3, hz3⟩ := hst) | (go_at_call 246; apply Calls.mono; apply sOwnRoot_c; (apply Ow.rs0 ho1; (exact kf_)); rintro E w4 ⟨rfl, hb4⟩; have hst := Ex.rules hb4 rfl; obtain ⟨hc4, hf4, hz4⟩ := hst))
   refine bodyPost_ret (v := .tuple #[.agg #[.int .i64 n, .int .i64 (Sw.root (xs.map Sw.entLeaf)), .int .i64 (Sw.ownRoot rows)], .bool true]) (by simp [results, Tryz.results204, go_sem, *]) rfl ?_
   exact ⟨by rw [HH.out, ← hl.out]; rfl, ext_⟩
set_option maxHeartbeats 400000
theorem grow_len {N : Nat} {l : List Int} {m : Nat} {k : Bool} (h : m ≠ l.length) (hN : l.length ≤ N + 1) : Sw.grow (N + 1) l m k =
   if m ≤ Sw.split l.length then Sw.grow N (l.take (Sw.split l.length)) m k ++ [Sw.root (l.drop (Sw.split l.length))]
   else Sw.grow N (l.drop (Sw.split l.length)) (m - Sw.split l.length) false ++ [Sw.root (l.take (Sw.split l.length))] := by
 rw [Sw.grow, if_neg h]
theorem sGrow_c (N : Nat) (A : Option Addr) (c n m : Nat) (kn : Bool) (xs : List Int) (w : World) (hN : n ≤ N) (hN4 : N ≤ 40) (hxs : RI w 0 A c n xs) (h40 : n ≤ 40) (hok : xs.all Sw.mixOk = true) (hm : 1 ≤ m) (hmn : m ≤ n) : Calls Tryz.prog 275 #[.slice A n c, .int .i64 m, .bool kn] w fun E w' => ∃ A' c' n', E = .returned (.slice A' n' c') ∧ OwI w' w.heap.size A' c' n' (Sw.grow N xs m kn) ∧ n' ≤ N ∧ Ex w w' := by
 induction N generalizing A c n m kn xs w with
 | zero => omega
 | succ N ih =>
   have hl := Lib.hid hxs.1
   have hcap := hxs.2.le
   by_cases hmn' : m = n
   · subst hmn'
     have hg : Sw.grow (N + 1) xs m kn = if kn = true then [] else [Sw.root xs] := by rw [Sw.grow, if_pos hl.out]
     have Hg := Lib.hid hg; clear hg
     cases kn with
     | true =>
       go_enter Tryz.func275, Tryz.ntmps275
       go_wp2_with fail
       go_ret
       refine ⟨_, _, _, rfl, ?_, Nat.zero_le _, ext_⟩
       rw [Hg.out]
       (refine own_)
     | false =>
       go_enter Tryz.func275, Tryz.ntmps275
       go_wp2_with (first | (go_at_call 244; apply Calls.mono; apply (sRoot_c 40); omega; (exact rd_); omega; exact hok; rintro E w1 ⟨rfl, hb⟩))
       go_ret
       refine ⟨_, _, _, rfl, ?_, by omega, ext_⟩
       rw [Hg.out]
       have hz := hb.size
       simp only [Bool.false_eq_true, if_false]
       (refine Ow.new [Sw.root xs] (by (first | rfl | (simp only [zq_]; done) | omega)) rfl rfl (fun _ => rfl) (by exact sz_) (by omega))
   · have h2 : 2 ≤ n := by omega
     have hs1 := Sw.split_lt h2
     have hs0 := Sw.split_pos n
     have hg := grow_len (N := N) (l := xs) (m := m) (k := kn) (by have := hl.out; omega) (by have := hl.out; omega)
     rw [← hl.out] at hg
     have Hg := Lib.hid hg
     clear hg
     have hmb : ((m : Int) == n) = false := by simp; omega
     have z3 : ¬ (c = Sw.split n) := by omega
     have z0 : (0 : Int) ≤ ↑(Sw.split n) := by omega
     have z1 : (↑(Sw.split n) : Int) ≤ ↑n := by omega
     have z2 : (↑(Sw.split n) : Int) ≤ ↑c := by omega
     by_cases hms : m ≤ Sw.split n
     · go_enter Tryz.func275, Tryz.ntmps275
       go_wp2_with (first | (go_at_call 272; apply Calls.mono; apply sTreSplit_c; (first | assumption | omega); (first | assumption | omega); rintro E w' ⟨rfl, rfl⟩))
       (refine wn_ fun W0 hb0 hc0 hf0 hz0 => ?_; go_region_held3 (fun w' => Held W0 w') ((exact hq_)) ((first | (go_at_call 275; apply Calls.mono; apply ih; omega; omega; (apply Rs.at0; apply RI_take hxs; omega; (exact kf_)); omega; exact List.all_take hok; omega; omega; rintro E w1 ⟨A3, c3, n3, rfl, ho3, hn3, hb⟩; obtain ⟨hc, hf, hz⟩ := xy hb) | (go_at_call 244; apply Calls.mono; apply (sRoot_c 40); omega; (apply Rs.at0; apply RI_drop hxs; omega; (exact kf_)); omega; exact List.all_drop hok; rintro E w1 ⟨rfl, hb⟩; obtain ⟨hc, hf, hz⟩ := xy hb) | (apply step_app el_I one_I rfl rfl rfl rfl; (first | assumption | exact Ow.nil _ _ | (apply Ow.keep; assumption; exact kf_) | (refine own_)); (first | (refine Rs.new [Sw.root (xs.drop (Sw.split n))] (by (first | rfl | (simp only [zq_]; done) | omega)) rfl rfl (fun _ => rfl) (by omega))); omega; exact sz_; intro A1 c1 w2 ho1 hch1 hat1 hex1 hlow1; have hbx := hex1 (fun _ => False) W0 (And.right (by assumption : Held W0 _)) (by exact sz_); clear hex1 hlow1))); all_goals (obtain ⟨hb, hc, hf, hz⟩ := xh (by assumption : Held W0 _)))
       go_wp2
       go_ret
       refine ⟨_, _, _, rfl, ?_, by omega, ext_⟩
       rw [Hg.out, if_pos hms]
       exact ho1.less (by exact sz_)
     · have y0 : IntKind.i64.wrap ((m : Int) - ↑(Sw.split n)) = ((m - Sw.split n : Nat) : Int) := by rw [IntWalk.i64_in _ (by omega)]; omega
       go_enter Tryz.func275, Tryz.ntmps275
       go_wp2_with (first | (go_at_call 272; apply Calls.mono; apply sTreSplit_c; (first | assumption | omega); (first | assumption | omega); rintro E w' ⟨rfl, rfl⟩))
       (refine wn_ fun W0 hb0 hc0 hf0 hz0 => ?_; go_region_held3 (fun w' => Held W0 w') ((exact hq_)) ((first | (go_at_call 275; apply Calls.mono; apply ih; omega; omega; (apply Rs.at0; apply RI_drop hxs; omega; (exact kf_)); omega; exact List.all_drop hok; omega; omega; rintro E w1 ⟨A3, c3, n3, rfl, ho3, hn3, hb⟩; obtain ⟨hc, hf, hz⟩ := xy hb) | (go_at_call 244; apply Calls.mono; apply (sRoot_c 40); omega; (apply Rs.at0; apply RI_take hxs; omega; (exact kf_)); omega; exact List.all_take hok; rintro E w1 ⟨rfl, hb⟩; obtain ⟨hc, hf, hz⟩ := xy hb) | (apply step_app el_I one_I rfl rfl rfl rfl; (first | assumption | exact Ow.nil _ _ | (apply Ow.keep; assumption; exact kf_) | (refine own_)); (first | (refine Rs.new [Sw.root (xs.take (Sw.split n))] (by (first | rfl | (simp only [zq_]; done) | omega)) rfl rfl (fun _ => rfl) (by omega))); omega; exact sz_; intro A1 c1 w2 ho1 hch1 hat1 hex1 hlow1; have hbx := hex1 (fun _ => False) W0 (And.right (by assumption : Held W0 _)) (by exact sz_); clear hex1 hlow1))); all_goals (obtain ⟨hb, hc, hf, hz⟩ := xh (by assumption : Held W0 _)))
       go_wp2
       go_ret
       refine ⟨_, _, _, rfl, ?_, by omega, ext_⟩
       rw [Hg.out, if_neg hms]
       exact ho1.less (by exact sz_)
theorem grow_N : ∀ (N M : Nat) (xs : List Int) (m : Nat) (kn : Bool), xs.length ≤ N → xs.length ≤ M → 1 ≤ m → m ≤ xs.length → Sw.grow N xs m kn = Sw.grow M xs m kn
 | 0, _, xs, m, kn, h1, h2, h3, h4 => by omega
 | _ + 1, 0, xs, m, kn, h1, h2, h3, h4 => by omega
 | N + 1, M + 1, xs, m, kn, h1, h2, h3, h4 => by
   rw [Sw.grow, Sw.grow]
   by_cases e : m = xs.length
   · rw [if_pos e, if_pos e]
   · have l2 : 2 ≤ xs.length := by omega
     have s1 := Sw.split_lt l2
     have s0 := Sw.split_pos xs.length
     rw [if_neg e, if_neg e]
     by_cases g : m ≤ Sw.split xs.length
     · rw [if_pos g, if_pos g, grow_N N M _ m kn (by rw [List.length_take]; omega) (by rw [List.length_take]; omega) h3 (by rw [List.length_take]; omega)]
     · rw [if_neg g, if_neg g, grow_N N M _ (m - Sw.split xs.length) false (by rw [List.length_drop]; omega) (by rw [List.length_drop]; omega) (by omega) (by rw [List.length_drop]; omega)]
theorem sConProof_c (A : Option Addr) (c n : Nat) (m : Int) (xs : List Int) (w : World) (hxs : RI w 0 A c n xs) : Calls Tryz.prog 247 #[.slice A n c, .int .i64 m] w fun E w' => ∃ A' c' n', E = .returned (.slice A' n' c') ∧ OwI w' w.heap.size A' c' n' (Sw.conProof xs m) ∧ Ex w w' := by
 have hl := Lib.hid hxs.1
 have hcap := hxs.2.le
 have hbig : n ≤ 9223372036854775807 := by have := hxs.2.cap; unfold maxLen at this; omega
 by_cases h1 : Sw.treOk xs = true
 · have h40 : n ≤ 40 := by have := hl.out; simp [Sw.treOk] at h1; omega
   have hall : xs.all Sw.mixOk = true := by simp only [Sw.treOk, Bool.and_eq_true] at h1; exact h1.2
   by_cases h2 : Sw.inR m 1 n = true
   · have hm : 1 ≤ m ∧ m ≤ n := by simpa [Sw.inR] using h2
     obtain ⟨k, rfl⟩ := Int.eq_ofNat_of_zero_le (show 0 ≤ m by omega)
     have e : Sw.conProof xs k = Sw.grow 40 xs k true := by
       rw [Sw.conProof, if_pos (by rw [h1, ← hl.out, h2]; rfl)]
       exact grow_N _ _ _ _ _ (Nat.le_refl _) (by have := hl.out; omega) (by omega) (by have := hl.out; omega)
     rw [e]
     clear e
     go_enter Tryz.func247, Tryz.ntmps247
     go_wp2_with (first | (go_at_call 101; apply Calls.mono; apply sTreOk_c; (exact rd_); rintro E w' ⟨rfl, rfl⟩) | (go_at_call 99; refine (l1In_c _ _ _ _).mono ?_; rintro E w' ⟨rfl, rfl⟩) | (go_at_call 275; apply Calls.mono; apply (sGrow_c 40); omega; omega; (exact rd_); omega; exact hall; omega; omega; rintro E w1 ⟨A1, c1, n1, rfl, ho1, hn1, hb⟩))
     go_ret
     exact ⟨_, _, _, rfl, ho1, ext_⟩
   · have h2' : Sw.inR m 1 n = false := by simpa using h2
     have e : Sw.conProof xs m = [] := by rw [Sw.conProof, if_neg (by rw [← hl.out, h2']; simp)]
     rw [e]
     go_enter Tryz.func247, Tryz.ntmps247
     go_wp2_with (first | (go_at_call 101; apply Calls.mono; apply sTreOk_c; (exact rd_); rintro E w' ⟨rfl, rfl⟩) | (go_at_call 99; refine (l1In_c _ _ _ _).mono ?_; rintro E w' ⟨rfl, rfl⟩))
     go_ret
     refine ⟨_, _, _, rfl, ?_, ext_⟩
     (refine own_)
 · have h1' : Sw.treOk xs = false := by simpa using h1
   have e : Sw.conProof xs m = [] := by rw [Sw.conProof, if_neg (by rw [h1']; simp)]
   rw [e]
   go_enter Tryz.func247, Tryz.ntmps247
   go_wp2_with (first | (go_at_call 101; apply Calls.mono; apply sTreOk_c; (exact rd_); rintro E w' ⟨rfl, rfl⟩) | (go_at_call 99; refine (l1In_c _ _ _ _).mono ?_; rintro E w' ⟨rfl, rfl⟩))
   go_ret
   refine ⟨_, _, _, rfl, ?_, ext_⟩
   (refine own_)
theorem sHedProof_c (A : Option Addr) (c n : Nat) (m : Int) (xs : List Sw.Ent) (w : World) (hxs : RE w 0 A c n xs) : Calls Tryz.prog 205 #[.slice A n c, .int .i64 m] w fun E w' => ∃ A' c' n', E = .returned (.slice A' n' c') ∧ OwI w' w.heap.size A' c' n' (Sw.hedProof xs m) ∧ Ex w w' := by
 have hl := Lib.hid hxs.1
 have hcap := hxs.2.le
 have hbig : n ≤ 9223372036854775807 := by have := hxs.2.cap; unfold maxLen at this; omega
 by_cases h2 : Sw.inR m 1 n = true
 · by_cases h40 : n ≤ 40
   · have hb40 : decide (40 < n) = false := by simp; omega
     have e : Sw.hedProof xs m = Sw.conProof (xs.map Sw.entLeaf) m := by rw [Sw.hedProof, if_pos (by simp; have := hl.out; omega)]
     rw [e]; clear e
     go_enter Tryz.func205, Tryz.ntmps205
     go_wp2_with (first | (go_at_call 99; refine (l1In_c _ _ _ _).mono ?_; rintro E w' ⟨rfl, rfl⟩) | (go_at_call 245; apply Calls.mono; apply sEntLeaves_c; (first | assumption | (exact rd_) | omega); omega; rintro E w1 ⟨A1, c1, rfl, ho1, hb⟩; obtain ⟨hc, hf, hz⟩ := xy hb) | (go_at_call 247; apply Calls.mono; apply sConProof_c; (exact rd_); rintro E w2 ⟨A2, c2, n2, rfl, ho2, hb⟩; obtain ⟨hc, hf, hz⟩ := xy hb))
     go_ret
     exact ⟨_, _, _, rfl, ho2.less (by omega), ext_⟩
   · have hb40 : decide (40 < n) = true := by simp; omega
     have e : Sw.hedProof xs m = [] := by rw [Sw.hedProof, if_neg (by simp; have := hl.out; omega)]
     rw [e]
     go_enter Tryz.func205, Tryz.ntmps205
     go_wp2_with (first | (go_at_call 99; refine (l1In_c _ _ _ _).mono ?_; rintro E w' ⟨rfl, rfl⟩))
     go_ret
     refine ⟨_, _, _, rfl, ?_, ext_⟩
     (refine own_)
 · have h2' : Sw.inR m 1 n = false := by simpa using h2
   have e : Sw.hedProof xs m = [] := by
     rw [Sw.hedProof]
     split
     · rw [Sw.conProof, if_neg (by rw [List.length_map, ← hl.out, h2']; simp)]
     · rfl
   rw [e]
   go_enter Tryz.func205, Tryz.ntmps205
   go_wp2_with (first | (go_at_call 99; refine (l1In_c _ _ _ _).mono ?_; rintro E w' ⟨rfl, rfl⟩))
   go_ret
   refine ⟨_, _, _, rfl, ?_, ext_⟩
   (refine own_)
end Go.Proofs.YtnnoiagommiapaaGreat
