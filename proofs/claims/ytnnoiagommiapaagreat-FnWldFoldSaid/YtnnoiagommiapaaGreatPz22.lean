/- Texts joined: PtrB. -/
import Derived.Test.YtnnoiagommiapaaGreatPz20
import Derived.Lib.AppendZerosOnto
import Derived.Lib.Overlaps
import Derived.Laws.Externs
set_option maxRecDepth 100000
set_option linter.unusedSimpArgs false
set_option linter.unusedVariables false
namespace Go.Proofs.YtnnoiagommiapaaGreat
open Go.RowKit Go
set_option maxHeartbeats 4000000
theorem lenD (d : Sw.Deal) : (Sw.Deal.enc d).length = 5 := rfl
theorem fl5 (l : List Sw.Deal) : (l.flatMap Sw.Deal.enc).length = l.length * 5 := flat_len (enc := Sw.Deal.enc) (sz := 5) lenD l
theorem ft5 (l : List Sw.Deal) (k : Nat) : (l.flatMap Sw.Deal.enc).take (k * 5) = (l.take k).flatMap Sw.Deal.enc := flat_take (enc := Sw.Deal.enc) (sz := 5) lenD l k
theorem fd5 (l : List Sw.Deal) (k : Nat) : (l.flatMap Sw.Deal.enc).drop (k * 5) = (l.drop k).flatMap Sw.Deal.enc := flat_drop (enc := Sw.Deal.enc) (sz := 5) lenD l k
theorem Ow.shifted {w : World} {lo c n k g : Nat} {ds : List Sw.Deal} {d : Sw.Deal} (h : OwD w lo (some ⟨g, 0, none⟩) c n ds) (hk : k < n) (hroom : n + 1 ≤ c) :
   OwD ((w.setCells g ((k + 1) * 5) ((ds.drop k).flatMap Sw.Deal.enc)).setCells g (k * 5) (Sw.Deal.enc d)) lo (some ⟨g, 0, none⟩) c (n + 1) (ds.take k ++ d :: ds.drop k) := by
 have hl := h.1
 have hdl : ((ds.drop k).flatMap Sw.Deal.enc).length = (n - k) * 5 := by rw [fl5]; simp; omega
 have h1 : OwD (w.setCells g ((k + 1) * 5) ((ds.drop k).flatMap Sw.Deal.enc)) lo (some ⟨g, 0, none⟩) c (n + 1) (ds.take (k + 1) ++ ds.drop k) := by
   refine h.over (m := n + 1) (ys := ds.take (k + 1) ++ ds.drop k) hroom (by omega) (by simp; omega) (fun cur hc ht => ?_) (by rw [fl5]; simp; omega)
   have e1 : cur.take ((k + 1) * 5) = (ds.take (k + 1)).flatMap Sw.Deal.enc := by
     rw [← ft5, ← ht, List.take_take, Nat.min_eq_left (by omega)]
   rw [e1, List.flatMap_append, List.take_append_of_le_length (by rw [List.length_append, hdl, fl5]; simp; omega), List.take_of_length_le (by rw [List.length_append, hdl, fl5]; simp; omega)]
 refine h1.over (m := n + 1) (ys := ds.take k ++ d :: ds.drop k) hroom (by rw [lenD]; omega) (by simp; omega) (fun cur hc ht => ?_) (by rw [fl5]; simp; omega)
 have e1 : cur.take (k * 5) = (ds.take k).flatMap Sw.Deal.enc := by
   have := congrArg (List.take (k * 5)) ht
   rw [List.take_take, Nat.min_eq_left (by omega), ft5, List.take_append_of_le_length (by simp; omega), List.take_take, Nat.min_eq_left (by omega)] at this
   exact this
 have e2 : (cur.drop (k * 5 + 5)).take ((n - k) * 5) = (ds.drop k).flatMap Sw.Deal.enc := by
   have := congrArg (List.drop ((k + 1) * 5)) ht
   rw [List.drop_take, fd5, List.drop_append_of_le_length (by simp; omega), show List.drop (k + 1) (ds.take (k + 1)) = [] from List.drop_of_length_le (by simp; omega), List.nil_append, show (k + 1) * 5 = k * 5 + 5 by omega, show (n + 1) * 5 - (k * 5 + 5) = (n - k) * 5 by omega] at this
   exact this
 have e3 : ((ds.take k).flatMap Sw.Deal.enc ++ Sw.Deal.enc d).length = k * 5 + 5 := by rw [List.length_append, lenD, fl5]; simp; omega
 rw [e1, List.flatMap_append, List.flatMap_cons, ← e2, lenD, List.take_append, List.take_of_length_le (by rw [e3]; omega), e3, show (n + 1) * 5 - (k * 5 + 5) = (n - k) * 5 by omega, List.append_assoc]
theorem Ow.splice {w : World} {lo c n j g : Nat} {xs : List Sw.Deal} (h : OwD w lo (some ⟨g, 0, none⟩) c n xs) (ys : List Sw.Deal) (hj : j + ys.length ≤ n) :
   OwD (w.setCells g (j * 5) (ys.flatMap Sw.Deal.enc)) lo (some ⟨g, 0, none⟩) c n (xs.take j ++ (ys ++ xs.drop (j + ys.length))) := by
 have hl := h.1
 have hle := h.rs.2.le
 have hF := fl5 ys
 refine h.over (m := n) (ys := xs.take j ++ (ys ++ xs.drop (j + ys.length))) hle (by omega) (by simp; omega) (fun cur hc ht => ?_) (by rw [fl5]; simp; omega)
 have e1 : cur.take (j * 5) = (xs.take j).flatMap Sw.Deal.enc := by
   rw [← ft5, ← ht, List.take_take, Nat.min_eq_left (by omega)]
 have e2 : (cur.drop (j * 5 + ys.length * 5)).take ((n - (j + ys.length)) * 5) = (xs.drop (j + ys.length)).flatMap Sw.Deal.enc := by
   have := congrArg (List.drop ((j + ys.length) * 5)) ht
   rw [List.drop_take, fd5, show (j + ys.length) * 5 = j * 5 + ys.length * 5 by omega, show n * 5 - (j * 5 + ys.length * 5) = (n - (j + ys.length)) * 5 by omega] at this
   exact this
 have e3 : ((xs.take j).flatMap Sw.Deal.enc ++ ys.flatMap Sw.Deal.enc).length = j * 5 + ys.length * 5 := by rw [List.length_append, fl5, fl5]; simp; omega
 rw [e1, List.flatMap_append, List.flatMap_append, ← e2, hF, List.take_append, List.take_of_length_le (by rw [e3]; omega), e3, show n * 5 - (j * 5 + ys.length * 5) = (n - (j + ys.length)) * 5 by omega, List.append_assoc]
theorem zeroD (m : Nat) : (Builtin.zeroCells #[.int .i64 0, .int .i64 0, .int .i64 0, .int .i64 0, .int .i64 0] m).toList = (List.replicate m Sw.dealZ).flatMap Sw.Deal.enc := madeCells_flat (enc := Sw.Deal.enc) (sz := 5) Sw.dealZ rfl (by omega) m
theorem Ow.grownD (w : World) (olds : List Sw.Deal) (m G : Nat) (hG : olds.length + m ≤ G) (hm : G ≤ maxLen) :
   OwD (w.alloc (.cells ((olds.flatMap Sw.Deal.enc).toArray ++ Builtin.zeroCells #[.int .i64 0, .int .i64 0, .int .i64 0, .int .i64 0, .int .i64 0] m ++ Builtin.zeroCells #[.int .i64 0, .int .i64 0, .int .i64 0, .int .i64 0, .int .i64 0] (G - (olds.length + m))) 105)) w.heap.size (some ⟨w.heap.size, 0, none⟩) G (olds.length + m) (olds ++ List.replicate m Sw.dealZ) := by
 have hz : ∀ m, (Builtin.zeroCells #[.int .i64 0, .int .i64 0, .int .i64 0, .int .i64 0, .int .i64 0] m).size = m * 5 := fun m => by
   rw [← Array.length_toList, zeroD, fl5]; simp
 have hl : ((olds ++ List.replicate m Sw.dealZ).flatMap Sw.Deal.enc).length = (olds.length + m) * 5 := by rw [fl5]; simp
 refine ⟨by simp, hl, .inr ⟨w.heap.size, G, _, rfl, Nat.le_refl _, heap_alloc_new w _, hG, hm, ?_, ?_⟩⟩
 · simp only [Array.size_append, List.size_toArray, hz, fl5]; omega
 · simp only [Array.toList_append, zeroD]
   rw [← List.flatMap_append, List.take_append_of_le_length (by rw [hl]; exact Nat.le_refl _), List.take_of_length_le (by rw [hl]; exact Nat.le_refl _)]
theorem grow_list {α : Type} {k n : Nat} (ds : List α) (d z : α) (hl : ds.length = n) (hk : k ≤ n) :
   ((ds.take k ++ List.replicate (n + 1 - k) z).take k ++ ([d] ++ (ds.take k ++ List.replicate (n + 1 - k) z).drop (k + [d].length))).take (k + 1) ++ (ds.drop k ++ ((ds.take k ++ List.replicate (n + 1 - k) z).take k ++ ([d] ++ (ds.take k ++ List.replicate (n + 1 - k) z).drop (k + [d].length))).drop (k + 1 + (ds.drop k).length)) = ds.take k ++ d :: ds.drop k := by
 have htl : (ds.take k).length = k := by rw [List.length_take]; omega
 have e1 : (ds.take k ++ List.replicate (n + 1 - k) z).take k = ds.take k := by
   rw [List.take_append_of_le_length (Nat.le_of_eq htl.symm), List.take_of_length_le (Nat.le_of_eq htl)]
 rw [e1]
 obtain ⟨Y, hY⟩ : ∃ Y, Y = (ds.take k ++ List.replicate (n + 1 - k) z).drop (k + [d].length) := ⟨_, rfl⟩
 have hYl : Y.length = n - k := by rw [hY]; simp; omega
 rw [← hY, ← List.append_assoc (ds.take k) [d] Y]
 have hXl : (ds.take k ++ [d]).length = k + 1 := by rw [List.length_append, htl]; rfl
 have e3 : (ds.take k ++ [d] ++ Y).drop (k + 1 + (ds.drop k).length) = [] := List.drop_of_length_le (by rw [List.length_append, hXl, hYl, List.length_drop, hl]; exact Nat.le_refl _)
 rw [e3, List.take_append_of_le_length (Nat.le_of_eq hXl.symm), List.take_of_length_le (Nat.le_of_eq hXl), List.append_nil, List.append_assoc]
 rfl
theorem iInsert_c (A : Option Addr) (c n k lo gv : Nat) (ds : List Sw.Deal) (d : Sw.Deal) (w : World) (h : OwD w lo A c n ds) (hk : k ≤ n) (hn : n ≤ 4194303) (hv : RDl w 0 (some ⟨gv, 0, none⟩) 1 1 [d]) (hvl : Lb w gv 5) (hne : ∀ a, A = some a → a.block ≠ gv) (hlo : lo ≤ w.heap.size) :
   Calls Tryz.prog 224 #[.slice A n c, .int .i64 k, .slice (some ⟨gv, 0, none⟩) 1 1] w fun E w' =>
   ∃ A' c', E = .returned (.slice A' (n + 1) c') ∧ OwD w' lo A' c' (n + 1) (ds.take k ++ d :: ds.drop k) ∧ Ch (atA A) w w' ∧ (∀ b, A' = some b → A = some b ∨ w.heap.size ≤ b.block) := by
 have hle := h.rs.2.le
 have hcb := h.rs.2.cap
 have l3 := h.1
 unfold maxLen at hcb
 have z0 : (0 : Int) ≤ (k : Int) := by omega
 have z1 : (k : Int) ≤ (n : Int) := by omega
 have z5 : (n : Int) ≤ (c : Int) := by omega
 have z4 : (k : Int) ≤ (c : Int) := by omega
 by_cases hkn : k = n
 · subst hkn
   have hH := Lib.hid h
   have hV := Lib.hid hv
   have e : ds.take k ++ d :: ds.drop k = ds ++ [d] := by rw [List.take_of_length_le (by omega), List.drop_of_length_le (by omega)]
   rw [e]
   clear e h hv
   have l4 := Lib.hid l3
   clear l3 hvl
   rcases hH.out.form with ⟨rfl, hn0, hc0⟩ | ⟨g, cur, rfl, -⟩
   · subst hn0 hc0
     go_enter Tryz.func224, Tryz.ntmps224
     go_wp2_with (at_builtin; apply wpList_app (lo := lo) el_D one_D rfl rfl rfl rfl; (exact hH.out.keep (by (exact kf_))); (exact hV.out.keep (by (exact kf_))); omega; (exact sz_); intro A1 c1 w2 ho1 hch1 hat1 hex1 hlow1)
     go_ret
     exact ⟨A1, c1, rfl, ho1, hch1, hat1⟩
   · go_enter Tryz.func224, Tryz.ntmps224
     go_wp2_with (at_builtin; apply wpList_app (lo := lo) el_D one_D rfl rfl rfl rfl; (exact hH.out.keep (by (exact kf_))); (exact hV.out.keep (by (exact kf_))); omega; (exact sz_); intro A1 c1 w2 ho1 hch1 hat1 hex1 hlow1)
     all_goals (go_ret; exact ⟨A1, c1, rfl, ho1, hch1, fun b hb => by simpa using hat1 b hb⟩)
 have hkn : k < n := by omega
 rcases h.form with ⟨_, h0, _⟩ | ⟨g, cur, rfl, hlo', hltg, hhg, _, _, hsz, _⟩
 · omega
 have hgv : gv ≠ g := fun e => hne _ rfl e.symm
 have hth := h.there
 obtain ⟨cv, tv, hcv, hcvs⟩ := hvl
 have hsa : w.shape? gv = some (tv, 5) := by simp [World.shape?, hcv, hcvs]
 have hsb : w.shape? g = some (105, c * 5) := by simp [World.shape?, hhg, hsz]
 have hzz : ¬ ((k : Int) == (n : Int)) = true := by simp; omega
 have hov : ∀ lb cb, (callFunc 262 #[.slice (some ⟨gv, 0, none⟩) 1 1, .slice (some ⟨g, (k + 1) * 5, none⟩) lb cb]).run Tryz.prog w = .ok (.value (.bool false)) w := fun lb cb => by
   rw [run_callFunc_extern Tryz.func262 (by kernel_rfl) (by kernel_rfl) (by kernel_rfl) (e := Extern.SlicesOverlaps.overlaps #[38, 38] #[4]) (by kernel_rfl),
     Lib.run_overlaps_apart w 38 4 105 el_D.sl 5 (fun w => by simp [go_sem]) ⟨gv, 0, none⟩ ⟨g, (k + 1) * 5, none⟩ 1 1 lb cb hgv tv 105 5 (c * 5) hsa hsb (by omega) (by simp [World.frozen?, hcv]) (by simp [World.frozen?, hcv])]
   rfl
 have hs2 := h.rs.drop (fun _ => rfl) (k := k) (by omega)
 have hcv5 := hv.2.cells _ rfl (by omega)
 obtain ⟨_, _, hgvl, hvc⟩ := hcv5
 replace hgvl : gv < w.heap.size := hgvl
 by_cases hroom : n + 1 ≤ c
 · rw [if_neg (by omega)] at hs2
   simp only [Option.map_some, Addr.add_lit, Nat.zero_add] at hs2
   have hdl : ((ds.drop k).flatMap Sw.Deal.enc).length = (n - k) * 5 := by rw [fl5]; simp; omega
   have hcp1 : ∀ ty dc sc, (Builtin.copy_ #[38, 38] ty #[.slice (some ⟨g, (k + 1) * 5, none⟩) (n + 1 - (k + 1)) dc, .slice (some ⟨g, k * 5, none⟩) (n + 1 - k) sc]).run Tryz.prog w.drew = .ok (goInt (Nat.min (n + 1 - k) (n + 1 - (k + 1)))) (w.drew.setCells g ((k + 1) * 5) ((ds.drop k).flatMap Sw.Deal.enc)) := fun ty dc sc =>
     run_copy_cellsK w.drew _ _ ty 105 5 g ((k + 1) * 5) (n + 1 - (k + 1)) dc ⟨g, k * 5, none⟩ (n + 1 - k) sc _ el_D.sl (by kernel_rfl) (by rw [hdl, show Nat.min (n + 1 - k) (n + 1 - (k + 1)) = n - k from by simp only [Nat.min_def]; split <;> omega])
       (fun j v hj => by rw [Addr.add_lit]; exact (hs2.2.cells _ rfl (by omega)).2.2.2 j v hj) (fun j hj => hth.1 _ (by omega)) (fun j hj => hth.2 _) (fun v hv => by
         obtain ⟨y, _, hy⟩ := List.mem_flatMap.1 hv
         exact one_D y v hy)
   obtain ⟨cur', hc1, hc2, -⟩ := heap_setCells_same ((ds.drop k).flatMap Sw.Deal.enc) ((k + 1) * 5) w.drew cur hhg (by omega)
   have hcp2 : ∀ ty dc, (Builtin.copy_ #[38, 38] ty #[.slice (some ⟨g, k * 5, none⟩) (n + 1 - k) dc, .slice (some ⟨gv, 0, none⟩) 1 1]).run Tryz.prog (w.drew.setCells g ((k + 1) * 5) ((ds.drop k).flatMap Sw.Deal.enc)) = .ok (goInt (Nat.min 1 (n + 1 - k))) ((w.drew.setCells g ((k + 1) * 5) ((ds.drop k).flatMap Sw.Deal.enc)).setCells g (k * 5) (Sw.Deal.enc d)) := fun ty dc =>
     run_copy_cellsK _ _ _ ty 105 5 g (k * 5) (n + 1 - k) dc ⟨gv, 0, none⟩ 1 1 _ el_D.sl (by kernel_rfl) (by rw [lenD, show Nat.min 1 (n + 1 - k) = 1 from by simp only [Nat.min_def]; split <;> omega])
       (fun j v hj => by
         rw [Addr.add_lit]
         exact (World.cell?_of_block (w := w.drew) (a := ⟨gv, 0 + j, none⟩) (heap_setCells_ne hgv _ _ w.drew)).trans (hvc j v (by simpa using hj)))
       (fun j hj => by rw [lenD] at hj; simp [World.cell?, hc1, show k * 5 + j < cur'.size by omega]) (fun j hj => by simp [World.frozen?, hc1]) (fun v hv => one_D d v hv)
   have HF := Lib.hid (And.intro (Ow.shifted (d := d) (h.keep (by (exact kf_) : KF lo w w.drew)) hkn hroom) (Ch.setCells (S := atA (some ⟨g, 0, none⟩)) (.inl ⟨_, rfl, rfl⟩) (Sw.Deal.enc d) (k * 5) _ (Ch.setCells (.inl ⟨_, rfl, rfl⟩) ((ds.drop k).flatMap Sw.Deal.enc) ((k + 1) * 5) _ (cD (cR _ w)))))
   have HC2 := Lib.hid hcp2
   clear hcp2 hc1 hc2 cur'
   clear hs2 hhg hsz hsa hsb hcv hcvs hth hvc
   have hH := Lib.hid h
   have hV := Lib.hid hv
   have HOV := Lib.hid hov
   have HC := Lib.hid hcp1
   clear h hv hov hcp1 hdl l3
   have z6 : (n : Int) + 1 ≤ (c : Int) := by omega
   have z7 : ((k : Int) == (n : Int)) = false := by simp; omega
   have z8 : (0 : Int) ≤ (n : Int) + 1 := by omega
   have z9 : (0 : Int) ≤ (k : Int) + 1 := by omega
   have z10 : (k : Int) + 1 ≤ (n : Int) + 1 := by omega
   have z11 : (k : Int) ≤ (n : Int) + 1 := by omega
   have z12 : ((n : Int) + 1).toNat = n + 1 := by omega
   have z13 : ((k : Int) + 1).toNat = k + 1 := by omega
   have z14 : ¬ c = k + 1 := by omega
   have z15 : ¬ c = k := by omega
   have z16 : IntKind.i64.wrap ((k : Int) + 1) = (k : Int) + 1 := IntWalk.i64_in _ (by omega)
   have z17 : IntKind.i64.wrap ((n : Int) + 1) = (n : Int) + 1 := IntWalk.i64_in _ (by omega)
   clear hzz
   go_enter Tryz.func224, Tryz.ntmps224
   go_wp2_with (simp only [HOV.out])
   go_region_law (refine step_copyK rfl rfl (by simp [Act.eval, Act.put]; done) (by simp [Act.eval, Act.put]; done) (HC.out _ (c - (k + 1)) (c - k)) ?_)
   all_goals
     go_wp2_with (simp only [HC2.out])
     go_ret
     exact ⟨_, _, rfl, HF.out.1, HF.out.2, fun b hb => .inl (by simpa using hb)⟩
 · obtain rfl : c = n := by omega
   rw [if_neg (by omega)] at hs2
   simp only [Option.map_some, Addr.add_lit, Nat.zero_add] at hs2
   have hdl : ((ds.drop k).flatMap Sw.Deal.enc).length = (c - k) * 5 := by rw [fl5]; simp; omega
   have hfr := (Ow.front h (fun _ => rfl) (k := k) (by omega)).rs
   obtain ⟨i0, hi0, hz0, hzs, hzb⟩ := info_parts (P := Tryz.prog) (e := 105) (z := .agg #[.int .i64 0, .int .i64 0, .int .i64 0, .int .i64 0, .int .i64 0]) (size := 5) (bytes := 40) (by kernel_rfl)
   have hold : (Builtin.firstCells i0.size k (.slice (some ⟨g, 0, none⟩) k c)).run Tryz.prog w.drew = .ok ((ds.take k).flatMap Sw.Deal.enc).toArray w.drew := by
     rw [hzs]
     refine run_firstCells_some w.drew 5 k ⟨g, 0, none⟩ k c _ (by rw [fl5]; simp; omega) (fun j v hj => ?_)
     rw [Addr.add_lit]
     have hk0 : 0 < k := by
       rcases Nat.eq_zero_or_pos k with h0 | h0
       · subst h0; simp at hj
       · exact h0
     exact (hfr.2.cells _ rfl hk0).2.2.2 j v hj
   obtain ⟨G, hG⟩ : ∃ G, G = grownCap w (c + 1) c 105 := ⟨_, rfl⟩
   have hGn : c + 1 ≤ G := by rw [hG]; exact grownCap_ge w _ _ _
   have hGm : G ≤ maxLen := by rw [hG]; exact grownCap_le_maxLen w (c + 1) c _ (by unfold maxLen; omega)
   have htl : (ds.take k).length = k := by simp; omega
   have hkk : (c : Int) + 1 - (k : Int) = ((c + 1 - k : Nat) : Int) := by omega
   have hik : k + (c + 1 - k) = c + 1 := by omega
   have hN := Ow.grownD w.drew (ds.take k) (c + 1 - k) G (by omega) hGm
   rw [htl, hik] at hN
   obtain ⟨W1, hW1⟩ : ∃ W1, W1 = w.drew.alloc (.cells (((ds.take k).flatMap Sw.Deal.enc).toArray ++ Builtin.zeroCells #[.int .i64 0, .int .i64 0, .int .i64 0, .int .i64 0, .int .i64 0] (c + 1 - k) ++ Builtin.zeroCells #[.int .i64 0, .int .i64 0, .int .i64 0, .int .i64 0, .int .i64 0] (G - (c + 1))) 105) := ⟨_, rfl⟩
   have hrz : ∀ ty, (Builtin.append_ #[38, 3] ty #[.slice (some ⟨g, 0, none⟩) k c, .int .i64 ((c : Int) + 1 - (k : Int))]).run Tryz.prog w = .ok (.slice (some ⟨w.heap.size, 0, none⟩) (c + 1) G) W1 := fun ty => by
     have h := Lib.run_append_grow_zeros w 38 3 ty 105 i0 _ .i64 .i64 el_D.sl (by kernel_rfl) hi0 hz0 (some ⟨g, 0, none⟩) k c _ hold (c + 1 - k) (by omega) (by omega) (by omega) (by omega) (by rw [hzb]; omega) (by rw [hzb, hik]; exact growslice_fits (by omega) (by omega))
     rw [hik, ← hG] at h
     rw [hkk, hW1]
     exact h
   rw [← hW1] at hN
   have hs1 : W1.heap.size = w.heap.size + 1 := by rw [hW1]; simp
   have hb1 : Ex w W1 := by rw [hW1]; exact cA (cD (cR _ _))
   have hN' : OwD W1 w.heap.size (some ⟨w.heap.size, 0, none⟩) G (c + 1) (ds.take k ++ List.replicate (c + 1 - k) Sw.dealZ) := hN
   have hN2 := Ow.splice hN' (j := k) [d] (by simp; omega)
   have hC2 : Ch (atA (some ⟨g, 0, none⟩)) w (W1.setCells w.heap.size (k * 5) ([d].flatMap Sw.Deal.enc)) := Ch.setCells (.inr (Nat.le_refl _)) _ _ _ (cE hb1 (cR _ _))
   have hn2 : ∀ b, b ≠ w.heap.size → (W1.setCells w.heap.size (k * 5) ([d].flatMap Sw.Deal.enc)).heap[b]? = W1.heap[b]? := fun b hb => heap_setCells_ne hb _ _ _
   obtain ⟨W2, hW2⟩ : ∃ W2, W2 = W1.setCells w.heap.size (k * 5) ([d].flatMap Sw.Deal.enc) := ⟨_, rfl⟩
   rw [← hW2] at hN2 hC2 hn2
   have hN2d : OwD W2.drew w.heap.size (some ⟨w.heap.size, 0, none⟩) G (c + 1) _ := hN2.keep (kD (kR _ _))
   have hN3 := Ow.splice hN2d (j := k + 1) (ds.drop k) (by simp; omega)
   have hlist := grow_list ds d Sw.dealZ l3.symm hk
   rw [hlist] at hN3
   have hgN : g ≠ w.heap.size := by omega
   have hgvN : gv ≠ w.heap.size := by omega
   have hcpA : ∀ ty dc, (Builtin.copy_ #[38, 38] ty #[.slice (some ⟨w.heap.size, k * 5, none⟩) (c + 1 - k) dc, .slice (some ⟨gv, 0, none⟩) 1 1]).run Tryz.prog W1 = .ok (goInt (Nat.min 1 (c + 1 - k))) W2 := fun ty dc => by
     rw [hW2]
     exact run_copy_cellsK _ _ _ ty 105 5 w.heap.size (k * 5) (c + 1 - k) dc ⟨gv, 0, none⟩ 1 1 _ el_D.sl (by kernel_rfl) (by rw [fl5, show Nat.min 1 (c + 1 - k) = 1 from by simp only [Nat.min_def]; split <;> omega]; rfl)
       (fun j v hj => by rw [Addr.add_lit]; exact (hb1.cell (p := ⟨gv, 0 + j, none⟩) hgvl (fun h => h)).trans (hvc j v hj))
       (fun j hj => by rw [fl5] at hj; exact hN'.there.1 _ (by simp at hj; omega)) (fun j hj => hN'.there.2 _) (fun v hv => by
         obtain ⟨y, _, hy⟩ := List.mem_flatMap.1 hv
         exact one_D y v hy)
   have hcpB : ∀ ty dc sc, (Builtin.copy_ #[38, 38] ty #[.slice (some ⟨w.heap.size, (k + 1) * 5, none⟩) (c + 1 - (k + 1)) dc, .slice (some ⟨g, k * 5, none⟩) (c - k) sc]).run Tryz.prog W2.drew = .ok (goInt (Nat.min (c - k) (c + 1 - (k + 1)))) (W2.drew.setCells w.heap.size ((k + 1) * 5) ((ds.drop k).flatMap Sw.Deal.enc)) := fun ty dc sc =>
     run_copy_cellsK _ _ _ ty 105 5 w.heap.size ((k + 1) * 5) (c + 1 - (k + 1)) dc ⟨g, k * 5, none⟩ (c - k) sc _ el_D.sl (by kernel_rfl) (by rw [hdl, show Nat.min (c - k) (c + 1 - (k + 1)) = c - k from by simp only [Nat.min_def]; split <;> omega])
       (fun j v hj => by
         rw [Addr.add_lit]
         refine (World.cell?_of_block (w' := W2.drew) (w := W1) (a := ⟨g, k * 5 + j, none⟩) (hn2 g hgN)).trans ?_
         exact (hb1.cell (p := ⟨g, k * 5 + j, none⟩) hltg (fun h => h)).trans ((hs2.2.cells _ rfl (by omega)).2.2.2 j v hj))
       (fun j hj => hN2d.there.1 _ (by omega)) (fun j hj => hN2d.there.2 _) (fun v hv => by
         obtain ⟨y, _, hy⟩ := List.mem_flatMap.1 hv
         exact one_D y v hy)
   have hCh : Ch (atA (some ⟨g, 0, none⟩)) w (W2.drew.setCells w.heap.size ((k + 1) * 5) ((ds.drop k).flatMap Sw.Deal.enc)) :=
     Ch.setCells (.inr (Nat.le_refl _)) _ _ _ (cD hC2)
   have HA := Lib.hid hcpA
   have HB := Lib.hid hcpB
   have HZ := Lib.hid hrz
   have HF := Lib.hid (And.intro (hN3.less hlo) hCh)
   clear hcpA hcpB hrz hN3 hCh hN2d hN2 hC2 hn2 hW2 hN' hN hlist hW1 hold hi0 hz0 hzs hzb hG hb1 hs1 hs2 hfr hdl hkk hik htl hvc hth hhg hsz hsa hsb hcv hcvs h hv hov hne
   have z6 : (c : Int) < (c : Int) + 1 := by omega
   have z7 : ((k : Int) == (c : Int)) = false := by simp; omega
   have z9 : (0 : Int) ≤ (k : Int) + 1 := by omega
   have z10 : (k : Int) + 1 ≤ (c : Int) + 1 := by omega
   have z11 : (k : Int) ≤ (c : Int) + 1 := by omega
   have z13 : ((k : Int) + 1).toNat = k + 1 := by omega
   have z14 : ¬ G = k + 1 := by omega
   have z15 : ¬ G = k := by omega
   have z18 : ¬ c = k := by omega
   have z16 : IntKind.i64.wrap ((k : Int) + 1) = (k : Int) + 1 := IntWalk.i64_in _ (by omega)
   clear hzz l3
   go_enter Tryz.func224, Tryz.ntmps224
   go_wp2_with (first | (at_builtin; refine Lib.wpList_append_run _ rfl _ _ _ _ rfl _ _ rfl rfl _ _ (HZ.out _) ?_) | (simp only [HA.out]))
   go_region_law (refine step_copyK rfl rfl (by simp [Act.eval, Act.put]; done) (by simp [Act.eval, Act.put]; done) (HB.out _ (G - (k + 1)) (c - k)) ?_)
   all_goals
     go_wp2
     go_ret
     exact ⟨_, _, rfl, HF.out.1, HF.out.2, fun b hb => .inr (by injection hb with hb; rw [← hb]; exact Nat.le_refl _)⟩
end Go.Proofs.YtnnoiagommiapaaGreat
