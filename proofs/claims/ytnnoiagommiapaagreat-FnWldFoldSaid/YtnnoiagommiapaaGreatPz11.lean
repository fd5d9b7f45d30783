/- Texts joined: Grow, Both, LawTo, LawTo2, Impl2, Impl3, Impl4, Gate, DrawE, Impl5. -/
import Derived.Test.YtnnoiagommiapaaGreatPz10
import Derived.Test.YtnnoiagommiapaaGreatPz7
import Derived.Test.YtnnoiagommiapaaGreatPz8
import Derived.Test.YtnnoiagommiapaaGreatPz9
set_option maxRecDepth 100000
set_option linter.unusedSimpArgs false
set_option linter.unusedVariables false
namespace Go.Proofs.YtnnoiagommiapaaGreat
open Go.RowKit Go
set_option maxHeartbeats 400000
theorem grow_len {N : Nat} {l : List Int} {m : Nat} {k : Bool} (h : m ≠ l.length) (hN : l.length ≤ N + 1) : Sw.grow (N + 1) l m k =
   if m ≤ Sw.split l.length then Sw.grow N (l.take (Sw.split l.length)) m k ++ [Sw.root (l.drop (Sw.split l.length))]
   else Sw.grow N (l.drop (Sw.split l.length)) (m - Sw.split l.length) false ++ [Sw.root (l.take (Sw.split l.length))] := by
 rw [Sw.grow, if_neg h]
theorem sGrow_c (N : Nat) (A : Option Addr) (c n m : Nat) (kn : Bool) (xs : List Int) (w : World) (hN : n ≤ N) (hN4 : N ≤ 40) (hxs : RI w 0 A c n xs) (h40 : n ≤ 40) (hok : xs.all Sw.mixOk = true) (hm : 1 ≤ m) (hmn : m ≤ n) : Calls Tryz.prog 275 #[.slice A n c, .int .i64 m, .bool kn] w fun E w' => ∃ A' c' n', E = .returned (.slice A' n' c') ∧ OwI w' w.heap.size A' c' n' (Sw.grow N xs m kn) ∧ n' ≤ N ∧ Ex w w' := by
 induction N generalizing A c n m kn xs w with
 | zero => omega
 | succ N ih =>
   have hl := Lib.hid hxs.1
   have hcap := hxs.2.le
   by_cases hmn' : m = n
   · subst hmn'
     have hg : Sw.grow (N + 1) xs m kn = if kn = true then [] else [Sw.root xs] := by rw [Sw.grow, if_pos hl.out]
     have Hg := Lib.hid hg; clear hg
     cases kn with
     | true =>
       go_enter Tryz.func275, Tryz.ntmps275
       go_wp2_with fail
       go_ret
       refine ⟨_, _, _, rfl, ?_, Nat.zero_le _, ext_⟩
       rw [Hg.out]
       (refine own_)
     | false =>
       go_enter Tryz.func275, Tryz.ntmps275
       go_wp2_with (first | (go_at_call 244; apply Calls.mono; apply (sRoot_c 40); omega; (exact rd_); omega; exact hok; rintro E w1 ⟨rfl, hb⟩))
       go_ret
       refine ⟨_, _, _, rfl, ?_, by omega, ext_⟩
       rw [Hg.out]
       have hz := hb.size
       simp only [Bool.false_eq_true, if_false]
       (refine Ow.new [Sw.root xs] (by (first | rfl | (simp only [zq_]; done) | omega)) rfl rfl (fun _ => rfl) (by exact sz_) (by omega))
   · have h2 : 2 ≤ n := by omega
     have hs1 := Sw.split_lt h2
     have hs0 := Sw.split_pos n
     have hg := grow_len (N := N) (l := xs) (m := m) (k := kn) (by have := hl.out; omega) (by have := hl.out; omega)
     rw [← hl.out] at hg
     have Hg := Lib.hid hg
     clear hg
     have hmb : ((m : Int) == n) = false := by simp; omega
     have z3 : ¬ (c = Sw.split n) := by omega
     have z0 : (0 : Int) ≤ ↑(Sw.split n) := by omega
     have z1 : (↑(Sw.split n) : Int) ≤ ↑n := by omega
     have z2 : (↑(Sw.split n) : Int) ≤ ↑c := by omega
     by_cases hms : m ≤ Sw.split n
     · go_enter Tryz.func275, Tryz.ntmps275
       go_wp2_with (first | (go_at_call 272; apply Calls.mono; apply sTreSplit_c; (first | assumption | omega); (first | assumption | omega); rintro E w' ⟨rfl, rfl⟩))
       (refine wn_ fun W0 hb0 hc0 hf0 hz0 => ?_; go_region_held3 (fun w' => Held W0 w') ((exact hq_)) ((first | (go_at_call 275; apply Calls.mono; apply ih; omega; omega; (apply Rs.at0; apply RI_take hxs; omega; (exact kf_)); omega; exact List.all_take hok; omega; omega; rintro E w1 ⟨A3, c3, n3, rfl, ho3, hn3, hb⟩; obtain ⟨hc, hf, hz⟩ := xy hb) | (go_at_call 244; apply Calls.mono; apply (sRoot_c 40); omega; (apply Rs.at0; apply RI_drop hxs; omega; (exact kf_)); omega; exact List.all_drop hok; rintro E w1 ⟨rfl, hb⟩; obtain ⟨hc, hf, hz⟩ := xy hb) | (apply step_app el_I one_I rfl rfl rfl rfl; (first | assumption | exact Ow.nil _ _ | (apply Ow.keep; assumption; exact kf_) | (refine own_)); (first | (refine Rs.new [Sw.root (xs.drop (Sw.split n))] (by (first | rfl | (simp only [zq_]; done) | omega)) rfl rfl (fun _ => rfl) (by omega))); omega; exact sz_; intro A1 c1 w2 ho1 hch1 hat1 hex1 hlow1; have hbx := hex1 (fun _ => False) W0 (And.right (by assumption : Held W0 _)) (by exact sz_); clear hex1 hlow1))); all_goals (obtain ⟨hb, hc, hf, hz⟩ := xh (by assumption : Held W0 _)))
       go_wp2
       go_ret
       refine ⟨_, _, _, rfl, ?_, by omega, ext_⟩
       rw [Hg.out, if_pos hms]
       exact ho1.less (by exact sz_)
     · have y0 : IntKind.i64.wrap ((m : Int) - ↑(Sw.split n)) = ((m - Sw.split n : Nat) : Int) := by rw [IntWalk.i64_in _ (by omega)]; omega
       go_enter Tryz.func275, Tryz.ntmps275
       go_wp2_with (first | (go_at_call 272; apply Calls.mono; apply sTreSplit_c; (first | assumption | omega); (first | assumption | omega); rintro E w' ⟨rfl, rfl⟩))
       (refine wn_ fun W0 hb0 hc0 hf0 hz0 => ?_; go_region_held3 (fun w' => Held W0 w') ((exact hq_)) ((first | (go_at_call 275; apply Calls.mono; apply ih; omega; omega; (apply Rs.at0; apply RI_drop hxs; omega; (exact kf_)); omega; exact List.all_drop hok; omega; omega; rintro E w1 ⟨A3, c3, n3, rfl, ho3, hn3, hb⟩; obtain ⟨hc, hf, hz⟩ := xy hb) | (go_at_call 244; apply Calls.mono; apply (sRoot_c 40); omega; (apply Rs.at0; apply RI_take hxs; omega; (exact kf_)); omega; exact List.all_take hok; rintro E w1 ⟨rfl, hb⟩; obtain ⟨hc, hf, hz⟩ := xy hb) | (apply step_app el_I one_I rfl rfl rfl rfl; (first | assumption | exact Ow.nil _ _ | (apply Ow.keep; assumption; exact kf_) | (refine own_)); (first | (refine Rs.new [Sw.root (xs.take (Sw.split n))] (by (first | rfl | (simp only [zq_]; done) | omega)) rfl rfl (fun _ => rfl) (by omega))); omega; exact sz_; intro A1 c1 w2 ho1 hch1 hat1 hex1 hlow1; have hbx := hex1 (fun _ => False) W0 (And.right (by assumption : Held W0 _)) (by exact sz_); clear hex1 hlow1))); all_goals (obtain ⟨hb, hc, hf, hz⟩ := xh (by assumption : Held W0 _)))
       go_wp2
       go_ret
       refine ⟨_, _, _, rfl, ?_, by omega, ext_⟩
       rw [Hg.out, if_neg hms]
       exact ho1.less (by exact sz_)
theorem grow_N : ∀ (N M : Nat) (xs : List Int) (m : Nat) (kn : Bool), xs.length ≤ N → xs.length ≤ M → 1 ≤ m → m ≤ xs.length → Sw.grow N xs m kn = Sw.grow M xs m kn
 | 0, _, xs, m, kn, h1, h2, h3, h4 => by omega
 | _ + 1, 0, xs, m, kn, h1, h2, h3, h4 => by omega
 | N + 1, M + 1, xs, m, kn, h1, h2, h3, h4 => by
   rw [Sw.grow, Sw.grow]
   by_cases e : m = xs.length
   · rw [if_pos e, if_pos e]
   · have l2 : 2 ≤ xs.length := by omega
     have s1 := Sw.split_lt l2
     have s0 := Sw.split_pos xs.length
     rw [if_neg e, if_neg e]
     by_cases g : m ≤ Sw.split xs.length
     · rw [if_pos g, if_pos g, grow_N N M _ m kn (by rw [List.length_take]; omega) (by rw [List.length_take]; omega) h3 (by rw [List.length_take]; omega)]
     · rw [if_neg g, if_neg g, grow_N N M _ (m - Sw.split xs.length) false (by rw [List.length_drop]; omega) (by rw [List.length_drop]; omega) (by omega) (by rw [List.length_drop]; omega)]
theorem sConProof_c (A : Option Addr) (c n : Nat) (m : Int) (xs : List Int) (w : World) (hxs : RI w 0 A c n xs) : Calls Tryz.prog 247 #[.slice A n c, .int .i64 m] w fun E w' => ∃ A' c' n', E = .returned (.slice A' n' c') ∧ OwI w' w.heap.size A' c' n' (Sw.conProof xs m) ∧ Ex w w' := by
 have hl := Lib.hid hxs.1
 have hcap := hxs.2.le
 have hbig : n ≤ 9223372036854775807 := by have := hxs.2.cap; unfold maxLen at this; omega
 by_cases h1 : Sw.treOk xs = true
 · have h40 : n ≤ 40 := by have := hl.out; simp [Sw.treOk] at h1; omega
   have hall : xs.all Sw.mixOk = true := by simp only [Sw.treOk, Bool.and_eq_true] at h1; exact h1.2
   by_cases h2 : Sw.inR m 1 n = true
   · have hm : 1 ≤ m ∧ m ≤ n := by simpa [Sw.inR] using h2
     obtain ⟨k, rfl⟩ := Int.eq_ofNat_of_zero_le (show 0 ≤ m by omega)
     have e : Sw.conProof xs k = Sw.grow 40 xs k true := by
       rw [Sw.conProof, if_pos (by rw [h1, ← hl.out, h2]; rfl)]
       exact grow_N _ _ _ _ _ (Nat.le_refl _) (by have := hl.out; omega) (by omega) (by have := hl.out; omega)
     rw [e]
     clear e
     go_enter Tryz.func247, Tryz.ntmps247
     go_wp2_with (first | (go_at_call 101; apply Calls.mono; apply sTreOk_c; (exact rd_); rintro E w' ⟨rfl, rfl⟩) | (go_at_call 99; refine (l1In_c _ _ _ _).mono ?_; rintro E w' ⟨rfl, rfl⟩) | (go_at_call 275; apply Calls.mono; apply (sGrow_c 40); omega; omega; (exact rd_); omega; exact hall; omega; omega; rintro E w1 ⟨A1, c1, n1, rfl, ho1, hn1, hb⟩))
     go_ret
     exact ⟨_, _, _, rfl, ho1, ext_⟩
   · have h2' : Sw.inR m 1 n = false := by simpa using h2
     have e : Sw.conProof xs m = [] := by rw [Sw.conProof, if_neg (by rw [← hl.out, h2']; simp)]
     rw [e]
     go_enter Tryz.func247, Tryz.ntmps247
     go_wp2_with (first | (go_at_call 101; apply Calls.mono; apply sTreOk_c; (exact rd_); rintro E w' ⟨rfl, rfl⟩) | (go_at_call 99; refine (l1In_c _ _ _ _).mono ?_; rintro E w' ⟨rfl, rfl⟩))
     go_ret
     refine ⟨_, _, _, rfl, ?_, ext_⟩
     (refine own_)
 · have h1' : Sw.treOk xs = false := by simpa using h1
   have e : Sw.conProof xs m = [] := by rw [Sw.conProof, if_neg (by rw [h1']; simp)]
   rw [e]
   go_enter Tryz.func247, Tryz.ntmps247
   go_wp2_with (first | (go_at_call 101; apply Calls.mono; apply sTreOk_c; (exact rd_); rintro E w' ⟨rfl, rfl⟩) | (go_at_call 99; refine (l1In_c _ _ _ _).mono ?_; rintro E w' ⟨rfl, rfl⟩))
   go_ret
   refine ⟨_, _, _, rfl, ?_, ext_⟩
   (refine own_)
theorem sHedProof_c (A : Option Addr) (c n : Nat) (m : Int) (xs : List Sw.Ent) (w : World) (hxs : RE w 0 A c n xs) : Calls Tryz.prog 205 #[.slice A n c, .int .i64 m] w fun E w' => ∃ A' c' n', E = .returned (.slice A' n' c') ∧ OwI w' w.heap.size A' c' n' (Sw.hedProof xs m) ∧ Ex w w' := by
 have hl := Lib.hid hxs.1
 have hcap := hxs.2.le
 have hbig : n ≤ 9223372036854775807 := by have := hxs.2.cap; unfold maxLen at this; omega
 by_cases h2 : Sw.inR m 1 n = true
 · by_cases h40 : n ≤ 40
   · have hb40 : decide (40 < n) = false := by simp; omega
     have e : Sw.hedProof xs m = Sw.conProof (xs.map Sw.entLeaf) m := by rw [Sw.hedProof, if_pos (by simp; have := hl.out; omega)]
     rw [e]; clear e
     go_enter Tryz.func205, Tryz.ntmps205
     go_wp2_with (first | (go_at_call 99; refine (l1In_c _ _ _ _).mono ?_; rintro E w' ⟨rfl, rfl⟩) | (go_at_call 245; apply Calls.mono; apply sEntLeaves_c; (first | assumption | (exact rd_) | omega); omega; rintro E w1 ⟨A1, c1, rfl, ho1, hb⟩; obtain ⟨hc, hf, hz⟩ := xy hb) | (go_at_call 247; apply Calls.mono; apply sConProof_c; (exact rd_); rintro E w2 ⟨A2, c2, n2, rfl, ho2, hb⟩; obtain ⟨hc, hf, hz⟩ := xy hb))
     go_ret
     exact ⟨_, _, _, rfl, ho2.less (by omega), ext_⟩
   · have hb40 : decide (40 < n) = true := by simp; omega
     have e : Sw.hedProof xs m = [] := by rw [Sw.hedProof, if_neg (by simp; have := hl.out; omega)]
     rw [e]
     go_enter Tryz.func205, Tryz.ntmps205
     go_wp2_with (first | (go_at_call 99; refine (l1In_c _ _ _ _).mono ?_; rintro E w' ⟨rfl, rfl⟩))
     go_ret
     refine ⟨_, _, _, rfl, ?_, ext_⟩
     (refine own_)
 · have h2' : Sw.inR m 1 n = false := by simpa using h2
   have e : Sw.hedProof xs m = [] := by
     rw [Sw.hedProof]
     split
     · rw [Sw.conProof, if_neg (by rw [List.length_map, ← hl.out, h2']; simp)]
     · rfl
   rw [e]
   go_enter Tryz.func205, Tryz.ntmps205
   go_wp2_with (first | (go_at_call 99; refine (l1In_c _ _ _ _).mono ?_; rintro E w' ⟨rfl, rfl⟩))
   go_ret
   refine ⟨_, _, _, rfl, ?_, ext_⟩
   (refine own_)
set_option maxHeartbeats 400000
theorem snoc_of {α : Type} {xs : List α} {n : Nat} {y : α} (hn : n + 1 = xs.length) (h : xs[n]? = some y) : xs = xs.take n ++ [y] := by
 rw [← take_snoc h, List.take_of_length_le (by omega)]
theorem rev_snoc {α : Type} {xs : List α} {n : Nat} {y : α} (hn : n + 1 = xs.length) (h : xs[n]? = some y) : xs.reverse = y :: (xs.take n).reverse := by
 conv => lhs; rw [snoc_of hn h]
 simp
theorem sBoth_c (N : Nat) (A : Option Addr) (c n m k : Nat) (old : Int) (kn : Bool) (xs : List Int) (w : World) (hN : n ≤ N) (hxs : RI w 0 A c n xs) (h40 : n ≤ 40) (hall : xs.all Sw.mixOk = true) (hold : Sw.mixOk old = true) (hm : 1 ≤ m) (hmk : m ≤ k) (hk40 : k ≤ 40) : Calls Tryz.prog 287 #[.int .i64 m, .int .i64 k, .int .i64 old, .slice A n c, .bool kn] w fun E w' => ∃ a b, E = .returned (.tuple #[.int .i64 a, .int .i64 b, .bool (Sw.grR m k old xs.reverse kn).isSome]) ∧ (∀ r, Sw.grR m k old xs.reverse kn = some r → r = (a, b)) ∧ Sw.mixOk a = true ∧ Sw.mixOk b = true ∧ Ex w w' := by
 induction N generalizing A c n m k kn xs w with
 | zero =>
   have hl := hxs.1
   obtain rfl : n = 0 := by omega
   have hx : xs = [] := List.eq_nil_of_length_eq_zero (by omega)
   subst hx
   clear hl
   by_cases hmk' : m = k
   · subst hmk'
     cases kn with
     | true =>
       go_enter Tryz.func287, Tryz.ntmps287
       go_wp2_with fail
       go_ret3
       exact ⟨old, old, by simp [Sw.grR], by simp [Sw.grR], hold, hold, ext_⟩
     | false =>
       go_enter Tryz.func287, Tryz.ntmps287
       go_wp2_with fail
       go_ret3
       exact ⟨0, 0, by simp [Sw.grR], by simp [Sw.grR], rfl, rfl, ext_⟩
   · have hb : ((m : Int) == k) = false := by simp; omega
     go_enter Tryz.func287, Tryz.ntmps287
     go_wp2_with fail
     go_ret3
     exact ⟨0, 0, by simp [Sw.grR, hmk'], by simp [Sw.grR, hmk'], rfl, rfl, ext_⟩
 | succ N ih =>
   have hl := Lib.hid hxs.1
   have hcap := hxs.2.le
   by_cases h0 : n = 0
   · subst h0
     have hx : xs = [] := List.eq_nil_of_length_eq_zero (by have := hl.out; omega)
     subst hx
     exact ih _ c 0 m k kn [] w (by omega) hxs (by omega) hall hm hmk hk40
   · obtain ⟨p, rfl⟩ : ∃ p, n = p + 1 := ⟨n - 1, by omega⟩
     obtain ⟨g, off, y, rfl, hg0, hg, hd, hy, hc⟩ := at_I hxs (show p < p + 1 by omega)
     have hrev := rev_snoc (by have := hl.out; omega) hy
     have hyok : Sw.mixOk y = true := List.all_eq_true.1 hall y (List.mem_of_getElem? hy)
     rw [hrev]
     have Hy := Lib.hid hy
     clear hd hy hrev
     by_cases hmk' : m = k
     · subst hmk'
       cases kn with
       | true =>
         have hb1 : ((p : Int) + 1 == 0) = false := by simp; omega
         go_enter Tryz.func287, Tryz.ntmps287
         go_wp2_with fail
         go_ret3
         exact ⟨old, old, by simp [Sw.grR], by simp [Sw.grR], hold, hold, ext_⟩
       | false =>
         by_cases hp : p = 0
         · subst hp
           simp only [Nat.add_zero] at hc
           go_enter Tryz.func287, Tryz.ntmps287
           go_wp2_with fail
           go_quiet ((first | fail))
           go_wp2
           go_ret3
           exact ⟨y, y, by simp [Sw.grR], by simp [Sw.grR], hyok, hyok, ext_⟩
         · have hb1 : ((p : Int) + 1 != 1) = true := by simp; omega
           have hne : ¬ (xs.take p = []) := by
             intro e
             have e1 := congrArg List.length e
             rw [List.length_take, List.length_nil] at e1
             have := hl.out
             omega
           go_enter Tryz.func287, Tryz.ntmps287
           go_wp2_with fail
           go_ret3
           exact ⟨0, 0, by simp [Sw.grR, hne], by simp [Sw.grR, hne], rfl, rfl, ext_⟩
     · have h2 : 2 ≤ k := by omega
       have hs1 := Sw.split_lt h2
       have hs0 := Sw.split_pos k
       have hb : ((m : Int) == k) = false := by simp; omega
       have hb1 : ((p : Int) + 1 == 0) = false := by simp; omega
       by_cases hms : m ≤ Sw.split k
       · go_enter Tryz.func287, Tryz.ntmps287
         go_wp2_with (first | (go_at_call 272; apply Calls.mono; apply sTreSplit_c; (first | assumption | omega); (first | assumption | omega); rintro E w' ⟨rfl, rfl⟩) | (go_at_call 287; apply Calls.mono; apply ih; omega; (apply Rs.at0; apply RI_take hxs; omega; (exact kf_)); omega; exact List.all_take hall; omega; omega; omega; rintro E w1 ⟨a, b, rfl, hr, ha, hb', hb⟩; obtain ⟨hc, hf, hz⟩ := xy hb) | (go_at_call 273; refine (sMixPair_c _ _ _).mono ?_; rintro E w' ⟨rfl, rfl⟩))
         go_ret3
         refine ⟨a, Sw.pair b y, ?_, ?_, ha, pair_ok _ _, ext_⟩
         · rw [mixPair_ok hb' hyok, Sw.grR, if_neg hmk', if_pos hms, Option.isSome_map]; rfl
         · intro r hr'
           rw [Sw.grR, if_neg hmk', if_pos hms, Option.map_eq_some_iff] at hr'
           obtain ⟨q, hq, rfl⟩ := hr'
           rw [hr q hq]
       · have y0 : IntKind.i64.wrap ((m : Int) - ↑(Sw.split k)) = ((m - Sw.split k : Nat) : Int) := by rw [IntWalk.i64_in _ (by omega)]; omega
         have y1 : IntKind.i64.wrap ((k : Int) - ↑(Sw.split k)) = ((k - Sw.split k : Nat) : Int) := by rw [IntWalk.i64_in _ (by omega)]; omega
         go_enter Tryz.func287, Tryz.ntmps287
         go_wp2_with (first | (go_at_call 272; apply Calls.mono; apply sTreSplit_c; (first | assumption | omega); (first | assumption | omega); rintro E w' ⟨rfl, rfl⟩) | (go_at_call 287; apply Calls.mono; apply ih; omega; (apply Rs.at0; apply RI_take hxs; omega; (exact kf_)); omega; exact List.all_take hall; omega; omega; omega; rintro E w1 ⟨a, b, rfl, hr, ha, hb', hb⟩; obtain ⟨hc, hf, hz⟩ := xy hb) | (go_at_call 273; refine (sMixPair_c _ _ _).mono ?_; rintro E w' ⟨rfl, rfl⟩))
         go_ret3
         refine ⟨Sw.pair y a, Sw.pair y b, ?_, ?_, pair_ok _ _, pair_ok _ _, ext_⟩
         · rw [mixPair_ok hyok ha, mixPair_ok hyok hb', Sw.grR, if_neg hmk', if_neg hms, Option.isSome_map]; rfl
         · intro r hr'
           rw [Sw.grR, if_neg hmk', if_neg hms, Option.map_eq_some_iff] at hr'
           obtain ⟨q, hq, rfl⟩ := hr'
           rw [hr q hq]
end Go.Proofs.YtnnoiagommiapaaGreat
namespace Go.Proofs.YtnnoiagommiapaaGreat
open Go.RowKit Go
set_option maxHeartbeats 400000
section
variable {w : World} {lo c n k : Nat} {A : Option Addr}
theorem at_OD {xs : List Sw.Deal} (h : OwD w lo A c n xs) (hk : k < n) :
   ∃ g x, A = some ⟨g, 0, none⟩ ∧ lo ≤ g ∧ g < w.heap.size ∧ xs[k]? = some x ∧ w.cell? ⟨g, k * 5, none⟩ = some (.int .i64 x.ticket) ∧ w.cell? ⟨g, k * 5 + 1, none⟩ = some (.int .i64 x.seller) ∧
     w.cell? ⟨g, k * 5 + 2, none⟩ = some (.int .i64 x.price) ∧ w.cell? ⟨g, k * 5 + 3, none⟩ = some (.int .i64 x.buyer) ∧ w.cell? ⟨g, k * 5 + 4, none⟩ = some (.int .i64 x.due) ∧ (∀ i, w.frozen? ⟨g, i, none⟩ = false) := by
 obtain ⟨g, x, h1, h2, h3, h4, h5, h6⟩ := Ow.at_ h (fun _ => rfl) hk
 exact ⟨g, x, h1, h2, h3, h4, by simpa using h5 0 _ (by omega) rfl, h5 1 _ (by omega) rfl, h5 2 _ (by omega) rfl, h5 3 _ (by omega) rfl, h5 4 _ (by omega) rfl, h6⟩
theorem at_OGV {xs : List GV} (h : OwGV w lo A c n xs) (hk : k < n) :
   ∃ g x, A = some ⟨g, 0, none⟩ ∧ lo ≤ g ∧ g < w.heap.size ∧ xs[k]? = some x ∧ w.cell? ⟨g, k * 4, none⟩ = some (.int .i64 x.h.size) ∧ w.cell? ⟨g, k * 4 + 1, none⟩ = some (.int .i64 x.h.log) ∧
     w.cell? ⟨g, k * 4 + 2, none⟩ = some (.int .i64 x.h.own) ∧ w.cell? ⟨g, k * 4 + 3, none⟩ = some (.slice x.A x.n x.c) ∧ (∀ i, w.frozen? ⟨g, i, none⟩ = false) := by
 obtain ⟨g, x, h1, h2, h3, h4, h5, h6⟩ := Ow.at_ h (fun _ => rfl) hk
 exact ⟨g, x, h1, h2, h3, h4, by simpa using h5 0 _ (by omega) rfl, h5 1 _ (by omega) rfl, h5 2 _ (by omega) rfl, h5 3 _ (by omega) rfl, h6⟩
theorem at_OXV {xs : List XV} (h : OwXV w lo A c n xs) (hk : k < n) :
   ∃ g x, A = some ⟨g, 0, none⟩ ∧ lo ≤ g ∧ g < w.heap.size ∧ xs[k]? = some x ∧ w.cell? ⟨g, k * 5, none⟩ = some (.int .i64 x.g) ∧ w.cell? ⟨g, k * 5 + 1, none⟩ = some (.int .i64 x.h.size) ∧ w.cell? ⟨g, k * 5 + 2, none⟩ = some (.int .i64 x.h.log) ∧
     w.cell? ⟨g, k * 5 + 3, none⟩ = some (.int .i64 x.h.own) ∧ w.cell? ⟨g, k * 5 + 4, none⟩ = some (.slice x.A x.n x.c) ∧ (∀ i, w.frozen? ⟨g, i, none⟩ = false) := by
 obtain ⟨g, x, h1, h2, h3, h4, h5, h6⟩ := Ow.at_ h (fun _ => rfl) hk
 exact ⟨g, x, h1, h2, h3, h4, by simpa using h5 0 _ (by omega) rfl, h5 1 _ (by omega) rfl, h5 2 _ (by omega) rfl, h5 3 _ (by omega) rfl, h5 4 _ (by omega) rfl, h6⟩
end
end Go.Proofs.YtnnoiagommiapaaGreat
namespace Go.Proofs.YtnnoiagommiapaaGreat
open Go.RowKit Go
set_option maxHeartbeats 400000
def GatesTo (τ : Nat → Nat) (w : World) (lo g0 k n : Nat) (gs : List Sw.Gate) : Prop :=
 ∃ vs : List GV, OwGV w lo (some ⟨g0, 0, none⟩) n n vs ∧ τ g0 = 8 ∧ ∀ (j : Nat) (v : GV) (g : Sw.Gate), j < k → vs[j]? = some v → gs[j]? = some g → v.h = g.head ∧ OwTI τ (fdS j) w lo v.A v.c v.n g.done
def MsgsTo (τ : Nat → Nat) (w : World) (lo g0 k n : Nat) (xs : List Sw.Msg) : Prop :=
 ∃ vs : List XV, OwXV w lo (some ⟨g0, 0, none⟩) n n vs ∧ τ g0 = 9 ∧ ∀ (j : Nat) (v : XV) (x : Sw.Msg), j < k → vs[j]? = some v → xs[j]? = some x → v.g = x.gate ∧ v.h = x.head ∧ OwTI τ (fpS j) w lo v.A v.c v.n x.proof
theorem set_cells_heap {g b : Nat} (h : b ≠ g) : ∀ (vs : List Value) (w : World) (i : Nat), (setCells w g i vs).heap[b]? = w.heap[b]?
 | [], _, _ => rfl
 | v :: vs, w, i => by rw [setCells, set_cells_heap h vs]; exact Below.heap_setCell _ _ _ _ h
theorem set_cells_size {g : Nat} : ∀ (vs : List Value) (w : World) (i : Nat), (setCells w g i vs).heap.size = w.heap.size
 | [], _, _ => rfl
 | v :: vs, w, i => by rw [setCells, set_cells_size vs]; simp
theorem GatesTo.step {τ : Nat → Nat} {w w1 : World} {lo g0 k n g1 m : Nat} {gs : List Sw.Gate} {y : Sw.Gate} (h : GatesTo τ w lo g0 k n gs) (hk : k < n) (hy : gs[k]? = some y) (hb : Ex w w1)
   (ho : OwI w1 w.heap.size (some ⟨g1, 0, none⟩) m m y.done) (hlo : lo ≤ w.heap.size) :
   GatesTo (glue τ w.heap.size (fun _ => fdS k)) (setCells w1 g0 (k * 4) (GV.enc ⟨y.head, some ⟨g1, 0, none⟩, m, m⟩)) lo g0 (k + 1) n gs := by
 obtain ⟨vs, h1, h2, h3⟩ := h
 have hg0 := (h1.blk rfl)
 dsimp only at hg0
 have h1' : OwGV w1 lo (some ⟨g0, 0, none⟩) n n vs := h1.keep (KF.ex hb (KF.refl _ _))
 refine ⟨_, Ow.put h1' (fun _ => rfl) ⟨y.head, some ⟨g1, 0, none⟩, m, m⟩ rfl hk, ?_, ?_⟩
 · unfold glue; rw [if_pos hg0.2]; exact h2
 · intro j v g hj hv hg
   rw [List.getElem?_set] at hv
   by_cases hjk : k = j
   · subst hjk
     rw [if_pos rfl, if_pos (by rw [← h1.1]; exact hk)] at hv
     cases hv
     rw [hy] at hg
     cases hg
     refine ⟨rfl, ⟨?_, ?_⟩⟩
     · refine (ho.less hlo).keep_ fun a ha => ?_
       cases ha
       have := (ho.blk rfl).1
       exact set_cells_heap (show g1 ≠ g0 by dsimp only at this; omega) _ _ _
     · intro a ha
       cases ha
       have := (ho.blk rfl).1
       unfold glue; dsimp only at this ⊢; rw [if_neg (by omega)]
   · rw [if_neg hjk] at hv
     obtain ⟨e, hr⟩ := h3 j v g (by omega) hv hg
     refine ⟨e, ⟨hr.ow.keep_ fun a ha => ?_, fun a ha => ?_⟩⟩
     · have hlt := (hr.ow.blk ha).2
       rw [set_cells_heap, hb.block _ hlt (fun h => h)]
       intro e
       have := hr.tag a ha
       rw [e, h2] at this
       unfold fdS at this; omega
     · unfold glue; rw [if_pos (hr.ow.blk ha).2]; exact hr.tag a ha
theorem MsgsTo.step {τ : Nat → Nat} {w w1 : World} {lo g0 k n g1 m : Nat} {gs : List Sw.Msg} {y : Sw.Msg} (h : MsgsTo τ w lo g0 k n gs) (hk : k < n) (hy : gs[k]? = some y) (hb : Ex w w1)
   (ho : OwI w1 w.heap.size (some ⟨g1, 0, none⟩) m m y.proof) (hlo : lo ≤ w.heap.size) :
   MsgsTo (glue τ w.heap.size (fun _ => fpS k)) (setCells w1 g0 (k * 5) (XV.enc ⟨y.gate, y.head, some ⟨g1, 0, none⟩, m, m⟩)) lo g0 (k + 1) n gs := by
 obtain ⟨vs, h1, h2, h3⟩ := h
 have hg0 := (h1.blk rfl)
 dsimp only at hg0
 have h1' : OwXV w1 lo (some ⟨g0, 0, none⟩) n n vs := h1.keep (KF.ex hb (KF.refl _ _))
 refine ⟨_, Ow.put h1' (fun _ => rfl) ⟨y.gate, y.head, some ⟨g1, 0, none⟩, m, m⟩ rfl hk, ?_, ?_⟩
 · unfold glue; rw [if_pos hg0.2]; exact h2
 · intro j v g hj hv hg
   rw [List.getElem?_set] at hv
   by_cases hjk : k = j
   · subst hjk
     rw [if_pos rfl, if_pos (by rw [← h1.1]; exact hk)] at hv
     cases hv
     rw [hy] at hg
     cases hg
     refine ⟨rfl, rfl, ⟨?_, ?_⟩⟩
     · refine (ho.less hlo).keep_ fun a ha => ?_
       cases ha
       have := (ho.blk rfl).1
       exact set_cells_heap (show g1 ≠ g0 by dsimp only at this; omega) _ _ _
     · intro a ha
       cases ha
       have := (ho.blk rfl).1
       unfold glue; dsimp only at this ⊢; rw [if_neg (by omega)]
   · rw [if_neg hjk] at hv
     obtain ⟨e1, e, hr⟩ := h3 j v g (by omega) hv hg
     refine ⟨e1, e, ⟨hr.ow.keep_ fun a ha => ?_, fun a ha => ?_⟩⟩
     · have hlt := (hr.ow.blk ha).2
       rw [set_cells_heap, hb.block _ hlt (fun h => h)]
       intro e
       have := hr.tag a ha
       rw [e, h2] at this
       unfold fpS at this; omega
     · unfold glue; rw [if_pos (hr.ow.blk ha).2]; exact hr.tag a ha
theorem GatesTo.all {τ : Nat → Nat} {w : World} {lo g0 n : Nat} {gs : List Sw.Gate} (h : GatesTo τ w lo g0 n n gs) (hn : n = gs.length) : OwG fdS τ w lo (some ⟨g0, 0, none⟩) n n gs := by
 obtain ⟨vs, h1, h2, h3⟩ := h
 exact ⟨vs, ⟨h1, fun a ha => by cases ha; exact h2⟩, hn, fun k v g hv hg => h3 k v g (by have := (List.getElem?_eq_some_iff.1 hg).1; omega) hv hg⟩
theorem MsgsTo.all {τ : Nat → Nat} {w : World} {lo g0 n : Nat} {gs : List Sw.Msg} (h : MsgsTo τ w lo g0 n n gs) (hn : n = gs.length) : OwX fpS τ w lo (some ⟨g0, 0, none⟩) n n gs := by
 obtain ⟨vs, h1, h2, h3⟩ := h
 exact ⟨vs, ⟨h1, fun a ha => by cases ha; exact h2⟩, hn, fun k v g hv hg => h3 k v g (by have := (List.getElem?_eq_some_iff.1 hg).1; omega) hv hg⟩
set_option maxHeartbeats 400000
set_option maxHeartbeats 400000
theorem iCloneInts_c (A : Option Addr) (c n : Nat) (xs : List Int) (w : World) (hxs : RI w 0 A c n xs) (hn : n ≤ 4194304) : Calls Tryz.prog 119 #[.slice A n c] w fun E w' => ∃ A' c', E = .returned (.slice A' n c') ∧ OwI w' w.heap.size A' c' n xs ∧ Ex w w' := by
 go_enter Tryz.func119, Tryz.ntmps119
 go_wp2_with (at_builtin; apply wpList_app (lo := w.heap.size) el_I one_I rfl rfl rfl rfl; (first | assumption | exact Ow.nil _ _ | (apply Ow.keep; assumption; exact kf_) | (refine own_)); (first | (exact rd_)); omega; exact sz_; intro A1 c1 w2 ho1 hch1 hat1 hex1 hlow1; have hb := hex1 (fun _ => False) w (by exact ext_) (by exact sz_); have hz := hch1.size; (try simp only [zq_] at hz); obtain ⟨hc, hf⟩ := low_rules hlow1; clear hlow1 hex1)
 go_ret
 rw [Nat.zero_add, List.nil_append] at ho1
 exact ⟨A1, c1, rfl, ho1, ext_⟩
set_option maxHeartbeats 400000
set_option maxHeartbeats 400000
theorem sConCheck_c (m old nn r : Int) (A : Option Addr) (c n : Nat) (xs : List Int) (w : World) (hxs : RI w 0 A c n xs) : Calls Tryz.prog 276 #[.int .i64 m, .int .i64 old, .int .i64 nn, .int .i64 r, .slice A n c] w fun E w' => E = .returned (.bool (Sw.conCheck m old nn r xs)) ∧ Ex w w' := by
 have hl := Lib.hid hxs.1
 by_cases hg : (Sw.inR nn 1 40 && Sw.inR m 1 nn && Sw.mixOk old && Sw.mixOk r && Sw.treOk xs) = true
 · have hg' := hg
   simp only [Bool.and_eq_true] at hg'
   obtain ⟨⟨⟨⟨g1, g2⟩, g3⟩, g4⟩, g5⟩ := hg'
   have b1 : 1 ≤ nn ∧ nn ≤ 40 := by simpa [Sw.inR] using g1
   have b2 : 1 ≤ m ∧ m ≤ nn := by simpa [Sw.inR] using g2
   have h40 : n ≤ 40 := by have := hl.out; simp [Sw.treOk] at g5; omega
   have hall : xs.all Sw.mixOk = true := by simp only [Sw.treOk, Bool.and_eq_true] at g5; exact g5.2
   obtain ⟨k, rfl⟩ := Int.eq_ofNat_of_zero_le (show 0 ≤ nn by omega)
   obtain ⟨j, rfl⟩ := Int.eq_ofNat_of_zero_le (show 0 ≤ m by omega)
   have e : Sw.conCheck j old k r xs = (Sw.grR j k old xs.reverse true == some (old, r)) := by
     rw [Sw.conCheck, hg]; rfl
   have He := Lib.hid e
   clear e hg
   go_enter Tryz.func276, Tryz.ntmps276
   go_wp2_with (first | (go_at_call 99; refine (l1In_c _ _ _ _).mono ?_; rintro E w' ⟨rfl, rfl⟩) | (go_at_call 179; refine (sMixOk_c _ _).mono ?_; rintro E w' ⟨rfl, rfl⟩) | (go_at_call 101; apply Calls.mono; apply sTreOk_c; (exact rd_); rintro E w' ⟨rfl, rfl⟩) | (go_at_call 287; apply Calls.mono; apply (sBoth_c 40); omega; (exact rd_); omega; exact hall; exact g3; omega; omega; omega; rintro E w1 ⟨a, b, rfl, hr, ha, hb', hb⟩; have Hr := Lib.hid hr; clear hr; cases hs : Sw.grR j k old xs.reverse true))
   all_goals (go_ret; refine ⟨ret_b ?_, ext_⟩; rw [He.out, hs])
   · rfl
   all_goals
     obtain rfl := Hr.out _ hs
     rw [Bool.eq_iff_iff]
     simp [*]
 · have hg' : (Sw.inR nn 1 40 && Sw.inR m 1 nn && Sw.mixOk old && Sw.mixOk r && Sw.treOk xs) = false := by simpa using hg
   have e : Sw.conCheck m old nn r xs = false := by rw [Sw.conCheck, hg']; rfl
   rw [e]
   have Hg := Lib.hid hg'
   clear e hg hg'
   cases g1 : Sw.inR nn 1 40
   case false => go_enter Tryz.func276, Tryz.ntmps276; go_wp2_with (first | (go_at_call 99; refine (l1In_c _ _ _ _).mono ?_; rintro E w' ⟨rfl, rfl⟩)); go_ret; exact ⟨rfl, ext_⟩
   cases g2 : Sw.inR m 1 nn
   case false => go_enter Tryz.func276, Tryz.ntmps276; go_wp2_with (first | (go_at_call 99; refine (l1In_c _ _ _ _).mono ?_; rintro E w' ⟨rfl, rfl⟩)); go_ret; exact ⟨rfl, ext_⟩
   cases g3 : Sw.mixOk old
   case false => go_enter Tryz.func276, Tryz.ntmps276; go_wp2_with (first | (go_at_call 99; refine (l1In_c _ _ _ _).mono ?_; rintro E w' ⟨rfl, rfl⟩) | (go_at_call 179; refine (sMixOk_c _ _).mono ?_; rintro E w' ⟨rfl, rfl⟩)); go_ret; exact ⟨rfl, ext_⟩
   cases g4 : Sw.mixOk r
   case false => go_enter Tryz.func276, Tryz.ntmps276; go_wp2_with (first | (go_at_call 99; refine (l1In_c _ _ _ _).mono ?_; rintro E w' ⟨rfl, rfl⟩) | (go_at_call 179; refine (sMixOk_c _ _).mono ?_; rintro E w' ⟨rfl, rfl⟩)); go_ret; exact ⟨rfl, ext_⟩
   cases g5 : Sw.treOk xs
   case false => go_enter Tryz.func276, Tryz.ntmps276; go_wp2_with (first | (go_at_call 99; refine (l1In_c _ _ _ _).mono ?_; rintro E w' ⟨rfl, rfl⟩) | (go_at_call 179; refine (sMixOk_c _ _).mono ?_; rintro E w' ⟨rfl, rfl⟩) | (go_at_call 101; apply Calls.mono; apply sTreOk_c; (exact rd_); rintro E w' ⟨rfl, rfl⟩)); go_ret; exact ⟨rfl, ext_⟩
   have := Hg.out
   rw [g1, g2, g3, g4, g5] at this
   cases this
theorem sHedFollows_c (o t : Sw.Head) (A : Option Addr) (c n : Nat) (xs : List Int) (w : World) (hxs : RI w 0 A c n xs) : Calls Tryz.prog 248 #[.agg #[.int .i64 o.size, .int .i64 o.log, .int .i64 o.own], .agg #[.int .i64 t.size, .int .i64 t.log, .int .i64 t.own], .slice A n c] w fun E w' => E = .returned (.bool (Sw.hedFollows o t xs)) ∧ Ex w w' := by
 have hl := Lib.hid hxs.1
 cases g1 : Sw.hedOk o
 case false =>
   go_enter Tryz.func248, Tryz.ntmps248; go_wp2_with (first | (go_at_call 100; refine (sHedOk_c _ _).mono ?_; rintro E w1 ⟨rfl, hb⟩; obtain ⟨hc, hf, hz⟩ := xy hb)); go_ret; exact ⟨ret_b (by simp [Sw.hedFollows, g1]), ext_⟩
 cases g2 : Sw.hedOk t
 case false =>
   go_enter Tryz.func248, Tryz.ntmps248; go_wp2_with (first | (go_at_call 100; refine (sHedOk_c _ _).mono ?_; rintro E w1 ⟨rfl, hb⟩; obtain ⟨hc, hf, hz⟩ := xy hb)); go_ret; exact ⟨ret_b (by simp [Sw.hedFollows, g2]), ext_⟩
 by_cases g3 : o.size ≤ t.size
 case neg =>
   have e : Sw.hedFollows o t xs = false := by simp [Sw.hedFollows, g3]
   rw [e]; clear e
   have g3' : t.size < o.size := by omega
   go_enter Tryz.func248, Tryz.ntmps248; go_wp2_with (first | (go_at_call 100; refine (sHedOk_c _ _).mono ?_; rintro E w1 ⟨rfl, hb⟩; obtain ⟨hc, hf, hz⟩ := xy hb)); go_ret; exact ⟨rfl, ext_⟩
 have n1 := g1; have n2 := g2
 simp only [Sw.hedOk, Sw.inR, Bool.and_eq_true, decide_eq_true_eq] at n1 n2
 obtain ⟨⟨⟨o0, _⟩, _⟩, _⟩ := n1
 obtain ⟨⟨⟨t0, _⟩, _⟩, _⟩ := n2
 by_cases g4 : o.size = 0
 · have z0 : (o.size == 0) = true := by simp [g4]
   have hle : decide (o.size ≤ t.size) = true := by simp [g3]
   have e : Sw.hedFollows o t xs = ((decide (o.size ≠ t.size) || decide (o = t)) && xs.isEmpty) := by rw [Sw.hedFollows, g1, g2, hle, if_pos g4]; simp
   have He := Lib.hid e
   have G4 := Lib.hid g4
   clear e g4
   by_cases hn : n = 0
   · have hx : xs = [] := List.eq_nil_of_length_eq_zero (by have := hl.out; omega)
     subst hx
     subst hn
     clear hl
     go_enter Tryz.func248, Tryz.ntmps248
     go_wp2_with (first | (go_at_call 100; refine (sHedOk_c _ _).mono ?_; rintro E w1 ⟨rfl, hb⟩; obtain ⟨hc, hf, hz⟩ := xy hb))
     all_goals (go_ret; refine ⟨ret_b ?_, ext_⟩; rw [He.out]; have g4 := G4.out; clear He G4; go_tidy; simp only [head_ext])
     all_goals (first | (simp [*]; done) | (simp [*]; omega) | (simp_all; done) | (simp_all; omega))
   · have hb : ((n : Int) == 0) = false := by simp; omega
     have hx : xs.isEmpty = false := by
       cases xs with
       | nil => exact absurd hl.out hn
       | cons _ _ => rfl
     go_enter Tryz.func248, Tryz.ntmps248
     go_wp2_with (first | (go_at_call 100; refine (sHedOk_c _ _).mono ?_; rintro E w1 ⟨rfl, hb⟩; obtain ⟨hc, hf, hz⟩ := xy hb))
     go_ret
     exact ⟨ret_b (by rw [He.out, hx]; simp), ext_⟩
 · have z0 : (o.size == 0) = false := by simp [g4]
   have hle : decide (o.size ≤ t.size) = true := by simp [g3]
   have e : Sw.hedFollows o t xs = ((decide (o.size ≠ t.size) || decide (o = t)) && Sw.conCheck o.size o.log t.size t.log xs) := by rw [Sw.hedFollows, g1, g2, hle, if_neg g4]; simp
   have He := Lib.hid e
   clear e g4
   go_enter Tryz.func248, Tryz.ntmps248
   go_wp2_with (first | (go_at_call 100; refine (sHedOk_c _ _).mono ?_; rintro E w1 ⟨rfl, hb⟩; obtain ⟨hc, hf, hz⟩ := xy hb) | (go_at_call 276; apply Calls.mono; apply sConCheck_c; (exact rd_); rintro E w1 ⟨rfl, hb⟩; obtain ⟨hc, hf, hz⟩ := xy hb))
   all_goals (go_ret; refine ⟨ret_b ?_, ext_⟩; rw [He.out]; clear He; go_tidy; simp only [head_ext])
   all_goals (first | (simp [*]; done) | (simp [*]; omega) | (simp_all; done) | (simp_all; omega))
set_option maxHeartbeats 2000000
set_option maxHeartbeats 400000
end Go.Proofs.YtnnoiagommiapaaGreat
