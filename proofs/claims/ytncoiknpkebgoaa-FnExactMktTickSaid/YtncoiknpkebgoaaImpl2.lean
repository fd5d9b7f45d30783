/-
  Walks: the program's proofs of growth.
-/
import Derived.Test.YtncoiknpkebgoaaImpl1
import Derived.Test.YtncoiknpkebgoaaBoth
namespace Go.Proofs.Ytncoiknpkebgoaa
set_option maxRecDepth 100000
set_option linter.unusedSimpArgs false
set_option linter.unusedVariables false
open Go.RowKit Go
set_option maxHeartbeats 400000

theorem iGrown_c (N : Nat) (A : Option Addr) (c n m k : Nat) (old : Int) (kn : Bool) (xs : List Int) (w : World) (hN : n ≤ N) (hxs : RI w 0 A c n xs) (h40 : n ≤ 40) (hall : xs.all Sw.mixOk = true) (hold : Sw.mixOk old = true) (hm : 1 ≤ m) (hmk : m ≤ k) (hk40 : k ≤ 40) : Calls Try.prog 173 #[.int .i64 m, .int .i64 k, .int .i64 old, .slice A n c, .bool kn] w fun E w' => ∃ a b, E = .returned (.tuple #[.agg #[.int .i64 a, .int .i64 b], .bool (Sw.grR m k old xs.reverse kn).isSome]) ∧ (∀ r, Sw.grR m k old xs.reverse kn = some r → r = (a, b)) ∧ Sw.mixOk a = true ∧ Sw.mixOk b = true ∧ Ex w w' := by
  induction N generalizing A c n m k kn xs w with
  | zero =>
    have hl := hxs.1
    obtain rfl : n = 0 := by omega
    have hx : xs = [] := List.eq_nil_of_length_eq_zero (by omega)
    subst hx
    clear hl
    by_cases hmk' : m = k
    · subst hmk'
      cases kn with
      | true =>
        go_enter Try.func173, Try.ntmps173
        go_wp2_with fail
        refine bodyPost_ret (v := .tuple #[.agg #[.int .i64 old, .int .i64 old], .bool true]) (by simp [results, Try.results173, go_sem, *]) rfl ?_
        exact ⟨old, old, by simp [Sw.grR], by simp [Sw.grR], hold, hold, (by (with_reducible repeat (first | exact cR _ _ | apply cA | apply cD | apply cN | (refine cS ?_ (Or.inr (by first | omega | (simp only [zA, zC, zD]; omega))) _) | (apply cE; assumption) | (apply cK; assumption) | (refine cG (by assumption) ?_ (by first | omega | (simp only [zA, zC, zD]; omega))))))⟩
      | false =>
        go_enter Try.func173, Try.ntmps173
        go_wp2_with fail
        refine bodyPost_ret (v := .tuple #[.agg #[.int .i64 0, .int .i64 0], .bool false]) (by simp [results, Try.results173, go_sem, *]) rfl ?_
        exact ⟨0, 0, by simp [Sw.grR], by simp [Sw.grR], rfl, rfl, (by (with_reducible repeat (first | exact cR _ _ | apply cA | apply cD | apply cN | (refine cS ?_ (Or.inr (by first | omega | (simp only [zA, zC, zD]; omega))) _) | (apply cE; assumption) | (apply cK; assumption) | (refine cG (by assumption) ?_ (by first | omega | (simp only [zA, zC, zD]; omega))))))⟩
    · have hb : ((m : Int) == k) = false := by simp; omega
      go_enter Try.func173, Try.ntmps173
      go_wp2_with fail
      refine bodyPost_ret (v := .tuple #[.agg #[.int .i64 0, .int .i64 0], .bool false]) (by simp [results, Try.results173, go_sem, *]) rfl ?_
      exact ⟨0, 0, by simp [Sw.grR, hmk'], by simp [Sw.grR, hmk'], rfl, rfl, (by (with_reducible repeat (first | exact cR _ _ | apply cA | apply cD | apply cN | (refine cS ?_ (Or.inr (by first | omega | (simp only [zA, zC, zD]; omega))) _) | (apply cE; assumption) | (apply cK; assumption) | (refine cG (by assumption) ?_ (by first | omega | (simp only [zA, zC, zD]; omega))))))⟩
  | succ N ih =>
    have hl := Lib.hid hxs.1
    have hcap := hxs.2.le
    by_cases h0 : n = 0
    · subst h0
      have hx : xs = [] := List.eq_nil_of_length_eq_zero (by have := hl.out; omega)
      subst hx
      exact ih _ c 0 m k kn [] w (by omega) hxs (by omega) hall hm hmk hk40
    · obtain ⟨p, rfl⟩ : ∃ p, n = p + 1 := ⟨n - 1, by omega⟩
      obtain ⟨g, off, y, rfl, hg0, hg, hd, hy, hc⟩ := at_I hxs (show p < p + 1 by omega)
      have hrev := rev_snoc (by have := hl.out; omega) hy
      have hyok : Sw.mixOk y = true := List.all_eq_true.1 hall y (List.mem_of_getElem? hy)
      rw [hrev]
      have Hy := Lib.hid hy
      clear hd hy hrev
      have w1 : IntKind.i64.wrap ((p : Int) + 1 - 1) = p := by rw [IntWalk.i64_in _ (by omega)]; omega
      have tp : (p : Int) < (p : Int) + 1 := by omega
      by_cases hmk' : m = k
      · subst hmk'
        cases kn with
        | true =>
          have hb1 : decide ((p : Int) < 0) = false := by simp
          go_enter Try.func173, Try.ntmps173
          go_wp2_with fail
          refine bodyPost_ret (v := .tuple #[.agg #[.int .i64 old, .int .i64 old], .bool false]) (by simp [results, Try.results173, go_sem, *]) rfl ?_
          exact ⟨old, old, by simp [Sw.grR], by simp [Sw.grR], hold, hold, (by (with_reducible repeat (first | exact cR _ _ | apply cA | apply cD | apply cN | (refine cS ?_ (Or.inr (by first | omega | (simp only [zA, zC, zD]; omega))) _) | (apply cE; assumption) | (apply cK; assumption) | (refine cG (by assumption) ?_ (by first | omega | (simp only [zA, zC, zD]; omega))))))⟩
        | false =>
          have hb1 : decide ((p : Int) < 0) = false := by simp
          obtain ⟨g', off', z, hA', hg0', hg', _, hz', hc'⟩ := at_I hxs (show 0 < p + 1 by omega)
          cases hA'
          simp only [Nat.add_zero] at hc'
          have hzok : Sw.mixOk z = true := List.all_eq_true.1 hall z (List.mem_of_getElem? hz')
          have Hz := Lib.hid hz'; clear hz'
          have t0 : (0 : Int) < (p : Int) + 1 := by omega
          go_enter Try.func173, Try.ntmps173
          go_wp2_with fail
          (refine wp_name ?_; intro W0 hb0; have hst := xr hb0; (try simp only [zA, zC, zD] at hst); obtain ⟨hc0, hf0, hz0⟩ := hst; have hLb : Lb W0 (w.heap.size) 2 := Lb.ex (by (repeat (first | with_reducible assumption | with_reducible exact Lb.new (by first | rfl | (simp only [zA, zC, zD]; done)) (by with_unfolding_all rfl) | with_reducible apply Lb.alloc | with_reducible apply Lb.set | with_reducible apply Lb.drew | (with_reducible refine Lb.ex ?_ (by assumption))))) hb0; go_region_held3 (fun w' => HeldB (w.heap.size) 2 W0 w') ((first | with_reducible assumption | with_reducible exact HeldB.start hLb | with_reducible exact HeldB.of (by assumption) (by assumption) | ((repeat (first | with_reducible refine HeldB.set ?_ (by first | exact Or.inl rfl | exact Or.inr (by simp only [zA, zC, zD]; omega) | exact Or.inr (by omega)) | with_reducible refine HeldB.alloc ?_ _ | with_reducible refine HeldB.drew ?_)); (first | with_reducible assumption | with_reducible exact HeldB.refl hLb | with_reducible exact HeldB.of (by assumption) (by assumption) | with_reducible exact HeldB.ex (by assumption) (by assumption))))) (fail); all_goals (rename HeldB (w.heap.size) 2 W0 _ => hHx; have hb := HeldB.ch hHx; have hst := xc hb; (try simp only [zA, zC, zD] at hst); obtain ⟨hc, hf, hz⟩ := hst; have hLb3 := HeldB.lb hHx; (repeat (replace hLb3 := Lb.unset hLb3)); obtain ⟨hcb, hfb⟩ := Lb.rules hLb3; clear hHx))
          go_wp2_with fail
          refine bodyPost_ret (v := .tuple #[.agg #[.int .i64 z, .int .i64 z], .bool ((p : Int) == 0)]) (by simp [results, Try.results173, go_sem, *]) rfl ?_
          have e : Sw.grR m m old (y :: (xs.take p).reverse) false = if p = 0 then some (y, y) else none := by
            rw [Sw.grR, if_pos rfl]
            simp only [Bool.false_eq_true, if_false, List.reverse_eq_nil_iff, List.take_eq_nil_iff]
            by_cases hp : p = 0
            · simp [hp]
            · have : xs ≠ [] := by rintro rfl; have := hl.out; simp at this
              simp [hp, this]
          rw [e]
          by_cases hp : p = 0
          · subst hp
            have : z = y := by have h1 := Hy.out; have h2 := Hz.out; rw [h1] at h2; exact (Option.some.inj h2).symm
            subst this
            exact ⟨z, z, by simp, by simp, hzok, hzok, (by (with_reducible repeat (first | exact cR _ _ | apply cA | apply cD | apply cN | (refine cS ?_ (Or.inr (by first | omega | (simp only [zA, zC, zD]; omega))) _) | (apply cE; assumption) | (apply cK; assumption) | (refine cG (by assumption) ?_ (by first | omega | (simp only [zA, zC, zD]; omega))))))⟩
          · exact ⟨z, z, by simp [hp], by simp [hp], hzok, hzok, (by (with_reducible repeat (first | exact cR _ _ | apply cA | apply cD | apply cN | (refine cS ?_ (Or.inr (by first | omega | (simp only [zA, zC, zD]; omega))) _) | (apply cE; assumption) | (apply cK; assumption) | (refine cG (by assumption) ?_ (by first | omega | (simp only [zA, zC, zD]; omega))))))⟩
      · have h2 : 2 ≤ k := by omega
        have hs1 := Sw.split_lt h2
        have hs0 := Sw.split_pos k
        have hb : ((m : Int) == k) = false := by simp; omega
        have hb1 : decide ((p : Int) < 0) = false := by simp
        by_cases hms : m ≤ Sw.split k
        · go_enter Try.func173, Try.ntmps173
          go_wp2_with (first | (go_at_call 212; apply Calls.mono; apply iSplit_c; (first | assumption | omega); (first | assumption | omega); rintro E w' ⟨rfl, rfl⟩) | (go_at_call 173; apply Calls.mono; apply ih; omega; (apply Rs.at0; apply RI_take hxs; omega; (with_reducible repeat (first | exact kR _ _ | apply kA | apply kD | apply kN | (refine kS ?_ (by first | omega | (simp only [zA, zC, zD]; omega))) | (apply kE; assumption) | (refine kC (by assumption) ?_ (by first | omega | (simp only [zA, zC, zD]; omega)))))); omega; exact List.all_take hall; omega; omega; omega; rintro E w1 ⟨a, b, rfl, hr, ha, hb', hb⟩; have hst := xr hb; (try simp only [zA, zC, zD] at hst); obtain ⟨hc, hf, hz⟩ := hst))
          (refine wp_name ?_; intro W0 hb0; have hst := xr hb0; (try simp only [zA, zC, zD] at hst); obtain ⟨hc0, hf0, hz0⟩ := hst; have hLb : Lb W0 (w.heap.size) 2 := Lb.ex (by (repeat (first | with_reducible assumption | with_reducible exact Lb.new (by first | rfl | (simp only [zA, zC, zD]; done)) (by with_unfolding_all rfl) | with_reducible apply Lb.alloc | with_reducible apply Lb.set | with_reducible apply Lb.drew | (with_reducible refine Lb.ex ?_ (by assumption))))) hb0; go_region_held3 (fun w' => HeldB (w.heap.size) 2 W0 w') ((first | with_reducible assumption | with_reducible exact HeldB.start hLb | with_reducible exact HeldB.of (by assumption) (by assumption) | ((repeat (first | with_reducible refine HeldB.set ?_ (by first | exact Or.inl rfl | exact Or.inr (by simp only [zA, zC, zD]; omega) | exact Or.inr (by omega)) | with_reducible refine HeldB.alloc ?_ _ | with_reducible refine HeldB.drew ?_)); (first | with_reducible assumption | with_reducible exact HeldB.refl hLb | with_reducible exact HeldB.of (by assumption) (by assumption) | with_reducible exact HeldB.ex (by assumption) (by assumption))))) ((go_at_call 213; apply Calls.mono; apply pair_c; (first | assumption | omega); (first | assumption | omega); rintro E w' ⟨rfl, rfl⟩)); all_goals (rename HeldB (w.heap.size) 2 W0 _ => hHx; have hb := HeldB.ch hHx; have hst := xc hb; (try simp only [zA, zC, zD] at hst); obtain ⟨hc, hf, hz⟩ := hst; have hLb3 := HeldB.lb hHx; (repeat (replace hLb3 := Lb.unset hLb3)); obtain ⟨hcb, hfb⟩ := Lb.rules hLb3; clear hHx))
          go_wp2_with fail
          refine bodyPost_ret (v := .tuple #[.agg #[.int .i64 a, .int .i64 (Sw.pair b y)], .bool (Sw.grR m (Sw.split k) old (xs.take p).reverse kn).isSome]) (by simp [results, Try.results173, go_sem, *]) rfl ?_
          refine ⟨a, Sw.pair b y, ?_, ?_, ha, pair_ok _ _, (by (with_reducible repeat (first | exact cR _ _ | apply cA | apply cD | apply cN | (refine cS ?_ (Or.inr (by first | omega | (simp only [zA, zC, zD]; omega))) _) | (apply cE; assumption) | (apply cK; assumption) | (refine cG (by assumption) ?_ (by first | omega | (simp only [zA, zC, zD]; omega))))))⟩
          · rw [Sw.grR, if_neg hmk', if_pos hms, Option.isSome_map]
          · intro r hr'
            rw [Sw.grR, if_neg hmk', if_pos hms, Option.map_eq_some_iff] at hr'
            obtain ⟨q, hq, rfl⟩ := hr'
            rw [hr q hq]
        · have y0 : IntKind.i64.wrap ((m : Int) - ↑(Sw.split k)) = ((m - Sw.split k : Nat) : Int) := by rw [IntWalk.i64_in _ (by omega)]; omega
          have y1 : IntKind.i64.wrap ((k : Int) - ↑(Sw.split k)) = ((k - Sw.split k : Nat) : Int) := by rw [IntWalk.i64_in _ (by omega)]; omega
          go_enter Try.func173, Try.ntmps173
          go_wp2_with (first | (go_at_call 212; apply Calls.mono; apply iSplit_c; (first | assumption | omega); (first | assumption | omega); rintro E w' ⟨rfl, rfl⟩) | (go_at_call 173; apply Calls.mono; apply ih; omega; (apply Rs.at0; apply RI_take hxs; omega; (with_reducible repeat (first | exact kR _ _ | apply kA | apply kD | apply kN | (refine kS ?_ (by first | omega | (simp only [zA, zC, zD]; omega))) | (apply kE; assumption) | (refine kC (by assumption) ?_ (by first | omega | (simp only [zA, zC, zD]; omega)))))); omega; exact List.all_take hall; omega; omega; omega; rintro E w1 ⟨a, b, rfl, hr, ha, hb', hb⟩; have hst := xr hb; (try simp only [zA, zC, zD] at hst); obtain ⟨hc, hf, hz⟩ := hst))
          (refine wp_name ?_; intro W0 hb0; have hst := xr hb0; (try simp only [zA, zC, zD] at hst); obtain ⟨hc0, hf0, hz0⟩ := hst; have hLb : Lb W0 (w.heap.size) 2 := Lb.ex (by (repeat (first | with_reducible assumption | with_reducible exact Lb.new (by first | rfl | (simp only [zA, zC, zD]; done)) (by with_unfolding_all rfl) | with_reducible apply Lb.alloc | with_reducible apply Lb.set | with_reducible apply Lb.drew | (with_reducible refine Lb.ex ?_ (by assumption))))) hb0; go_region_held3 (fun w' => HeldB (w.heap.size) 2 W0 w') ((first | with_reducible assumption | with_reducible exact HeldB.start hLb | with_reducible exact HeldB.of (by assumption) (by assumption) | ((repeat (first | with_reducible refine HeldB.set ?_ (by first | exact Or.inl rfl | exact Or.inr (by simp only [zA, zC, zD]; omega) | exact Or.inr (by omega)) | with_reducible refine HeldB.alloc ?_ _ | with_reducible refine HeldB.drew ?_)); (first | with_reducible assumption | with_reducible exact HeldB.refl hLb | with_reducible exact HeldB.of (by assumption) (by assumption) | with_reducible exact HeldB.ex (by assumption) (by assumption))))) ((go_at_call 213; apply Calls.mono; apply pair_c; (first | assumption | omega); (first | assumption | omega); rintro E w' ⟨rfl, rfl⟩)); all_goals (rename HeldB (w.heap.size) 2 W0 _ => hHx; have hb := HeldB.ch hHx; have hst := xc hb; (try simp only [zA, zC, zD] at hst); obtain ⟨hc, hf, hz⟩ := hst; have hLb3 := HeldB.lb hHx; (repeat (replace hLb3 := Lb.unset hLb3)); obtain ⟨hcb, hfb⟩ := Lb.rules hLb3; clear hHx))
          go_wp2_with fail
          refine bodyPost_ret (v := .tuple #[.agg #[.int .i64 (Sw.pair y a), .int .i64 (Sw.pair y b)], .bool (Sw.grR (m - Sw.split k) (k - Sw.split k) old (xs.take p).reverse false).isSome]) (by simp [results, Try.results173, go_sem, *]) rfl ?_
          refine ⟨Sw.pair y a, Sw.pair y b, ?_, ?_, pair_ok _ _, pair_ok _ _, (by (with_reducible repeat (first | exact cR _ _ | apply cA | apply cD | apply cN | (refine cS ?_ (Or.inr (by first | omega | (simp only [zA, zC, zD]; omega))) _) | (apply cE; assumption) | (apply cK; assumption) | (refine cG (by assumption) ?_ (by first | omega | (simp only [zA, zC, zD]; omega))))))⟩
          · rw [Sw.grR, if_neg hmk', if_neg hms, Option.isSome_map]
          · intro r hr'
            rw [Sw.grR, if_neg hmk', if_neg hms, Option.map_eq_some_iff] at hr'
            obtain ⟨q, hq, rfl⟩ := hr'
            rw [hr q hq]
end Go.Proofs.Ytncoiknpkebgoaa
