/-
  Walks: proofs of growth.
-/
import Derived.Test.YtncoiknpkebgoaaHeads
namespace Go.Proofs.Ytncoiknpkebgoaa
set_option maxRecDepth 100000
set_option linter.unusedSimpArgs false
set_option linter.unusedVariables false
open Go.RowKit Go
set_option maxHeartbeats 400000

theorem grow_len {N : Nat} {l : List Int} {m : Nat} {k : Bool} (h : m ≠ l.length) (hN : l.length ≤ N + 1) : Sw.grow (N + 1) l m k =
    if m ≤ Sw.split l.length then Sw.grow N (l.take (Sw.split l.length)) m k ++ [Sw.root (l.drop (Sw.split l.length))]
    else Sw.grow N (l.drop (Sw.split l.length)) (m - Sw.split l.length) false ++ [Sw.root (l.take (Sw.split l.length))] := by
  rw [Sw.grow, if_neg h]

theorem sGrow_c (N : Nat) (A : Option Addr) (c n m : Nat) (kn : Bool) (xs : List Int) (w : World) (hN : n ≤ N) (hN4 : N ≤ 40) (hxs : RI w 0 A c n xs) (h40 : n ≤ 40) (hok : xs.all Sw.mixOk = true) (hm : 1 ≤ m) (hmn : m ≤ n) : Calls Try.prog 210 #[.slice A n c, .int .i64 m, .bool kn] w fun E w' => ∃ A' c' n', E = .returned (.slice A' n' c') ∧ OwI w' w.heap.size A' c' n' (Sw.grow N xs m kn) ∧ n' ≤ N ∧ Ex w w' := by
  induction N generalizing A c n m kn xs w with
  | zero => omega
  | succ N ih =>
    have hl := Lib.hid hxs.1
    have hcap := hxs.2.le
    by_cases hmn' : m = n
    · subst hmn'
      have hg : Sw.grow (N + 1) xs m kn = if kn = true then [] else [Sw.root xs] := by rw [Sw.grow, if_pos hl.out]
      have Hg := Lib.hid hg; clear hg
      cases kn with
      | true =>
        go_enter Try.func210, Try.ntmps210
        go_wp2_with fail
        go_ret
        refine ⟨_, _, _, rfl, ?_, Nat.zero_le _, (by (with_reducible repeat (first | exact cR _ _ | apply cA | apply cD | apply cN | (refine cS ?_ (Or.inr (by first | omega | (simp only [zA, zC, zD]; omega))) _) | (apply cE; assumption) | (apply cK; assumption) | (refine cG (by assumption) ?_ (by first | omega | (simp only [zA, zC, zD]; omega))))))⟩
        rw [Hg.out]
        (refine Ow.new [] (by (first | rfl | (simp only [zA, zC, zD]; done) | omega)) rfl rfl (fun _ => rfl) (by (first | omega | (simp only [zA, zC, zD]; omega) | (simp only [zA, zC, zD] at *; omega))) (by omega))
      | false =>
        go_enter Try.func210, Try.ntmps210
        go_wp2_with (first | (go_at_call 166; apply Calls.mono; apply (sRoot_c 40); omega; ((first | (apply Rs.at0; assumption) | (apply Ow.rs0; assumption)); with_reducible repeat (first | exact kR _ _ | apply kA | apply kD | apply kN | (refine kS ?_ (by first | omega | (simp only [zA, zC, zD]; omega))) | (apply kE; assumption) | (refine kC (by assumption) ?_ (by first | omega | (simp only [zA, zC, zD]; omega))))); omega; exact hok; rintro E w1 ⟨rfl, hb⟩))
        go_ret
        refine ⟨_, _, _, rfl, ?_, by omega, (by (with_reducible repeat (first | exact cR _ _ | apply cA | apply cD | apply cN | (refine cS ?_ (Or.inr (by first | omega | (simp only [zA, zC, zD]; omega))) _) | (apply cE; assumption) | (apply cK; assumption) | (refine cG (by assumption) ?_ (by first | omega | (simp only [zA, zC, zD]; omega))))))⟩
        rw [Hg.out]
        have hz := hb.size
        simp only [Bool.false_eq_true, if_false]
        (refine Ow.new [Sw.root xs] (by (first | rfl | (simp only [zA, zC, zD]; done) | omega)) rfl rfl (fun _ => rfl) (by (first | omega | (simp only [zA, zC, zD]; omega) | (simp only [zA, zC, zD] at *; omega))) (by omega))
    · have h2 : 2 ≤ n := by omega
      have hs1 := Sw.split_lt h2
      have hs0 := Sw.split_pos n
      have hg := grow_len (N := N) (l := xs) (m := m) (k := kn) (by have := hl.out; omega) (by have := hl.out; omega)
      rw [← hl.out] at hg
      have Hg := Lib.hid hg
      clear hg
      have hmb : ((m : Int) == n) = false := by simp; omega
      have z3 : ¬ (c = Sw.split n) := by omega
      have z0 : (0 : Int) ≤ ↑(Sw.split n) := by omega
      have z1 : (↑(Sw.split n) : Int) ≤ ↑n := by omega
      have z2 : (↑(Sw.split n) : Int) ≤ ↑c := by omega
      by_cases hms : m ≤ Sw.split n
      · go_enter Try.func210, Try.ntmps210
        go_wp2_with (first | (go_at_call 205; apply Calls.mono; apply sTreSplit_c; (first | assumption | omega); (first | assumption | omega); rintro E w' ⟨rfl, rfl⟩))
        (refine wp_name ?_; intro W0 hb0; have hst := xr hb0; (try simp only [zA, zC, zD] at hst); obtain ⟨hc0, hf0, hz0⟩ := hst; go_region_held3 (fun w' => Held W0 w') ((first | with_reducible assumption | with_reducible exact Held.start _ | with_reducible exact Held.of (by assumption) | with_reducible exact Held.ex (by assumption) (by assumption) | ((repeat (first | with_reducible refine Held.set ?_ (by simp only [zA, zC, zD]; omega) | with_reducible refine Held.alloc ?_ _ | with_reducible refine Held.drew ?_)); (first | with_reducible assumption | with_reducible exact Held.refl _ | with_reducible exact Held.of (by assumption) | with_reducible exact Held.ex (by assumption) (by assumption))) | exact Held.of (by (with_reducible repeat (first | exact cR _ _ | apply cA | apply cD | apply cN | (refine cS ?_ (Or.inr (by first | omega | (simp only [zA, zC, zD]; omega))) _) | (apply cE; assumption) | (apply cK; assumption) | (refine cG (by assumption) ?_ (by first | omega | (simp only [zA, zC, zD]; omega)))))))) ((first | (go_at_call 210; apply Calls.mono; apply ih; omega; omega; (apply Rs.at0; apply RI_take hxs; omega; (with_reducible repeat (first | exact kR _ _ | apply kA | apply kD | apply kN | (refine kS ?_ (by first | omega | (simp only [zA, zC, zD]; omega))) | (apply kE; assumption) | (refine kC (by assumption) ?_ (by first | omega | (simp only [zA, zC, zD]; omega)))))); omega; exact List.all_take hok; omega; omega; rintro E w1 ⟨A3, c3, n3, rfl, ho3, hn3, hb⟩; have hst := xr hb; (try simp only [zA, zC, zD] at hst); obtain ⟨hc, hf, hz⟩ := hst) | (go_at_call 166; apply Calls.mono; apply (sRoot_c 40); omega; (apply Rs.at0; apply RI_drop hxs; omega; (with_reducible repeat (first | exact kR _ _ | apply kA | apply kD | apply kN | (refine kS ?_ (by first | omega | (simp only [zA, zC, zD]; omega))) | (apply kE; assumption) | (refine kC (by assumption) ?_ (by first | omega | (simp only [zA, zC, zD]; omega)))))); omega; exact List.all_drop hok; rintro E w1 ⟨rfl, hb⟩; have hst := xr hb; (try simp only [zA, zC, zD] at hst); obtain ⟨hc, hf, hz⟩ := hst) | (apply step_app el_I one_I rfl rfl rfl rfl; (first | assumption | exact Ow.nil _ _ | (apply Ow.keep; assumption; with_reducible repeat (first | exact kR _ _ | apply kA | apply kD | apply kN | (refine kS ?_ (by first | omega | (simp only [zA, zC, zD]; omega))) | (apply kE; assumption) | (refine kC (by assumption) ?_ (by first | omega | (simp only [zA, zC, zD]; omega))))) | (refine Ow.new [] (by (first | rfl | (simp only [zA, zC, zD]; done) | omega)) rfl rfl (fun _ => rfl) (by (first | omega | (simp only [zA, zC, zD]; omega) | (simp only [zA, zC, zD] at *; omega))) (by omega))); (first | (refine Rs.new [Sw.root (xs.drop (Sw.split n))] (by (first | rfl | (simp only [zA, zC, zD]; done) | omega)) rfl rfl (fun _ => rfl) (by omega))); omega; (first | omega | (simp only [zA, zC, zD]; omega) | (simp only [zA, zC, zD] at *; omega)); intro A1 c1 w2 ho1 hch1 hat1 hex1 hlow1; have hbx := hex1 (fun _ => False) W0 (And.right (by assumption : Held W0 _)) (by (first | omega | (simp only [zA, zC, zD]; omega) | (simp only [zA, zC, zD] at *; omega))); clear hex1 hlow1))); all_goals (have hb := And.right (by assumption : Held W0 _); have hst := xr hb; (try simp only [zA, zC, zD] at hst); obtain ⟨hc, hf, hz⟩ := hst))
        go_wp2
        go_ret
        refine ⟨_, _, _, rfl, ?_, by omega, (by (with_reducible repeat (first | exact cR _ _ | apply cA | apply cD | apply cN | (refine cS ?_ (Or.inr (by first | omega | (simp only [zA, zC, zD]; omega))) _) | (apply cE; assumption) | (apply cK; assumption) | (refine cG (by assumption) ?_ (by first | omega | (simp only [zA, zC, zD]; omega))))))⟩
        rw [Hg.out, if_pos hms]
        exact ho1.less (by (first | omega | (simp only [zA, zC, zD]; omega) | (simp only [zA, zC, zD] at *; omega)))
      · have y0 : IntKind.i64.wrap ((m : Int) - ↑(Sw.split n)) = ((m - Sw.split n : Nat) : Int) := by rw [IntWalk.i64_in _ (by omega)]; omega
        go_enter Try.func210, Try.ntmps210
        go_wp2_with (first | (go_at_call 205; apply Calls.mono; apply sTreSplit_c; (first | assumption | omega); (first | assumption | omega); rintro E w' ⟨rfl, rfl⟩))
        (refine wp_name ?_; intro W0 hb0; have hst := xr hb0; (try simp only [zA, zC, zD] at hst); obtain ⟨hc0, hf0, hz0⟩ := hst; go_region_held3 (fun w' => Held W0 w') ((first | with_reducible assumption | with_reducible exact Held.start _ | with_reducible exact Held.of (by assumption) | with_reducible exact Held.ex (by assumption) (by assumption) | ((repeat (first | with_reducible refine Held.set ?_ (by simp only [zA, zC, zD]; omega) | with_reducible refine Held.alloc ?_ _ | with_reducible refine Held.drew ?_)); (first | with_reducible assumption | with_reducible exact Held.refl _ | with_reducible exact Held.of (by assumption) | with_reducible exact Held.ex (by assumption) (by assumption))) | exact Held.of (by (with_reducible repeat (first | exact cR _ _ | apply cA | apply cD | apply cN | (refine cS ?_ (Or.inr (by first | omega | (simp only [zA, zC, zD]; omega))) _) | (apply cE; assumption) | (apply cK; assumption) | (refine cG (by assumption) ?_ (by first | omega | (simp only [zA, zC, zD]; omega)))))))) ((first | (go_at_call 210; apply Calls.mono; apply ih; omega; omega; (apply Rs.at0; apply RI_drop hxs; omega; (with_reducible repeat (first | exact kR _ _ | apply kA | apply kD | apply kN | (refine kS ?_ (by first | omega | (simp only [zA, zC, zD]; omega))) | (apply kE; assumption) | (refine kC (by assumption) ?_ (by first | omega | (simp only [zA, zC, zD]; omega)))))); omega; exact List.all_drop hok; omega; omega; rintro E w1 ⟨A3, c3, n3, rfl, ho3, hn3, hb⟩; have hst := xr hb; (try simp only [zA, zC, zD] at hst); obtain ⟨hc, hf, hz⟩ := hst) | (go_at_call 166; apply Calls.mono; apply (sRoot_c 40); omega; (apply Rs.at0; apply RI_take hxs; omega; (with_reducible repeat (first | exact kR _ _ | apply kA | apply kD | apply kN | (refine kS ?_ (by first | omega | (simp only [zA, zC, zD]; omega))) | (apply kE; assumption) | (refine kC (by assumption) ?_ (by first | omega | (simp only [zA, zC, zD]; omega)))))); omega; exact List.all_take hok; rintro E w1 ⟨rfl, hb⟩; have hst := xr hb; (try simp only [zA, zC, zD] at hst); obtain ⟨hc, hf, hz⟩ := hst) | (apply step_app el_I one_I rfl rfl rfl rfl; (first | assumption | exact Ow.nil _ _ | (apply Ow.keep; assumption; with_reducible repeat (first | exact kR _ _ | apply kA | apply kD | apply kN | (refine kS ?_ (by first | omega | (simp only [zA, zC, zD]; omega))) | (apply kE; assumption) | (refine kC (by assumption) ?_ (by first | omega | (simp only [zA, zC, zD]; omega))))) | (refine Ow.new [] (by (first | rfl | (simp only [zA, zC, zD]; done) | omega)) rfl rfl (fun _ => rfl) (by (first | omega | (simp only [zA, zC, zD]; omega) | (simp only [zA, zC, zD] at *; omega))) (by omega))); (first | (refine Rs.new [Sw.root (xs.take (Sw.split n))] (by (first | rfl | (simp only [zA, zC, zD]; done) | omega)) rfl rfl (fun _ => rfl) (by omega))); omega; (first | omega | (simp only [zA, zC, zD]; omega) | (simp only [zA, zC, zD] at *; omega)); intro A1 c1 w2 ho1 hch1 hat1 hex1 hlow1; have hbx := hex1 (fun _ => False) W0 (And.right (by assumption : Held W0 _)) (by (first | omega | (simp only [zA, zC, zD]; omega) | (simp only [zA, zC, zD] at *; omega))); clear hex1 hlow1))); all_goals (have hb := And.right (by assumption : Held W0 _); have hst := xr hb; (try simp only [zA, zC, zD] at hst); obtain ⟨hc, hf, hz⟩ := hst))
        go_wp2
        go_ret
        refine ⟨_, _, _, rfl, ?_, by omega, (by (with_reducible repeat (first | exact cR _ _ | apply cA | apply cD | apply cN | (refine cS ?_ (Or.inr (by first | omega | (simp only [zA, zC, zD]; omega))) _) | (apply cE; assumption) | (apply cK; assumption) | (refine cG (by assumption) ?_ (by first | omega | (simp only [zA, zC, zD]; omega))))))⟩
        rw [Hg.out, if_neg hms]
        exact ho1.less (by (first | omega | (simp only [zA, zC, zD]; omega) | (simp only [zA, zC, zD] at *; omega)))

theorem empty_len {xs : List Int} {N : Nat} (h : xs.length ≤ N) : xs.length ≤ N := h
theorem grow_N : ∀ (N M : Nat) (xs : List Int) (m : Nat) (kn : Bool), xs.length ≤ N → xs.length ≤ M → 1 ≤ m → m ≤ xs.length → Sw.grow N xs m kn = Sw.grow M xs m kn
  | 0, _, xs, m, kn, h1, h2, h3, h4 => by omega
  | _ + 1, 0, xs, m, kn, h1, h2, h3, h4 => by omega
  | N + 1, M + 1, xs, m, kn, h1, h2, h3, h4 => by
    rw [Sw.grow, Sw.grow]
    by_cases e : m = xs.length
    · rw [if_pos e, if_pos e]
    · have l2 : 2 ≤ xs.length := by omega
      have s1 := Sw.split_lt l2
      have s0 := Sw.split_pos xs.length
      rw [if_neg e, if_neg e]
      by_cases g : m ≤ Sw.split xs.length
      · rw [if_pos g, if_pos g, grow_N N M _ m kn (by rw [List.length_take]; omega) (by rw [List.length_take]; omega) h3 (by rw [List.length_take]; omega)]
      · rw [if_neg g, if_neg g, grow_N N M _ (m - Sw.split xs.length) false (by rw [List.length_drop]; omega) (by rw [List.length_drop]; omega) (by omega) (by rw [List.length_drop]; omega)]

theorem sConProof_c (A : Option Addr) (c n : Nat) (m : Int) (xs : List Int) (w : World) (hxs : RI w 0 A c n xs) : Calls Try.prog 169 #[.slice A n c, .int .i64 m] w fun E w' => ∃ A' c' n', E = .returned (.slice A' n' c') ∧ OwI w' w.heap.size A' c' n' (Sw.conProof xs m) ∧ Ex w w' := by
  have hl := Lib.hid hxs.1
  have hcap := hxs.2.le
  have hbig : n ≤ 9223372036854775807 := by have := hxs.2.cap; unfold maxLen at this; omega
  by_cases h1 : Sw.treOk xs = true
  · have h40 : n ≤ 40 := by have := hl.out; simp [Sw.treOk] at h1; omega
    have hall : xs.all Sw.mixOk = true := by simp only [Sw.treOk, Bool.and_eq_true] at h1; exact h1.2
    by_cases h2 : Sw.inR m 1 n = true
    · have hm : 1 ≤ m ∧ m ≤ n := by simpa [Sw.inR] using h2
      obtain ⟨k, rfl⟩ := Int.eq_ofNat_of_zero_le (show 0 ≤ m by omega)
      have e : Sw.conProof xs k = Sw.grow 40 xs k true := by
        rw [Sw.conProof, if_pos (by rw [h1, ← hl.out, h2]; rfl)]
        exact grow_N _ _ _ _ _ (Nat.le_refl _) (by have := hl.out; omega) (by omega) (by have := hl.out; omega)
      rw [e]
      clear e
      go_enter Try.func169, Try.ntmps169
      go_wp2_with (first | (go_at_call 149; apply Calls.mono; apply sTreOk_c; ((first | (apply Rs.at0; assumption) | (apply Ow.rs0; assumption)); with_reducible repeat (first | exact kR _ _ | apply kA | apply kD | apply kN | (refine kS ?_ (by first | omega | (simp only [zA, zC, zD]; omega))) | (apply kE; assumption) | (refine kC (by assumption) ?_ (by first | omega | (simp only [zA, zC, zD]; omega))))); rintro E w' ⟨rfl, rfl⟩) | (go_at_call 94; refine (l1In_c _ _ _ _).mono ?_; rintro E w' ⟨rfl, rfl⟩) | (go_at_call 210; apply Calls.mono; apply (sGrow_c 40); omega; omega; ((first | (apply Rs.at0; assumption) | (apply Ow.rs0; assumption)); with_reducible repeat (first | exact kR _ _ | apply kA | apply kD | apply kN | (refine kS ?_ (by first | omega | (simp only [zA, zC, zD]; omega))) | (apply kE; assumption) | (refine kC (by assumption) ?_ (by first | omega | (simp only [zA, zC, zD]; omega))))); omega; exact hall; omega; omega; rintro E w1 ⟨A1, c1, n1, rfl, ho1, hn1, hb⟩))
      go_ret
      exact ⟨_, _, _, rfl, ho1, (by (with_reducible repeat (first | exact cR _ _ | apply cA | apply cD | apply cN | (refine cS ?_ (Or.inr (by first | omega | (simp only [zA, zC, zD]; omega))) _) | (apply cE; assumption) | (apply cK; assumption) | (refine cG (by assumption) ?_ (by first | omega | (simp only [zA, zC, zD]; omega))))))⟩
    · have h2' : Sw.inR m 1 n = false := by simpa using h2
      have e : Sw.conProof xs m = [] := by rw [Sw.conProof, if_neg (by rw [← hl.out, h2']; simp)]
      rw [e]
      go_enter Try.func169, Try.ntmps169
      go_wp2_with (first | (go_at_call 149; apply Calls.mono; apply sTreOk_c; ((first | (apply Rs.at0; assumption) | (apply Ow.rs0; assumption)); with_reducible repeat (first | exact kR _ _ | apply kA | apply kD | apply kN | (refine kS ?_ (by first | omega | (simp only [zA, zC, zD]; omega))) | (apply kE; assumption) | (refine kC (by assumption) ?_ (by first | omega | (simp only [zA, zC, zD]; omega))))); rintro E w' ⟨rfl, rfl⟩) | (go_at_call 94; refine (l1In_c _ _ _ _).mono ?_; rintro E w' ⟨rfl, rfl⟩))
      go_ret
      refine ⟨_, _, _, rfl, ?_, (by (with_reducible repeat (first | exact cR _ _ | apply cA | apply cD | apply cN | (refine cS ?_ (Or.inr (by first | omega | (simp only [zA, zC, zD]; omega))) _) | (apply cE; assumption) | (apply cK; assumption) | (refine cG (by assumption) ?_ (by first | omega | (simp only [zA, zC, zD]; omega))))))⟩
      (refine Ow.new [] (by (first | rfl | (simp only [zA, zC, zD]; done) | omega)) rfl rfl (fun _ => rfl) (by (first | omega | (simp only [zA, zC, zD]; omega) | (simp only [zA, zC, zD] at *; omega))) (by omega))
  · have h1' : Sw.treOk xs = false := by simpa using h1
    have e : Sw.conProof xs m = [] := by rw [Sw.conProof, if_neg (by rw [h1']; simp)]
    rw [e]
    go_enter Try.func169, Try.ntmps169
    go_wp2_with (first | (go_at_call 149; apply Calls.mono; apply sTreOk_c; ((first | (apply Rs.at0; assumption) | (apply Ow.rs0; assumption)); with_reducible repeat (first | exact kR _ _ | apply kA | apply kD | apply kN | (refine kS ?_ (by first | omega | (simp only [zA, zC, zD]; omega))) | (apply kE; assumption) | (refine kC (by assumption) ?_ (by first | omega | (simp only [zA, zC, zD]; omega))))); rintro E w' ⟨rfl, rfl⟩) | (go_at_call 94; refine (l1In_c _ _ _ _).mono ?_; rintro E w' ⟨rfl, rfl⟩))
    go_ret
    refine ⟨_, _, _, rfl, ?_, (by (with_reducible repeat (first | exact cR _ _ | apply cA | apply cD | apply cN | (refine cS ?_ (Or.inr (by first | omega | (simp only [zA, zC, zD]; omega))) _) | (apply cE; assumption) | (apply cK; assumption) | (refine cG (by assumption) ?_ (by first | omega | (simp only [zA, zC, zD]; omega))))))⟩
    (refine Ow.new [] (by (first | rfl | (simp only [zA, zC, zD]; done) | omega)) rfl rfl (fun _ => rfl) (by (first | omega | (simp only [zA, zC, zD]; omega) | (simp only [zA, zC, zD] at *; omega))) (by omega))

theorem sHedProof_c (A : Option Addr) (c n : Nat) (m : Int) (xs : List Sw.Ent) (w : World) (hxs : RE w 0 A c n xs) : Calls Try.prog 85 #[.slice A n c, .int .i64 m] w fun E w' => ∃ A' c' n', E = .returned (.slice A' n' c') ∧ OwI w' w.heap.size A' c' n' (Sw.hedProof xs m) ∧ Ex w w' := by
  have hl := Lib.hid hxs.1
  have hcap := hxs.2.le
  have hbig : n ≤ 9223372036854775807 := by have := hxs.2.cap; unfold maxLen at this; omega
  by_cases h2 : Sw.inR m 1 n = true
  · by_cases h40 : n ≤ 40
    · have hb40 : decide (40 < n) = false := by simp; omega
      have e : Sw.hedProof xs m = Sw.conProof (xs.map Sw.entLeaf) m := by rw [Sw.hedProof, if_pos (by simp; have := hl.out; omega)]
      rw [e]; clear e
      go_enter Try.func85, Try.ntmps85
      go_wp2_with (first | (go_at_call 94; refine (l1In_c _ _ _ _).mono ?_; rintro E w' ⟨rfl, rfl⟩) | (go_at_call 167; apply Calls.mono; apply sEntLeaves_c; (first | assumption | ((first | (apply Rs.at0; assumption) | (apply Ow.rs0; assumption)); with_reducible repeat (first | exact kR _ _ | apply kA | apply kD | apply kN | (refine kS ?_ (by first | omega | (simp only [zA, zC, zD]; omega))) | (apply kE; assumption) | (refine kC (by assumption) ?_ (by first | omega | (simp only [zA, zC, zD]; omega))))) | omega); omega; rintro E w1 ⟨A1, c1, rfl, ho1, hb⟩; have hst := xr hb; (try simp only [zA, zC, zD] at hst); obtain ⟨hc, hf, hz⟩ := hst) | (go_at_call 169; apply Calls.mono; apply sConProof_c; ((first | (apply Rs.at0; assumption) | (apply Ow.rs0; assumption)); with_reducible repeat (first | exact kR _ _ | apply kA | apply kD | apply kN | (refine kS ?_ (by first | omega | (simp only [zA, zC, zD]; omega))) | (apply kE; assumption) | (refine kC (by assumption) ?_ (by first | omega | (simp only [zA, zC, zD]; omega))))); rintro E w2 ⟨A2, c2, n2, rfl, ho2, hb⟩; have hst := xr hb; (try simp only [zA, zC, zD] at hst); obtain ⟨hc, hf, hz⟩ := hst))
      go_ret
      exact ⟨_, _, _, rfl, ho2.less (by omega), (by (with_reducible repeat (first | exact cR _ _ | apply cA | apply cD | apply cN | (refine cS ?_ (Or.inr (by first | omega | (simp only [zA, zC, zD]; omega))) _) | (apply cE; assumption) | (apply cK; assumption) | (refine cG (by assumption) ?_ (by first | omega | (simp only [zA, zC, zD]; omega))))))⟩
    · have hb40 : decide (40 < n) = true := by simp; omega
      have e : Sw.hedProof xs m = [] := by rw [Sw.hedProof, if_neg (by simp; have := hl.out; omega)]
      rw [e]
      go_enter Try.func85, Try.ntmps85
      go_wp2_with (first | (go_at_call 94; refine (l1In_c _ _ _ _).mono ?_; rintro E w' ⟨rfl, rfl⟩))
      go_ret
      refine ⟨_, _, _, rfl, ?_, (by (with_reducible repeat (first | exact cR _ _ | apply cA | apply cD | apply cN | (refine cS ?_ (Or.inr (by first | omega | (simp only [zA, zC, zD]; omega))) _) | (apply cE; assumption) | (apply cK; assumption) | (refine cG (by assumption) ?_ (by first | omega | (simp only [zA, zC, zD]; omega))))))⟩
      (refine Ow.new [] (by (first | rfl | (simp only [zA, zC, zD]; done) | omega)) rfl rfl (fun _ => rfl) (by (first | omega | (simp only [zA, zC, zD]; omega) | (simp only [zA, zC, zD] at *; omega))) (by omega))
  · have h2' : Sw.inR m 1 n = false := by simpa using h2
    have e : Sw.hedProof xs m = [] := by
      rw [Sw.hedProof]
      split
      · rw [Sw.conProof, if_neg (by rw [List.length_map, ← hl.out, h2']; simp)]
      · rfl
    rw [e]
    go_enter Try.func85, Try.ntmps85
    go_wp2_with (first | (go_at_call 94; refine (l1In_c _ _ _ _).mono ?_; rintro E w' ⟨rfl, rfl⟩))
    go_ret
    refine ⟨_, _, _, rfl, ?_, (by (with_reducible repeat (first | exact cR _ _ | apply cA | apply cD | apply cN | (refine cS ?_ (Or.inr (by first | omega | (simp only [zA, zC, zD]; omega))) _) | (apply cE; assumption) | (apply cK; assumption) | (refine cG (by assumption) ?_ (by first | omega | (simp only [zA, zC, zD]; omega))))))⟩
    (refine Ow.new [] (by (first | rfl | (simp only [zA, zC, zD]; done) | omega)) rfl rfl (fun _ => rfl) (by (first | omega | (simp only [zA, zC, zD]; omega) | (simp only [zA, zC, zD] at *; omega))) (by omega))
end Go.Proofs.Ytncoiknpkebgoaa
