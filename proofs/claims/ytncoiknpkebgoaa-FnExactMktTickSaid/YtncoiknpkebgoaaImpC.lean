/-
  Walks: the program's heads; its purses.
-/
import Derived.Test.YtncoiknpkebgoaaImpB
import Derived.Test.YtncoiknpkebgoaaMon2
namespace Go.Proofs.Ytncoiknpkebgoaa
set_option maxRecDepth 100000
set_option linter.unusedSimpArgs false
set_option linter.unusedVariables false
open Go.RowKit Go
set_option maxHeartbeats 1000000

theorem hedOf_n {xs : List Sw.Ent} (h : Sw.ownFold xs = none) : Sw.hedOf xs = none := by simp [Sw.hedOf, h]
theorem hedOf_y {xs : List Sw.Ent} {rows : List Sw.Row} (h : Sw.ownFold xs = some rows) : Sw.hedOf xs = some ⟨xs.length, Sw.root (xs.map Sw.entLeaf), Sw.ownRoot rows⟩ := by simp [Sw.hedOf, h]
theorem iHedOf_c (A : Option Addr) (c n : Nat) (xs : List Sw.Ent) (w : World) (hxs : RE w 0 A c n xs) : Calls Try.prog 115 #[.slice A n c] w fun E w' => E = .returned (.tuple #[.agg #[.int .i64 ((Sw.hedOf xs).getD Sw.headZ).size, .int .i64 ((Sw.hedOf xs).getD Sw.headZ).log, .int .i64 ((Sw.hedOf xs).getD Sw.headZ).own], .bool (Sw.hedOf xs).isSome]) ∧ Ex w w' := by
  have hl := Lib.hid hxs.1
  cases hf : Sw.ownFold xs with
  | none =>
    have hs : (Sw.ownFold xs).isSome = false := by simp [hf]
    have HH := Lib.hid (hedOf_n hf); clear hf
    go_enter Try.func115, Try.ntmps115
    go_wp2_with (first | (go_at_call 146; apply Calls.mono; apply iOwnFold_c; ((first | (apply Rs.at0; assumption) | (apply Ow.rs0; assumption)); with_reducible repeat (first | exact kR _ _ | apply kA | apply kD | apply kN | (refine kS ?_ (by first | omega | (simp only [zA, zC, zD]; omega))) | (apply kE; assumption) | (refine kC (by assumption) ?_ (by first | omega | (simp only [zA, zC, zD]; omega))))); rintro E w1 ⟨A', c', n', rfl, hr, hb⟩; have hst := xr hb; (try simp only [zA, zC, zD] at hst); obtain ⟨hc, hf, hz⟩ := hst))
    refine bodyPost_ret (v := .tuple #[.agg #[.int .i64 0, .int .i64 0, .int .i64 0], .bool false]) (by simp [results, Try.results115, go_sem, *]) rfl ?_
    exact ⟨by rw [HH.out]; rfl, (by (with_reducible repeat (first | exact cR _ _ | apply cA | apply cD | apply cN | (refine cS ?_ (Or.inr (by first | omega | (simp only [zA, zC, zD]; omega))) _) | (apply cE; assumption) | (apply cK; assumption) | (refine cG (by assumption) ?_ (by first | omega | (simp only [zA, zC, zD]; omega))))))⟩
  | some rows =>
    have hn : n ≤ 40 := by have := hl.out; have := (Sw.ownFold_some.1 hf).1; omega
    have hs : (Sw.ownFold xs).isSome = true := by simp [hf]
    have hg : (Sw.ownFold xs).getD [] = rows := by simp [hf]
    have HT := Lib.hid (treRoot_ent (Sw.ownFold_some.1 hf).1)
    have HH := Lib.hid (hedOf_y hf); have HG := Lib.hid hg; clear hf hg
    go_enter Try.func115, Try.ntmps115
    go_wp2_with (first | (go_at_call 146; apply Calls.mono; apply iOwnFold_c; (first | assumption | ((first | (apply Rs.at0; assumption) | (apply Ow.rs0; assumption)); with_reducible repeat (first | exact kR _ _ | apply kA | apply kD | apply kN | (refine kS ?_ (by first | omega | (simp only [zA, zC, zD]; omega))) | (apply kE; assumption) | (refine kC (by assumption) ?_ (by first | omega | (simp only [zA, zC, zD]; omega))))) | omega); rintro E w1 ⟨A1, c1, n1, rfl, ho1, hb⟩; rw [HG.out] at ho1; have hst := xr hb; (try simp only [zA, zC, zD] at hst); obtain ⟨hc, hf, hz⟩ := hst) | (go_at_call 182; apply Calls.mono; apply iEntLeaves_c; ((first | (apply Rs.at0; assumption) | (apply Ow.rs0; assumption)); with_reducible repeat (first | exact kR _ _ | apply kA | apply kD | apply kN | (refine kS ?_ (by first | omega | (simp only [zA, zC, zD]; omega))) | (apply kE; assumption) | (refine kC (by assumption) ?_ (by first | omega | (simp only [zA, zC, zD]; omega))))); (first | assumption | omega); rintro E w1 ⟨A', c', rfl, ho2, hb⟩; have hst := xr hb; (try simp only [zA, zC, zD] at hst); obtain ⟨hc, hf, hz⟩ := hst) | (go_at_call 181; apply Calls.mono; apply iTreRoot_c; ((first | (apply Rs.at0; assumption) | (apply Ow.rs0; assumption)); with_reducible repeat (first | exact kR _ _ | apply kA | apply kD | apply kN | (refine kS ?_ (by first | omega | (simp only [zA, zC, zD]; omega))) | (apply kE; assumption) | (refine kC (by assumption) ?_ (by first | omega | (simp only [zA, zC, zD]; omega))))); rintro E w1 ⟨rfl, hb⟩; have hst := xr hb; (try simp only [zA, zC, zD] at hst); obtain ⟨hc, hf, hz⟩ := hst) | (go_at_call 183; apply Calls.mono; apply iOwnRoot_c; ((first | (apply Rs.at0; assumption) | (apply Ow.rs0; assumption)); with_reducible repeat (first | exact kR _ _ | apply kA | apply kD | apply kN | (refine kS ?_ (by first | omega | (simp only [zA, zC, zD]; omega))) | (apply kE; assumption) | (refine kC (by assumption) ?_ (by first | omega | (simp only [zA, zC, zD]; omega))))); rintro E w1 ⟨rfl, hb⟩; have hst := xr hb; (try simp only [zA, zC, zD] at hst); obtain ⟨hc, hf, hz⟩ := hst))
    all_goals (try (refine wp_name ?_; intro W0 hb0; have hst := xr hb0; (try simp only [zA, zC, zD] at hst); obtain ⟨hc0, hf0, hz0⟩ := hst; have hLb : Lb W0 (w.heap.size) 3 := Lb.ex (by (repeat (first | with_reducible assumption | with_reducible exact Lb.new (by first | rfl | (simp only [zA, zC, zD]; done)) (by with_unfolding_all rfl) | with_reducible apply Lb.alloc | with_reducible apply Lb.set | with_reducible apply Lb.drew | (with_reducible refine Lb.ex ?_ (by assumption))))) hb0; go_region_held3 (fun w' => HeldB (w.heap.size) 3 W0 w') ((first | with_reducible assumption | with_reducible exact HeldB.start hLb | with_reducible exact HeldB.of (by assumption) (by assumption) | ((repeat (first | with_reducible refine HeldB.set ?_ (by first | exact Or.inl rfl | exact Or.inr (by simp only [zA, zC, zD]; omega) | exact Or.inr (by omega)) | with_reducible refine HeldB.alloc ?_ _ | with_reducible refine HeldB.drew ?_)); (first | with_reducible assumption | with_reducible exact HeldB.refl hLb | with_reducible exact HeldB.of (by assumption) (by assumption) | with_reducible exact HeldB.ex (by assumption) (by assumption))))) ((first | (go_at_call 182; apply Calls.mono; apply iEntLeaves_c; ((first | (apply Rs.at0; assumption) | (apply Ow.rs0; assumption)); with_reducible repeat (first | exact kR _ _ | apply kA | apply kD | apply kN | (refine kS ?_ (by first | omega | (simp only [zA, zC, zD]; omega))) | (apply kE; assumption) | (refine kC (by assumption) ?_ (by first | omega | (simp only [zA, zC, zD]; omega))))); (first | assumption | omega); rintro E w1 ⟨A', c', rfl, ho2, hb⟩; have hst := xr hb; (try simp only [zA, zC, zD] at hst); obtain ⟨hc, hf, hz⟩ := hst) | (go_at_call 181; apply Calls.mono; apply iTreRoot_c; ((first | (apply Rs.at0; assumption) | (apply Ow.rs0; assumption)); with_reducible repeat (first | exact kR _ _ | apply kA | apply kD | apply kN | (refine kS ?_ (by first | omega | (simp only [zA, zC, zD]; omega))) | (apply kE; assumption) | (refine kC (by assumption) ?_ (by first | omega | (simp only [zA, zC, zD]; omega))))); rintro E w1 ⟨rfl, hb⟩; have hst := xr hb; (try simp only [zA, zC, zD] at hst); obtain ⟨hc, hf, hz⟩ := hst) | (go_at_call 183; apply Calls.mono; apply iOwnRoot_c; ((first | (apply Rs.at0; assumption) | (apply Ow.rs0; assumption)); with_reducible repeat (first | exact kR _ _ | apply kA | apply kD | apply kN | (refine kS ?_ (by first | omega | (simp only [zA, zC, zD]; omega))) | (apply kE; assumption) | (refine kC (by assumption) ?_ (by first | omega | (simp only [zA, zC, zD]; omega))))); rintro E w1 ⟨rfl, hb⟩; have hst := xr hb; (try simp only [zA, zC, zD] at hst); obtain ⟨hc, hf, hz⟩ := hst))); all_goals (rename HeldB (w.heap.size) 3 W0 _ => hHx; have hb := HeldB.ch hHx; have hst := xc hb; (try simp only [zA, zC, zD] at hst); obtain ⟨hc, hf, hz⟩ := hst; have hLb3 := HeldB.lb hHx; (repeat (replace hLb3 := Lb.unset hLb3)); obtain ⟨hcb, hfb⟩ := Lb.rules hLb3; clear hHx)))
    all_goals (try go_wp2)
    refine bodyPost_ret (v := .tuple #[.agg #[.int .i64 n, .int .i64 (Sw.treRoot (xs.map Sw.entLeaf)), .int .i64 (Sw.ownRoot rows)], .bool true]) (by simp [results, Try.results115, go_sem, *]) rfl ?_
    exact ⟨by rw [HH.out, ← hl.out, HT.out]; rfl, (by (with_reducible repeat (first | exact cR _ _ | apply cA | apply cD | apply cN | (refine cS ?_ (Or.inr (by first | omega | (simp only [zA, zC, zD]; omega))) _) | (apply cE; assumption) | (apply cK; assumption) | (refine cG (by assumption) ?_ (by first | omega | (simp only [zA, zC, zD]; omega))))))⟩
theorem iHedFork_c (a b : Sw.Head) (w : World) : Calls Try.prog 30 #[.agg #[.int .i64 a.size, .int .i64 a.log, .int .i64 a.own], .agg #[.int .i64 b.size, .int .i64 b.log, .int .i64 b.own]] w fun E w' => E = .returned (.bool (Sw.hedFork a b)) ∧ Ex w w' := by
  have e : Sw.hedFork a b = (Sw.hedOk a && Sw.hedOk b && decide (a.size = b.size) && !decide (a.size = b.size ∧ a.log = b.log ∧ a.own = b.own)) := by
    unfold Sw.hedFork; rw [show decide (a ≠ b) = !decide (a = b) from decide_not ..]; simp only [head_ext]
  rw [e]; clear e
  go_enter Try.func30, Try.ntmps30
  go_wp2_with (first | (go_at_call 92; refine (iHedOk_c _ _).mono ?_; rintro E w1 ⟨rfl, hb⟩; have hst := xr hb; (try simp only [zA, zC, zD] at hst); obtain ⟨hc, hf, hz⟩ := hst))
  all_goals (go_ret; refine ⟨ret_b ?_, (by (with_reducible repeat (first | exact cR _ _ | apply cA | apply cD | apply cN | (refine cS ?_ (Or.inr (by first | omega | (simp only [zA, zC, zD]; omega))) _) | (apply cE; assumption) | (apply cK; assumption) | (refine cG (by assumption) ?_ (by first | omega | (simp only [zA, zC, zD]; omega))))))⟩; go_tidy)
  all_goals (first | (simp [*]; done) | (simp_all; done))
theorem sHedFork_c (a b : Sw.Head) (w : World) : Calls Try.prog 99 #[.agg #[.int .i64 a.size, .int .i64 a.log, .int .i64 a.own], .agg #[.int .i64 b.size, .int .i64 b.log, .int .i64 b.own]] w fun E w' => E = .returned (.bool (Sw.hedFork a b)) ∧ Ex w w' := by
  have e : Sw.hedFork a b = (Sw.hedOk a && Sw.hedOk b && decide (a.size = b.size) && !decide (a.size = b.size ∧ a.log = b.log ∧ a.own = b.own)) := by
    unfold Sw.hedFork; rw [show decide (a ≠ b) = !decide (a = b) from decide_not ..]; simp only [head_ext]
  rw [e]; clear e
  go_enter Try.func99, Try.ntmps99
  go_wp2_with (first | (go_at_call 93; refine (sHedOk_c _ _).mono ?_; rintro E w1 ⟨rfl, hb⟩; have hst := xr hb; (try simp only [zA, zC, zD] at hst); obtain ⟨hc, hf, hz⟩ := hst))
  all_goals (go_ret; refine ⟨ret_b ?_, (by (with_reducible repeat (first | exact cR _ _ | apply cA | apply cD | apply cN | (refine cS ?_ (Or.inr (by first | omega | (simp only [zA, zC, zD]; omega))) _) | (apply cE; assumption) | (apply cK; assumption) | (refine cG (by assumption) ?_ (by first | omega | (simp only [zA, zC, zD]; omega))))))⟩; go_tidy)
  all_goals (first | (simp [*]; done) | (simp_all; done))
theorem iGatNew_c (w : World) : Calls Try.prog 39 #[] w fun E w' => E = .returned (.agg #[.int .i64 ((Sw.hedOf []).getD Sw.headZ).size, .int .i64 ((Sw.hedOf []).getD Sw.headZ).log, .int .i64 ((Sw.hedOf []).getD Sw.headZ).own, .slice none 0 0]) ∧ Ex w w' := by
  go_enter Try.func39, Try.ntmps39
  go_wp2_with (first | (go_at_call 115; apply Calls.mono; apply (iHedOf_c (xs := [])); exact (Ow.nil (enc := Sw.Ent.enc) (sz := 4) (e := 165) _ 0).rs; rintro E w1 ⟨rfl, hb⟩; have hst := xr hb; (try simp only [zA, zC, zD] at hst); obtain ⟨hc, hf, hz⟩ := hst))
  refine bodyPost_ret (v := .agg #[.int .i64 ((Sw.hedOf []).getD Sw.headZ).size, .int .i64 ((Sw.hedOf []).getD Sw.headZ).log, .int .i64 ((Sw.hedOf []).getD Sw.headZ).own, .slice none 0 0]) (by simp [results, Try.results39, go_sem, *]) rfl ?_
  exact ⟨rfl, (by (with_reducible repeat (first | exact cR _ _ | apply cA | apply cD | apply cN | (refine cS ?_ (Or.inr (by first | omega | (simp only [zA, zC, zD]; omega))) _) | (apply cE; assumption) | (apply cK; assumption) | (refine cG (by assumption) ?_ (by first | omega | (simp only [zA, zC, zD]; omega))))))⟩

/-! ### the first one of which something holds -/
def hitAt {α : Type} (p : α → Bool) (xs : List α) : Int := match xs.findIdx? p with
  | some i => i
  | none => -1
theorem hitAt_iff {α : Type} (p : α → Bool) (xs : List α) : decide (0 ≤ hitAt p xs) = xs.any p := by
  unfold hitAt
  cases h : xs.findIdx? p with
  | none =>
    rw [List.findIdx?_eq_none_iff] at h
    rw [show xs.any p = false from List.any_eq_false.2 fun x hx => by simp [h x hx]]; rfl
  | some i =>
    rw [List.findIdx?_eq_some_iff_getElem] at h
    obtain ⟨h1, h2, _⟩ := h
    rw [show xs.any p = true from List.any_eq_true.2 ⟨xs[i], List.getElem_mem h1, h2⟩]
    simp
theorem hitAt_here {α : Type} {p : α → Bool} {xs : List α} {k : Nat} {y : α} (hy : xs[k]? = some y) (h : ∀ j, j < k → ∀ z, xs[j]? = some z → p z = false) (hm : p y = true) : hitAt p xs = k := by
  unfold hitAt
  obtain ⟨hk, rfl⟩ := List.getElem?_eq_some_iff.1 hy
  have : xs.findIdx? p = some k := by
    rw [List.findIdx?_eq_some_iff_getElem]
    exact ⟨hk, hm, fun j hj => by simp [h j hj xs[j] (by simp)]⟩
  rw [this]
theorem hitAt_none {α : Type} {p : α → Bool} {xs : List α} {k : Nat} (hk : xs.length ≤ k) (h : ∀ j, j < k → ∀ z, xs[j]? = some z → p z = false) : hitAt p xs = -1 := by
  unfold hitAt
  have : xs.findIdx? p = none := by
    rw [List.findIdx?_eq_none_iff]
    intro x hx
    obtain ⟨i, hi, rfl⟩ := List.getElem_of_mem hx
    exact h i (by omega) xs[i] (by simp)
  rw [this]
theorem notHit_step {α : Type} {p : α → Bool} {xs : List α} {k : Nat} {y : α} (hy : xs[k]? = some y) (h : ∀ j, j < k → ∀ z, xs[j]? = some z → p z = false) (hm : p y = false) : ∀ j, j < k + 1 → ∀ z, xs[j]? = some z → p z = false := by
  intro j hj z hz
  rcases Nat.lt_succ_iff_lt_or_eq.1 hj with hj' | rfl
  · exact h j hj' z hz
  · rw [hy] at hz; cases hz; exact hm

def monBad (n : Int) : Bool := !Sw.inR n 0 100000
theorem iMonBad_c (x : Int) (w : World) : Calls Try.prog 175 #[.int .i64 x] w fun E w' => E = .returned (.bool (monBad x)) ∧ w = w' := by
  go_enter Try.func175, Try.ntmps175
  go_wp2_with (first | (go_at_call 113; refine (in_c _ _ _ _).mono ?_; rintro E w' ⟨rfl, rfl⟩))
  go_ret
  exact ⟨ret_b rfl, rfl⟩
theorem iMonBadAt_c (A : Option Addr) (c n : Nat) (xs : List Int) (w : World) (hxs : RI w 0 A c n xs) : Calls Try.prog 214 #[.slice A n c, .func (.func 175) #[] #[]] w fun E w' => E = .returned (.int .i64 (hitAt monBad xs)) ∧ Ex w w' := by

  have hl := Lib.hid hxs.1
  have hbig := Rs.big hxs
  go_enter Try.func214, Try.ntmps214
  go_wp2_with fail
  go_loopw [8] (fun i wr => ∃ k : Nat, k ≤ n ∧ i = .int .i64 k ∧ Ex w wr ∧ ∀ j, j < k → ∀ z, xs[j]? = some z → monBad z = false) (fun i _ => n - (intOf i).toNat)
  case atStart => exact ⟨0, Nat.zero_le _, rfl, (by (with_reducible repeat (first | exact cR _ _ | apply cA | apply cD | apply cN | (refine cS ?_ (Or.inr (by first | omega | (simp only [zA, zC, zD]; omega))) _) | (apply cE; assumption) | (apply cK; assumption) | (refine cG (by assumption) ?_ (by first | omega | (simp only [zA, zC, zD]; omega)))))), by omega⟩
  case round =>
    obtain ⟨k, hk, rfl, hb2, hrel⟩ := hrel
    have Hrel := Lib.hid hrel; clear hrel
    have hst := xr hb2
    (try simp only [zA, zC, zD] at hst)
    obtain ⟨hc2, hf2, hz2⟩ := hst
    by_cases hlt : k < n
    · obtain ⟨g, off, y, rfl, hg0, hg, hd, hy, hca0⟩ := at_I hxs hlt
      have Hy := Lib.hid hy; clear hd hy
      cases hmx : monBad y
      case true =>
        go_wp2_with (first | (go_at_call 175; refine (iMonBad_c _ _).mono ?_; rintro E w' ⟨rfl, rfl⟩))
        go_ret
        exact ⟨ret_i (hitAt_here Hy.out Hrel.out hmx).symm, (by (with_reducible repeat (first | exact cR _ _ | apply cA | apply cD | apply cN | (refine cS ?_ (Or.inr (by first | omega | (simp only [zA, zC, zD]; omega))) _) | (apply cE; assumption) | (apply cK; assumption) | (refine cG (by assumption) ?_ (by first | omega | (simp only [zA, zC, zD]; omega))))))⟩
      case false =>
        go_wp2_with (first | (go_at_call 175; refine (iMonBad_c _ _).mono ?_; rintro E w' ⟨rfl, rfl⟩))
        go_roundw
        case rel => exact ⟨k + 1, by omega, by go_num, (by (with_reducible repeat (first | exact cR _ _ | apply cA | apply cD | apply cN | (refine cS ?_ (Or.inr (by first | omega | (simp only [zA, zC, zD]; omega))) _) | (apply cE; assumption) | (apply cK; assumption) | (refine cG (by assumption) ?_ (by first | omega | (simp only [zA, zC, zD]; omega)))))), notHit_step Hy.out Hrel.out hmx⟩
        case measure => simp [intOf]; omega
    · go_wp2_with fail
      go_ret
      exact ⟨ret_i (hitAt_none (by have := hl.out; omega) Hrel.out).symm, (by (with_reducible repeat (first | exact cR _ _ | apply cA | apply cD | apply cN | (refine cS ?_ (Or.inr (by first | omega | (simp only [zA, zC, zD]; omega))) _) | (apply cE; assumption) | (apply cK; assumption) | (refine cG (by assumption) ?_ (by first | omega | (simp only [zA, zC, zD]; omega))))))⟩

theorem iMonHasBad_c (A : Option Addr) (c n : Nat) (xs : List Int) (w : World) (hxs : RI w 0 A c n xs) : Calls Try.prog 174 #[.slice A n c, .func (.func 175) #[] #[]] w fun E w' => E = .returned (.bool (xs.any monBad)) ∧ Ex w w' := by
  have Hb := Lib.hid (hitAt_iff monBad xs)
  go_enter Try.func174, Try.ntmps174
  go_wp2_with (first | (go_at_call 214; apply Calls.mono; apply iMonBadAt_c; ((first | (apply Rs.at0; assumption) | (apply Ow.rs0; assumption)); with_reducible repeat (first | exact kR _ _ | apply kA | apply kD | apply kN | (refine kS ?_ (by first | omega | (simp only [zA, zC, zD]; omega))) | (apply kE; assumption) | (refine kC (by assumption) ?_ (by first | omega | (simp only [zA, zC, zD]; omega))))); rintro E w1 ⟨rfl, hb⟩; have hst := xr hb; (try simp only [zA, zC, zD] at hst); obtain ⟨hc, hf, hz⟩ := hst))
  go_ret
  exact ⟨ret_b Hb.out, (by (with_reducible repeat (first | exact cR _ _ | apply cA | apply cD | apply cN | (refine cS ?_ (Or.inr (by first | omega | (simp only [zA, zC, zD]; omega))) _) | (apply cE; assumption) | (apply cK; assumption) | (refine cG (by assumption) ?_ (by first | omega | (simp only [zA, zC, zD]; omega))))))⟩
theorem any_not {α : Type} (p : α → Bool) (xs : List α) : (!xs.any (fun x => !p x)) = xs.all p := by
  rw [List.all_eq_not_any_not]
theorem iMonOk_c (A : Option Addr) (c n : Nat) (xs : List Int) (w : World) (hxs : RI w 0 A c n xs) : Calls Try.prog 105 #[.slice A n c] w fun E w' => E = .returned (.bool (Sw.monOk xs)) ∧ Ex w w' := by
  have hl := Lib.hid hxs.1
  have hbig := Rs.big hxs
  have e : Sw.monOk xs = (decide (n = 5) && !xs.any monBad) := by
    rw [Sw.monOk, ← hl.out, ← any_not]; rfl
  have He := Lib.hid e; clear e
  by_cases hn : n = 5
  · subst hn
    go_enter Try.func105, Try.ntmps105
    go_wp2_with (first | (go_at_call 174; apply Calls.mono; apply iMonHasBad_c; ((first | (apply Rs.at0; assumption) | (apply Ow.rs0; assumption)); with_reducible repeat (first | exact kR _ _ | apply kA | apply kD | apply kN | (refine kS ?_ (by first | omega | (simp only [zA, zC, zD]; omega))) | (apply kE; assumption) | (refine kC (by assumption) ?_ (by first | omega | (simp only [zA, zC, zD]; omega))))); rintro E w1 ⟨rfl, hb⟩; have hst := xr hb; (try simp only [zA, zC, zD] at hst); obtain ⟨hc, hf, hz⟩ := hst))
    go_ret
    exact ⟨ret_b (by rw [He.out]; simp), (by (with_reducible repeat (first | exact cR _ _ | apply cA | apply cD | apply cN | (refine cS ?_ (Or.inr (by first | omega | (simp only [zA, zC, zD]; omega))) _) | (apply cE; assumption) | (apply cK; assumption) | (refine cG (by assumption) ?_ (by first | omega | (simp only [zA, zC, zD]; omega))))))⟩
  · have hb : ((n : Int) == 5) = false := by simp; omega
    go_enter Try.func105, Try.ntmps105
    go_wp2_with (first | (go_at_call 174; apply Calls.mono; apply iMonHasBad_c; ((first | (apply Rs.at0; assumption) | (apply Ow.rs0; assumption)); with_reducible repeat (first | exact kR _ _ | apply kA | apply kD | apply kN | (refine kS ?_ (by first | omega | (simp only [zA, zC, zD]; omega))) | (apply kE; assumption) | (refine kC (by assumption) ?_ (by first | omega | (simp only [zA, zC, zD]; omega))))); rintro E w1 ⟨rfl, hb⟩; have hst := xr hb; (try simp only [zA, zC, zD] at hst); obtain ⟨hc, hf, hz⟩ := hst))
    go_ret
    exact ⟨ret_b (by rw [He.out]; simp [hn]), (by (with_reducible repeat (first | exact cR _ _ | apply cA | apply cD | apply cN | (refine cS ?_ (Or.inr (by first | omega | (simp only [zA, zC, zD]; omega))) _) | (apply cE; assumption) | (apply cK; assumption) | (refine cG (by assumption) ?_ (by first | omega | (simp only [zA, zC, zD]; omega))))))⟩
end Go.Proofs.Ytncoiknpkebgoaa
