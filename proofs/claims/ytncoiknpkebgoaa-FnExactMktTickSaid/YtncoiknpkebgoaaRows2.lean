/-
  Walks: rows behind entries.
-/
import Derived.Test.YtncoiknpkebgoaaRowsW
namespace Go.Proofs.Ytncoiknpkebgoaa
set_option maxRecDepth 100000
set_option linter.unusedSimpArgs false
set_option linter.unusedVariables false
open Go.RowKit Go
set_option maxHeartbeats 400000

theorem at_OR {w : World} {lo c n k : Nat} {A : Option Addr} {xs : List Sw.Row} (h : OwR w lo A c n xs) (hk : k < n) :
    ∃ g x, A = some ⟨g, 0, none⟩ ∧ lo ≤ g ∧ g < w.heap.size ∧ xs[k]? = some x ∧ w.cell? ⟨g, k * 3, none⟩ = some (.int .i64 x.who) ∧ w.cell? ⟨g, k * 3 + 1, none⟩ = some (.int .i64 x.face) ∧
      w.cell? ⟨g, k * 3 + 2, none⟩ = some (.bool x.used) ∧ (∀ i, w.frozen? ⟨g, i, none⟩ = false) := by
  obtain ⟨g, x, h1, h2, h3, h4, h5, h6⟩ := Ow.at_ h (fun _ => rfl) hk
  exact ⟨g, x, h1, h2, h3, h4, by simpa using h5 0 _ (by omega) rfl, h5 1 _ (by omega) rfl, h5 2 _ (by omega) rfl, h6⟩

theorem sNew_c (w : World) : Calls Try.prog 161 #[] w fun E w' => ∃ A, E = .returned (.slice A 8 8) ∧ OwR w' w.heap.size A 8 8 Sw.rows0 ∧ Ex w w' := by
  have hmk : ∀ w, (Instr.makeSlice 159 (.int .i64 8) (.int .i64 8)).run Try.prog w = .ok (.slice (some ⟨w.heap.size, 0, none⟩) 8 8) (w.alloc (.cells (Sw.rows0.flatMap Sw.Row.enc).toArray 93)) := fun _ => by kernel_rfl
  go_enter Try.func161, Try.ntmps161
  go_wp2
  go_ret
  exact ⟨_, rfl, Ow.new _ rfl rfl rfl (fun _ => rfl) (Nat.le_refl _) (by omega), (by (with_reducible repeat (first | exact cR _ _ | apply cA | apply cD | apply cN | (refine cS ?_ (Or.inr (by first | omega | (simp only [zA, zC, zD]; omega))) _) | (apply cE; assumption) | (apply cK; assumption) | (refine cG (by assumption) ?_ (by first | omega | (simp only [zA, zC, zD]; omega))))))⟩

theorem OR_set0 {w : World} {lo c n k g : Nat} {A : Option Addr} {xs : List Sw.Row} (h : OwR w lo A c n xs) (hA : A = some ⟨g, 0, none⟩) {a b : Int} {u : Bool} (hx : xs[k]? = some ⟨a, b, u⟩) (v : Int) :
    OwR (w.setCell ⟨g, k * 3, none⟩ (.int .i64 v)) lo A c n (xs.set k ⟨v, b, u⟩) := by
  have := Ow.set h (fun _ => rfl) (j := 0) (u := .int .i64 v) hA hx (by omega) (y := ⟨v, b, u⟩) rfl
  simpa using this
theorem OR_set1 {w : World} {lo c n k g : Nat} {A : Option Addr} {xs : List Sw.Row} (h : OwR w lo A c n xs) (hA : A = some ⟨g, 0, none⟩) {a b : Int} {u : Bool} (hx : xs[k]? = some ⟨a, b, u⟩) (v : Int) :
    OwR (w.setCell ⟨g, k * 3 + 1, none⟩ (.int .i64 v)) lo A c n (xs.set k ⟨a, v, u⟩) :=
  Ow.set h (fun _ => rfl) (j := 1) (u := .int .i64 v) hA hx (by omega) (y := ⟨a, v, u⟩) rfl
theorem OR_set2 {w : World} {lo c n k g : Nat} {A : Option Addr} {xs : List Sw.Row} (h : OwR w lo A c n xs) (hA : A = some ⟨g, 0, none⟩) {a b : Int} {u : Bool} (hx : xs[k]? = some ⟨a, b, u⟩) (v : Bool) :
    OwR (w.setCell ⟨g, k * 3 + 2, none⟩ (.bool v)) lo A c n (xs.set k ⟨a, b, v⟩) :=
  Ow.set h (fun _ => rfl) (j := 2) (u := .bool v) hA hx (by omega) (y := ⟨a, b, v⟩) rfl
theorem set_at {α : Type} {xs : List α} {k : Nat} {x y : α} (h : xs[k]? = some x) : (xs.set k y)[k]? = some y := by
  have hk := (List.getElem?_eq_some_iff.1 h).1
  simp [hk]
theorem fits_facts {xs : List Sw.Row} {e : Sw.Ent} (h : Sw.ownFits xs e = true) : xs.length = 8 ∧ 0 ≤ e.ticket ∧ e.ticket < 8 ∧ (e.kind = 1 ∨ e.kind = 2 ∨ e.kind = 3) := by
  simp only [Sw.ownFits, Bool.and_eq_true, Sw.ownOk, Sw.entOk, Sw.inR, decide_eq_true_eq] at h
  obtain ⟨⟨⟨_, h1⟩, ⟨⟨h2, h3⟩, h4, h5⟩, h6⟩, h7⟩ := h
  refine ⟨h1, h2, by omega, ?_⟩
  split at h6
  · exact .inl ‹_›
  · split at h6
    · exact .inr (.inl ‹_›)
    · simp at h6; exact .inr (.inr h6.1)
/-- A ticket that is issued has not been used. -/
theorem fits_fresh {xs : List Sw.Row} {e : Sw.Ent} {t : Nat} {a b : Int} {u : Bool} (h : Sw.ownFits xs e = true) (hk : e.kind = 1) (ht : e.ticket = t) (hx : xs[t]? = some ⟨a, b, u⟩) : u = false := by
  simp only [Sw.ownFits, Bool.and_eq_true, Sw.ownOk, Sw.fitsRow, hk, Sw.rowAt, ht, Int.toNat_natCast, List.getD_eq_getElem?_getD, hx, Option.getD_some, if_true, decide_eq_true_eq] at h
  obtain ⟨⟨⟨h1, _⟩, _⟩, h2⟩ := h
  have := List.all_eq_true.1 h1 _ (List.mem_of_getElem? hx)
  simp [Sw.rowOk, Sw.inR] at this
  rcases this with h | h
  · exact h.2
  · omega
theorem put_eq {xs : List Sw.Row} {e : Sw.Ent} {t : Nat} {x : Sw.Row} (h : Sw.ownFits xs e = true) (ht : e.ticket = t) (hx : xs[t]? = some x) : Sw.ownPut xs e = xs.set t (Sw.putRow x e) := by
  simp [Sw.ownPut, h, Sw.putRows, Sw.rowAt, ht, hx]

theorem sOwnPut_c (A : Option Addr) (c n : Nat) (xs : List Sw.Row) (e : Sw.Ent) (w : World) (hxs : RR w 0 A c n xs) (hn : n ≤ 4194304) : Calls Try.prog 163 #[.slice A n c, .agg #[.int .i64 e.kind, .int .i64 e.ticket, .int .i64 e.who, .int .i64 e.price]] w fun E w' => ∃ A' c', E = .returned (.tuple #[.slice A' n c', .bool (Sw.ownFits xs e)]) ∧ OwR w' w.heap.size A' c' n (Sw.ownPut xs e) ∧ Ex w w' := by
  by_cases hfit : Sw.ownFits xs e = true
  · have hl := Lib.hid hxs.1
    obtain ⟨h8, t0, t1, hk⟩ := fits_facts hfit
    obtain ⟨t, ht⟩ := Int.eq_ofNat_of_zero_le t0
    have e0 : e.ticket.toNat = t := by omega
    have Ht := Lib.hid ht
    have htn : t < n := by have := hl.out; omega
    have hn8 : n = 8 := by have := hl.out; omega
    subst hn8
    have Hk := Lib.hid hk
    have H8 := Lib.hid h8
    clear ht hk h8
    have key : ∀ (b1 b2 : Bool), (e.kind == 1) = b1 → (e.kind == 2) = b2 → Calls Try.prog 163 #[.slice A 8 c, .agg #[.int .i64 e.kind, .int .i64 e.ticket, .int .i64 e.who, .int .i64 e.price]] w fun E w' => ∃ A' c', E = .returned (.tuple #[.slice A' 8 c', .bool (Sw.ownFits xs e)]) ∧ OwR w' w.heap.size A' c' 8 (Sw.ownPut xs e) ∧ Ex w w' := by
      intro b1 b2 hb1 hb2
      go_enter Try.func163, Try.ntmps163
      go_wp2_with (first | (at_builtin; apply wpList_app (lo := w.heap.size + 1) el_R one_R rfl rfl rfl rfl; (first | assumption | exact Ow.nil _ _ | (apply Ow.keep; assumption; with_reducible repeat (first | exact kR _ _ | apply kA | apply kD | apply kN | (refine kS ?_ (by first | omega | (simp only [zA, zC, zD]; omega))) | (apply kE; assumption) | (refine kC (by assumption) ?_ (by first | omega | (simp only [zA, zC, zD]; omega))))) | (refine Ow.new [] (by (first | rfl | (simp only [zA, zC, zD]; done) | omega)) rfl rfl (fun _ => rfl) (by (first | omega | (simp only [zA, zC, zD]; omega) | (simp only [zA, zC, zD] at *; omega))) (by omega))); (first | ((first | (apply Rs.at0; assumption) | (apply Ow.rs0; assumption)); with_reducible repeat (first | exact kR _ _ | apply kA | apply kD | apply kN | (refine kS ?_ (by first | omega | (simp only [zA, zC, zD]; omega))) | (apply kE; assumption) | (refine kC (by assumption) ?_ (by first | omega | (simp only [zA, zC, zD]; omega)))))); omega; (first | omega | (simp only [zA, zC, zD]; omega) | (simp only [zA, zC, zD] at *; omega)); intro A1 c1 w2 ho1 hch1 hat1 hex1 hlow1; have hb := hex1 (fun _ => False) w (by (with_reducible repeat (first | exact cR _ _ | apply cA | apply cD | apply cN | (refine cS ?_ (Or.inr (by first | omega | (simp only [zA, zC, zD]; omega))) _) | (apply cE; assumption) | (apply cK; assumption) | (refine cG (by assumption) ?_ (by first | omega | (simp only [zA, zC, zD]; omega)))))) (by omega); have hz := hch1.size; (try simp only [zA, zC, zD] at hz); obtain ⟨hc, hf⟩ := low_rules hlow1; clear hlow1 hex1))
      simp only [Nat.zero_add, List.nil_append] at ho1
      apply Calls.mono; apply sOwnFits_c; (first | assumption | ((first | (apply Rs.at0; assumption) | (apply Ow.rs0; assumption)); with_reducible repeat (first | exact kR _ _ | apply kA | apply kD | apply kN | (refine kS ?_ (by first | omega | (simp only [zA, zC, zD]; omega))) | (apply kE; assumption) | (refine kC (by assumption) ?_ (by first | omega | (simp only [zA, zC, zD]; omega))))) | omega); rintro E w3 ⟨rfl, hb3⟩; have hst := Ex.rules hb3 rfl; obtain ⟨hc3, hf3, hz3⟩ := hst
      have ho3 := Ow.keep ho1 (KF.ex hb3 (KF.refl _ _))
      obtain ⟨g, x, hA, hlo, hlt, hx, c0, c1, c2, hfz⟩ := at_OR ho3 htn
      obtain ⟨ya, yb, yu⟩ := x
      have Hx := Lib.hid hx
      have hlo' : w.heap.size ≤ g := by omega
      clear hx
      subst hA
      dsimp only at c0 c1 c2
      cases b1 with
      | true =>
        go_wp2_with fail
        go_ret2
        refine ⟨_, _, by rw [hfit]; rfl, ?_, (by (with_reducible repeat (first | exact cR _ _ | apply cA | apply cD | apply cN | (refine cS ?_ (Or.inr (by first | omega | (simp only [zA, zC, zD]; omega))) _) | (apply cE; assumption) | (apply cK; assumption) | (refine cG (by assumption) ?_ (by first | omega | (simp only [zA, zC, zD]; omega))))))⟩
        have k1 : e.kind = 1 := by simpa using hb1
        rw [put_eq hfit Ht.out Hx.out]
        have hu := fits_fresh hfit k1 Ht.out Hx.out
        subst hu
        have r := OR_set2 (OR_set1 (OR_set0 ho3 rfl Hx.out e.who) rfl (set_at Hx.out) e.price) rfl (set_at (set_at Hx.out)) false
        simp only [List.set_set] at r
        simp only [Sw.putRow, k1, if_true]
        exact r.less (by omega)
      | false =>
        have k1 : ¬ e.kind = 1 := by simpa using hb1
        cases b2 with
        | true =>
          go_wp2_with fail
          go_ret2
          refine ⟨_, _, by rw [hfit]; rfl, ?_, (by (with_reducible repeat (first | exact cR _ _ | apply cA | apply cD | apply cN | (refine cS ?_ (Or.inr (by first | omega | (simp only [zA, zC, zD]; omega))) _) | (apply cE; assumption) | (apply cK; assumption) | (refine cG (by assumption) ?_ (by first | omega | (simp only [zA, zC, zD]; omega))))))⟩
          have k2 : e.kind = 2 := by simpa using hb2
          rw [put_eq hfit Ht.out Hx.out]
          have r := OR_set0 ho3 rfl Hx.out e.who
          simp only [Sw.putRow, if_neg k1, k2, if_true]
          exact r.less (by omega)
        | false =>
          go_wp2_with fail
          go_ret2
          refine ⟨_, _, by rw [hfit]; rfl, ?_, (by (with_reducible repeat (first | exact cR _ _ | apply cA | apply cD | apply cN | (refine cS ?_ (Or.inr (by first | omega | (simp only [zA, zC, zD]; omega))) _) | (apply cE; assumption) | (apply cK; assumption) | (refine cG (by assumption) ?_ (by first | omega | (simp only [zA, zC, zD]; omega))))))⟩
          have k2 : ¬ e.kind = 2 := by simpa using hb2
          rw [put_eq hfit Ht.out Hx.out]
          have r := OR_set2 ho3 rfl Hx.out true
          simp only [Sw.putRow, if_neg k1, if_neg k2]
          exact r.less (by omega)
    exact key _ _ rfl rfl
  · have hf0 : Sw.ownFits xs e = false := by simpa using hfit
    go_enter Try.func163, Try.ntmps163
    go_wp2_with (first | (at_builtin; apply wpList_app (lo := w.heap.size + 1) el_R one_R rfl rfl rfl rfl; (first | assumption | exact Ow.nil _ _ | (apply Ow.keep; assumption; with_reducible repeat (first | exact kR _ _ | apply kA | apply kD | apply kN | (refine kS ?_ (by first | omega | (simp only [zA, zC, zD]; omega))) | (apply kE; assumption) | (refine kC (by assumption) ?_ (by first | omega | (simp only [zA, zC, zD]; omega))))) | (refine Ow.new [] (by (first | rfl | (simp only [zA, zC, zD]; done) | omega)) rfl rfl (fun _ => rfl) (by (first | omega | (simp only [zA, zC, zD]; omega) | (simp only [zA, zC, zD] at *; omega))) (by omega))); (first | ((first | (apply Rs.at0; assumption) | (apply Ow.rs0; assumption)); with_reducible repeat (first | exact kR _ _ | apply kA | apply kD | apply kN | (refine kS ?_ (by first | omega | (simp only [zA, zC, zD]; omega))) | (apply kE; assumption) | (refine kC (by assumption) ?_ (by first | omega | (simp only [zA, zC, zD]; omega)))))); omega; (first | omega | (simp only [zA, zC, zD]; omega) | (simp only [zA, zC, zD] at *; omega)); intro A1 c1 w2 ho1 hch1 hat1 hex1 hlow1; have hb := hex1 (fun _ => False) w (by (with_reducible repeat (first | exact cR _ _ | apply cA | apply cD | apply cN | (refine cS ?_ (Or.inr (by first | omega | (simp only [zA, zC, zD]; omega))) _) | (apply cE; assumption) | (apply cK; assumption) | (refine cG (by assumption) ?_ (by first | omega | (simp only [zA, zC, zD]; omega)))))) (by omega); have hz := hch1.size; (try simp only [zA, zC, zD] at hz); obtain ⟨hc, hf⟩ := low_rules hlow1; clear hlow1 hex1) | (go_at_call 204; apply Calls.mono; apply sOwnFits_c; ((first | (apply Rs.at0; assumption) | (apply Ow.rs0; assumption)); with_reducible repeat (first | exact kR _ _ | apply kA | apply kD | apply kN | (refine kS ?_ (by first | omega | (simp only [zA, zC, zD]; omega))) | (apply kE; assumption) | (refine kC (by assumption) ?_ (by first | omega | (simp only [zA, zC, zD]; omega))))); rintro E w1 ⟨rfl, hb⟩; have hst := xr hb; (try simp only [zA, zC, zD] at hst); obtain ⟨hc, hf, hz⟩ := hst))
    go_ret2
    refine ⟨_, _, by rw [hf0]; rfl, ?_, (by (with_reducible repeat (first | exact cR _ _ | apply cA | apply cD | apply cN | (refine cS ?_ (Or.inr (by first | omega | (simp only [zA, zC, zD]; omega))) _) | (apply cE; assumption) | (apply cK; assumption) | (refine cG (by assumption) ?_ (by first | omega | (simp only [zA, zC, zD]; omega))))))⟩
    rw [show Sw.ownPut xs e = xs from by simp [Sw.ownPut, hf0]]
    simp only [Nat.zero_add, List.nil_append] at ho1
    refine Ow.less ?_ (show w.heap.size ≤ w.heap.size + 1 by omega)
    apply Ow.keep ho1; (with_reducible repeat (first | exact kR _ _ | apply kA | apply kD | apply kN | (refine kS ?_ (by first | omega | (simp only [zA, zC, zD]; omega))) | (apply kE; assumption) | (refine kC (by assumption) ?_ (by first | omega | (simp only [zA, zC, zD]; omega)))))
end Go.Proofs.Ytncoiknpkebgoaa
