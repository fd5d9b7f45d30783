/-
  Walks: requests; what whether a market is ok is asked from (plain).
-/
import Derived.Test.YtncoiknpkebgoaaMon1
import Derived.Test.YtncoiknpkebgoaaMon2
import Derived.Test.YtncoiknpkebgoaaHeads
namespace Go.Proofs.Ytncoiknpkebgoaa
set_option maxRecDepth 100000
set_option linter.unusedSimpArgs false
set_option linter.unusedVariables false
open Go.RowKit Go
set_option maxHeartbeats 8000000

theorem sReqOk_c (r : Sw.Req) (w : World) : Calls Try.prog 148 #[.agg #[.int .i64 r.user, .int .i64 r.n, .int .i64 r.kind, .int .i64 r.ticket, .int .i64 r.who, .int .i64 r.price]] w fun E w' => E = .returned (.bool (Sw.reqOk r)) ∧ Ex w w' := by
  cases g1 : Sw.inR r.user 1 5
  case false => go_enter Try.func148, Try.ntmps148; go_wp2_with (first | (go_at_call 94; refine (l1In_c _ _ _ _).mono ?_; rintro E w' ⟨rfl, rfl⟩)); go_ret; exact ⟨ret_b (by simp [Sw.reqOk, g1]), (by (with_reducible repeat (first | exact cR _ _ | apply cA | apply cD | apply cN | (refine cS ?_ (Or.inr (by first | omega | (simp only [zA, zC, zD]; omega))) _) | (apply cE; assumption) | (apply cK; assumption) | (refine cG (by assumption) ?_ (by first | omega | (simp only [zA, zC, zD]; omega))))))⟩
  cases g2 : Sw.inR r.n 1 99999
  case false => go_enter Try.func148, Try.ntmps148; go_wp2_with (first | (go_at_call 94; refine (l1In_c _ _ _ _).mono ?_; rintro E w' ⟨rfl, rfl⟩)); go_ret; exact ⟨ret_b (by simp [Sw.reqOk, g2]), (by (with_reducible repeat (first | exact cR _ _ | apply cA | apply cD | apply cN | (refine cS ?_ (Or.inr (by first | omega | (simp only [zA, zC, zD]; omega))) _) | (apply cE; assumption) | (apply cK; assumption) | (refine cG (by assumption) ?_ (by first | omega | (simp only [zA, zC, zD]; omega))))))⟩
  cases g3 : Sw.inR r.kind 1 6
  case false => go_enter Try.func148, Try.ntmps148; go_wp2_with (first | (go_at_call 94; refine (l1In_c _ _ _ _).mono ?_; rintro E w' ⟨rfl, rfl⟩)); go_ret; exact ⟨ret_b (by simp [Sw.reqOk, g3]), (by (with_reducible repeat (first | exact cR _ _ | apply cA | apply cD | apply cN | (refine cS ?_ (Or.inr (by first | omega | (simp only [zA, zC, zD]; omega))) _) | (apply cE; assumption) | (apply cK; assumption) | (refine cG (by assumption) ?_ (by first | omega | (simp only [zA, zC, zD]; omega))))))⟩
  cases g4 : Sw.inR r.ticket 0 7
  case false => go_enter Try.func148, Try.ntmps148; go_wp2_with (first | (go_at_call 94; refine (l1In_c _ _ _ _).mono ?_; rintro E w' ⟨rfl, rfl⟩)); go_ret; exact ⟨ret_b (by simp [Sw.reqOk, g4]), (by (with_reducible repeat (first | exact cR _ _ | apply cA | apply cD | apply cN | (refine cS ?_ (Or.inr (by first | omega | (simp only [zA, zC, zD]; omega))) _) | (apply cE; assumption) | (apply cK; assumption) | (refine cG (by assumption) ?_ (by first | omega | (simp only [zA, zC, zD]; omega))))))⟩
  have e : Sw.reqOk r = (if r.kind = 1 then Sw.inR r.who 1 5 && Sw.inR r.price 1 50 else decide (r.who = 0) && (if r.kind = 2 then Sw.inR r.price 1 999 else decide (r.price = 0))) := by simp [Sw.reqOk, g1, g2, g3, g4]
  have He := Lib.hid e; clear e
  by_cases k1 : r.kind = 1
  · have k1' : (r.kind == 1) = true := by simp [k1]
    have K1 := Lib.hid k1; clear k1
    cases g5 : Sw.inR r.who 1 5
    all_goals
      go_enter Try.func148, Try.ntmps148
      go_wp2_with (first | (go_at_call 94; refine (l1In_c _ _ _ _).mono ?_; rintro E w' ⟨rfl, rfl⟩))
      go_ret
      exact ⟨ret_b (by rw [He.out, if_pos K1.out]; simp [g5]), (by (with_reducible repeat (first | exact cR _ _ | apply cA | apply cD | apply cN | (refine cS ?_ (Or.inr (by first | omega | (simp only [zA, zC, zD]; omega))) _) | (apply cE; assumption) | (apply cK; assumption) | (refine cG (by assumption) ?_ (by first | omega | (simp only [zA, zC, zD]; omega))))))⟩
  have k1' : (r.kind == 1) = false := by simp [k1]
  cases g5 : (r.who == 0)
  case false =>
    go_enter Try.func148, Try.ntmps148
    go_wp2_with (first | (go_at_call 94; refine (l1In_c _ _ _ _).mono ?_; rintro E w' ⟨rfl, rfl⟩))
    go_ret
    exact ⟨ret_b (by rw [He.out, if_neg k1]; rw [← beqI, g5]; rfl), (by (with_reducible repeat (first | exact cR _ _ | apply cA | apply cD | apply cN | (refine cS ?_ (Or.inr (by first | omega | (simp only [zA, zC, zD]; omega))) _) | (apply cE; assumption) | (apply cK; assumption) | (refine cG (by assumption) ?_ (by first | omega | (simp only [zA, zC, zD]; omega))))))⟩
  by_cases k2 : r.kind = 2
  · have k2' : (r.kind == 2) = true := by simp [k2]
    have k2'' : (r.kind != 2) = false := by simp [k2]
    have K2 := Lib.hid k2; clear k2
    cases g6 : Sw.inR r.price 1 999
    all_goals
      go_enter Try.func148, Try.ntmps148
      go_wp2_with (first | (go_at_call 94; refine (l1In_c _ _ _ _).mono ?_; rintro E w' ⟨rfl, rfl⟩))
      go_ret
      exact ⟨ret_b (by rw [He.out, if_neg k1, if_pos K2.out]; rw [← beqI, g5, g6]; rfl), (by (with_reducible repeat (first | exact cR _ _ | apply cA | apply cD | apply cN | (refine cS ?_ (Or.inr (by first | omega | (simp only [zA, zC, zD]; omega))) _) | (apply cE; assumption) | (apply cK; assumption) | (refine cG (by assumption) ?_ (by first | omega | (simp only [zA, zC, zD]; omega))))))⟩
  have k2' : (r.kind == 2) = false := by simp [k2]
  have k2'' : (r.kind != 2) = true := by simp [k2]
  cases g6 : (r.price == 0)
  all_goals
    go_enter Try.func148, Try.ntmps148
    go_wp2_with (first | (go_at_call 94; refine (l1In_c _ _ _ _).mono ?_; rintro E w' ⟨rfl, rfl⟩))
    go_ret
    exact ⟨ret_b (by rw [He.out, if_neg k1, if_neg k2]; rw [← beqI, ← beqI, g5, g6]; rfl), (by (with_reducible repeat (first | exact cR _ _ | apply cA | apply cD | apply cN | (refine cS ?_ (Or.inr (by first | omega | (simp only [zA, zC, zD]; omega))) _) | (apply cE; assumption) | (apply cK; assumption) | (refine cG (by assumption) ?_ (by first | omega | (simp only [zA, zC, zD]; omega))))))⟩

/-! ### a deal, as the reference asks -/
def buyerOk (clock : Int) (d : Sw.Deal) : Bool := if d.buyer = 0 then decide (d.due = 0) else Sw.inR d.buyer 1 5 && decide (d.buyer ≠ d.seller) && Sw.inR d.due clock (clock + 5)
theorem dealOk_b {clock : Int} {rows : List Sw.Row} {d : Sw.Deal} {r : Sw.Row} (ho : Sw.ownOk rows = true) (hr : Sw.rowAt rows d.ticket = r) :
    Sw.dealOk clock rows d = (Sw.inR d.ticket 0 7 && decide (r.who = d.seller) && decide (d.seller ≠ 0) && !r.used && Sw.inR d.price 1 (Sw.entCap r.face) && buyerOk clock d) := by
  have h1 := Sw.rowAt_ok ho d.ticket
  rw [hr, Sw.rowOk_iff] at h1
  unfold Sw.dealOk
  rw [hr]
  unfold buyerOk
  by_cases hs : r.who = d.seller
  · by_cases h0 : d.seller = 0
    · have : Sw.inR d.seller 1 5 = false := by rw [h0]; rfl
      have this0 : Sw.inR 0 1 5 = false := rfl
      simp [this0, h0]
    · have : Sw.inR d.seller 1 5 = true := Sw.inR_iff.2 (by omega)
      simp [this, h0]
  · simp [hs]
theorem dealsOk_cons {clock : Int} {rows : List Sw.Row} {p : Int} {d : Sw.Deal} {ds : List Sw.Deal} : Sw.dealsOk clock rows p (d :: ds) = (Sw.dealOk clock rows d && decide (p < d.ticket) && Sw.dealsOk clock rows d.ticket ds) := rfl
/-- Behind k deals: the last one's ticket. -/
def LastAt (xs : List Sw.Deal) (k : Nat) (p : Int) : Prop := k = 0 ∧ p = -1 ∨ ∃ j y, k = j + 1 ∧ xs[j]? = some y ∧ y.ticket = p ∧ 0 ≤ p
/-- What a market is asked first. -/
def mktGate (m : Sw.Mkt) : Bool := (Sw.ownFold m.log).isSome && Sw.monOk m.purses && decide (m.deals.length ≤ 8) && Sw.inR m.clock 0 99999 && decide (m.nums.length = 5) && decide (m.said.length = 5)
theorem mktOk_parts (m : Sw.Mkt) : Sw.mktOk m = (mktGate m && Sw.dealsOk m.clock (Sw.mktRows m) (-1) m.deals && Sw.numsOk m.nums m.said && decide (Sw.monSum m.purses + Sw.mktHeld m ≤ 100000)) := by
  simp [Sw.mktOk, mktGate]
theorem numsOk_at {ns ss : List Int} {k : Nat} {a b : Int} (ha : ns.drop k = a :: ns.drop (k + 1)) (hb : ss.drop k = b :: ss.drop (k + 1)) : Sw.numsOk (ns.drop k) (ss.drop k) = (Sw.numOk a b && Sw.numsOk (ns.drop (k + 1)) (ss.drop (k + 1))) := by rw [ha, hb]; rfl

end Go.Proofs.Ytncoiknpkebgoaa
