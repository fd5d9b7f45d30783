/-
  Texts joined: Mon1, MktA, Mak.
-/
import Derived.Test.YtdbnbembjebfhaaGreatPz38
import Derived.Test.YtdbnbembjebfhaaGreatPz33
import Derived.Test.YtdbnbembjebfhaaGreatPz13
import Derived.Test.YtdbnbembjebfhaaGreatPz15
import Derived.Test.YtdbnbembjebfhaaGreatPz41
namespace Go.Proofs.YtdbnbembjebfhaaGreat
set_option maxRecDepth 100000
set_option linter.unusedSimpArgs false
set_option linter.unusedVariables false
open Go.RowKit Go
set_option maxHeartbeats 400000

theorem sumFrom_cons (s x : Int) (xs : List Int) : Sw.sumFrom s (x :: xs) = Sw.sumFrom (wrap64 (s + x)) xs := rfl
theorem heldFrom_cons (s : Int) (d : Sw.Deal) (ds : List Sw.Deal) : Sw.heldFrom s (d :: ds) = Sw.heldFrom (Sw.heldStep s d) ds := rfl
theorem heldStep_y {s : Int} {d : Sw.Deal} (h : 0 < d.buyer) : Sw.heldStep s d = wrap64 (s + d.price) := by simp [Sw.heldStep, Sw.held, h]
theorem heldStep_n {s : Int} {d : Sw.Deal} (h : ¬ 0 < d.buyer) : Sw.heldStep s d = s := by simp [Sw.heldStep, Sw.held, h]

theorem sMonSum_c (A : Option Addr) (c n : Nat) (xs : List Int) (w : World) (hxs : RI w 0 A c n xs) : Calls Tryz.prog 199 #[.slice A n c] w fun E w' => E = .returned (.int .i64 (Sw.monSum xs)) ∧ w = w' := by
  have hl := Lib.hid hxs.1
  have hbig := Rs.big hxs
  go_enter Tryz.func199, Tryz.ntmps199
  go_wp2
  go_loop [3, 4] (fun v i => ∃ (k : Nat) (s : Int), k ≤ n ∧ i = .int .i64 k ∧ v = .int .i64 s ∧ Sw.monSum xs = Sw.sumFrom s (xs.drop k)) (fun _ i => n - (intOf i).toNat)
  case atStart => exact ⟨0, 0, Nat.zero_le _, rfl, rfl, rfl⟩
  case round =>
    obtain ⟨k, s, hk, rfl, rfl, hrel⟩ := hrel
    by_cases hlt : k < n
    · obtain ⟨g, off, y, rfl, hg0, hg, hd, hy, hc⟩ := at_I hxs hlt
      rw [hd, sumFrom_cons] at hrel
      have Hrel := Lib.hid hrel; clear hrel hd hy
      go_wp2
      go_round
      case rel => exact ⟨k + 1, _, by omega, by go_num, rfl, Hrel.out⟩
      case measure => simp [intOf]; omega
    · have Hrel := Lib.hid hrel; clear hrel
      go_wp2
      go_ret
      refine ⟨ret_i ?_, rfl⟩
      rw [Hrel.out, List.drop_of_length_le (by have := hl.out; omega)]
      rfl
theorem iMonSum_c (A : Option Addr) (c n : Nat) (xs : List Int) (w : World) (hxs : RI w 0 A c n xs) : Calls Tryz.prog 213 #[.slice A n c] w fun E w' => E = .returned (.int .i64 (Sw.monSum xs)) ∧ w = w' := by
  have hl := Lib.hid hxs.1
  have hbig := Rs.big hxs
  go_enter Tryz.func213, Tryz.ntmps213
  go_wp2
  go_loop [3, 8] (fun v i => ∃ (k : Nat) (s : Int), k ≤ n ∧ i = .int .i64 k ∧ v = .int .i64 s ∧ Sw.monSum xs = Sw.sumFrom s (xs.drop k)) (fun _ i => n - (intOf i).toNat)
  case atStart => exact ⟨0, 0, Nat.zero_le _, rfl, rfl, rfl⟩
  case round =>
    obtain ⟨k, s, hk, rfl, rfl, hrel⟩ := hrel
    by_cases hlt : k < n
    · obtain ⟨g, off, y, rfl, hg0, hg, hd, hy, hc⟩ := at_I hxs hlt
      rw [hd, sumFrom_cons] at hrel
      have Hrel := Lib.hid hrel; clear hrel hd hy
      go_wp2
      go_round
      case rel => exact ⟨k + 1, _, by omega, by go_num, rfl, Hrel.out⟩
      case measure => simp [intOf]; omega
    · have Hrel := Lib.hid hrel; clear hrel
      go_wp2
      go_ret
      refine ⟨ret_i ?_, rfl⟩
      rw [Hrel.out, List.drop_of_length_le (by have := hl.out; omega)]
      rfl

theorem iHeld_c (d : Sw.Deal) (w : World) : Calls Tryz.prog 221 #[.agg #[.int .i64 d.ticket, .int .i64 d.seller, .int .i64 d.price, .int .i64 d.buyer, .int .i64 d.due]] w fun E w' => E = .returned (.bool (Sw.held d)) ∧ Ex w w' := by
  go_enter Tryz.func221, Tryz.ntmps221
  go_wp2_with fail
  go_ret
  exact ⟨rfl, ext_⟩

theorem sMktHeld_c (aL : Option Addr) (aLc aLn : Nat) (aP : Option Addr) (aPc aPn : Nat) (aD : Option Addr) (aDc aDn : Nat) (aN : Option Addr) (aNc aNn : Nat) (aS : Option Addr) (aSc aSn : Nat) (m : Sw.Mkt) (w : World) (hm : RM w 0 aL aLc aLn aP aPc aPn aD aDc aDn aN aNc aNn aS aSc aSn m) : Calls Tryz.prog 200 #[.agg #[.slice aL aLn aLc, .slice aP aPn aPc, .slice aD aDn aDc, .int .i64 m.clock, .slice aN aNn aNc, .slice aS aSn aSc]] w fun E w' => E = .returned (.int .i64 (Sw.mktHeld m)) ∧ Ex w w' := by
  have hxs := hm.deals
  clear hm
  have hl := Lib.hid hxs.1
  have hbig := Rs.big hxs
  go_enter Tryz.func200, Tryz.ntmps200
  go_wp2_with fail
  go_loop [3, 4] (fun v i => ∃ (k : Nat) (s : Int), k ≤ aDn ∧ i = .int .i64 k ∧ v = .int .i64 s ∧ Sw.mktHeld m = Sw.heldFrom s (m.deals.drop k)) (fun _ i => aDn - (intOf i).toNat)
  case atStart => exact ⟨0, 0, Nat.zero_le _, rfl, rfl, rfl⟩
  case round =>
    obtain ⟨k, s, hk, rfl, rfl, hrel⟩ := hrel
    by_cases hlt : k < aDn
    · obtain ⟨g, off, y, rfl, hg0, hg, hd, hy, q0, q1, q2, q3, q4⟩ := at_D hxs hlt
      rw [hd, heldFrom_cons] at hrel
      have Hrel := Lib.hid hrel; clear hrel hd hy
      by_cases hb : 0 < y.buyer
      · go_wp2
        go_round
        case rel => exact ⟨k + 1, _, by omega, by go_num, rfl, by rw [Hrel.out, heldStep_y hb]⟩
        case measure => simp [intOf]; omega
      · go_wp2
        go_round
        case rel => exact ⟨k + 1, _, by omega, by go_num, rfl, by rw [Hrel.out, heldStep_n hb]⟩
        case measure => simp [intOf]; omega
    · have Hrel := Lib.hid hrel; clear hrel
      go_wp2
      go_ret
      refine ⟨ret_i ?_, ext_⟩
      rw [Hrel.out, List.drop_of_length_le (by have := hl.out; omega)]
      rfl
theorem iMktHeld_c (aL : Option Addr) (aLc aLn : Nat) (aP : Option Addr) (aPc aPn : Nat) (aD : Option Addr) (aDc aDn : Nat) (aN : Option Addr) (aNc aNn : Nat) (aS : Option Addr) (aSc aSn : Nat) (m : Sw.Mkt) (w : World) (hm : RM w 0 aL aLc aLn aP aPc aPn aD aDc aDn aN aNc aNn aS aSc aSn m) : Calls Tryz.prog 214 #[.agg #[.slice aL aLn aLc, .slice aP aPn aPc, .slice aD aDn aDc, .int .i64 m.clock, .slice aN aNn aNc, .slice aS aSn aSc]] w fun E w' => E = .returned (.int .i64 (Sw.mktHeld m)) ∧ Ex w w' := by
  have hxs := hm.deals
  clear hm
  have hl := Lib.hid hxs.1
  have hbig := Rs.big hxs
  go_enter Tryz.func214, Tryz.ntmps214
  go_wp2_with fail
  go_loopw [3, 9] (fun v i wr => ∃ (k : Nat) (s : Int), k ≤ aDn ∧ i = .int .i64 k ∧ v = .int .i64 s ∧ Ex w wr ∧ Sw.mktHeld m = Sw.heldFrom s (m.deals.drop k)) (fun _ i _ => aDn - (intOf i).toNat)
  case atStart => exact ⟨0, 0, Nat.zero_le _, rfl, rfl, ext_, rfl⟩
  case round =>
    obtain ⟨k, s, hk, rfl, rfl, hb2, hrel⟩ := hrel
    have hst := Ex.rules hb2 rfl
    obtain ⟨hc2, hf2, hz2⟩ := hst
    by_cases hlt : k < aDn
    · obtain ⟨g, off, y, rfl, hg0, hg, hd, hy, q0, q1, q2, q3, q4⟩ := at_D hxs hlt
      rw [hd, heldFrom_cons] at hrel
      have Hrel := Lib.hid hrel; clear hrel hd hy
      cases hb : Sw.held y with
      | true =>
        go_wp2_with (go_at_call 221; apply Calls.mono; apply (iHeld_c y); rintro E w1 ⟨rfl, hb⟩; have hst := xr hb; (try simp only [zA, zC, zD, zN] at hst); obtain ⟨hc, hf, hz⟩ := hst)
        go_roundw
        case rel => exact ⟨k + 1, _, by omega, by go_num, rfl, ext_, by rw [Hrel.out, Sw.heldStep, if_pos (by assumption)]⟩
        case measure => simp [intOf]; omega
      | false =>
        go_wp2_with (go_at_call 221; apply Calls.mono; apply (iHeld_c y); rintro E w1 ⟨rfl, hb⟩; have hst := xr hb; (try simp only [zA, zC, zD, zN] at hst); obtain ⟨hc, hf, hz⟩ := hst)
        go_roundw
        case rel => exact ⟨k + 1, _, by omega, by go_num, rfl, ext_, by rw [Hrel.out, Sw.heldStep, if_neg (by simp [*])]⟩
        case measure => simp [intOf]; omega
    · have Hrel := Lib.hid hrel; clear hrel
      go_wp2_with fail
      go_ret
      refine ⟨ret_i ?_, ext_⟩
      rw [Hrel.out, List.drop_of_length_le (by have := hl.out; omega)]
      rfl
end Go.Proofs.YtdbnbembjebfhaaGreat

namespace Go.Proofs.YtdbnbembjebfhaaGreat
set_option maxRecDepth 100000
set_option linter.unusedSimpArgs false
set_option linter.unusedVariables false
open Go.RowKit Go
set_option maxHeartbeats 8000000

theorem sReqOk_c (r : Sw.Req) (w : World) : Calls Tryz.prog 133 #[.agg #[.int .i64 r.user, .int .i64 r.n, .int .i64 r.kind, .int .i64 r.ticket, .int .i64 r.who, .int .i64 r.price]] w fun E w' => E = .returned (.bool (Sw.reqOk r)) ∧ Ex w w' := by
  cases g1 : Sw.inR r.user 1 5
  case false => go_enter Tryz.func133, Tryz.ntmps133; go_wp2_with (first | (go_at_call 107; refine (l1In_c _ _ _ _).mono ?_; rintro E w' ⟨rfl, rfl⟩)); go_ret; exact ⟨ret_b (by simp [Sw.reqOk, g1]), ext_⟩
  cases g2 : Sw.inR r.n 1 99999
  case false => go_enter Tryz.func133, Tryz.ntmps133; go_wp2_with (first | (go_at_call 107; refine (l1In_c _ _ _ _).mono ?_; rintro E w' ⟨rfl, rfl⟩)); go_ret; exact ⟨ret_b (by simp [Sw.reqOk, g2]), ext_⟩
  cases g3 : Sw.inR r.kind 1 6
  case false => go_enter Tryz.func133, Tryz.ntmps133; go_wp2_with (first | (go_at_call 107; refine (l1In_c _ _ _ _).mono ?_; rintro E w' ⟨rfl, rfl⟩)); go_ret; exact ⟨ret_b (by simp [Sw.reqOk, g3]), ext_⟩
  cases g4 : Sw.inR r.ticket 0 7
  case false => go_enter Tryz.func133, Tryz.ntmps133; go_wp2_with (first | (go_at_call 107; refine (l1In_c _ _ _ _).mono ?_; rintro E w' ⟨rfl, rfl⟩)); go_ret; exact ⟨ret_b (by simp [Sw.reqOk, g4]), ext_⟩
  have e : Sw.reqOk r = (if r.kind = 1 then Sw.inR r.who 1 5 && Sw.inR r.price 1 50 else decide (r.who = 0) && (if r.kind = 2 then Sw.inR r.price 1 999 else decide (r.price = 0))) := by simp [Sw.reqOk, g1, g2, g3, g4]
  have He := Lib.hid e; clear e
  by_cases k1 : r.kind = 1
  · have k1' : (r.kind == 1) = true := by simp [k1]
    have K1 := Lib.hid k1; clear k1
    cases g5 : Sw.inR r.who 1 5
    all_goals
      go_enter Tryz.func133, Tryz.ntmps133
      go_wp2_with (first | (go_at_call 107; refine (l1In_c _ _ _ _).mono ?_; rintro E w' ⟨rfl, rfl⟩))
      go_ret
      exact ⟨ret_b (by rw [He.out, if_pos K1.out]; simp [g5]), ext_⟩
  have k1' : (r.kind == 1) = false := by simp [k1]
  cases g5 : (r.who == 0)
  case false =>
    go_enter Tryz.func133, Tryz.ntmps133
    go_wp2_with (first | (go_at_call 107; refine (l1In_c _ _ _ _).mono ?_; rintro E w' ⟨rfl, rfl⟩))
    go_ret
    exact ⟨ret_b (by rw [He.out, if_neg k1]; rw [← beqI, g5]; rfl), ext_⟩
  by_cases k2 : r.kind = 2
  · have k2' : (r.kind == 2) = true := by simp [k2]
    have k2'' : (r.kind != 2) = false := by simp [k2]
    have K2 := Lib.hid k2; clear k2
    cases g6 : Sw.inR r.price 1 999
    all_goals
      go_enter Tryz.func133, Tryz.ntmps133
      go_wp2_with (first | (go_at_call 107; refine (l1In_c _ _ _ _).mono ?_; rintro E w' ⟨rfl, rfl⟩))
      go_ret
      exact ⟨ret_b (by rw [He.out, if_neg k1, if_pos K2.out]; rw [← beqI, g5, g6]; rfl), ext_⟩
  have k2' : (r.kind == 2) = false := by simp [k2]
  have k2'' : (r.kind != 2) = true := by simp [k2]
  cases g6 : (r.price == 0)
  all_goals
    go_enter Tryz.func133, Tryz.ntmps133
    go_wp2_with (first | (go_at_call 107; refine (l1In_c _ _ _ _).mono ?_; rintro E w' ⟨rfl, rfl⟩))
    go_ret
    exact ⟨ret_b (by rw [He.out, if_neg k1, if_neg k2]; rw [← beqI, ← beqI, g5, g6]; rfl), ext_⟩

/-! ### a deal, as the reference asks -/
def buyerOk (clock : Int) (d : Sw.Deal) : Bool := if d.buyer = 0 then decide (d.due = 0) else Sw.inR d.buyer 1 5 && decide (d.buyer ≠ d.seller) && Sw.inR d.due clock (clock + 5)
theorem dealOk_b {clock : Int} {rows : List Sw.Row} {d : Sw.Deal} {r : Sw.Row} (ho : Sw.ownOk rows = true) (hr : Sw.rowAt rows d.ticket = r) :
    Sw.dealOk clock rows d = (Sw.inR d.ticket 0 7 && decide (r.who = d.seller) && decide (d.seller ≠ 0) && !r.used && Sw.inR d.price 1 (Sw.entCap r.face) && buyerOk clock d) := by
  have h1 := Sw.rowAt_ok ho d.ticket
  rw [hr, Sw.rowOk_iff] at h1
  unfold Sw.dealOk
  rw [hr]
  unfold buyerOk
  by_cases hs : r.who = d.seller
  · by_cases h0 : d.seller = 0
    · have : Sw.inR d.seller 1 5 = false := by rw [h0]; rfl
      have this0 : Sw.inR 0 1 5 = false := rfl
      simp [this0, h0]
    · have : Sw.inR d.seller 1 5 = true := Sw.inR_iff.2 (by omega)
      simp [this, h0]
  · simp [hs]
theorem dealsOk_cons {clock : Int} {rows : List Sw.Row} {p : Int} {d : Sw.Deal} {ds : List Sw.Deal} : Sw.dealsOk clock rows p (d :: ds) = (Sw.dealOk clock rows d && decide (p < d.ticket) && Sw.dealsOk clock rows d.ticket ds) := rfl
/-- Behind k deals: the last one's ticket. -/
def LastAt (xs : List Sw.Deal) (k : Nat) (p : Int) : Prop := k = 0 ∧ p = -1 ∨ ∃ j y, k = j + 1 ∧ xs[j]? = some y ∧ y.ticket = p ∧ 0 ≤ p
/-- What a market is asked first. -/
def mktGate (m : Sw.Mkt) : Bool := (Sw.ownFold m.log).isSome && Sw.monOk m.purses && decide (m.deals.length ≤ 8) && Sw.inR m.clock 0 99999 && decide (m.nums.length = 5) && decide (m.said.length = 5)
theorem mktOk_parts (m : Sw.Mkt) : Sw.mktOk m = (mktGate m && Sw.dealsOk m.clock (Sw.mktRows m) (-1) m.deals && Sw.numsOk m.nums m.said && decide (Sw.monSum m.purses + Sw.mktHeld m ≤ 100000)) := by
  simp [Sw.mktOk, mktGate]
theorem numsOk_at {ns ss : List Int} {k : Nat} {a b : Int} (ha : ns.drop k = a :: ns.drop (k + 1)) (hb : ss.drop k = b :: ss.drop (k + 1)) : Sw.numsOk (ns.drop k) (ss.drop k) = (Sw.numOk a b && Sw.numsOk (ns.drop (k + 1)) (ss.drop (k + 1))) := by rw [ha, hb]; rfl

end Go.Proofs.YtdbnbembjebfhaaGreat

namespace Go.Proofs.YtdbnbembjebfhaaGreat
set_option maxRecDepth 100000
set_option linter.unusedSimpArgs false
set_option linter.unusedVariables false
open Go.RowKit Go
set_option maxHeartbeats 1000000

/-- 'make([]T, n)' inside a region that draws its order. -/
theorem step_mk {P : Program} {w : World} {ops : Array Oper} {o : Oper} {a : Act} {Kx : Act → World → Prop} {Q : Exit → Act → World → Prop} {E : Prop} {α : Type} {enc : α → List Value} {sz bytes : Nat} {t e : TypeId} {l c : Operand} {lo n : Nat}
    (hel : ElemOk P t e sz bytes) (zx : α) (hzx : ∀ i z, P.info? e = some i → i.zero = some z → z.cells = (enc zx).toArray) (hsz : (enc zx).length = sz) (hgd : o.guard = none)
    (ho : o.op = .makeSlice t l c) (hl : a.eval l = .int .i64 n) (hc : a.eval c = .int .i64 n) (hb : bytes * n ≤ 281474976710656) (hn : n ≤ maxLen) (hlo : lo ≤ w.heap.size)
    (K : ∀ w', Ow enc sz e w' lo (some ⟨w.heap.size, 0, none⟩) n n (List.replicate n zx) → Ex w w' → w.heap.size + 1 ≤ w'.heap.size → Kx (a.put o.dst (.slice (some ⟨w.heap.size, 0, none⟩) n n)) w') :
    if Region.wanted o (yielded ops a.tmps) = true then o.wp P a w Kx Q else E := by
  rw [if_pos (by simp [Region.wanted, hgd])]
  obtain ⟨i, z, hi, hz, hsz', hby, hzs⟩ := hel.info
  obtain ⟨w', hrun, h1, h2⟩ := run_make_full (P := P) w lo t e i z sz hel.sl hi hz hsz' .i64 .i64 n (by rw [hby]; exact hb) hn hlo
  unfold Oper.wp
  simp [execOp, ho, hl, hc, hrun, Result.andThen]
  rw [hzx i z hi hz, madeCells_flat zx hsz hel.pos] at h1
  refine K w' ⟨(List.length_replicate ..).symm, h1⟩ ⟨h2.os, h2.tape, h2.output, h2.size, fun k hk _ => h2.block k hk (by simp)⟩ ?_
  rcases h1.2 with ⟨hv, h0⟩ | ⟨g, cap, cur, hv, hb, hh, _⟩
  · cases hv
  · injection hv with e1 e2 e3
    have e4 : w.heap.size = g := by injection e1 with e1; injection e1
    subst e4
    exact (Array.getElem?_eq_some_iff.1 hh).1
/-- How far one piece has come that is made at once. -/
inductive MakeSt {α : Type} (enc : α → List Value) (sz : Nat) (e : TypeId) (τ : Nat → Nat) (t : Nat) (w : World) (lo n : Nat) (xs : List α) : Bool → Value → Prop
  | none (v : Value) : MakeSt enc sz e τ t w lo n xs false v
  | done (A : Option Addr) (c : Nat) (h : OwT enc sz e τ t w lo A c n xs) : MakeSt enc sz e τ t w lo n xs true (.slice A n c)
section
variable {α : Type} {enc : α → List Value} {sz : Nat} {e : TypeId} {τ τ' : Nat → Nat} {t s : Nat} {w w' : World} {lo n c : Nat} {xs : List α} {l r : Bool} {v u : Value} {A A' : Option Addr}
theorem MakeSt.mv (h : MakeSt enc sz e τ t w lo n xs r u) (f : ∀ A c k ys, OwT enc sz e τ t w lo A c k ys → OwT enc sz e τ' t w' lo A c k ys) : MakeSt enc sz e τ' t w' lo n xs r u := by
  cases h with
  | none => exact .none _
  | done A c h => exact .done _ _ (f _ _ _ _ h)
theorem MakeSt.alloc {o : Obj} (h : MakeSt enc sz e τ t w lo n xs r u) : MakeSt enc sz e (glue τ w.heap.size (fun _ => s)) t (w.alloc o) lo n xs r u :=
  h.mv fun _ _ _ _ h => (h.glueL (Nat.le_refl _)).keep (KT.refl _ _ _ _).alloc
theorem MakeSt.app (h : MakeSt enc sz e τ t w lo n xs r u) (hb : Ch (atA A) w w') (ht : ∀ a, A = some a → τ a.block = s) (hne : t ≠ s) : MakeSt enc sz e (glue τ w.heap.size (fun _ => s)) t w' lo n xs r u :=
  h.mv fun _ _ _ _ h => (h.glueL (Nat.le_refl _)).keep (KT.ch hb (KT.refl _ _ _ _) fun i ⟨a, ha, hi⟩ => .inr (by rw [hi, glue_tag (ht a ha)]; exact Ne.symm hne))
/-- Something new elsewhere. -/
theorem MakeSt.ex (h : MakeSt enc sz e τ t w lo n xs r u) (hb : Ex w w') : MakeSt enc sz e (glue τ w.heap.size (fun _ => s)) t w' lo n xs r u :=
  h.mv fun _ _ _ _ h => (h.glueL (Nat.le_refl _)).keep (KT.ex hb (KT.refl _ _ _ _))
theorem CopySt.ex (h : CopySt enc sz e τ t w lo n xs l r v u) (hb : Ex w w') : CopySt enc sz e (glue τ w.heap.size (fun _ => s)) t w' lo n xs l r v u :=
  h.mv fun _ _ _ _ h => (h.glueL (Nat.le_refl _)).keep (KT.ex hb (KT.refl _ _ _ _))
/-- What is new is marked. -/
theorem OwT.newT {ys : List α} {m lo' : Nat} (h : Ow enc sz e w' lo' A c m ys) (hl : w.heap.size ≤ lo') (hlo : lo ≤ lo') : OwT enc sz e (glue τ w.heap.size (fun _ => t)) t w' lo A c m ys :=
  ⟨h.less hlo, fun a ha => by unfold glue; rw [if_neg (by have := (h.blk ha).1; omega)]⟩
end
end Go.Proofs.YtdbnbembjebfhaaGreat

