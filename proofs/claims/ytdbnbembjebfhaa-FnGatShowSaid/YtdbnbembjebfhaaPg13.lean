/-
  Texts joined: Mon1, MktA, Mak, DoB, GShow, GShowI, Law3.
-/
import Derived.Test.YtdbnbembjebfhaaPg11
import Derived.Test.YtdbnbembjebfhaaPg10
import Derived.Test.YtdbnbembjebfhaaPg5
import Derived.Test.YtdbnbembjebfhaaPg12
namespace Go.Proofs.Ytdbnbembjebfhaa
set_option maxRecDepth 100000
set_option linter.unusedSimpArgs false
set_option linter.unusedVariables false
open Go.RowKit Go
set_option maxHeartbeats 400000

theorem sumFrom_cons (s x : Int) (xs : List Int) : Sw.sumFrom s (x :: xs) = Sw.sumFrom (wrap64 (s + x)) xs := rfl
theorem heldFrom_cons (s : Int) (d : Sw.Deal) (ds : List Sw.Deal) : Sw.heldFrom s (d :: ds) = Sw.heldFrom (Sw.heldStep s d) ds := rfl
theorem heldStep_y {s : Int} {d : Sw.Deal} (h : 0 < d.buyer) : Sw.heldStep s d = wrap64 (s + d.price) := by simp [Sw.heldStep, Sw.held, h]
theorem heldStep_n {s : Int} {d : Sw.Deal} (h : ¬ 0 < d.buyer) : Sw.heldStep s d = s := by simp [Sw.heldStep, Sw.held, h]

theorem sMonSum_c (A : Option Addr) (c n : Nat) (xs : List Int) (w : World) (hxs : RI w 0 A c n xs) : Calls Try.prog 91 #[.slice A n c] w fun E w' => E = .returned (.int .i64 (Sw.monSum xs)) ∧ w = w' := by
  have hl := Lib.hid hxs.1
  have hbig := Rs.big hxs
  go_enter Try.func91, Try.ntmps91
  go_wp2
  go_loop [3, 4] (fun v i => ∃ (k : Nat) (s : Int), k ≤ n ∧ i = .int .i64 k ∧ v = .int .i64 s ∧ Sw.monSum xs = Sw.sumFrom s (xs.drop k)) (fun _ i => n - (intOf i).toNat)
  case atStart => exact ⟨0, 0, Nat.zero_le _, rfl, rfl, rfl⟩
  case round =>
    obtain ⟨k, s, hk, rfl, rfl, hrel⟩ := hrel
    by_cases hlt : k < n
    · obtain ⟨g, off, y, rfl, hg0, hg, hd, hy, hc⟩ := at_I hxs hlt
      rw [hd, sumFrom_cons] at hrel
      have Hrel := Lib.hid hrel; clear hrel hd hy
      go_wp2
      go_round
      case rel => exact ⟨k + 1, _, by omega, by go_num, rfl, Hrel.out⟩
      case measure => simp [intOf]; omega
    · have Hrel := Lib.hid hrel; clear hrel
      go_wp2
      go_ret
      refine ⟨ret_i ?_, rfl⟩
      rw [Hrel.out, List.drop_of_length_le (by have := hl.out; omega)]
      rfl
theorem iMonSum_c (A : Option Addr) (c n : Nat) (xs : List Int) (w : World) (hxs : RI w 0 A c n xs) : Calls Try.prog 97 #[.slice A n c] w fun E w' => E = .returned (.int .i64 (Sw.monSum xs)) ∧ w = w' := by
  have hl := Lib.hid hxs.1
  have hbig := Rs.big hxs
  go_enter Try.func97, Try.ntmps97
  go_wp2
  go_loop [3, 8] (fun v i => ∃ (k : Nat) (s : Int), k ≤ n ∧ i = .int .i64 k ∧ v = .int .i64 s ∧ Sw.monSum xs = Sw.sumFrom s (xs.drop k)) (fun _ i => n - (intOf i).toNat)
  case atStart => exact ⟨0, 0, Nat.zero_le _, rfl, rfl, rfl⟩
  case round =>
    obtain ⟨k, s, hk, rfl, rfl, hrel⟩ := hrel
    by_cases hlt : k < n
    · obtain ⟨g, off, y, rfl, hg0, hg, hd, hy, hc⟩ := at_I hxs hlt
      rw [hd, sumFrom_cons] at hrel
      have Hrel := Lib.hid hrel; clear hrel hd hy
      go_wp2
      go_round
      case rel => exact ⟨k + 1, _, by omega, by go_num, rfl, Hrel.out⟩
      case measure => simp [intOf]; omega
    · have Hrel := Lib.hid hrel; clear hrel
      go_wp2
      go_ret
      refine ⟨ret_i ?_, rfl⟩
      rw [Hrel.out, List.drop_of_length_le (by have := hl.out; omega)]
      rfl

theorem iHeld_c (d : Sw.Deal) (w : World) : Calls Try.prog 98 #[.agg #[.int .i64 d.ticket, .int .i64 d.seller, .int .i64 d.price, .int .i64 d.buyer, .int .i64 d.due]] w fun E w' => E = .returned (.bool (Sw.held d)) ∧ Ex w w' := by
  go_enter Try.func98, Try.ntmps98
  go_wp2_with fail
  go_ret
  exact ⟨rfl, ext_⟩

theorem sMktHeld_c (aL : Option Addr) (aLc aLn : Nat) (aP : Option Addr) (aPc aPn : Nat) (aD : Option Addr) (aDc aDn : Nat) (aN : Option Addr) (aNc aNn : Nat) (aS : Option Addr) (aSc aSn : Nat) (m : Sw.Mkt) (w : World) (hm : RM w 0 aL aLc aLn aP aPc aPn aD aDc aDn aN aNc aNn aS aSc aSn m) : Calls Try.prog 125 #[.agg #[.slice aL aLn aLc, .slice aP aPn aPc, .slice aD aDn aDc, .int .i64 m.clock, .slice aN aNn aNc, .slice aS aSn aSc]] w fun E w' => E = .returned (.int .i64 (Sw.mktHeld m)) ∧ Ex w w' := by
  have hxs := hm.deals
  clear hm
  have hl := Lib.hid hxs.1
  have hbig := Rs.big hxs
  go_enter Try.func125, Try.ntmps125
  go_wp2_with fail
  go_loop [3, 4] (fun v i => ∃ (k : Nat) (s : Int), k ≤ aDn ∧ i = .int .i64 k ∧ v = .int .i64 s ∧ Sw.mktHeld m = Sw.heldFrom s (m.deals.drop k)) (fun _ i => aDn - (intOf i).toNat)
  case atStart => exact ⟨0, 0, Nat.zero_le _, rfl, rfl, rfl⟩
  case round =>
    obtain ⟨k, s, hk, rfl, rfl, hrel⟩ := hrel
    by_cases hlt : k < aDn
    · obtain ⟨g, off, y, rfl, hg0, hg, hd, hy, q0, q1, q2, q3, q4⟩ := at_D hxs hlt
      rw [hd, heldFrom_cons] at hrel
      have Hrel := Lib.hid hrel; clear hrel hd hy
      by_cases hb : 0 < y.buyer
      · go_wp2
        go_round
        case rel => exact ⟨k + 1, _, by omega, by go_num, rfl, by rw [Hrel.out, heldStep_y hb]⟩
        case measure => simp [intOf]; omega
      · go_wp2
        go_round
        case rel => exact ⟨k + 1, _, by omega, by go_num, rfl, by rw [Hrel.out, heldStep_n hb]⟩
        case measure => simp [intOf]; omega
    · have Hrel := Lib.hid hrel; clear hrel
      go_wp2
      go_ret
      refine ⟨ret_i ?_, ext_⟩
      rw [Hrel.out, List.drop_of_length_le (by have := hl.out; omega)]
      rfl
end Go.Proofs.Ytdbnbembjebfhaa

namespace Go.Proofs.Ytdbnbembjebfhaa
set_option maxRecDepth 100000
set_option linter.unusedSimpArgs false
set_option linter.unusedVariables false
open Go.RowKit Go
set_option maxHeartbeats 8000000

theorem sReqOk_c (r : Sw.Req) (w : World) : Calls Try.prog 54 #[.agg #[.int .i64 r.user, .int .i64 r.n, .int .i64 r.kind, .int .i64 r.ticket, .int .i64 r.who, .int .i64 r.price]] w fun E w' => E = .returned (.bool (Sw.reqOk r)) ∧ Ex w w' := by
  cases g1 : Sw.inR r.user 1 5
  case false => go_enter Try.func54, Try.ntmps54; go_wp2_with (first | (go_at_call 41; refine (l1In_c _ _ _ _).mono ?_; rintro E w' ⟨rfl, rfl⟩)); go_ret; exact ⟨ret_b (by simp [Sw.reqOk, g1]), ext_⟩
  cases g2 : Sw.inR r.n 1 99999
  case false => go_enter Try.func54, Try.ntmps54; go_wp2_with (first | (go_at_call 41; refine (l1In_c _ _ _ _).mono ?_; rintro E w' ⟨rfl, rfl⟩)); go_ret; exact ⟨ret_b (by simp [Sw.reqOk, g2]), ext_⟩
  cases g3 : Sw.inR r.kind 1 6
  case false => go_enter Try.func54, Try.ntmps54; go_wp2_with (first | (go_at_call 41; refine (l1In_c _ _ _ _).mono ?_; rintro E w' ⟨rfl, rfl⟩)); go_ret; exact ⟨ret_b (by simp [Sw.reqOk, g3]), ext_⟩
  cases g4 : Sw.inR r.ticket 0 7
  case false => go_enter Try.func54, Try.ntmps54; go_wp2_with (first | (go_at_call 41; refine (l1In_c _ _ _ _).mono ?_; rintro E w' ⟨rfl, rfl⟩)); go_ret; exact ⟨ret_b (by simp [Sw.reqOk, g4]), ext_⟩
  have e : Sw.reqOk r = (if r.kind = 1 then Sw.inR r.who 1 5 && Sw.inR r.price 1 50 else decide (r.who = 0) && (if r.kind = 2 then Sw.inR r.price 1 999 else decide (r.price = 0))) := by simp [Sw.reqOk, g1, g2, g3, g4]
  have He := Lib.hid e; clear e
  by_cases k1 : r.kind = 1
  · have k1' : (r.kind == 1) = true := by simp [k1]
    have K1 := Lib.hid k1; clear k1
    cases g5 : Sw.inR r.who 1 5
    all_goals
      go_enter Try.func54, Try.ntmps54
      go_wp2_with (first | (go_at_call 41; refine (l1In_c _ _ _ _).mono ?_; rintro E w' ⟨rfl, rfl⟩))
      go_ret
      exact ⟨ret_b (by rw [He.out, if_pos K1.out]; simp [g5]), ext_⟩
  have k1' : (r.kind == 1) = false := by simp [k1]
  cases g5 : (r.who == 0)
  case false =>
    go_enter Try.func54, Try.ntmps54
    go_wp2_with (first | (go_at_call 41; refine (l1In_c _ _ _ _).mono ?_; rintro E w' ⟨rfl, rfl⟩))
    go_ret
    exact ⟨ret_b (by rw [He.out, if_neg k1]; rw [← beqI, g5]; rfl), ext_⟩
  by_cases k2 : r.kind = 2
  · have k2' : (r.kind == 2) = true := by simp [k2]
    have k2'' : (r.kind != 2) = false := by simp [k2]
    have K2 := Lib.hid k2; clear k2
    cases g6 : Sw.inR r.price 1 999
    all_goals
      go_enter Try.func54, Try.ntmps54
      go_wp2_with (first | (go_at_call 41; refine (l1In_c _ _ _ _).mono ?_; rintro E w' ⟨rfl, rfl⟩))
      go_ret
      exact ⟨ret_b (by rw [He.out, if_neg k1, if_pos K2.out]; rw [← beqI, g5, g6]; rfl), ext_⟩
  have k2' : (r.kind == 2) = false := by simp [k2]
  have k2'' : (r.kind != 2) = true := by simp [k2]
  cases g6 : (r.price == 0)
  all_goals
    go_enter Try.func54, Try.ntmps54
    go_wp2_with (first | (go_at_call 41; refine (l1In_c _ _ _ _).mono ?_; rintro E w' ⟨rfl, rfl⟩))
    go_ret
    exact ⟨ret_b (by rw [He.out, if_neg k1, if_neg k2]; rw [← beqI, ← beqI, g5, g6]; rfl), ext_⟩

/-! ### a deal, as the reference asks -/
def buyerOk (clock : Int) (d : Sw.Deal) : Bool := if d.buyer = 0 then decide (d.due = 0) else Sw.inR d.buyer 1 5 && decide (d.buyer ≠ d.seller) && Sw.inR d.due clock (clock + 5)
theorem dealOk_b {clock : Int} {rows : List Sw.Row} {d : Sw.Deal} {r : Sw.Row} (ho : Sw.ownOk rows = true) (hr : Sw.rowAt rows d.ticket = r) :
    Sw.dealOk clock rows d = (Sw.inR d.ticket 0 7 && decide (r.who = d.seller) && decide (d.seller ≠ 0) && !r.used && Sw.inR d.price 1 (Sw.entCap r.face) && buyerOk clock d) := by
  have h1 := Sw.rowAt_ok ho d.ticket
  rw [hr, Sw.rowOk_iff] at h1
  unfold Sw.dealOk
  rw [hr]
  unfold buyerOk
  by_cases hs : r.who = d.seller
  · by_cases h0 : d.seller = 0
    · have : Sw.inR d.seller 1 5 = false := by rw [h0]; rfl
      have this0 : Sw.inR 0 1 5 = false := rfl
      simp [this0, h0]
    · have : Sw.inR d.seller 1 5 = true := Sw.inR_iff.2 (by omega)
      simp [this, h0]
  · simp [hs]
theorem dealsOk_cons {clock : Int} {rows : List Sw.Row} {p : Int} {d : Sw.Deal} {ds : List Sw.Deal} : Sw.dealsOk clock rows p (d :: ds) = (Sw.dealOk clock rows d && decide (p < d.ticket) && Sw.dealsOk clock rows d.ticket ds) := rfl
/-- Behind k deals: the last one's ticket. -/
def LastAt (xs : List Sw.Deal) (k : Nat) (p : Int) : Prop := k = 0 ∧ p = -1 ∨ ∃ j y, k = j + 1 ∧ xs[j]? = some y ∧ y.ticket = p ∧ 0 ≤ p
/-- What a market is asked first. -/
def mktGate (m : Sw.Mkt) : Bool := (Sw.ownFold m.log).isSome && Sw.monOk m.purses && decide (m.deals.length ≤ 8) && Sw.inR m.clock 0 99999 && decide (m.nums.length = 5) && decide (m.said.length = 5)
theorem mktOk_parts (m : Sw.Mkt) : Sw.mktOk m = (mktGate m && Sw.dealsOk m.clock (Sw.mktRows m) (-1) m.deals && Sw.numsOk m.nums m.said && decide (Sw.monSum m.purses + Sw.mktHeld m ≤ 100000)) := by
  simp [Sw.mktOk, mktGate]
theorem numsOk_at {ns ss : List Int} {k : Nat} {a b : Int} (ha : ns.drop k = a :: ns.drop (k + 1)) (hb : ss.drop k = b :: ss.drop (k + 1)) : Sw.numsOk (ns.drop k) (ss.drop k) = (Sw.numOk a b && Sw.numsOk (ns.drop (k + 1)) (ss.drop (k + 1))) := by rw [ha, hb]; rfl

end Go.Proofs.Ytdbnbembjebfhaa

namespace Go.Proofs.Ytdbnbembjebfhaa
set_option maxRecDepth 100000
set_option linter.unusedSimpArgs false
set_option linter.unusedVariables false
open Go.RowKit Go
set_option maxHeartbeats 1000000

/-- 'make([]T, n)' inside a region that draws its order. -/
theorem step_mk {P : Program} {w : World} {ops : Array Oper} {o : Oper} {a : Act} {Kx : Act → World → Prop} {Q : Exit → Act → World → Prop} {E : Prop} {α : Type} {enc : α → List Value} {sz bytes : Nat} {t e : TypeId} {l c : Operand} {lo n : Nat}
    (hel : ElemOk P t e sz bytes) (zx : α) (hzx : ∀ i z, P.info? e = some i → i.zero = some z → z.cells = (enc zx).toArray) (hsz : (enc zx).length = sz) (hgd : o.guard = none)
    (ho : o.op = .makeSlice t l c) (hl : a.eval l = .int .i64 n) (hc : a.eval c = .int .i64 n) (hb : bytes * n ≤ 281474976710656) (hn : n ≤ maxLen) (hlo : lo ≤ w.heap.size)
    (K : ∀ w', Ow enc sz e w' lo (some ⟨w.heap.size, 0, none⟩) n n (List.replicate n zx) → Ex w w' → w.heap.size + 1 ≤ w'.heap.size → Kx (a.put o.dst (.slice (some ⟨w.heap.size, 0, none⟩) n n)) w') :
    if Region.wanted o (yielded ops a.tmps) = true then o.wp P a w Kx Q else E := by
  rw [if_pos (by simp [Region.wanted, hgd])]
  obtain ⟨i, z, hi, hz, hsz', hby, hzs⟩ := hel.info
  obtain ⟨w', hrun, h1, h2⟩ := run_make_full (P := P) w lo t e i z sz hel.sl hi hz hsz' .i64 .i64 n (by rw [hby]; exact hb) hn hlo
  unfold Oper.wp
  simp [execOp, ho, hl, hc, hrun, Result.andThen]
  rw [hzx i z hi hz, madeCells_flat zx hsz hel.pos] at h1
  refine K w' ⟨(List.length_replicate ..).symm, h1⟩ ⟨h2.os, h2.tape, h2.output, h2.size, fun k hk _ => h2.block k hk (by simp)⟩ ?_
  rcases h1.2 with ⟨hv, h0⟩ | ⟨g, cap, cur, hv, hb, hh, _⟩
  · cases hv
  · injection hv with e1 e2 e3
    have e4 : w.heap.size = g := by injection e1 with e1; injection e1
    subst e4
    exact (Array.getElem?_eq_some_iff.1 hh).1
/-- How far one piece has come that is made at once. -/
inductive MakeSt {α : Type} (enc : α → List Value) (sz : Nat) (e : TypeId) (τ : Nat → Nat) (t : Nat) (w : World) (lo n : Nat) (xs : List α) : Bool → Value → Prop
  | none (v : Value) : MakeSt enc sz e τ t w lo n xs false v
  | done (A : Option Addr) (c : Nat) (h : OwT enc sz e τ t w lo A c n xs) : MakeSt enc sz e τ t w lo n xs true (.slice A n c)
section
variable {α : Type} {enc : α → List Value} {sz : Nat} {e : TypeId} {τ τ' : Nat → Nat} {t s : Nat} {w w' : World} {lo n c : Nat} {xs : List α} {l r : Bool} {v u : Value} {A A' : Option Addr}
theorem MakeSt.mv (h : MakeSt enc sz e τ t w lo n xs r u) (f : ∀ A c k ys, OwT enc sz e τ t w lo A c k ys → OwT enc sz e τ' t w' lo A c k ys) : MakeSt enc sz e τ' t w' lo n xs r u := by
  cases h with
  | none => exact .none _
  | done A c h => exact .done _ _ (f _ _ _ _ h)
theorem MakeSt.alloc {o : Obj} (h : MakeSt enc sz e τ t w lo n xs r u) : MakeSt enc sz e (glue τ w.heap.size (fun _ => s)) t (w.alloc o) lo n xs r u :=
  h.mv fun _ _ _ _ h => (h.glueL (Nat.le_refl _)).keep (KT.refl _ _ _ _).alloc
theorem MakeSt.app (h : MakeSt enc sz e τ t w lo n xs r u) (hb : Ch (atA A) w w') (ht : ∀ a, A = some a → τ a.block = s) (hne : t ≠ s) : MakeSt enc sz e (glue τ w.heap.size (fun _ => s)) t w' lo n xs r u :=
  h.mv fun _ _ _ _ h => (h.glueL (Nat.le_refl _)).keep (KT.ch hb (KT.refl _ _ _ _) fun i ⟨a, ha, hi⟩ => .inr (by rw [hi, glue_tag (ht a ha)]; exact Ne.symm hne))
/-- Something new elsewhere. -/
theorem MakeSt.ex (h : MakeSt enc sz e τ t w lo n xs r u) (hb : Ex w w') : MakeSt enc sz e (glue τ w.heap.size (fun _ => s)) t w' lo n xs r u :=
  h.mv fun _ _ _ _ h => (h.glueL (Nat.le_refl _)).keep (KT.ex hb (KT.refl _ _ _ _))
theorem CopySt.ex (h : CopySt enc sz e τ t w lo n xs l r v u) (hb : Ex w w') : CopySt enc sz e (glue τ w.heap.size (fun _ => s)) t w' lo n xs l r v u :=
  h.mv fun _ _ _ _ h => (h.glueL (Nat.le_refl _)).keep (KT.ex hb (KT.refl _ _ _ _))
/-- What is new is marked. -/
theorem OwT.newT {ys : List α} {m lo' : Nat} (h : Ow enc sz e w' lo' A c m ys) (hl : w.heap.size ≤ lo') (hlo : lo ≤ lo') : OwT enc sz e (glue τ w.heap.size (fun _ => t)) t w' lo A c m ys :=
  ⟨h.less hlo, fun a ha => by unfold glue; rw [if_neg (by have := (h.blk ha).1; omega)]⟩
end
end Go.Proofs.Ytdbnbembjebfhaa

namespace Go.Proofs.Ytdbnbembjebfhaa
set_option maxRecDepth 100000
set_option linter.unusedSimpArgs false
set_option linter.unusedVariables false
open Go.RowKit Go
set_option maxHeartbeats 2000000

/-- A cell that has been written, whatever it held. -/
@[go_sem] theorem setCell_same_ (W : World) (b i : Nat) (u : Value) : (W.setCell ⟨b, i, none⟩ u).cell? ⟨b, i, none⟩ = (W.cell? ⟨b, i, none⟩).map (fun _ => u) := by
  cases h : W.cell? ⟨b, i, none⟩ with
  | some v => rw [World.cell?_setCell_same _ _ _ h]; rfl
  | none =>
    simp only [World.cell?, World.setCell, Array.getElem?_modify, if_true] at h ⊢
    cases hh : W.heap[b]? with
    | none => simp
    | some o =>
      rw [hh] at h
      cases o with
      | cells c T fz => simp at h ⊢; omega
      | _ => simp
/-- What a function leaves that has a market of its own, and hands one back with a number. -/
def MktPost (lo : Nat) (τ : Nat → Nat) (w w' : World) (E : Ending) (x : Sw.Mkt × Int) : Prop :=
  ∃ (bL : Option Addr) (bLc bLn : Nat) (bP : Option Addr) (bPc bPn : Nat) (bD : Option Addr) (bDc bDn : Nat) (bN : Option Addr) (bNc bNn : Nat) (bS : Option Addr) (bSc bSn : Nat) (τ' : Nat → Nat), E = .returned (.tuple #[.agg #[.slice bL bLn bLc, .slice bP bPn bPc, .slice bD bDn bDc, .int .i64 x.1.clock, .slice bN bNn bNc, .slice bS bSn bSc], .int .i64 x.2]) ∧ OwM τ' w' lo bL bLc bLn bP bPc bPn bD bDc bDn bN bNc bNn bS bSc bSn x.1 ∧ (∀ b, b < w.heap.size → τ' b = τ b) ∧ Ch (SM lo τ) w w'
section
variable {τ : Nat → Nat} {w w' : World} {lo g k : Nat}
theorem Ch.atA_keep {A : Option Addr} (h : Ch (atA A) w w') (hg : g < w.heap.size) (hA : ∀ a, A = some a → a.block ≠ g) : (∀ o, w'.cell? ⟨g, o, none⟩ = w.cell? ⟨g, o, none⟩) ∧ (∀ o, w'.frozen? ⟨g, o, none⟩ = w.frozen? ⟨g, o, none⟩) :=
  ⟨fun o => h.cell (p := ⟨g, o, none⟩) hg (fun ⟨a, ha, e⟩ => hA a ha e.symm), fun o => h.frozen (p := ⟨g, o, none⟩) hg (fun ⟨a, ha, e⟩ => hA a ha e.symm)⟩
theorem Ch.sm_keep (h : Ch (SM lo τ) w w') (hg : g < w.heap.size) (h0 : τ g = 0) : (∀ o, w'.cell? ⟨g, o, none⟩ = w.cell? ⟨g, o, none⟩) ∧ (∀ o, w'.frozen? ⟨g, o, none⟩ = w.frozen? ⟨g, o, none⟩) :=
  ⟨fun o => h.cell (p := ⟨g, o, none⟩) hg (fun ⟨_, h1, _⟩ => by have h1 : 1 ≤ τ g := h1; omega), fun o => h.frozen (p := ⟨g, o, none⟩) hg (fun ⟨_, h1, _⟩ => by have h1 : 1 ≤ τ g := h1; omega)⟩
theorem OwM.old {aL : Option Addr} {aLc aLn : Nat} {aP : Option Addr} {aPc aPn : Nat} {aD : Option Addr} {aDc aDn : Nat} {aN : Option Addr} {aNc aNn : Nat} {aS : Option Addr} {aSc aSn : Nat} {m : Sw.Mkt} {w0 : World} (h : OwM τ w0 lo aL aLc aLn aP aPc aPn aD aDc aDn aN aNc aNn aS aSc aSn m) (hg : w0.heap.size ≤ g) :
    (∀ a, aL = some a → a.block ≠ g) ∧ (∀ a, aP = some a → a.block ≠ g) ∧ (∀ a, aD = some a → a.block ≠ g) ∧ (∀ a, aN = some a → a.block ≠ g) ∧ (∀ a, aS = some a → a.block ≠ g) :=
  ⟨fun a ha => by have := (h.log.ow.blk ha).2; omega, fun a ha => by have := (h.purses.ow.blk ha).2; omega, fun a ha => by have := (h.deals.ow.blk ha).2; omega, fun a ha => by have := (h.nums.ow.blk ha).2; omega, fun a ha => by have := (h.said.ow.blk ha).2; omega⟩
theorem OwM.atL {aL : Option Addr} {aLc aLn : Nat} {aP : Option Addr} {aPc aPn : Nat} {aD : Option Addr} {aDc aDn : Nat} {aN : Option Addr} {aNc aNn : Nat} {aS : Option Addr} {aSc aSn : Nat} {m : Sw.Mkt} (h : OwM τ w lo aL aLc aLn aP aPc aPn aD aDc aDn aN aNc aNn aS aSc aSn m) {i : Nat} (hi : atA aL i) : SM lo τ i := by
  obtain ⟨a, ha, rfl⟩ := hi
  exact ⟨(h.log.ow.blk ha).1, by rw [h.log.tag a ha]; decide, by rw [h.log.tag a ha]; decide⟩
/-- An entry more. -/
theorem OwM.logged {aL : Option Addr} {aLc aLn : Nat} {aP : Option Addr} {aPc aPn : Nat} {aD : Option Addr} {aDc aDn : Nat} {aN : Option Addr} {aNc aNn : Nat} {aS : Option Addr} {aSc aSn : Nat} {m : Sw.Mkt} (h : OwM τ w lo aL aLc aLn aP aPc aPn aD aDc aDn aN aNc aNn aS aSc aSn m) {A : Option Addr} {c n : Nat} {es : List Sw.Ent} (ho : OwE w' lo A c n es) (hc : Ch (atA aL) w w') (hat : ∀ b, A = some b → aL = some b ∨ w.heap.size ≤ b.block) :
    OwM (glue τ w.heap.size (fun _ => 1)) w' lo A c n aP aPc aPn aD aDc aDn aN aNc aNn aS aSc aSn { m with log := es } := by
  have K : ∀ t, t ≠ 1 → KT (glue τ w.heap.size (fun _ => 1)) t lo w w' := fun t ht => KT.ch hc (KT.refl _ _ _ _) fun i ⟨a, ha, hi⟩ => .inr (by rw [hi, glue_tag (h.log.tag a ha)]; exact Ne.symm ht)
  exact ⟨OwT.full ho h.log hat, (h.purses.glueL (Nat.le_refl _)).keep (K 2 (by decide)), (h.deals.glueL (Nat.le_refl _)).keep (K 3 (by decide)), (h.nums.glueL (Nat.le_refl _)).keep (K 4 (by decide)), (h.said.glueL (Nat.le_refl _)).keep (K 5 (by decide))⟩
/-- Other purses, made since w. -/
theorem OwM.pursed {aL : Option Addr} {aLc aLn : Nat} {aP : Option Addr} {aPc aPn : Nat} {aD : Option Addr} {aDc aDn : Nat} {aN : Option Addr} {aNc aNn : Nat} {aS : Option Addr} {aSc aSn : Nat} {m : Sw.Mkt} (h : OwM τ w lo aL aLc aLn aP aPc aPn aD aDc aDn aN aNc aNn aS aSc aSn m) {A : Option Addr} {c n l : Nat} {ps : List Int} (ho : OwI w' l A c n ps) (hl : w.heap.size ≤ l) (hlo : lo ≤ l) (hk : KF lo w w') :
    OwM (glue τ w.heap.size (fun _ => 2)) w' lo aL aLc aLn A c n aD aDc aDn aN aNc aNn aS aSc aSn { m with purses := ps } :=
  ⟨(h.log.glueL (Nat.le_refl _)).keepF hk, OwT.newT ho hl hlo, (h.deals.glueL (Nat.le_refl _)).keepF hk, (h.nums.glueL (Nat.le_refl _)).keepF hk, (h.said.glueL (Nat.le_refl _)).keepF hk⟩
/-- Other deals, made since w. -/
theorem OwM.dealt {aL : Option Addr} {aLc aLn : Nat} {aP : Option Addr} {aPc aPn : Nat} {aD : Option Addr} {aDc aDn : Nat} {aN : Option Addr} {aNc aNn : Nat} {aS : Option Addr} {aSc aSn : Nat} {m : Sw.Mkt} (h : OwM τ w lo aL aLc aLn aP aPc aPn aD aDc aDn aN aNc aNn aS aSc aSn m) {A : Option Addr} {c n l : Nat} {ds : List Sw.Deal} (ho : OwD w' l A c n ds) (hl : w.heap.size ≤ l) (hlo : lo ≤ l) (hk : KF lo w w') :
    OwM (glue τ w.heap.size (fun _ => 3)) w' lo aL aLc aLn aP aPc aPn A c n aN aNc aNn aS aSc aSn { m with deals := ds } :=
  ⟨(h.log.glueL (Nat.le_refl _)).keepF hk, (h.purses.glueL (Nat.le_refl _)).keepF hk, OwT.newT ho hl hlo, (h.nums.glueL (Nat.le_refl _)).keepF hk, (h.said.glueL (Nat.le_refl _)).keepF hk⟩
end
theorem Ow.apart {α : Type} {enc : α → List Value} {sz : Nat} {e : TypeId} {w : World} {lo c n g : Nat} {A : Option Addr} {xs : List α} (h : Ow enc sz e w lo A c n xs) (hg : w.heap.size ≤ g) : ∀ a, A = some a → a.block ≠ g :=
  fun a ha => by have := (h.blk ha).2; omega
/-- The function's own boxes. -/
def BX (g0 g1 : Nat) : Nat → Prop := fun b => g0 ≤ b ∧ b < g1
theorem BX.mk {g0 g1 b : Nat} (h : g0 ≤ b) (k : b < g1) : BX g0 g1 b := ⟨h, k⟩
theorem bx_ {p : Prop} (h : p := by with_reducible repeat (first | exact cR _ _ | apply cA | apply cD | apply cN | (refine cS ?_ (Or.inl (BX.mk sz_ sz_)) _) | (refine cS ?_ (Or.inr sz_) _) | (apply cE; assumption))) : p := h
theorem OwM.box {τ : Nat → Nat} {w w' : World} {lo g0 g1 : Nat} {aL : Option Addr} {aLc aLn : Nat} {aP : Option Addr} {aPc aPn : Nat} {aD : Option Addr} {aDc aDn : Nat} {aN : Option Addr} {aNc aNn : Nat} {aS : Option Addr} {aSc aSn : Nat} {m : Sw.Mkt} (h : OwM τ w lo aL aLc aLn aP aPc aPn aD aDc aDn aN aNc aNn aS aSc aSn m) (hx : Ch (BX g0 g1) w w') (h0 : ∀ b, g0 ≤ b → b < g1 → τ b = 0) : OwM τ w' lo aL aLc aLn aP aPc aPn aD aDc aDn aN aNc aNn aS aSc aSn m :=
  h.keep fun t h1 _ => KT.ch hx (KT.refl _ _ _ _) fun i hi => .inr (by rw [h0 i hi.1 hi.2]; omega)
theorem tag0 {τ : Nat → Nat} {k g1 : Nat} : ∀ b, k ≤ b → b < g1 → glue τ k (fun _ => 0) b = 0 := fun b h _ => if_neg (by omega)
theorem tag1 {τ τ' : Nat → Nat} {g0 g1 k : Nat} (h : ∀ b, g0 ≤ b → b < g1 → τ b = 0) (hk : g1 ≤ k) : ∀ b, g0 ≤ b → b < g1 → glue τ k τ' b = 0 := fun b h1 h2 => (if_pos (by omega)).trans (h b h1 h2)
theorem rows8 {m : Sw.Mkt} {rows : List Sw.Row} (h : Sw.MOk m rows) : Sw.mktRows m = rows ∧ rows.length = 8 := ⟨Sw.mktRows_of h.fold, Sw.ownOk_len (Sw.ownFold_ok h.fold)⟩

theorem sIssue_c (aL : Option Addr) (aLc aLn : Nat) (aP : Option Addr) (aPc aPn : Nat) (aD : Option Addr) (aDc aDn : Nat) (aN : Option Addr) (aNc aNn : Nat) (aS : Option Addr) (aSc aSn : Nat) (m : Sw.Mkt) (r : Sw.Req) (rows : List Sw.Row) (lo : Nat) (τ : Nat → Nat) (w : World) (hM : OwM τ w lo aL aLc aLn aP aPc aPn aD aDc aDn aN aNc aNn aS aSc aSn m) (hok : Sw.MOk m rows) (hr : Sw.reqOk r = true) (hk : r.kind = 1) (hlo : lo ≤ w.heap.size) : Calls Try.prog 127 #[.agg #[.slice aL aLn aLc, .slice aP aPn aPc, .slice aD aDn aDc, .int .i64 m.clock, .slice aN aNn aNc, .slice aS aSn aSc], .agg #[.int .i64 r.user, .int .i64 r.n, .int .i64 r.kind, .int .i64 r.ticket, .int .i64 r.who, .int .i64 r.price]] w fun E w' => MktPost lo τ w w' E (Sw.issue m r (Sw.rowAt rows r.ticket)) := by
  have hr' := Sw.reqOk_iff.1 hr
  obtain ⟨hrow, h8⟩ := rows8 hok
  have hL40 : m.log.length ≤ 40 := (Sw.ownFold_some.1 hok.fold).1
  have hML := hM.log
  have hMP := hM.purses
  have hMD := hM.deals
  have l1 := hM.log.ow.1
  have l2 := Lib.hid hM.purses.ow.1
  have hp5 : aPn ≤ 4194304 := by have := l2.out; have := (Sw.monOk_iff.1 hok.mon).1; omega
  have hfits : Sw.ownFits rows ⟨1, r.ticket, r.who, r.price⟩ = decide ((Sw.rowAt rows r.ticket).who = 0) := by
    have he : Sw.entOk ⟨1, r.ticket, r.who, r.price⟩ = true := Sw.entOk_iff.2 ⟨hr'.2.2.2.1, by dsimp only; omega, by dsimp only; omega⟩
    simp [Sw.ownFits, Sw.ownFold_ok hok.fold, he, Sw.fitsRow]
  by_cases h1 : r.user ≠ 1 ∨ r.who = 1
  · have e : Sw.issue m r (Sw.rowAt rows r.ticket) = (m, 2) := by unfold Sw.issue; rw [if_pos h1]
    rw [e]
    clear e hfits hrow hr' hr hk l1
    rcases h1 with h1 | h1
    · have g1 : (r.user != 1) = true := by simpa using h1
      clear h1
      go_enter Try.func127, Try.ntmps127
      go_wp2_with fail
      refine bodyPost_ret (v := .tuple #[.agg #[.slice aL aLn aLc, .slice aP aPn aPc, .slice aD aDn aDc, .int .i64 m.clock, .slice aN aNn aNc, .slice aS aSn aSc], .int .i64 2]) (by simp [results, Try.results127, go_sem, *]) rfl ?_
      exact ⟨_, _, _, _, _, _, _, _, _, _, _, _, _, _, _, τ, rfl, hM.keepF (by (exact kf_)), fun _ _ => rfl, by (exact ext_)⟩
    · have g1 : (r.who == 1) = true := by simpa using h1
      clear h1
      cases g2 : (r.user != 1)
      all_goals
        go_enter Try.func127, Try.ntmps127
        go_wp2_with fail
        refine bodyPost_ret (v := .tuple #[.agg #[.slice aL aLn aLc, .slice aP aPn aPc, .slice aD aDn aDc, .int .i64 m.clock, .slice aN aNn aNc, .slice aS aSn aSc], .int .i64 2]) (by simp [results, Try.results127, go_sem, *]) rfl ?_
        exact ⟨_, _, _, _, _, _, _, _, _, _, _, _, _, _, _, τ, rfl, hM.keepF (by (exact kf_)), fun _ _ => rfl, by (exact ext_)⟩
  have h1a : (r.user != 1) = false := by simpa using fun h => h1 (.inl h)
  have h1b : (r.who == 1) = false := by simpa using fun h => h1 (.inr h)
  have HR := Lib.hid hrow
  have HF := Lib.hid hfits
  have HL := Lib.hid l1
  cases h2 : decide ((Sw.rowAt rows r.ticket).who = 0)
  case false =>
    have h2' := of_decide_eq_false h2
    have e : Sw.issue m r (Sw.rowAt rows r.ticket) = (m, 3) := by unfold Sw.issue; rw [if_neg h1, if_pos h2']
    rw [e]
    clear e hfits hrow hr' hr hk l1 h1 h2'
    rw [h2] at HF; clear h2
    go_enter Try.func127, Try.ntmps127
    go_wp2_with fail
    (refine wp_name ?_; intro W0 hb0; have hst := xr hb0; (try simp only [zA, zC, zD, zN] at hst); obtain ⟨hc0, hf0, hz0⟩ := hst; go_region_held3 (fun w' => Held W0 w') ((first | with_reducible assumption | with_reducible exact Held.start _ | with_reducible exact Held.of (by assumption) | with_reducible exact Held.ex (by assumption) (by assumption) | ((repeat (first | with_reducible refine Held.set ?_ (by simp only [zA, zC, zD, zN]; omega) | with_reducible refine Held.alloc ?_ _ | with_reducible refine Held.drew ?_)); (first | with_reducible assumption | with_reducible exact Held.refl _ | with_reducible exact Held.of (by assumption) | with_reducible exact Held.ex (by assumption) (by assumption))) | exact Held.of (by exact ext_))) ((first | (go_at_call 158; apply Calls.mono; apply sRows_c; ((first | (apply Rs.at0; assumption) | (apply Ow.rs0; assumption) | (apply OwT.rs0; assumption)); exact kf_); rintro E w1 ⟨A', c', n', rfl, hoR, hb⟩; have hst := xr hb; (try simp only [zA, zC, zD, zN] at hst); obtain ⟨hc, hf, hz⟩ := hst) | (go_at_call 106; apply Calls.mono; apply (sOwnFits_c (e := ⟨1, r.ticket, r.who, r.price⟩)); (apply Ow.rs0 hoR; (exact kf_)); rintro E w2 ⟨rfl, hb⟩; rw [HR.out, HF.out]; have hst := xr hb; (try simp only [zA, zC, zD, zN] at hst); obtain ⟨hc, hf, hz⟩ := hst))); all_goals (have hb := And.right (by assumption : Held W0 _); have hst := xr hb; (try simp only [zA, zC, zD, zN] at hst); obtain ⟨hc, hf, hz⟩ := hst))
    all_goals go_wp2
    refine bodyPost_ret (v := .tuple #[.agg #[.slice aL aLn aLc, .slice aP aPn aPc, .slice aD aDn aDc, .int .i64 m.clock, .slice aN aNn aNc, .slice aS aSn aSc], .int .i64 3]) (by simp [results, Try.results127, go_sem, *]) rfl ?_
    exact ⟨_, _, _, _, _, _, _, _, _, _, _, _, _, _, _, τ, rfl, hM.keepF (by (exact kf_)), fun _ _ => rfl, by (exact ext_)⟩
  have h2' := of_decide_eq_true h2
  rw [h2] at HF; clear h2
  by_cases h3 : m.log.length = 40
  · have e : Sw.issue m r (Sw.rowAt rows r.ticket) = (m, 6) := by unfold Sw.issue; rw [if_neg h1, if_neg (by simpa using h2'), if_pos h3]
    rw [e]
    have g3 : ((aLn : Int) == 40) = true := by simp; omega
    clear e hfits hrow hr' hr hk l1 h1 h2' h3
    go_enter Try.func127, Try.ntmps127
    go_wp2_with fail
    (refine wp_name ?_; intro W0 hb0; have hst := xr hb0; (try simp only [zA, zC, zD, zN] at hst); obtain ⟨hc0, hf0, hz0⟩ := hst; go_region_held3 (fun w' => Held W0 w') ((first | with_reducible assumption | with_reducible exact Held.start _ | with_reducible exact Held.of (by assumption) | with_reducible exact Held.ex (by assumption) (by assumption) | ((repeat (first | with_reducible refine Held.set ?_ (by simp only [zA, zC, zD, zN]; omega) | with_reducible refine Held.alloc ?_ _ | with_reducible refine Held.drew ?_)); (first | with_reducible assumption | with_reducible exact Held.refl _ | with_reducible exact Held.of (by assumption) | with_reducible exact Held.ex (by assumption) (by assumption))) | exact Held.of (by exact ext_))) ((first | (go_at_call 158; apply Calls.mono; apply sRows_c; ((first | (apply Rs.at0; assumption) | (apply Ow.rs0; assumption) | (apply OwT.rs0; assumption)); exact kf_); rintro E w1 ⟨A', c', n', rfl, hoR, hb⟩; have hst := xr hb; (try simp only [zA, zC, zD, zN] at hst); obtain ⟨hc, hf, hz⟩ := hst) | (go_at_call 106; apply Calls.mono; apply (sOwnFits_c (e := ⟨1, r.ticket, r.who, r.price⟩)); (apply Ow.rs0 hoR; (exact kf_)); rintro E w2 ⟨rfl, hb⟩; rw [HR.out, HF.out]; have hst := xr hb; (try simp only [zA, zC, zD, zN] at hst); obtain ⟨hc, hf, hz⟩ := hst))); all_goals (have hb := And.right (by assumption : Held W0 _); have hst := xr hb; (try simp only [zA, zC, zD, zN] at hst); obtain ⟨hc, hf, hz⟩ := hst))
    all_goals go_wp2
    refine bodyPost_ret (v := .tuple #[.agg #[.slice aL aLn aLc, .slice aP aPn aPc, .slice aD aDn aDc, .int .i64 m.clock, .slice aN aNn aNc, .slice aS aSn aSc], .int .i64 6]) (by simp [results, Try.results127, go_sem, *]) rfl ?_
    exact ⟨_, _, _, _, _, _, _, _, _, _, _, _, _, _, _, τ, rfl, hM.keepF (by (exact kf_)), fun _ _ => rfl, by (exact ext_)⟩
  have g3 : ((aLn : Int) == 40) = false := by simp; omega
  cases h4 : Sw.moveMay m.purses r.who 1 r.price
  case false =>
    have e : Sw.issue m r (Sw.rowAt rows r.ticket) = (m, 5) := by unfold Sw.issue; rw [if_neg h1, if_neg (by simpa using h2'), if_neg h3, if_neg (by simp [h4])]
    rw [e]
    clear e hfits hrow hr' hr hk l1 h1 h2' h3
    go_enter Try.func127, Try.ntmps127
    go_wp2_with fail
    (refine wp_name ?_; intro W0 hb0; have hst := xr hb0; (try simp only [zA, zC, zD, zN] at hst); obtain ⟨hc0, hf0, hz0⟩ := hst; go_region_held3 (fun w' => Held W0 w') ((first | with_reducible assumption | with_reducible exact Held.start _ | with_reducible exact Held.of (by assumption) | with_reducible exact Held.ex (by assumption) (by assumption) | ((repeat (first | with_reducible refine Held.set ?_ (by simp only [zA, zC, zD, zN]; omega) | with_reducible refine Held.alloc ?_ _ | with_reducible refine Held.drew ?_)); (first | with_reducible assumption | with_reducible exact Held.refl _ | with_reducible exact Held.of (by assumption) | with_reducible exact Held.ex (by assumption) (by assumption))) | exact Held.of (by exact ext_))) ((first | (go_at_call 158; apply Calls.mono; apply sRows_c; ((first | (apply Rs.at0; assumption) | (apply Ow.rs0; assumption) | (apply OwT.rs0; assumption)); exact kf_); rintro E w1 ⟨A', c', n', rfl, hoR, hb⟩; have hst := xr hb; (try simp only [zA, zC, zD, zN] at hst); obtain ⟨hc, hf, hz⟩ := hst) | (go_at_call 106; apply Calls.mono; apply (sOwnFits_c (e := ⟨1, r.ticket, r.who, r.price⟩)); (apply Ow.rs0 hoR; (exact kf_)); rintro E w2 ⟨rfl, hb⟩; rw [HR.out, HF.out]; have hst := xr hb; (try simp only [zA, zC, zD, zN] at hst); obtain ⟨hc, hf, hz⟩ := hst))); all_goals (have hb := And.right (by assumption : Held W0 _); have hst := xr hb; (try simp only [zA, zC, zD, zN] at hst); obtain ⟨hc, hf, hz⟩ := hst))
    all_goals go_wp2_with (go_at_call 159; apply Calls.mono; apply sMonMove_c; ((first | (apply Rs.at0; assumption) | (apply Ow.rs0; assumption) | (apply OwT.rs0; assumption)); exact kf_); (first | assumption | omega); rintro E w1 ⟨A', c', rfl, hoP, hb⟩; have hst := xr hb; (try simp only [zA, zC, zD, zN] at hst); obtain ⟨hc, hf, hz⟩ := hst)
    refine bodyPost_ret (v := .tuple #[.agg #[.slice aL aLn aLc, .slice aP aPn aPc, .slice aD aDn aDc, .int .i64 m.clock, .slice aN aNn aNc, .slice aS aSn aSc], .int .i64 5]) (by simp [results, Try.results127, go_sem, *]) rfl ?_
    exact ⟨_, _, _, _, _, _, _, _, _, _, _, _, _, _, _, τ, rfl, hM.keepF (by (exact kf_)), fun _ _ => rfl, by (exact ext_)⟩
  have e : Sw.issue m r (Sw.rowAt rows r.ticket) = ({ m with purses := Sw.turned (Sw.turned m.purses r.who (-r.price)) 1 r.price, log := m.log ++ [⟨1, r.ticket, r.who, r.price⟩] }, 1) := by
    unfold Sw.issue; rw [if_neg h1, if_neg (by simpa using h2'), if_neg h3, if_pos h4]
  rw [e]
  have hpe : Sw.monMove m.purses r.who 1 r.price = Sw.turned (Sw.turned m.purses r.who (-r.price)) 1 r.price := by unfold Sw.monMove; rw [if_pos h4]
  have HP := Lib.hid hpe
  have hl40 : aLn ≤ 40 := by omega
  clear e hfits hrow hr' hr hk l1 h1 h2' h3 hpe
  go_enter Try.func127, Try.ntmps127
  go_wp2_with fail
  (refine wp_name ?_; intro W0 hb0; have hst := xr hb0; (try simp only [zA, zC, zD, zN] at hst); obtain ⟨hc0, hf0, hz0⟩ := hst; go_region_held3 (fun w' => Held W0 w') ((first | with_reducible assumption | with_reducible exact Held.start _ | with_reducible exact Held.of (by assumption) | with_reducible exact Held.ex (by assumption) (by assumption) | ((repeat (first | with_reducible refine Held.set ?_ (by simp only [zA, zC, zD, zN]; omega) | with_reducible refine Held.alloc ?_ _ | with_reducible refine Held.drew ?_)); (first | with_reducible assumption | with_reducible exact Held.refl _ | with_reducible exact Held.of (by assumption) | with_reducible exact Held.ex (by assumption) (by assumption))) | exact Held.of (by exact ext_))) ((first | (go_at_call 158; apply Calls.mono; apply sRows_c; ((first | (apply Rs.at0; assumption) | (apply Ow.rs0; assumption) | (apply OwT.rs0; assumption)); exact kf_); rintro E w1 ⟨A', c', n', rfl, hoR, hb⟩; have hst := xr hb; (try simp only [zA, zC, zD, zN] at hst); obtain ⟨hc, hf, hz⟩ := hst) | (go_at_call 106; apply Calls.mono; apply (sOwnFits_c (e := ⟨1, r.ticket, r.who, r.price⟩)); (apply Ow.rs0 hoR; (exact kf_)); rintro E w2 ⟨rfl, hb⟩; rw [HR.out, HF.out]; have hst := xr hb; (try simp only [zA, zC, zD, zN] at hst); obtain ⟨hc, hf, hz⟩ := hst))); all_goals (have hb := And.right (by assumption : Held W0 _); have hst := xr hb; (try simp only [zA, zC, zD, zN] at hst); obtain ⟨hc, hf, hz⟩ := hst))
  all_goals go_wp2_with (first | (go_at_call 159; apply Calls.mono; apply sMonMove_c; ((first | (apply Rs.at0; assumption) | (apply Ow.rs0; assumption) | (apply OwT.rs0; assumption)); exact kf_); (first | assumption | omega); rintro E w1 ⟨A', c', rfl, hoP, hb⟩; have hst := xr hb; (try simp only [zA, zC, zD, zN] at hst); obtain ⟨hc, hf, hz⟩ := hst) | (at_builtin; apply wpList_app (lo := lo) el_E one_E rfl rfl rfl rfl; (exact Ow.keep (hML.ow) kf_); (refine Rs.new [⟨1, r.ticket, r.who, r.price⟩] (by (first | rfl | (simp only [zA, zC, zD, zN]; done) | omega)) rfl rfl (fun _ => rfl) (by omega)); omega; (exact sz_); intro A1 c1 w2 ho1 hch1 hat1 hex1 hlow1; clear hex1; obtain ⟨hB0, hF0⟩ := Ch.atA_keep hch1 (g := w.heap.size) (by exact sz_) (Ow.apart (hML.ow) (by omega)); obtain ⟨hB1, hF1⟩ := Ch.atA_keep hch1 (g := w.heap.size + 1) (by exact sz_) (Ow.apart (hML.ow) (by omega)); obtain ⟨hB2, hF2⟩ := Ch.atA_keep hch1 (g := w.heap.size + 1 + 1) (by exact sz_) (Ow.apart (hML.ow) (by omega)); have hzA := hch1.size; (try simp only [zA, zC, zD, zN] at hzA)))
  refine bodyPost_ret (v := .tuple #[.agg #[.slice A1 (aLn + 1) c1, .slice A' aPn c', .slice aD aDn aDc, .int .i64 m.clock, .slice aN aNn aNc, .slice aS aSn aSc], .int .i64 1]) (by simp [results, Try.results127, go_sem, *]) rfl ?_
  rw [HP.out] at hoP
  have m1 := OwM.pursed ((hM.glueL (τ' := fun _ => 0) (Nat.le_refl _)).keepF kf_) hoP (Nat.le_refl _) sz_ (kE hb (kR _ _))
  have m2 := OwM.logged (m1.box (g0 := w.heap.size) (g1 := w.heap.size + 4) bx_ (tag1 tag0 sz_)) ho1 hch1 hat1
  have hS := Ch.trans' (show Ch (SM lo τ) w _ from ext_) hch1 (fun i _ h => hM.atL h)
  exact ⟨_, _, _, _, _, _, _, _, _, _, _, _, _, _, _, _, rfl, m2.box (g0 := w.heap.size) (g1 := w.heap.size + 4) bx_ (tag1 (tag1 tag0 sz_) sz_), fun b hb => (if_pos sz_).trans ((if_pos sz_).trans (if_pos hb)), ext_⟩
end Go.Proofs.Ytdbnbembjebfhaa

namespace Go.Proofs.Ytdbnbembjebfhaa
set_option maxRecDepth 100000
set_option linter.unusedSimpArgs false
set_option linter.unusedVariables false
open Go.RowKit Go
set_option maxHeartbeats 2000000

theorem gatOk_done {h : Sw.Head} {xs : List Int} (k : Sw.gatOk ⟨h, xs⟩ = true) : xs.Pairwise (· < ·) := by
  simp only [Sw.gatOk, Bool.and_eq_true] at k
  exact ((Sw.rises_iff xs (-1)).1 k.2).2
theorem sGatShow_c (t : Sw.Head) (A : Option Addr) (c n : Nat) (xs : List Int) (k who : Int) (r : Sw.Row) (B : Option Addr) (d m : Nat) (ps : List Int) (w : World) (hxs : RI w 0 A c n xs) (hps : RI w 0 B d m ps) : Calls Try.prog 7 #[.agg #[.int .i64 t.size, .int .i64 t.log, .int .i64 t.own, .slice A n c], .int .i64 k, .int .i64 who, .agg #[.int .i64 r.who, .int .i64 r.face, .bool r.used], .slice B m d] w fun E w' => ∃ A' c' n', E = .returned (.tuple #[.agg #[.int .i64 (Sw.gatShow ⟨t, xs⟩ k who r ps).1.head.size, .int .i64 (Sw.gatShow ⟨t, xs⟩ k who r ps).1.head.log, .int .i64 (Sw.gatShow ⟨t, xs⟩ k who r ps).1.head.own, .slice A' n' c'], .bool (Sw.gatShow ⟨t, xs⟩ k who r ps).2]) ∧ OwI w' w.heap.size A' c' n' (Sw.gatShow ⟨t, xs⟩ k who r ps).1.done ∧ Ex w w' := by
  obtain ⟨rh, rf, ru⟩ := r
  have hl := Lib.hid hxs.1
  cases g1 : Sw.gatOk ⟨t, xs⟩
  case false =>
    have e : Sw.gatShow ⟨t, xs⟩ k who ⟨rh, rf, ru⟩ ps = (Sw.gateZ, false) := by simp [Sw.gatShow, g1]
    have He := Lib.hid e; clear e
    go_enter Try.func7, Try.ntmps7
    go_wp2_with (first | (go_at_call 9; apply Calls.mono; apply sGatOk_c; ((first | (apply Rs.at0; assumption) | (apply Ow.rs0; assumption) | (apply OwT.rs0; assumption)); exact kf_); rintro E w1 ⟨rfl, hb⟩; have hst := xr hb; (try simp only [zA, zC, zD, zN] at hst); obtain ⟨hc, hf, hz⟩ := hst))
    refine bodyPost_ret (v := .tuple #[.agg #[.int .i64 0, .int .i64 0, .int .i64 0, .slice none 0 0], .bool false]) (by simp [results, Try.results7, go_sem, *]) rfl ?_
    exact ⟨none, 0, 0, by rw [He.out]; rfl, by rw [He.out]; exact Ow.nil _ _, ext_⟩
  have h8 : n ≤ 8 := by have := gatOk_len g1; have := hl.out; simp at *; omega
  cases g2 : Sw.inR who 1 5
  case false =>
    have e : Sw.gatShow ⟨t, xs⟩ k who ⟨rh, rf, ru⟩ ps = (⟨t, xs⟩, false) := by unfold Sw.gatShow; rw [if_pos g1, if_neg (by simp [Sw.gatMay, g2])]
    have He := Lib.hid e; clear e
    go_enter Try.func7, Try.ntmps7
    go_wp2_with (first | (go_at_call 9; apply Calls.mono; apply sGatOk_c; ((first | (apply Rs.at0; assumption) | (apply Ow.rs0; assumption) | (apply OwT.rs0; assumption)); exact kf_); rintro E w1 ⟨rfl, hb⟩; have hst := xr hb; (try simp only [zA, zC, zD, zN] at hst); obtain ⟨hc, hf, hz⟩ := hst) | (go_at_call 40; apply Calls.mono; apply sCopy_c; ((first | (apply Rs.at0; assumption) | (apply Ow.rs0; assumption) | (apply OwT.rs0; assumption)); exact kf_); (first | assumption | omega); rintro E w1 ⟨A', c', rfl, hr, hb⟩; have hst := xr hb; (try simp only [zA, zC, zD, zN] at hst); obtain ⟨hc, hf, hz⟩ := hst) | (go_at_call 41; refine (l1In_c _ _ _ _).mono ?_; rintro E w' ⟨rfl, rfl⟩) | (go_at_call 42; apply Calls.mono; apply sHas_c; (apply Rs.at0 hxs; (exact kf_)); rintro E w' ⟨rfl, rfl⟩) | (go_at_call 43; apply Calls.mono; apply sOwnCheckA_c; (apply Rs.at0 hps; (exact kf_)); rintro E wq ⟨rfl, hbq⟩; have hst := xr hbq; (try simp only [zA, zC, zD, zN] at hst); obtain ⟨hcq, hfq, hzq⟩ := hst))
    refine bodyPost_ret (v := .tuple #[.agg #[.int .i64 t.size, .int .i64 t.log, .int .i64 t.own, .slice A' n c'], .bool false]) (by simp [results, Try.results7, go_sem, *]) rfl ?_
    exact ⟨A', c', n, by rw [He.out], by rw [He.out]; exact (hr.keep (by (exact kf_))).less (by exact sz_), ext_⟩
  by_cases h3 : who = rh
  case neg =>
    have g3 : (rh != who) = true := by rw [bne_iff_ne]; exact Ne.symm h3
    have H3 := Lib.hid h3; clear h3
    have e : Sw.gatShow ⟨t, xs⟩ k who ⟨rh, rf, ru⟩ ps = (⟨t, xs⟩, false) := by unfold Sw.gatShow; rw [if_pos g1, if_neg (by simp [Sw.gatMay, H3.out])]
    have He := Lib.hid e; clear e
    go_enter Try.func7, Try.ntmps7
    go_wp2_with (first | (go_at_call 9; apply Calls.mono; apply sGatOk_c; ((first | (apply Rs.at0; assumption) | (apply Ow.rs0; assumption) | (apply OwT.rs0; assumption)); exact kf_); rintro E w1 ⟨rfl, hb⟩; have hst := xr hb; (try simp only [zA, zC, zD, zN] at hst); obtain ⟨hc, hf, hz⟩ := hst) | (go_at_call 40; apply Calls.mono; apply sCopy_c; ((first | (apply Rs.at0; assumption) | (apply Ow.rs0; assumption) | (apply OwT.rs0; assumption)); exact kf_); (first | assumption | omega); rintro E w1 ⟨A', c', rfl, hr, hb⟩; have hst := xr hb; (try simp only [zA, zC, zD, zN] at hst); obtain ⟨hc, hf, hz⟩ := hst) | (go_at_call 41; refine (l1In_c _ _ _ _).mono ?_; rintro E w' ⟨rfl, rfl⟩) | (go_at_call 42; apply Calls.mono; apply sHas_c; (apply Rs.at0 hxs; (exact kf_)); rintro E w' ⟨rfl, rfl⟩) | (go_at_call 43; apply Calls.mono; apply sOwnCheckA_c; (apply Rs.at0 hps; (exact kf_)); rintro E wq ⟨rfl, hbq⟩; have hst := xr hbq; (try simp only [zA, zC, zD, zN] at hst); obtain ⟨hcq, hfq, hzq⟩ := hst))
    refine bodyPost_ret (v := .tuple #[.agg #[.int .i64 t.size, .int .i64 t.log, .int .i64 t.own, .slice A' n c'], .bool false]) (by simp [results, Try.results7, go_sem, *]) rfl ?_
    exact ⟨A', c', n, by rw [He.out], by rw [He.out]; exact (hr.keep (by (exact kf_))).less (by exact sz_), ext_⟩
  subst h3
  cases ru
  case true =>
    have e : Sw.gatShow ⟨t, xs⟩ k who ⟨who, rf, true⟩ ps = (⟨t, xs⟩, false) := by unfold Sw.gatShow; rw [if_pos g1, if_neg (by simp [Sw.gatMay])]
    have He := Lib.hid e; clear e
    go_enter Try.func7, Try.ntmps7
    go_wp2_with (first | (go_at_call 9; apply Calls.mono; apply sGatOk_c; ((first | (apply Rs.at0; assumption) | (apply Ow.rs0; assumption) | (apply OwT.rs0; assumption)); exact kf_); rintro E w1 ⟨rfl, hb⟩; have hst := xr hb; (try simp only [zA, zC, zD, zN] at hst); obtain ⟨hc, hf, hz⟩ := hst) | (go_at_call 40; apply Calls.mono; apply sCopy_c; ((first | (apply Rs.at0; assumption) | (apply Ow.rs0; assumption) | (apply OwT.rs0; assumption)); exact kf_); (first | assumption | omega); rintro E w1 ⟨A', c', rfl, hr, hb⟩; have hst := xr hb; (try simp only [zA, zC, zD, zN] at hst); obtain ⟨hc, hf, hz⟩ := hst) | (go_at_call 41; refine (l1In_c _ _ _ _).mono ?_; rintro E w' ⟨rfl, rfl⟩) | (go_at_call 42; apply Calls.mono; apply sHas_c; (apply Rs.at0 hxs; (exact kf_)); rintro E w' ⟨rfl, rfl⟩) | (go_at_call 43; apply Calls.mono; apply sOwnCheckA_c; (apply Rs.at0 hps; (exact kf_)); rintro E wq ⟨rfl, hbq⟩; have hst := xr hbq; (try simp only [zA, zC, zD, zN] at hst); obtain ⟨hcq, hfq, hzq⟩ := hst))
    refine bodyPost_ret (v := .tuple #[.agg #[.int .i64 t.size, .int .i64 t.log, .int .i64 t.own, .slice A' n c'], .bool false]) (by simp [results, Try.results7, go_sem, *]) rfl ?_
    exact ⟨A', c', n, by rw [He.out], by rw [He.out]; exact (hr.keep (by (exact kf_))).less (by exact sz_), ext_⟩
  cases g5 : hasI xs k
  case true =>
    have H5 := Lib.hid (show k ∈ xs by simpa [hasI] using g5)
    have e : Sw.gatShow ⟨t, xs⟩ k who ⟨who, rf, false⟩ ps = (⟨t, xs⟩, false) := by unfold Sw.gatShow; rw [if_pos g1, if_neg (by simp [Sw.gatMay, H5.out])]
    have He := Lib.hid e; clear e
    go_enter Try.func7, Try.ntmps7
    go_wp2_with (first | (go_at_call 9; apply Calls.mono; apply sGatOk_c; ((first | (apply Rs.at0; assumption) | (apply Ow.rs0; assumption) | (apply OwT.rs0; assumption)); exact kf_); rintro E w1 ⟨rfl, hb⟩; have hst := xr hb; (try simp only [zA, zC, zD, zN] at hst); obtain ⟨hc, hf, hz⟩ := hst) | (go_at_call 40; apply Calls.mono; apply sCopy_c; ((first | (apply Rs.at0; assumption) | (apply Ow.rs0; assumption) | (apply OwT.rs0; assumption)); exact kf_); (first | assumption | omega); rintro E w1 ⟨A', c', rfl, hr, hb⟩; have hst := xr hb; (try simp only [zA, zC, zD, zN] at hst); obtain ⟨hc, hf, hz⟩ := hst) | (go_at_call 41; refine (l1In_c _ _ _ _).mono ?_; rintro E w' ⟨rfl, rfl⟩) | (go_at_call 42; apply Calls.mono; apply sHas_c; (apply Rs.at0 hxs; (exact kf_)); rintro E w' ⟨rfl, rfl⟩) | (go_at_call 43; apply Calls.mono; apply sOwnCheckA_c; (apply Rs.at0 hps; (exact kf_)); rintro E wq ⟨rfl, hbq⟩; have hst := xr hbq; (try simp only [zA, zC, zD, zN] at hst); obtain ⟨hcq, hfq, hzq⟩ := hst))
    refine bodyPost_ret (v := .tuple #[.agg #[.int .i64 t.size, .int .i64 t.log, .int .i64 t.own, .slice A' n c'], .bool false]) (by simp [results, Try.results7, go_sem, *]) rfl ?_
    exact ⟨A', c', n, by rw [He.out], by rw [He.out]; exact (hr.keep (by (exact kf_))).less (by exact sz_), ext_⟩
  have H5 := Lib.hid (show k ∉ xs by simpa [hasI] using g5)
  cases g6 : Sw.ownCheck t.own k ⟨who, rf, false⟩ ps
  case false =>
    have e : Sw.gatShow ⟨t, xs⟩ k who ⟨who, rf, false⟩ ps = (⟨t, xs⟩, false) := by unfold Sw.gatShow; rw [if_pos g1, if_neg (by simp [Sw.gatMay, g6])]
    have He := Lib.hid e; clear e
    go_enter Try.func7, Try.ntmps7
    go_wp2_with (first | (go_at_call 9; apply Calls.mono; apply sGatOk_c; ((first | (apply Rs.at0; assumption) | (apply Ow.rs0; assumption) | (apply OwT.rs0; assumption)); exact kf_); rintro E w1 ⟨rfl, hb⟩; have hst := xr hb; (try simp only [zA, zC, zD, zN] at hst); obtain ⟨hc, hf, hz⟩ := hst) | (go_at_call 40; apply Calls.mono; apply sCopy_c; ((first | (apply Rs.at0; assumption) | (apply Ow.rs0; assumption) | (apply OwT.rs0; assumption)); exact kf_); (first | assumption | omega); rintro E w1 ⟨A', c', rfl, hr, hb⟩; have hst := xr hb; (try simp only [zA, zC, zD, zN] at hst); obtain ⟨hc, hf, hz⟩ := hst) | (go_at_call 41; refine (l1In_c _ _ _ _).mono ?_; rintro E w' ⟨rfl, rfl⟩) | (go_at_call 42; apply Calls.mono; apply sHas_c; (apply Rs.at0 hxs; (exact kf_)); rintro E w' ⟨rfl, rfl⟩) | (go_at_call 43; apply Calls.mono; apply sOwnCheckA_c; (apply Rs.at0 hps; (exact kf_)); rintro E wq ⟨rfl, hbq⟩; have hst := xr hbq; (try simp only [zA, zC, zD, zN] at hst); obtain ⟨hcq, hfq, hzq⟩ := hst))
    refine bodyPost_ret (v := .tuple #[.agg #[.int .i64 t.size, .int .i64 t.log, .int .i64 t.own, .slice A' n c'], .bool false]) (by simp [results, Try.results7, go_sem, *]) rfl ?_
    exact ⟨A', c', n, by rw [He.out], by rw [He.out]; exact (hr.keep (by (exact kf_))).less (by exact sz_), ext_⟩
  have e : Sw.gatShow ⟨t, xs⟩ k who ⟨who, rf, false⟩ ps = (⟨t, Sw.insert k xs⟩, true) := by unfold Sw.gatShow; rw [if_pos g1, if_pos (by simp [Sw.gatMay, g2, H5.out, g6])]
  have He := Lib.hid e; clear e
  have HS := Lib.hid (gatOk_done g1)
  go_enter Try.func7, Try.ntmps7
  go_wp2_with (first | (go_at_call 44; apply Calls.mono; apply sPut9_c; ((first | (apply Rs.at0; assumption) | (apply Ow.rs0; assumption) | (apply OwT.rs0; assumption)); exact kf_); (first | assumption | omega); rintro E w1 ⟨A', c', rfl, hoP, hb⟩; have hst := xr hb; (try simp only [zA, zC, zD, zN] at hst); obtain ⟨hc, hf, hz⟩ := hst) | (go_at_call 9; apply Calls.mono; apply sGatOk_c; ((first | (apply Rs.at0; assumption) | (apply Ow.rs0; assumption) | (apply OwT.rs0; assumption)); exact kf_); rintro E w1 ⟨rfl, hb⟩; have hst := xr hb; (try simp only [zA, zC, zD, zN] at hst); obtain ⟨hc, hf, hz⟩ := hst) | (go_at_call 40; apply Calls.mono; apply sCopy_c; ((first | (apply Rs.at0; assumption) | (apply Ow.rs0; assumption) | (apply OwT.rs0; assumption)); exact kf_); (first | assumption | omega); rintro E w1 ⟨A', c', rfl, hr, hb⟩; have hst := xr hb; (try simp only [zA, zC, zD, zN] at hst); obtain ⟨hc, hf, hz⟩ := hst) | (go_at_call 41; refine (l1In_c _ _ _ _).mono ?_; rintro E w' ⟨rfl, rfl⟩) | (go_at_call 42; apply Calls.mono; apply sHas_c; (apply Rs.at0 hxs; (exact kf_)); rintro E w' ⟨rfl, rfl⟩) | (go_at_call 43; apply Calls.mono; apply sOwnCheckA_c; (apply Rs.at0 hps; (exact kf_)); rintro E wq ⟨rfl, hbq⟩; have hst := xr hbq; (try simp only [zA, zC, zD, zN] at hst); obtain ⟨hcq, hfq, hzq⟩ := hst))
  refine bodyPost_ret (v := .tuple #[.agg #[.int .i64 t.size, .int .i64 t.log, .int .i64 t.own, .slice A' (n + 1) c'], .bool true]) (by simp [results, Try.results7, go_sem, *]) rfl ?_
  exact ⟨A', c', n + 1, by rw [He.out], by rw [He.out]; exact (hoP.keep kf_).less sz_, ext_⟩
end Go.Proofs.Ytdbnbembjebfhaa

namespace Go.Proofs.Ytdbnbembjebfhaa
set_option maxRecDepth 100000
set_option linter.unusedSimpArgs false
set_option linter.unusedVariables false
open Go.RowKit Go
set_option maxHeartbeats 2000000

theorem gatOk_doneI {h : Sw.Head} {xs : List Int} (k : Sw.gatOk ⟨h, xs⟩ = true) : xs.Pairwise (· < ·) := by
  simp only [Sw.gatOk, Bool.and_eq_true] at k
  exact ((Sw.rises_iff xs (-1)).1 k.2).2
theorem iGatShow_c (t : Sw.Head) (A : Option Addr) (c n : Nat) (xs : List Int) (k who : Int) (r : Sw.Row) (B : Option Addr) (d m : Nat) (ps : List Int) (w : World) (hxs : RI w 0 A c n xs) (hps : RI w 0 B d m ps) : Calls Try.prog 6 #[.agg #[.int .i64 t.size, .int .i64 t.log, .int .i64 t.own, .slice A n c], .int .i64 k, .int .i64 who, .agg #[.int .i64 r.who, .int .i64 r.face, .bool r.used], .slice B m d] w fun E w' => ∃ A' c' n', E = .returned (.tuple #[.agg #[.int .i64 (Sw.gatShow ⟨t, xs⟩ k who r ps).1.head.size, .int .i64 (Sw.gatShow ⟨t, xs⟩ k who r ps).1.head.log, .int .i64 (Sw.gatShow ⟨t, xs⟩ k who r ps).1.head.own, .slice A' n' c'], .bool (Sw.gatShow ⟨t, xs⟩ k who r ps).2]) ∧ OwI w' w.heap.size A' c' n' (Sw.gatShow ⟨t, xs⟩ k who r ps).1.done ∧ Ex w w' := by
  obtain ⟨rh, rf, ru⟩ := r
  have hl := Lib.hid hxs.1
  cases g1 : Sw.gatOk ⟨t, xs⟩
  case false =>
    have e : Sw.gatShow ⟨t, xs⟩ k who ⟨rh, rf, ru⟩ ps = (Sw.gateZ, false) := by simp [Sw.gatShow, g1]
    have He := Lib.hid e; clear e
    go_enter Try.func6, Try.ntmps6
    go_wp2_with (first | (go_at_call 13; apply Calls.mono; apply iGatOk_c; ((first | (apply Rs.at0; assumption) | (apply Ow.rs0; assumption) | (apply OwT.rs0; assumption)); exact kf_); rintro E w1 ⟨rfl, hb⟩; have hst := xr hb; (try simp only [zA, zC, zD, zN] at hst); obtain ⟨hc, hf, hz⟩ := hst))
    refine bodyPost_ret (v := .tuple #[.agg #[.int .i64 0, .int .i64 0, .int .i64 0, .slice none 0 0], .bool false]) (by simp [results, Try.results6, go_sem, *]) rfl ?_
    exact ⟨none, 0, 0, by rw [He.out]; rfl, by rw [He.out]; exact Ow.nil _ _, ext_⟩
  have h8 : n ≤ 8 := by have := gatOk_len g1; have := hl.out; simp at *; omega
  cases g2 : Sw.inR who 1 5
  case false =>
    have e : Sw.gatShow ⟨t, xs⟩ k who ⟨rh, rf, ru⟩ ps = (⟨t, xs⟩, false) := by unfold Sw.gatShow; rw [if_pos g1, if_neg (by simp [Sw.gatMay, g2])]
    have He := Lib.hid e; clear e
    go_enter Try.func6, Try.ntmps6
    go_wp2_with (first | (go_at_call 13; apply Calls.mono; apply iGatOk_c; ((first | (apply Rs.at0; assumption) | (apply Ow.rs0; assumption) | (apply OwT.rs0; assumption)); exact kf_); rintro E w1 ⟨rfl, hb⟩; have hst := xr hb; (try simp only [zA, zC, zD, zN] at hst); obtain ⟨hc, hf, hz⟩ := hst) | (go_at_call 36; apply Calls.mono; apply iClone_c; ((first | (apply Rs.at0; assumption) | (apply Ow.rs0; assumption) | (apply OwT.rs0; assumption)); exact kf_); (first | assumption | omega); rintro E w1 ⟨A', c', rfl, hr, hb⟩; have hst := xr hb; (try simp only [zA, zC, zD, zN] at hst); obtain ⟨hc, hf, hz⟩ := hst) | (go_at_call 37; refine (isUser_c _ _).mono ?_; rintro E w' ⟨rfl, rfl⟩) | (go_at_call 38; apply Calls.mono; apply iContains_c; (apply Rs.at0 hxs; (exact kf_)); rintro E w' ⟨rfl, rfl⟩) | (go_at_call 12; apply Calls.mono; apply iOwnCheckA_c; (apply Rs.at0 hps; (exact kf_)); rintro E wq ⟨rfl, hbq⟩; have hst := xr hbq; (try simp only [zA, zC, zD, zN] at hst); obtain ⟨hcq, hfq, hzq⟩ := hst))
    refine bodyPost_ret (v := .tuple #[.agg #[.int .i64 t.size, .int .i64 t.log, .int .i64 t.own, .slice A' n c'], .bool false]) (by simp [results, Try.results6, go_sem, *]) rfl ?_
    exact ⟨A', c', n, by rw [He.out], by rw [He.out]; exact (hr.keep (by (exact kf_))).less (by exact sz_), ext_⟩
  by_cases h3 : who = rh
  case neg =>
    have g3 : (who != rh) = true := by rw [bne_iff_ne]; exact h3
    have H3 := Lib.hid h3; clear h3
    have e : Sw.gatShow ⟨t, xs⟩ k who ⟨rh, rf, ru⟩ ps = (⟨t, xs⟩, false) := by unfold Sw.gatShow; rw [if_pos g1, if_neg (by simp [Sw.gatMay, H3.out])]
    have He := Lib.hid e; clear e
    go_enter Try.func6, Try.ntmps6
    go_wp2_with (first | (go_at_call 13; apply Calls.mono; apply iGatOk_c; ((first | (apply Rs.at0; assumption) | (apply Ow.rs0; assumption) | (apply OwT.rs0; assumption)); exact kf_); rintro E w1 ⟨rfl, hb⟩; have hst := xr hb; (try simp only [zA, zC, zD, zN] at hst); obtain ⟨hc, hf, hz⟩ := hst) | (go_at_call 36; apply Calls.mono; apply iClone_c; ((first | (apply Rs.at0; assumption) | (apply Ow.rs0; assumption) | (apply OwT.rs0; assumption)); exact kf_); (first | assumption | omega); rintro E w1 ⟨A', c', rfl, hr, hb⟩; have hst := xr hb; (try simp only [zA, zC, zD, zN] at hst); obtain ⟨hc, hf, hz⟩ := hst) | (go_at_call 37; refine (isUser_c _ _).mono ?_; rintro E w' ⟨rfl, rfl⟩) | (go_at_call 38; apply Calls.mono; apply iContains_c; (apply Rs.at0 hxs; (exact kf_)); rintro E w' ⟨rfl, rfl⟩) | (go_at_call 12; apply Calls.mono; apply iOwnCheckA_c; (apply Rs.at0 hps; (exact kf_)); rintro E wq ⟨rfl, hbq⟩; have hst := xr hbq; (try simp only [zA, zC, zD, zN] at hst); obtain ⟨hcq, hfq, hzq⟩ := hst))
    refine bodyPost_ret (v := .tuple #[.agg #[.int .i64 t.size, .int .i64 t.log, .int .i64 t.own, .slice A' n c'], .bool false]) (by simp [results, Try.results6, go_sem, *]) rfl ?_
    exact ⟨A', c', n, by rw [He.out], by rw [He.out]; exact (hr.keep (by (exact kf_))).less (by exact sz_), ext_⟩
  subst h3
  cases ru
  case true =>
    have e : Sw.gatShow ⟨t, xs⟩ k who ⟨who, rf, true⟩ ps = (⟨t, xs⟩, false) := by unfold Sw.gatShow; rw [if_pos g1, if_neg (by simp [Sw.gatMay])]
    have He := Lib.hid e; clear e
    go_enter Try.func6, Try.ntmps6
    go_wp2_with (first | (go_at_call 13; apply Calls.mono; apply iGatOk_c; ((first | (apply Rs.at0; assumption) | (apply Ow.rs0; assumption) | (apply OwT.rs0; assumption)); exact kf_); rintro E w1 ⟨rfl, hb⟩; have hst := xr hb; (try simp only [zA, zC, zD, zN] at hst); obtain ⟨hc, hf, hz⟩ := hst) | (go_at_call 36; apply Calls.mono; apply iClone_c; ((first | (apply Rs.at0; assumption) | (apply Ow.rs0; assumption) | (apply OwT.rs0; assumption)); exact kf_); (first | assumption | omega); rintro E w1 ⟨A', c', rfl, hr, hb⟩; have hst := xr hb; (try simp only [zA, zC, zD, zN] at hst); obtain ⟨hc, hf, hz⟩ := hst) | (go_at_call 37; refine (isUser_c _ _).mono ?_; rintro E w' ⟨rfl, rfl⟩) | (go_at_call 38; apply Calls.mono; apply iContains_c; (apply Rs.at0 hxs; (exact kf_)); rintro E w' ⟨rfl, rfl⟩) | (go_at_call 12; apply Calls.mono; apply iOwnCheckA_c; (apply Rs.at0 hps; (exact kf_)); rintro E wq ⟨rfl, hbq⟩; have hst := xr hbq; (try simp only [zA, zC, zD, zN] at hst); obtain ⟨hcq, hfq, hzq⟩ := hst))
    refine bodyPost_ret (v := .tuple #[.agg #[.int .i64 t.size, .int .i64 t.log, .int .i64 t.own, .slice A' n c'], .bool false]) (by simp [results, Try.results6, go_sem, *]) rfl ?_
    exact ⟨A', c', n, by rw [He.out], by rw [He.out]; exact (hr.keep (by (exact kf_))).less (by exact sz_), ext_⟩
  cases g5 : hasI xs k
  case true =>
    have H5 := Lib.hid (show k ∈ xs by simpa [hasI] using g5)
    have e : Sw.gatShow ⟨t, xs⟩ k who ⟨who, rf, false⟩ ps = (⟨t, xs⟩, false) := by unfold Sw.gatShow; rw [if_pos g1, if_neg (by simp [Sw.gatMay, H5.out])]
    have He := Lib.hid e; clear e
    go_enter Try.func6, Try.ntmps6
    go_wp2_with (first | (go_at_call 13; apply Calls.mono; apply iGatOk_c; ((first | (apply Rs.at0; assumption) | (apply Ow.rs0; assumption) | (apply OwT.rs0; assumption)); exact kf_); rintro E w1 ⟨rfl, hb⟩; have hst := xr hb; (try simp only [zA, zC, zD, zN] at hst); obtain ⟨hc, hf, hz⟩ := hst) | (go_at_call 36; apply Calls.mono; apply iClone_c; ((first | (apply Rs.at0; assumption) | (apply Ow.rs0; assumption) | (apply OwT.rs0; assumption)); exact kf_); (first | assumption | omega); rintro E w1 ⟨A', c', rfl, hr, hb⟩; have hst := xr hb; (try simp only [zA, zC, zD, zN] at hst); obtain ⟨hc, hf, hz⟩ := hst) | (go_at_call 37; refine (isUser_c _ _).mono ?_; rintro E w' ⟨rfl, rfl⟩) | (go_at_call 38; apply Calls.mono; apply iContains_c; (apply Rs.at0 hxs; (exact kf_)); rintro E w' ⟨rfl, rfl⟩) | (go_at_call 12; apply Calls.mono; apply iOwnCheckA_c; (apply Rs.at0 hps; (exact kf_)); rintro E wq ⟨rfl, hbq⟩; have hst := xr hbq; (try simp only [zA, zC, zD, zN] at hst); obtain ⟨hcq, hfq, hzq⟩ := hst))
    refine bodyPost_ret (v := .tuple #[.agg #[.int .i64 t.size, .int .i64 t.log, .int .i64 t.own, .slice A' n c'], .bool false]) (by simp [results, Try.results6, go_sem, *]) rfl ?_
    exact ⟨A', c', n, by rw [He.out], by rw [He.out]; exact (hr.keep (by (exact kf_))).less (by exact sz_), ext_⟩
  have H5 := Lib.hid (show k ∉ xs by simpa [hasI] using g5)
  cases g6 : Sw.ownCheck t.own k ⟨who, rf, false⟩ ps
  case false =>
    have e : Sw.gatShow ⟨t, xs⟩ k who ⟨who, rf, false⟩ ps = (⟨t, xs⟩, false) := by unfold Sw.gatShow; rw [if_pos g1, if_neg (by simp [Sw.gatMay, g6])]
    have He := Lib.hid e; clear e
    go_enter Try.func6, Try.ntmps6
    go_wp2_with (first | (go_at_call 13; apply Calls.mono; apply iGatOk_c; ((first | (apply Rs.at0; assumption) | (apply Ow.rs0; assumption) | (apply OwT.rs0; assumption)); exact kf_); rintro E w1 ⟨rfl, hb⟩; have hst := xr hb; (try simp only [zA, zC, zD, zN] at hst); obtain ⟨hc, hf, hz⟩ := hst) | (go_at_call 36; apply Calls.mono; apply iClone_c; ((first | (apply Rs.at0; assumption) | (apply Ow.rs0; assumption) | (apply OwT.rs0; assumption)); exact kf_); (first | assumption | omega); rintro E w1 ⟨A', c', rfl, hr, hb⟩; have hst := xr hb; (try simp only [zA, zC, zD, zN] at hst); obtain ⟨hc, hf, hz⟩ := hst) | (go_at_call 37; refine (isUser_c _ _).mono ?_; rintro E w' ⟨rfl, rfl⟩) | (go_at_call 38; apply Calls.mono; apply iContains_c; (apply Rs.at0 hxs; (exact kf_)); rintro E w' ⟨rfl, rfl⟩) | (go_at_call 12; apply Calls.mono; apply iOwnCheckA_c; (apply Rs.at0 hps; (exact kf_)); rintro E wq ⟨rfl, hbq⟩; have hst := xr hbq; (try simp only [zA, zC, zD, zN] at hst); obtain ⟨hcq, hfq, hzq⟩ := hst))
    refine bodyPost_ret (v := .tuple #[.agg #[.int .i64 t.size, .int .i64 t.log, .int .i64 t.own, .slice A' n c'], .bool false]) (by simp [results, Try.results6, go_sem, *]) rfl ?_
    exact ⟨A', c', n, by rw [He.out], by rw [He.out]; exact (hr.keep (by (exact kf_))).less (by exact sz_), ext_⟩
  have e : Sw.gatShow ⟨t, xs⟩ k who ⟨who, rf, false⟩ ps = (⟨t, Sw.insert k xs⟩, true) := by unfold Sw.gatShow; rw [if_pos g1, if_pos (by simp [Sw.gatMay, g2, H5.out, g6])]
  have He := Lib.hid e; clear e
  have HS := Lib.hid (gatOk_doneI g1)
  go_enter Try.func6, Try.ntmps6
  go_wp2_with (first | (have _ := ho3; (go_at_call 36; apply Calls.mono; apply iClone_c; ((first | (apply Rs.at0; assumption) | (apply Ow.rs0; assumption) | (apply OwT.rs0; assumption)); exact kf_); (first | assumption | omega); rintro E w1 ⟨AZ, cZ, rfl, hrZ, hb⟩; have hst := xr hb; (try simp only [zA, zC, zD, zN] at hst); obtain ⟨hc, hf, hz⟩ := hst)) | (go_at_call 13; apply Calls.mono; apply iGatOk_c; (first | assumption | ((first | (apply Rs.at0; assumption) | (apply Ow.rs0; assumption) | (apply OwT.rs0; assumption)); exact kf_) | omega); rintro E wg ⟨rfl, hbg⟩; have hst := xr hbg; (try simp only [zA, zC, zD, zN] at hst); obtain ⟨hcg, hfg, hzg⟩ := hst) | (go_at_call 36; apply Calls.mono; apply iClone_c; ((first | (apply Rs.at0; assumption) | (apply Ow.rs0; assumption) | (apply OwT.rs0; assumption)); exact kf_); omega; rintro E wc ⟨A', c', rfl, hr, hb1⟩; have hst := xr hb1; (try simp only [zA, zC, zD, zN] at hst); obtain ⟨hc1, hf1, hz1⟩ := hst) | (go_at_call 37; refine (isUser_c _ _).mono ?_; rintro E w' ⟨rfl, rfl⟩) | (go_at_call 38; apply Calls.mono; apply iContains_c; (apply Rs.at0 hxs; (exact kf_)); rintro E w' ⟨rfl, rfl⟩) | (go_at_call 12; apply Calls.mono; apply iOwnCheckA_c; (apply Rs.at0 hps; (exact kf_)); rintro E wq ⟨rfl, hbq⟩; have hst := xr hbq; (try simp only [zA, zC, zD, zN] at hst); obtain ⟨hcq, hfq, hzq⟩ := hst) | (at_builtin; apply wpList_app (lo := wg.heap.size) el_I one_I rfl rfl rfl rfl; (exact Ow.keep hr kf_); (refine Rs.new [k] (by (first | rfl | (simp only [zA, zC, zD, zN]; done) | omega)) rfl rfl (fun _ => rfl) (by omega)); omega; (exact sz_); intro A1 c1 w2 ho1 hch1 hat1 hex1 hlow1; have hb2 := hex1 (fun _ => False) w ext_ sz_; obtain ⟨hB0, hF0⟩ := Ch.atA_keep hch1 (g := wc.heap.size) sz_ (Ow.apart hr (Nat.le_refl _)); obtain ⟨hc2, hf2⟩ := low_rules hlow1; have hz2 := hch1.size; (try simp only [zA, zC, zD, zN] at hz2); have hA1 : ∀ a, A1 = some a → a.block ≠ wc.heap.size := (fun a ha => by rcases hat1 a ha with e | e; (exact Ow.apart hr (Nat.le_refl _) a e); (simp only [zA, zC, zD, zN] at e; omega))) | (go_at_call 39; apply Calls.mono; apply (iSort_c (lo := wg.heap.size)); (exact ho1.keep_ fun a ha => (Ch.setCell (S := (· = wc.heap.size)) (Ch.refl _ _) (Or.inl rfl) _).block a.block (ho1.blk ha).2 (hA1 a ha)); omega; omega; rintro E w3 ⟨rfl, ho3, hch3⟩; rw [sort_insert HS.out H5.out] at ho3; obtain ⟨hB3, hF3⟩ := Ch.atA_keep hch3 (g := wc.heap.size) sz_ hA1; obtain ⟨hB4, hF4⟩ := Ch.atA_keep hch3 (g := w.heap.size + 1 + 1) sz_ (fun a ha => by have := (ho1.blk ha).1; omega); have hz3 := hch3.size; (try simp only [zA, zC, zD, zN] at hz3)))
  refine bodyPost_ret (v := .tuple #[.agg #[.int .i64 t.size, .int .i64 t.log, .int .i64 t.own, .slice AZ (n + 1) cZ], .bool true]) (by simp [results, Try.results6, go_sem, *]) rfl ?_
  have hS : ∀ i, atA A1 i → w.heap.size ≤ i := fun i ⟨a, ha, e⟩ => by have := (ho1.blk ha).1; omega
  have hb3 : Ch (fun _ => False) w w3 := (show Ch (fun _ => False) w (w2.setCell ⟨wc.heap.size, 3, none⟩ (.slice A1 (n + 1) c1)) from ext_).trans' hch3 (fun i hi ht => by have := hS i ht; omega)
  exact ⟨AZ, cZ, n + 1, by rw [He.out], by rw [He.out]; exact (hrZ.keep kf_).less sz_, ext_⟩
end Go.Proofs.Ytdbnbembjebfhaa

namespace Go.Proofs.Ytdbnbembjebfhaa
set_option maxRecDepth 100000
set_option linter.unusedSimpArgs false
set_option linter.unusedVariables false
open Go.RowKit Go
set_option maxHeartbeats 400000

/-- n numbers from k on. -/
def marks : Int → Nat → List Int
  | _, 0 => []
  | k, n + 1 => k :: marks (k + 1) n
theorem marks_len : ∀ (n : Nat) (k : Int), (marks k n).length = n
  | 0, _ => rfl
  | n + 1, k => by rw [marks, List.length_cons, marks_len n]
theorem marks_at : ∀ (n j : Nat) (k : Int), j < n → (marks k n)[j]? = some (k + j)
  | 0, j, k, h => absurd h (Nat.not_lt_zero _)
  | n + 1, 0, k, _ => by simp [marks]
  | n + 1, j + 1, k, h => by
    rw [marks, List.getElem?_cons_succ, marks_at n j (k + 1) (by omega)]
    congr 1; omega
theorem marks_succ : ∀ (n : Nat) (k : Int), marks k (n + 1) = marks k n ++ [k + n]
  | 0, k => by simp [marks]
  | n + 1, k => by
    rw [marks, marks_succ n (k + 1)]
    simp only [marks, List.cons_append, List.cons.injEq, true_and]
    congr 2; omega
theorem marks_set {xs : List Int} {k : Int} {j n : Nat} (hn : n = xs.length) (hj : j < n) : (marks k j ++ xs.drop j).set j (k + j) = marks k (j + 1) ++ xs.drop (j + 1) := by
  rw [List.set_append_right _ _ (by rw [marks_len]; omega), marks_len, Nat.sub_self, marks_succ, List.append_assoc]
  congr 1
  rw [List.drop_eq_getElem_cons (by omega), List.set_cons_zero]
  rfl
theorem marks_old {xs : List Int} {k : Int} {j n : Nat} (hn : n = xs.length) (hj : j < n) : ∃ y, (marks k j ++ xs.drop j)[j]? = some y := by
  refine ⟨xs[j]'(by omega), ?_⟩
  rw [List.getElem?_append_right (by rw [marks_len]; omega), marks_len, Nat.sub_self, List.getElem?_drop]
  simp

theorem markIntS_c (A : Option Addr) (c n lo : Nat) (xs : List Int) (k : Int) (w : World) (hxs : OwI w lo A c n xs) (hk0 : 0 ≤ k) (hk1 : k ≤ 67108864) (hn : n ≤ 4194304) : Calls Try.prog 22 #[.slice A n c, .int .i64 k] w fun E w' => E = .returned (.int .i64 (k + n)) ∧ OwI w' lo A c n (marks k n) ∧ Ch (atA A) w w' := by
  have hl := Lib.hid hxs.1
  go_enter Try.func22, Try.ntmps22
  go_wp2_with fail
  go_loopw [5, 1] (fun i kk wr => ∃ j : Nat, j ≤ n ∧ i = .int .i64 j ∧ kk = .int .i64 (k + j) ∧ Ch (atA A) w wr ∧ OwI wr lo A c n (marks k j ++ xs.drop j)) (fun i _ _ => n - (intOf i).toNat)
  case atStart => exact ⟨0, Nat.zero_le _, rfl, by simp, Ch.refl _ _, hxs⟩
  case round =>
    obtain ⟨j, hj, rfl, rfl, hb2, hrel⟩ := hrel
    by_cases hlt : j < n
    · obtain ⟨g', x', rfl, hg0', hg', hx', hc', hfr⟩ := at_OI hrel hlt
      have Hs := Lib.hid (OI_set hrel rfl hx' (k + j))
      have hw : IntKind.i64.wrap (k + j + 1) = k + ((j + 1 : Nat) : Int) := by rw [IntWalk.i64_in _ (by omega)]; omega
      have Hb := Lib.hid hb2
      clear hrel hx' hb2
      go_wp2_with fail
      go_roundw
      case rel =>
        refine ⟨j + 1, by omega, by go_num, rfl, Ch.setCell (p := ⟨g', j, none⟩) Hb.out (Or.inl ⟨⟨g', 0, none⟩, rfl, rfl⟩) _, ?_⟩
        have := Hs.out
        rw [marks_set hl.out hlt] at this
        exact this
      case measure => simp [intOf]; omega
    · have Hrel := Lib.hid hrel; clear hrel
      go_wp2_with fail
      go_ret
      obtain rfl : j = n := by omega
      have := Hrel.out
      rw [List.drop_of_length_le (by have := hl.out; omega), List.append_nil] at this
      exact ⟨rfl, this, hb2⟩

theorem heldIntS_c (A : Option Addr) (c n : Nat) (k : Int) (w : World) (hxs : RI w 0 A c n (marks k n)) (hk0 : 0 ≤ k) (hk1 : k ≤ 67108864) (hn : n ≤ 4194304) : Calls Try.prog 69 #[.slice A n c, .int .i64 k] w fun E w' => E = .returned (.int .i64 (k + n)) ∧ w = w' := by
  go_enter Try.func69, Try.ntmps69
  go_wp2
  go_loop [5, 1] (fun i kk => ∃ j : Nat, j ≤ n ∧ i = .int .i64 j ∧ kk = .int .i64 (k + j)) (fun i _ => n - (intOf i).toNat)
  case atStart => exact ⟨0, Nat.zero_le _, rfl, by simp⟩
  case round =>
    obtain ⟨j, hj, rfl, rfl⟩ := hrel
    by_cases hlt : j < n
    · obtain ⟨g, off, y, rfl, hg0, hg, hd, hy, hcy⟩ := at_I hxs hlt
      rw [marks_at n j k hlt] at hy
      obtain rfl := Option.some.inj hy
      have hw : IntKind.i64.wrap (k + j + 1) = k + ((j + 1 : Nat) : Int) := by rw [IntWalk.i64_in _ (by omega)]; omega
      clear hd hy
      go_wp2
      go_round
      case rel => exact ⟨j + 1, by omega, by go_num, rfl⟩
      case measure => simp [intOf]; omega
    · go_wp2
      go_ret
      obtain rfl : j = n := by omega
      exact ⟨rfl, rfl⟩

end Go.Proofs.Ytdbnbembjebfhaa

