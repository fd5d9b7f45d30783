/-
  Texts joined: Mak, Plain4, Plain5.
-/
import Derived.Test.YtdcjadgflenejaaPk10
import Derived.Test.YtdcjadgflenejaaPk15
import Derived.Test.YtdcjadgflenejaaPk8
namespace Go.Proofs.Ytdcjadgflenejaa
set_option maxRecDepth 100000
set_option linter.unusedSimpArgs false
set_option linter.unusedVariables false
open Go.RowKit Go
set_option maxHeartbeats 1000000

/-- 'make([]T, n)' inside a region that draws its order. -/
theorem step_mk {P : Program} {w : World} {ops : Array Oper} {o : Oper} {a : Act} {Kx : Act → World → Prop} {Q : Exit → Act → World → Prop} {E : Prop} {α : Type} {enc : α → List Value} {sz bytes : Nat} {t e : TypeId} {l c : Operand} {lo n : Nat}
    (hel : ElemOk P t e sz bytes) (zx : α) (hzx : ∀ i z, P.info? e = some i → i.zero = some z → z.cells = (enc zx).toArray) (hsz : (enc zx).length = sz) (hgd : o.guard = none)
    (ho : o.op = .makeSlice t l c) (hl : a.eval l = .int .i64 n) (hc : a.eval c = .int .i64 n) (hb : bytes * n ≤ 281474976710656) (hn : n ≤ maxLen) (hlo : lo ≤ w.heap.size)
    (K : ∀ w', Ow enc sz e w' lo (some ⟨w.heap.size, 0, none⟩) n n (List.replicate n zx) → Ex w w' → w.heap.size + 1 ≤ w'.heap.size → Kx (a.put o.dst (.slice (some ⟨w.heap.size, 0, none⟩) n n)) w') :
    if Region.wanted o (yielded ops a.tmps) = true then o.wp P a w Kx Q else E := by
  rw [if_pos (by simp [Region.wanted, hgd])]
  obtain ⟨i, z, hi, hz, hsz', hby, hzs⟩ := hel.info
  obtain ⟨w', hrun, h1, h2⟩ := run_make_full (P := P) w lo t e i z sz hel.sl hi hz hsz' .i64 .i64 n (by rw [hby]; exact hb) hn hlo
  unfold Oper.wp
  simp [execOp, ho, hl, hc, hrun, Result.andThen]
  rw [hzx i z hi hz, madeCells_flat zx hsz hel.pos] at h1
  refine K w' ⟨(List.length_replicate ..).symm, h1⟩ ⟨h2.os, h2.tape, h2.output, h2.size, fun k hk _ => h2.block k hk (by simp)⟩ ?_
  rcases h1.2 with ⟨hv, h0⟩ | ⟨g, cap, cur, hv, hb, hh, _⟩
  · cases hv
  · injection hv with e1 e2 e3
    have e4 : w.heap.size = g := by injection e1 with e1; injection e1
    subst e4
    exact (Array.getElem?_eq_some_iff.1 hh).1
/-- How far one piece has come that is made at once. -/
inductive MakeSt {α : Type} (enc : α → List Value) (sz : Nat) (e : TypeId) (τ : Nat → Nat) (t : Nat) (w : World) (lo n : Nat) (xs : List α) : Bool → Value → Prop
  | none (v : Value) : MakeSt enc sz e τ t w lo n xs false v
  | done (A : Option Addr) (c : Nat) (h : OwT enc sz e τ t w lo A c n xs) : MakeSt enc sz e τ t w lo n xs true (.slice A n c)
section
variable {α : Type} {enc : α → List Value} {sz : Nat} {e : TypeId} {τ τ' : Nat → Nat} {t s : Nat} {w w' : World} {lo n c : Nat} {xs : List α} {l r : Bool} {v u : Value} {A A' : Option Addr}
theorem MakeSt.mv (h : MakeSt enc sz e τ t w lo n xs r u) (f : ∀ A c k ys, OwT enc sz e τ t w lo A c k ys → OwT enc sz e τ' t w' lo A c k ys) : MakeSt enc sz e τ' t w' lo n xs r u := by
  cases h with
  | none => exact .none _
  | done A c h => exact .done _ _ (f _ _ _ _ h)
theorem MakeSt.alloc {o : Obj} (h : MakeSt enc sz e τ t w lo n xs r u) : MakeSt enc sz e (glue τ w.heap.size (fun _ => s)) t (w.alloc o) lo n xs r u :=
  h.mv fun _ _ _ _ h => (h.glueL (Nat.le_refl _)).keep (KT.refl _ _ _ _).alloc
theorem MakeSt.app (h : MakeSt enc sz e τ t w lo n xs r u) (hb : Ch (atA A) w w') (ht : ∀ a, A = some a → τ a.block = s) (hne : t ≠ s) : MakeSt enc sz e (glue τ w.heap.size (fun _ => s)) t w' lo n xs r u :=
  h.mv fun _ _ _ _ h => (h.glueL (Nat.le_refl _)).keep (KT.ch hb (KT.refl _ _ _ _) fun i ⟨a, ha, hi⟩ => .inr (by rw [hi, glue_tag (ht a ha)]; exact Ne.symm hne))
/-- Something new elsewhere. -/
theorem MakeSt.ex (h : MakeSt enc sz e τ t w lo n xs r u) (hb : Ex w w') : MakeSt enc sz e (glue τ w.heap.size (fun _ => s)) t w' lo n xs r u :=
  h.mv fun _ _ _ _ h => (h.glueL (Nat.le_refl _)).keep (KT.ex hb (KT.refl _ _ _ _))
theorem CopySt.ex (h : CopySt enc sz e τ t w lo n xs l r v u) (hb : Ex w w') : CopySt enc sz e (glue τ w.heap.size (fun _ => s)) t w' lo n xs l r v u :=
  h.mv fun _ _ _ _ h => (h.glueL (Nat.le_refl _)).keep (KT.ex hb (KT.refl _ _ _ _))
/-- What is new is marked. -/
theorem OwT.newT {ys : List α} {m lo' : Nat} (h : Ow enc sz e w' lo' A c m ys) (hl : w.heap.size ≤ lo') (hlo : lo ≤ lo') : OwT enc sz e (glue τ w.heap.size (fun _ => t)) t w' lo A c m ys :=
  ⟨h.less hlo, fun a ha => by unfold glue; rw [if_neg (by have := (h.blk ha).1; omega)]⟩
end
end Go.Proofs.Ytdcjadgflenejaa

namespace Go.Proofs.Ytdcjadgflenejaa.Sw
set_option maxRecDepth 100000
set_option linter.unusedSimpArgs false
set_option linter.unusedVariables false
open Go.RowKit (wrap64)

/-- How a request was done: the market behind it, but its numbers. -/
inductive DoneBy (m : Mkt) (rows : List Row) (r : Req) : Mkt → Prop
  | issue : r.kind = 1 → r.user = 1 → r.who ≠ 1 → (rowAt rows r.ticket).who = 0 → m.log.length < 40 → moveMay m.purses r.who 1 r.price = true →
      DoneBy m rows r { m with purses := turned (turned m.purses r.who (-r.price)) 1 r.price, log := m.log ++ [⟨1, r.ticket, r.who, r.price⟩] }
  | offer : r.kind = 2 → (rowAt rows r.ticket).who = r.user → dealAt m.deals r.ticket = none → (rowAt rows r.ticket).used = false → r.price ≤ entCap (rowAt rows r.ticket).face →
      DoneBy m rows r { m with deals := insertDeal ⟨r.ticket, r.user, r.price, 0, 0⟩ m.deals }
  | drop (k : Nat) (d : Deal) : r.kind = 3 → (rowAt rows r.ticket).who = r.user → dealAt m.deals r.ticket = some k → m.deals[k]? = some d → d.ticket = r.ticket → held d = false →
      DoneBy m rows r { m with deals := m.deals.eraseIdx k }
  | fund (k : Nat) (d : Deal) : r.kind = 4 → dealAt m.deals r.ticket = some k → m.deals[k]? = some d → d.ticket = r.ticket → held d = false → d.seller ≠ r.user → turnMay m.purses r.user (-d.price) = true →
      DoneBy m rows r { m with purses := turned m.purses r.user (-d.price), deals := m.deals.set k { d with buyer := r.user, due := m.clock + 5 } }
  | settle (k : Nat) (d : Deal) : r.kind = 5 → dealAt m.deals r.ticket = some k → m.deals[k]? = some d → d.ticket = r.ticket → held d = true → d.seller = r.user → m.log.length < 40 → turnMay m.purses d.seller d.price = true →
      DoneBy m rows r { m with purses := turned m.purses d.seller d.price, log := m.log ++ [⟨2, r.ticket, d.buyer, d.price⟩], deals := m.deals.eraseIdx k }
  | enter : r.kind = 6 → (rowAt rows r.ticket).who = r.user → (rowAt rows r.ticket).used = false → dealAt m.deals r.ticket = none → m.log.length < 40 →
      DoneBy m rows r { m with log := m.log ++ [⟨3, r.ticket, r.user, 0⟩] }
theorem settle_may {m : Mkt} {rows : List Row} (h : MOk m rows) {k : Nat} {d : Deal} (hd : m.deals[k]? = some d) (hh : held d = true) : turnMay m.purses d.seller d.price = true := by
  have hdo := dealOk_iff.1 (h.deals.get hd)
  refine turnMay_in h.mon hdo.2.1 (by have := hdo.2.2.2.2.1; omega) ?_
  have h4 := h.sum
  have h5 := heldSum_erase hd
  have h6 := (heldSum_bd (h.deals.sub (List.eraseIdx_sublist m.deals k)).1).1
  have : heldIn d = d.price := by simp [heldIn, hh]
  omega
/-- A request that is not done turns nothing; one that is done does what its kind does. -/
theorem effect_done {m : Mkt} {rows : List Row} {r : Req} (h : MOk m rows) (hr : reqOk r = true) : ((effect m r).2 ≠ 1 ∧ (effect m r).1 = m) ∨ ((effect m r).2 = 1 ∧ DoneBy m rows r (effect m r).1) := by
  have hr := reqOk_iff.1 hr
  have hlog := (ownFold_some.1 h.fold).1
  unfold effect
  rw [mktRows_of h.fold]
  by_cases k1 : r.kind = 1
  · rw [if_pos k1]
    unfold issue
    split
    · exact .inl ⟨by simp, rfl⟩
    split
    · exact .inl ⟨by simp, rfl⟩
    split
    · exact .inl ⟨by simp, rfl⟩
    split
    · rename_i h1 h2 h3 h4
      exact .inr ⟨rfl, .issue k1 (by omega) (by omega) (by omega) (by omega) h4⟩
    · exact .inl ⟨by simp, rfl⟩
  rw [if_neg k1]
  by_cases k2 : r.kind = 2
  · rw [if_pos k2]
    unfold offer
    split
    · exact .inl ⟨by simp, rfl⟩
    split
    · exact .inl ⟨by simp, rfl⟩
    split
    · exact .inl ⟨by simp, rfl⟩
    · rename_i h1 h2 h3
      simp only [not_or, Bool.not_eq_true] at h2
      exact .inr ⟨rfl, .offer k2 (by simpa using h1) (none_of h2.1) h2.2 (by omega)⟩
  rw [if_neg k2]
  by_cases k3 : r.kind = 3
  · rw [if_pos k3]
    unfold dropIt
    split
    · exact .inl ⟨by simp, rfl⟩
    rename_i h1
    split
    · exact .inl ⟨by simp, rfl⟩
    rename_i k hk
    obtain ⟨d, hd, ht⟩ := dealAt_some hk
    rw [getD_of hd]
    split
    · exact .inl ⟨by simp, rfl⟩
    · exact .inr ⟨rfl, .drop k d k3 (by simpa using h1) hk hd ht (by simpa using ‹¬ held d = true›)⟩
  rw [if_neg k3]
  by_cases k4 : r.kind = 4
  · rw [if_pos k4]
    unfold fund
    split
    · exact .inl ⟨by simp, rfl⟩
    rename_i k hk
    obtain ⟨d, hd, ht⟩ := dealAt_some hk
    rw [getD_of hd]
    split
    · exact .inl ⟨by simp, rfl⟩
    split
    · exact .inl ⟨by simp, rfl⟩
    split
    · exact .inr ⟨rfl, .fund k d k4 hk hd ht (by simpa using ‹¬ held d = true›) ‹_› ‹_›⟩
    · exact .inl ⟨by simp, rfl⟩
  rw [if_neg k4]
  by_cases k5 : r.kind = 5
  · rw [if_pos k5]
    unfold settle
    split
    · exact .inl ⟨by simp, rfl⟩
    rename_i k hk
    obtain ⟨d, hd, ht⟩ := dealAt_some hk
    rw [getD_of hd]
    split
    · exact .inl ⟨by simp, rfl⟩
    split
    · exact .inl ⟨by simp, rfl⟩
    split
    · exact .inl ⟨by simp, rfl⟩
    · rename_i h1 h2 h3
      have hh : held d = true := by simpa using h1
      have hm := settle_may h hd hh
      refine .inr ⟨rfl, ?_⟩
      rw [show monTurn m.purses d.seller d.price = turned m.purses d.seller d.price from by simp [monTurn, hm]]
      exact .settle k d k5 hk hd ht hh (by simpa using h2) (by omega) hm
  rw [if_neg k5]
  unfold enter
  split
  · exact .inl ⟨by simp, rfl⟩
  split
  · exact .inl ⟨by simp, rfl⟩
  split
  · exact .inl ⟨by simp, rfl⟩
  · rename_i h1 h2 h3
    simp only [not_or, Bool.not_eq_true] at h2
    exact .inr ⟨rfl, .enter (by omega) (by simpa using h1) h2.1 (none_of h2.2) (by omega)⟩

/-! ### numbers -/
theorem lastOf_set {l : List Int} {u v x : Int} (h5 : l.length = 5) (hu : 1 ≤ u ∧ u ≤ 5) (hv : 1 ≤ v) : lastOf (l.set (u - 1).toNat x) v = if v = u then x else lastOf l v := by
  unfold lastOf
  rw [List.getD_eq_getElem?_getD, List.getElem?_set]
  by_cases h : v = u
  · subst h
    rw [if_pos rfl, if_pos (by omega), if_pos rfl]; rfl
  · rw [if_neg (by omega), if_neg h, List.getD_eq_getElem?_getD]
theorem said_of {m : Mkt} {rows : List Row} (h : MOk m rows) {u : Int} (hu : 1 ≤ u ∧ u ≤ 5) : numOk (lastOf m.nums u) (lastOf m.said u) = true := by
  have hn := h.nlen
  have hs := h.slen
  obtain ⟨a, ha⟩ : ∃ a, m.nums[(u - 1).toNat]? = some a := ⟨_, List.getElem?_eq_getElem (by omega)⟩
  obtain ⟨b, hb⟩ : ∃ b, m.said[(u - 1).toNat]? = some b := ⟨_, List.getElem?_eq_getElem (by omega)⟩
  unfold lastOf
  rw [getD_of ha, getD_of hb]
  exact (numsOk_iff (by rw [hn, hs])).1 h.nums _ _ _ ha hb
theorem doIt_ans {m : Mkt} {rows : List Row} {r : Req} (h : MOk m rows) (hr : reqOk r = true) : 1 ≤ (doIt m r).2 ∧ (doIt m r).2 ≤ 7 := by
  have hr' := reqOk_iff.1 hr
  unfold doIt
  split
  · have := numOk_iff.1 (said_of h hr'.1)
    dsimp only
    omega
  split
  · simp
  · have := effect_ans m r
    dsimp only
    omega
/-- The log grows by one entry at most. -/
theorem doIt_log {m : Mkt} {rows : List Row} {r : Req} (h : MOk m rows) (hr : reqOk r = true) : (doIt m r).1.log = m.log ∨ ∃ e, (doIt m r).1.log = m.log ++ [e] := by
  unfold doIt
  split
  · exact .inl rfl
  split
  · exact .inl rfl
  · show (effect m r).1.log = m.log ∨ ∃ e, (effect m r).1.log = m.log ++ [e]
    rcases effect_done h hr with ⟨_, e⟩ | ⟨_, d⟩
    · exact .inl (by rw [e])
    · generalize (effect m r).1 = x at d
      cases d
      · exact .inr ⟨_, rfl⟩
      · exact .inl rfl
      · exact .inl rfl
      · exact .inl rfl
      · exact .inr ⟨_, rfl⟩
      · exact .inr ⟨_, rfl⟩
theorem doIt_clock {m : Mkt} {rows : List Row} {r : Req} (h : MOk m rows) (hr : reqOk r = true) : (doIt m r).1.clock = m.clock := by
  unfold doIt
  split
  · rfl
  split
  · rfl
  · exact (effect_eff h hr).clk
end Go.Proofs.Ytdcjadgflenejaa.Sw

namespace Go.Proofs.Ytdcjadgflenejaa.Sw
set_option maxRecDepth 100000
set_option linter.unusedSimpArgs false
set_option linter.unusedVariables false
open Go.RowKit (wrap64)

theorem foldLines_append : ∀ (a b : List Req) (m : Mkt), foldLines m (a ++ b) = (foldLines m a).bind fun x => foldLines x b
  | [], b, m => rfl
  | r :: a, b, m => by
    rw [List.cons_append, foldLines, foldLines]
    split
    · split
      · rfl
      · exact foldLines_append a b _
    · split
      · exact foldLines_append a b _
      · rfl
theorem reqZ_no : reqOk reqZ = false := rfl
theorem ne_reqZ {r : Req} (h : reqOk r = true) : r ≠ reqZ := by rintro rfl; rw [reqZ_no] at h; cases h
theorem wldFold_snoc {first : List Int} {ls : List Req} {m : Mkt} (h : wldFold first ls = some m) (hl : ls.length < 300) (r : Req) : wldFold first (ls ++ [r]) = foldLines m [r] := by
  unfold wldFold at h ⊢
  split at h
  · rename_i hc
    simp only [Bool.and_eq_true, decide_eq_true_eq] at hc
    rw [if_pos (by simp only [Bool.and_eq_true, decide_eq_true_eq]; exact ⟨hc.1, by simp; omega⟩), foldLines_append, h]
    rfl
  · cases h

/-- A head of the first so many entries. -/
def Of (log : List Ent) (h : Head) : Prop := hedAt log h.size = some h
theorem hedAt_some {log : List Ent} {s : Int} {h : Head} : hedAt log s = some h ↔ (0 ≤ s ∧ s ≤ log.length) ∧ hedOf (log.take s.toNat) = some h := by
  unfold hedAt
  split
  · rename_i hc; rw [inR_iff] at hc; simp [hc]
  · rename_i hc
    have : ¬ (0 ≤ s ∧ s ≤ log.length) := fun h => hc (inR_iff.2 h)
    simp [this]
theorem hedAt_size {log : List Ent} {s : Int} {h : Head} (e : hedAt log s = some h) : h.size = s := by
  rw [hedAt_some] at e
  have := (hedOf_ok e.2).2
  rw [this, List.length_take]
  omega
theorem hedAt_append {log : List Ent} {s : Int} (es : List Ent) (h : 0 ≤ s ∧ s ≤ log.length) : hedAt (log ++ es) s = hedAt log s := by
  unfold hedAt
  rw [if_pos (inR_iff.2 h), if_pos (inR_iff.2 (by rw [List.length_append]; omega)), List.take_append_of_le_length (by omega)]
theorem Of.append {log : List Ent} {h : Head} (e : Of log h) (es : List Ent) : Of (log ++ es) h := by
  unfold Of at *
  rw [hedAt_append es (hedAt_some.1 e).1, e]
theorem Of.whole {log : List Ent} {h : Head} (e : hedOf log = some h) : Of log h := by
  have hs := (hedOf_ok e).2
  unfold Of
  rw [hedAt_some]
  refine ⟨by omega, ?_⟩
  rw [List.take_of_length_le (by omega)]
  exact e
theorem hedOf_of_fold {log : List Ent} {rows : List Row} (h : ownFold log = some rows) : ∃ x, hedOf log = some x := ⟨_, hedOf_some.2 ⟨rows, h, rfl⟩⟩
/-- Two heads of one log never fork. -/
theorem Of.nofork {log : List Ent} {a b : Head} (ha : Of log a) (hb : Of log b) : hedFork a b = false := by
  unfold Of at *
  by_cases h : a.size = b.size
  · rw [h, hb] at ha
    obtain rfl := Option.some.inj ha
    simp [hedFork]
  · simp [hedFork, h]

/-- What holds of a world that events have led to, from purses first on. -/
structure Inv (first : List Int) (w : World) : Prop where
  ok : WOk w
  isFirst : w.first = first
  fold : wldFold first w.lines = some w.market
  money : total w.market = first.sum
  gates : ∀ g ∈ w.gates, Of w.market.log g.head
  bag : ∀ x ∈ w.bag, Of w.market.log x.head
theorem Inv.rows {first : List Int} {w : World} (h : Inv first w) : ∃ rows, MOk w.market rows := mktOk_iff.1 h.ok.mkt
theorem inv_new {p : List Int} (hp : monOk p = true) (hs : monSum p ≤ 100000) : Inv p (wldNew p) := by
  have ok := wldNew_ok hp hs
  have e : wldNew p = ⟨p, mktNew p, [], [gatNew, gatNew], []⟩ := by simp [wldNew, hp, hs]
  have em : mktNew p = ⟨[], p, [], 0, [0, 0, 0, 0, 0], [0, 0, 0, 0, 0]⟩ := by simp [mktNew, hp, hs]
  rw [e] at ok ⊢
  refine ⟨ok, rfl, by simp [wldFold, hp, hs, foldLines], by rw [em]; simp [total, heldSum], fun g hg => ?_, by simp⟩
  have hg : g = gatNew := by simpa using hg
  subst hg
  rw [em]
  obtain ⟨x, hx⟩ := hedOf_of_fold (log := []) (rows := rows0) rfl
  have : gatNew.head = x := by simp [gatNew, hx]
  rw [this]
  exact Of.whole hx
theorem inv_ask {first : List Int} {w : World} (h : Inv first w) (r : Req) : Inv first (ask w r).1 := by
  have hok := ask_ok h.ok r
  unfold ask at hok ⊢
  split at hok
  · rename_i hr
    rw [if_pos hr]
    simp only [Bool.and_eq_true, decide_eq_true_eq] at hr
    obtain ⟨rows, hm⟩ := h.rows
    have hlog : ∃ es, (doIt w.market r).1.log = w.market.log ++ es := by
      rcases doIt_log hm hr.1 with e | ⟨x, e⟩
      · exact ⟨[], by rw [e, List.append_nil]⟩
      · exact ⟨[x], e⟩
    obtain ⟨es, he⟩ := hlog
    refine ⟨hok, h.isFirst, ?_, ?_, fun g hg => ?_, fun x hx => ?_⟩
    · show wldFold first (w.lines ++ [r]) = _
      rw [wldFold_snoc h.fold hr.2, foldLines, if_neg (ne_reqZ hr.1), if_pos hr.1, foldLines]
    · show total (doIt w.market r).1 = _
      rw [doIt_total hm hr.1, h.money]
    · show Of (doIt w.market r).1.log g.head
      rw [he]
      exact (h.gates g hg).append es
    · show Of (doIt w.market r).1.log x.head
      rw [he]
      exact (h.bag x hx).append es
  · rename_i hr
    rw [if_neg hr]
    exact h
theorem inv_tick {first : List Int} {w : World} (h : Inv first w) : Inv first (tickW w) := by
  have hok := tickW_ok h.ok
  unfold tickW at hok ⊢
  split at hok
  · rename_i hr
    rw [if_pos hr]
    simp only [Bool.and_eq_true, decide_eq_true_eq] at hr
    obtain ⟨rows, hm⟩ := h.rows
    refine ⟨hok, h.isFirst, ?_, ?_, h.gates, h.bag⟩
    · show wldFold first (w.lines ++ [reqZ]) = _
      rw [wldFold_snoc h.fold hr.2, foldLines, if_pos rfl, if_neg hr.1, foldLines]
    · show total (tick w.market) = _
      rw [tick_total hm, h.money]
  · rename_i hr
    rw [if_neg hr]
    exact h
theorem fall_market {first : List Int} {w : World} (h : Inv first w) : (fall w).market = w.market := by
  show (wldFold w.first w.lines).getD w.market = _
  rw [h.isFirst, h.fold]
  rfl
theorem inv_fall {first : List Int} {w : World} (h : Inv first w) : Inv first (fall w) := by
  have e := fall_market h
  refine ⟨fall_ok h.ok, h.isFirst, ?_, ?_, fun g hg => ?_, by simp [fall]⟩
  · rw [e]; exact h.fold
  · rw [e]; exact h.money
  · rw [e]; exact h.gates g hg
theorem inv_send {first : List Int} {w : World} (h : Inv first w) (k : Int) : Inv first (send w k) := by
  have hok := send_ok h.ok k
  unfold send at hok ⊢
  split at hok
  · rename_i hr
    rw [if_pos hr]
    refine ⟨hok, h.isFirst, h.fold, h.money, h.gates, fun x hx => ?_⟩
    rcases List.mem_append.1 hx with hx | hx
    · exact h.bag x hx
    · obtain rfl := List.mem_singleton.1 hx
      obtain ⟨rows, hm⟩ := h.rows
      obtain ⟨y, hy⟩ := hedOf_of_fold hm.fold
      show Of _ ((hedOf w.market.log).getD headZ)
      rw [hy]
      exact Of.whole hy
  · rename_i hr
    rw [if_neg hr]
    exact h
theorem inv_lose {first : List Int} {w : World} (h : Inv first w) (i : Int) : Inv first (lose w i) :=
  ⟨lose_ok h.ok i, h.isFirst, h.fold, h.money, h.gates, fun x hx => h.bag x ((List.eraseIdx_sublist w.bag i.toNat).subset hx)⟩
theorem inv_setGate {first : List Int} {w : World} (h : Inv first w) {k : Nat} {g : Gate} (hg : gatOk g = true) (ho : Of w.market.log g.head) : Inv first { w with gates := w.gates.set k g } := by
  refine ⟨setGate_ok h.ok hg, h.isFirst, h.fold, h.money, fun x hx => ?_, h.bag⟩
  rcases List.mem_or_eq_of_mem_set hx with hx | rfl
  · exact h.gates x hx
  · exact ho
theorem gateAt_mem {w : World} (h : WOk w) {k : Int} (hk : 0 ≤ k ∧ k ≤ 1) : gateAt w k ∈ w.gates := by
  unfold gateAt
  have hl := h.glen
  obtain ⟨g, hg⟩ : ∃ g, w.gates[k.toNat]? = some g := ⟨_, List.getElem?_eq_getElem (by omega)⟩
  rw [getD_of hg]
  exact List.mem_of_getElem? hg
theorem msgAt_mem {w : World} {i : Int} (hi : 0 ≤ i ∧ i ≤ (w.bag.length : Int) - 1) : msgAt w i ∈ w.bag := by
  unfold msgAt
  obtain ⟨g, hg⟩ : ∃ g, w.bag[i.toNat]? = some g := ⟨_, List.getElem?_eq_getElem (by omega)⟩
  rw [getD_of hg]
  exact List.mem_of_getElem? hg
theorem gatSync_head (g : Gate) (h : Head) (p : List Int) (hg : gatOk g = true) : (gatSync g h p).1.done = g.done ∧ g.head.size ≤ (gatSync g h p).1.head.size ∧ ((gatSync g h p).1.head = h ∨ (gatSync g h p).1.head = g.head) := by
  unfold gatSync
  rw [if_pos hg]
  split
  · exact ⟨rfl, (hedFollows_ok ‹_›).2.2, .inl rfl⟩
  · exact ⟨rfl, Int.le_refl _, .inr rfl⟩
theorem inv_heard {first : List Int} {w : World} (h : Inv first w) {x : Msg} (hx : msgOk x = true) (ho : Of w.market.log x.head) : Inv first (heard w x) := by
  simp only [msgOk, Bool.and_eq_true, inR_iff] at hx
  have hg := gateAt_ok h.ok hx.1.1
  refine inv_setGate h (gatSync_ok hg) ?_
  rcases (gatSync_head (gateAt w x.gate) x.head x.proof hg).2.2 with e | e
  · rw [e]; exact ho
  · rw [e]; exact h.gates _ (gateAt_mem h.ok hx.1.1)
theorem inv_hear {first : List Int} {w : World} (h : Inv first w) {i : Int} (hi : 0 ≤ i ∧ i ≤ (w.bag.length : Int) - 1) : Inv first (hear w i) :=
  inv_heard (inv_lose h i) (msgAt_ok h.ok hi) (h.bag _ (msgAt_mem hi))
theorem inv_twice {first : List Int} {w : World} (h : Inv first w) {i : Int} (hi : 0 ≤ i ∧ i ≤ (w.bag.length : Int) - 1) : Inv first (twice w i) := by
  have hok := twice_ok h.ok hi
  unfold twice at hok ⊢
  split at hok
  · rename_i hr
    rw [if_pos hr]
    refine ⟨hok, h.isFirst, h.fold, h.money, h.gates, fun x hx => ?_⟩
    rcases List.mem_append.1 hx with hx | hx
    · exact h.bag x hx
    · obtain rfl := List.mem_singleton.1 hx
      exact h.bag _ (msgAt_mem hi)
  · rename_i hr
    rw [if_neg hr]
    exact h
theorem gatShow_head (g : Gate) (t who : Int) (r : Row) (p : List Int) (hg : gatOk g = true) : (gatShow g t who r p).1.head = g.head := by
  unfold gatShow
  rw [if_pos hg]
  split <;> rfl
theorem inv_show {first : List Int} {w : World} (h : Inv first w) (k t who : Int) : Inv first (showIt w k t who).1 := by
  unfold showIt
  split
  · rename_i hr
    simp only [Bool.and_eq_true, decide_eq_true_eq, inR_iff] at hr
    split
    · exact h
    · split
      · have hg := gateAt_ok h.ok hr.1.1
        refine inv_setGate h (gatShow_ok hg) ?_
        rw [gatShow_head _ _ _ _ _ hg]
        exact h.gates _ (gateAt_mem h.ok hr.1.1)
      · exact h
  · exact h
theorem inv_tellOne {first : List Int} {w : World} (h : Inv first w) (t : Int) : Inv first (tellOne w t) := by
  unfold tellOne
  split
  · exact inv_ask h _
  · exact h
theorem inv_tells {first : List Int} : ∀ (ts : List Int) {w : World}, Inv first w → Inv first (ts.foldl tellOne w)
  | [], _, h => h
  | t :: ts, _, h => inv_tells ts (inv_tellOne h t)
theorem inv_tell {first : List Int} {w : World} (h : Inv first w) (k : Int) : Inv first (tell w k) := by
  unfold tell
  split
  · exact inv_tells _ h
  · exact h
theorem inv_step {first : List Int} {w : World} (h : Inv first w) (e : Ev) : Inv first (step w e).1 := by
  unfold step
  split
  · exact inv_ask h _
  split
  · exact inv_tick h
  split
  · exact inv_fall h
  split
  · exact inv_send h _
  split
  · dsimp only; split
    · exact inv_hear h (inR_iff.1 ‹_›)
    · exact h
  split
  · dsimp only; split
    · exact inv_lose h _
    · exact h
  split
  · dsimp only; split
    · exact inv_twice h (inR_iff.1 ‹_›)
    · exact h
  split
  · exact inv_show h _ _ _
  split
  · exact inv_tell h _
  · exact h
theorem inv_run {first : List Int} : ∀ (es : List Ev) {w : World}, Inv first w → Inv first (runFrom w es)
  | [], _, h => h
  | e :: es, _, h => inv_run es (inv_step h e)
theorem Inv.wldMoney {first : List Int} {w : World} (h : Inv first w) : wldMoney w = first.sum := by
  obtain ⟨rows, hm⟩ := h.rows
  unfold Sw.wldMoney
  rw [hm.total]
  have := h.money
  unfold total at this
  rw [this]
  have hs := hm.sum
  have h1 := (sum_bd w.market.purses 100000 (by omega) (monOk_iff.1 hm.mon).2).1
  have h2 := (heldSum_bd hm.deals.1).1
  exact wrap64_in (by omega)
end Go.Proofs.Ytdcjadgflenejaa.Sw

