/-
  Texts joined: Plain4, Plain5, Plain6, Incl, DrawP.
-/
import Derived.Test.YtdbnbembjebfhaaPg3
import Derived.Test.YtdbnbembjebfhaaPg5
import Derived.Test.YtdbnbembjebfhaaPg7
namespace Go.Proofs.Ytdbnbembjebfhaa.Sw
set_option maxRecDepth 100000
set_option linter.unusedSimpArgs false
set_option linter.unusedVariables false
open Go.RowKit (wrap64)

/-- How a request was done: the market behind it, but its numbers. -/
inductive DoneBy (m : Mkt) (rows : List Row) (r : Req) : Mkt → Prop
  | issue : r.kind = 1 → r.user = 1 → r.who ≠ 1 → (rowAt rows r.ticket).who = 0 → m.log.length < 40 → moveMay m.purses r.who 1 r.price = true →
      DoneBy m rows r { m with purses := turned (turned m.purses r.who (-r.price)) 1 r.price, log := m.log ++ [⟨1, r.ticket, r.who, r.price⟩] }
  | offer : r.kind = 2 → (rowAt rows r.ticket).who = r.user → dealAt m.deals r.ticket = none → (rowAt rows r.ticket).used = false → r.price ≤ entCap (rowAt rows r.ticket).face →
      DoneBy m rows r { m with deals := insertDeal ⟨r.ticket, r.user, r.price, 0, 0⟩ m.deals }
  | drop (k : Nat) (d : Deal) : r.kind = 3 → (rowAt rows r.ticket).who = r.user → dealAt m.deals r.ticket = some k → m.deals[k]? = some d → d.ticket = r.ticket → held d = false →
      DoneBy m rows r { m with deals := m.deals.eraseIdx k }
  | fund (k : Nat) (d : Deal) : r.kind = 4 → dealAt m.deals r.ticket = some k → m.deals[k]? = some d → d.ticket = r.ticket → held d = false → d.seller ≠ r.user → turnMay m.purses r.user (-d.price) = true →
      DoneBy m rows r { m with purses := turned m.purses r.user (-d.price), deals := m.deals.set k { d with buyer := r.user, due := m.clock + 5 } }
  | settle (k : Nat) (d : Deal) : r.kind = 5 → dealAt m.deals r.ticket = some k → m.deals[k]? = some d → d.ticket = r.ticket → held d = true → d.seller = r.user → m.log.length < 40 → turnMay m.purses d.seller d.price = true →
      DoneBy m rows r { m with purses := turned m.purses d.seller d.price, log := m.log ++ [⟨2, r.ticket, d.buyer, d.price⟩], deals := m.deals.eraseIdx k }
  | enter : r.kind = 6 → (rowAt rows r.ticket).who = r.user → (rowAt rows r.ticket).used = false → dealAt m.deals r.ticket = none → m.log.length < 40 →
      DoneBy m rows r { m with log := m.log ++ [⟨3, r.ticket, r.user, 0⟩] }
theorem settle_may {m : Mkt} {rows : List Row} (h : MOk m rows) {k : Nat} {d : Deal} (hd : m.deals[k]? = some d) (hh : held d = true) : turnMay m.purses d.seller d.price = true := by
  have hdo := dealOk_iff.1 (h.deals.get hd)
  refine turnMay_in h.mon hdo.2.1 (by have := hdo.2.2.2.2.1; omega) ?_
  have h4 := h.sum
  have h5 := heldSum_erase hd
  have h6 := (heldSum_bd (h.deals.sub (List.eraseIdx_sublist m.deals k)).1).1
  have : heldIn d = d.price := by simp [heldIn, hh]
  omega
/-- A request that is not done turns nothing; one that is done does what its kind does. -/
theorem effect_done {m : Mkt} {rows : List Row} {r : Req} (h : MOk m rows) (hr : reqOk r = true) : ((effect m r).2 ≠ 1 ∧ (effect m r).1 = m) ∨ ((effect m r).2 = 1 ∧ DoneBy m rows r (effect m r).1) := by
  have hr := reqOk_iff.1 hr
  have hlog := (ownFold_some.1 h.fold).1
  unfold effect
  rw [mktRows_of h.fold]
  by_cases k1 : r.kind = 1
  · rw [if_pos k1]
    unfold issue
    split
    · exact .inl ⟨by simp, rfl⟩
    split
    · exact .inl ⟨by simp, rfl⟩
    split
    · exact .inl ⟨by simp, rfl⟩
    split
    · rename_i h1 h2 h3 h4
      exact .inr ⟨rfl, .issue k1 (by omega) (by omega) (by omega) (by omega) h4⟩
    · exact .inl ⟨by simp, rfl⟩
  rw [if_neg k1]
  by_cases k2 : r.kind = 2
  · rw [if_pos k2]
    unfold offer
    split
    · exact .inl ⟨by simp, rfl⟩
    split
    · exact .inl ⟨by simp, rfl⟩
    split
    · exact .inl ⟨by simp, rfl⟩
    · rename_i h1 h2 h3
      simp only [not_or, Bool.not_eq_true] at h2
      exact .inr ⟨rfl, .offer k2 (by simpa using h1) (none_of h2.1) h2.2 (by omega)⟩
  rw [if_neg k2]
  by_cases k3 : r.kind = 3
  · rw [if_pos k3]
    unfold dropIt
    split
    · exact .inl ⟨by simp, rfl⟩
    rename_i h1
    split
    · exact .inl ⟨by simp, rfl⟩
    rename_i k hk
    obtain ⟨d, hd, ht⟩ := dealAt_some hk
    rw [getD_of hd]
    split
    · exact .inl ⟨by simp, rfl⟩
    · exact .inr ⟨rfl, .drop k d k3 (by simpa using h1) hk hd ht (by simpa using ‹¬ held d = true›)⟩
  rw [if_neg k3]
  by_cases k4 : r.kind = 4
  · rw [if_pos k4]
    unfold fund
    split
    · exact .inl ⟨by simp, rfl⟩
    rename_i k hk
    obtain ⟨d, hd, ht⟩ := dealAt_some hk
    rw [getD_of hd]
    split
    · exact .inl ⟨by simp, rfl⟩
    split
    · exact .inl ⟨by simp, rfl⟩
    split
    · exact .inr ⟨rfl, .fund k d k4 hk hd ht (by simpa using ‹¬ held d = true›) ‹_› ‹_›⟩
    · exact .inl ⟨by simp, rfl⟩
  rw [if_neg k4]
  by_cases k5 : r.kind = 5
  · rw [if_pos k5]
    unfold settle
    split
    · exact .inl ⟨by simp, rfl⟩
    rename_i k hk
    obtain ⟨d, hd, ht⟩ := dealAt_some hk
    rw [getD_of hd]
    split
    · exact .inl ⟨by simp, rfl⟩
    split
    · exact .inl ⟨by simp, rfl⟩
    split
    · exact .inl ⟨by simp, rfl⟩
    · rename_i h1 h2 h3
      have hh : held d = true := by simpa using h1
      have hm := settle_may h hd hh
      refine .inr ⟨rfl, ?_⟩
      rw [show monTurn m.purses d.seller d.price = turned m.purses d.seller d.price from by simp [monTurn, hm]]
      exact .settle k d k5 hk hd ht hh (by simpa using h2) (by omega) hm
  rw [if_neg k5]
  unfold enter
  split
  · exact .inl ⟨by simp, rfl⟩
  split
  · exact .inl ⟨by simp, rfl⟩
  split
  · exact .inl ⟨by simp, rfl⟩
  · rename_i h1 h2 h3
    simp only [not_or, Bool.not_eq_true] at h2
    exact .inr ⟨rfl, .enter (by omega) (by simpa using h1) h2.1 (none_of h2.2) (by omega)⟩

/-! ### numbers -/
theorem lastOf_set {l : List Int} {u v x : Int} (h5 : l.length = 5) (hu : 1 ≤ u ∧ u ≤ 5) (hv : 1 ≤ v) : lastOf (l.set (u - 1).toNat x) v = if v = u then x else lastOf l v := by
  unfold lastOf
  rw [List.getD_eq_getElem?_getD, List.getElem?_set]
  by_cases h : v = u
  · subst h
    rw [if_pos rfl, if_pos (by omega), if_pos rfl]; rfl
  · rw [if_neg (by omega), if_neg h, List.getD_eq_getElem?_getD]
theorem said_of {m : Mkt} {rows : List Row} (h : MOk m rows) {u : Int} (hu : 1 ≤ u ∧ u ≤ 5) : numOk (lastOf m.nums u) (lastOf m.said u) = true := by
  have hn := h.nlen
  have hs := h.slen
  obtain ⟨a, ha⟩ : ∃ a, m.nums[(u - 1).toNat]? = some a := ⟨_, List.getElem?_eq_getElem (by omega)⟩
  obtain ⟨b, hb⟩ : ∃ b, m.said[(u - 1).toNat]? = some b := ⟨_, List.getElem?_eq_getElem (by omega)⟩
  unfold lastOf
  rw [getD_of ha, getD_of hb]
  exact (numsOk_iff (by rw [hn, hs])).1 h.nums _ _ _ ha hb
theorem doIt_ans {m : Mkt} {rows : List Row} {r : Req} (h : MOk m rows) (hr : reqOk r = true) : 1 ≤ (doIt m r).2 ∧ (doIt m r).2 ≤ 7 := by
  have hr' := reqOk_iff.1 hr
  unfold doIt
  split
  · have := numOk_iff.1 (said_of h hr'.1)
    dsimp only
    omega
  split
  · simp
  · have := effect_ans m r
    dsimp only
    omega
/-- The log grows by one entry at most. -/
theorem doIt_log {m : Mkt} {rows : List Row} {r : Req} (h : MOk m rows) (hr : reqOk r = true) : (doIt m r).1.log = m.log ∨ ∃ e, (doIt m r).1.log = m.log ++ [e] := by
  unfold doIt
  split
  · exact .inl rfl
  split
  · exact .inl rfl
  · show (effect m r).1.log = m.log ∨ ∃ e, (effect m r).1.log = m.log ++ [e]
    rcases effect_done h hr with ⟨_, e⟩ | ⟨_, d⟩
    · exact .inl (by rw [e])
    · generalize (effect m r).1 = x at d
      cases d
      · exact .inr ⟨_, rfl⟩
      · exact .inl rfl
      · exact .inl rfl
      · exact .inl rfl
      · exact .inr ⟨_, rfl⟩
      · exact .inr ⟨_, rfl⟩
theorem doIt_clock {m : Mkt} {rows : List Row} {r : Req} (h : MOk m rows) (hr : reqOk r = true) : (doIt m r).1.clock = m.clock := by
  unfold doIt
  split
  · rfl
  split
  · rfl
  · exact (effect_eff h hr).clk
end Go.Proofs.Ytdbnbembjebfhaa.Sw

namespace Go.Proofs.Ytdbnbembjebfhaa.Sw
set_option maxRecDepth 100000
set_option linter.unusedSimpArgs false
set_option linter.unusedVariables false
open Go.RowKit (wrap64)

theorem foldLines_append : ∀ (a b : List Req) (m : Mkt), foldLines m (a ++ b) = (foldLines m a).bind fun x => foldLines x b
  | [], b, m => rfl
  | r :: a, b, m => by
    rw [List.cons_append, foldLines, foldLines]
    split
    · split
      · rfl
      · exact foldLines_append a b _
    · split
      · exact foldLines_append a b _
      · rfl
theorem reqZ_no : reqOk reqZ = false := rfl
theorem ne_reqZ {r : Req} (h : reqOk r = true) : r ≠ reqZ := by rintro rfl; rw [reqZ_no] at h; cases h
theorem wldFold_snoc {first : List Int} {ls : List Req} {m : Mkt} (h : wldFold first ls = some m) (hl : ls.length < 300) (r : Req) : wldFold first (ls ++ [r]) = foldLines m [r] := by
  unfold wldFold at h ⊢
  split at h
  · rename_i hc
    simp only [Bool.and_eq_true, decide_eq_true_eq] at hc
    rw [if_pos (by simp only [Bool.and_eq_true, decide_eq_true_eq]; exact ⟨hc.1, by simp; omega⟩), foldLines_append, h]
    rfl
  · cases h

/-- A head of the first so many entries. -/
def Of (log : List Ent) (h : Head) : Prop := hedAt log h.size = some h
theorem hedAt_some {log : List Ent} {s : Int} {h : Head} : hedAt log s = some h ↔ (0 ≤ s ∧ s ≤ log.length) ∧ hedOf (log.take s.toNat) = some h := by
  unfold hedAt
  split
  · rename_i hc; rw [inR_iff] at hc; simp [hc]
  · rename_i hc
    have : ¬ (0 ≤ s ∧ s ≤ log.length) := fun h => hc (inR_iff.2 h)
    simp [this]
theorem hedAt_size {log : List Ent} {s : Int} {h : Head} (e : hedAt log s = some h) : h.size = s := by
  rw [hedAt_some] at e
  have := (hedOf_ok e.2).2
  rw [this, List.length_take]
  omega
theorem hedAt_append {log : List Ent} {s : Int} (es : List Ent) (h : 0 ≤ s ∧ s ≤ log.length) : hedAt (log ++ es) s = hedAt log s := by
  unfold hedAt
  rw [if_pos (inR_iff.2 h), if_pos (inR_iff.2 (by rw [List.length_append]; omega)), List.take_append_of_le_length (by omega)]
theorem Of.append {log : List Ent} {h : Head} (e : Of log h) (es : List Ent) : Of (log ++ es) h := by
  unfold Of at *
  rw [hedAt_append es (hedAt_some.1 e).1, e]
theorem Of.whole {log : List Ent} {h : Head} (e : hedOf log = some h) : Of log h := by
  have hs := (hedOf_ok e).2
  unfold Of
  rw [hedAt_some]
  refine ⟨by omega, ?_⟩
  rw [List.take_of_length_le (by omega)]
  exact e
theorem hedOf_of_fold {log : List Ent} {rows : List Row} (h : ownFold log = some rows) : ∃ x, hedOf log = some x := ⟨_, hedOf_some.2 ⟨rows, h, rfl⟩⟩
/-- Two heads of one log never fork. -/
theorem Of.nofork {log : List Ent} {a b : Head} (ha : Of log a) (hb : Of log b) : hedFork a b = false := by
  unfold Of at *
  by_cases h : a.size = b.size
  · rw [h, hb] at ha
    obtain rfl := Option.some.inj ha
    simp [hedFork]
  · simp [hedFork, h]

/-- What holds of a world that events have led to, from purses first on. -/
structure Inv (first : List Int) (w : World) : Prop where
  ok : WOk w
  isFirst : w.first = first
  fold : wldFold first w.lines = some w.market
  money : total w.market = first.sum
  gates : ∀ g ∈ w.gates, Of w.market.log g.head
  bag : ∀ x ∈ w.bag, Of w.market.log x.head
theorem Inv.rows {first : List Int} {w : World} (h : Inv first w) : ∃ rows, MOk w.market rows := mktOk_iff.1 h.ok.mkt
theorem inv_new {p : List Int} (hp : monOk p = true) (hs : monSum p ≤ 100000) : Inv p (wldNew p) := by
  have ok := wldNew_ok hp hs
  have e : wldNew p = ⟨p, mktNew p, [], [gatNew, gatNew], []⟩ := by simp [wldNew, hp, hs]
  have em : mktNew p = ⟨[], p, [], 0, [0, 0, 0, 0, 0], [0, 0, 0, 0, 0]⟩ := by simp [mktNew, hp, hs]
  rw [e] at ok ⊢
  refine ⟨ok, rfl, by simp [wldFold, hp, hs, foldLines], by rw [em]; simp [total, heldSum], fun g hg => ?_, by simp⟩
  have hg : g = gatNew := by simpa using hg
  subst hg
  rw [em]
  obtain ⟨x, hx⟩ := hedOf_of_fold (log := []) (rows := rows0) rfl
  have : gatNew.head = x := by simp [gatNew, hx]
  rw [this]
  exact Of.whole hx
theorem inv_ask {first : List Int} {w : World} (h : Inv first w) (r : Req) : Inv first (ask w r).1 := by
  have hok := ask_ok h.ok r
  unfold ask at hok ⊢
  split at hok
  · rename_i hr
    rw [if_pos hr]
    simp only [Bool.and_eq_true, decide_eq_true_eq] at hr
    obtain ⟨rows, hm⟩ := h.rows
    have hlog : ∃ es, (doIt w.market r).1.log = w.market.log ++ es := by
      rcases doIt_log hm hr.1 with e | ⟨x, e⟩
      · exact ⟨[], by rw [e, List.append_nil]⟩
      · exact ⟨[x], e⟩
    obtain ⟨es, he⟩ := hlog
    refine ⟨hok, h.isFirst, ?_, ?_, fun g hg => ?_, fun x hx => ?_⟩
    · show wldFold first (w.lines ++ [r]) = _
      rw [wldFold_snoc h.fold hr.2, foldLines, if_neg (ne_reqZ hr.1), if_pos hr.1, foldLines]
    · show total (doIt w.market r).1 = _
      rw [doIt_total hm hr.1, h.money]
    · show Of (doIt w.market r).1.log g.head
      rw [he]
      exact (h.gates g hg).append es
    · show Of (doIt w.market r).1.log x.head
      rw [he]
      exact (h.bag x hx).append es
  · rename_i hr
    rw [if_neg hr]
    exact h
theorem inv_tick {first : List Int} {w : World} (h : Inv first w) : Inv first (tickW w) := by
  have hok := tickW_ok h.ok
  unfold tickW at hok ⊢
  split at hok
  · rename_i hr
    rw [if_pos hr]
    simp only [Bool.and_eq_true, decide_eq_true_eq] at hr
    obtain ⟨rows, hm⟩ := h.rows
    refine ⟨hok, h.isFirst, ?_, ?_, h.gates, h.bag⟩
    · show wldFold first (w.lines ++ [reqZ]) = _
      rw [wldFold_snoc h.fold hr.2, foldLines, if_pos rfl, if_neg hr.1, foldLines]
    · show total (tick w.market) = _
      rw [tick_total hm, h.money]
  · rename_i hr
    rw [if_neg hr]
    exact h
theorem fall_market {first : List Int} {w : World} (h : Inv first w) : (fall w).market = w.market := by
  show (wldFold w.first w.lines).getD w.market = _
  rw [h.isFirst, h.fold]
  rfl
theorem inv_fall {first : List Int} {w : World} (h : Inv first w) : Inv first (fall w) := by
  have e := fall_market h
  refine ⟨fall_ok h.ok, h.isFirst, ?_, ?_, fun g hg => ?_, by simp [fall]⟩
  · rw [e]; exact h.fold
  · rw [e]; exact h.money
  · rw [e]; exact h.gates g hg
theorem inv_send {first : List Int} {w : World} (h : Inv first w) (k : Int) : Inv first (send w k) := by
  have hok := send_ok h.ok k
  unfold send at hok ⊢
  split at hok
  · rename_i hr
    rw [if_pos hr]
    refine ⟨hok, h.isFirst, h.fold, h.money, h.gates, fun x hx => ?_⟩
    rcases List.mem_append.1 hx with hx | hx
    · exact h.bag x hx
    · obtain rfl := List.mem_singleton.1 hx
      obtain ⟨rows, hm⟩ := h.rows
      obtain ⟨y, hy⟩ := hedOf_of_fold hm.fold
      show Of _ ((hedOf w.market.log).getD headZ)
      rw [hy]
      exact Of.whole hy
  · rename_i hr
    rw [if_neg hr]
    exact h
theorem inv_lose {first : List Int} {w : World} (h : Inv first w) (i : Int) : Inv first (lose w i) :=
  ⟨lose_ok h.ok i, h.isFirst, h.fold, h.money, h.gates, fun x hx => h.bag x ((List.eraseIdx_sublist w.bag i.toNat).subset hx)⟩
theorem inv_setGate {first : List Int} {w : World} (h : Inv first w) {k : Nat} {g : Gate} (hg : gatOk g = true) (ho : Of w.market.log g.head) : Inv first { w with gates := w.gates.set k g } := by
  refine ⟨setGate_ok h.ok hg, h.isFirst, h.fold, h.money, fun x hx => ?_, h.bag⟩
  rcases List.mem_or_eq_of_mem_set hx with hx | rfl
  · exact h.gates x hx
  · exact ho
theorem gateAt_mem {w : World} (h : WOk w) {k : Int} (hk : 0 ≤ k ∧ k ≤ 1) : gateAt w k ∈ w.gates := by
  unfold gateAt
  have hl := h.glen
  obtain ⟨g, hg⟩ : ∃ g, w.gates[k.toNat]? = some g := ⟨_, List.getElem?_eq_getElem (by omega)⟩
  rw [getD_of hg]
  exact List.mem_of_getElem? hg
theorem msgAt_mem {w : World} {i : Int} (hi : 0 ≤ i ∧ i ≤ (w.bag.length : Int) - 1) : msgAt w i ∈ w.bag := by
  unfold msgAt
  obtain ⟨g, hg⟩ : ∃ g, w.bag[i.toNat]? = some g := ⟨_, List.getElem?_eq_getElem (by omega)⟩
  rw [getD_of hg]
  exact List.mem_of_getElem? hg
theorem gatSync_head (g : Gate) (h : Head) (p : List Int) (hg : gatOk g = true) : (gatSync g h p).1.done = g.done ∧ g.head.size ≤ (gatSync g h p).1.head.size ∧ ((gatSync g h p).1.head = h ∨ (gatSync g h p).1.head = g.head) := by
  unfold gatSync
  rw [if_pos hg]
  split
  · exact ⟨rfl, (hedFollows_ok ‹_›).2.2, .inl rfl⟩
  · exact ⟨rfl, Int.le_refl _, .inr rfl⟩
theorem inv_heard {first : List Int} {w : World} (h : Inv first w) {x : Msg} (hx : msgOk x = true) (ho : Of w.market.log x.head) : Inv first (heard w x) := by
  simp only [msgOk, Bool.and_eq_true, inR_iff] at hx
  have hg := gateAt_ok h.ok hx.1.1
  refine inv_setGate h (gatSync_ok hg) ?_
  rcases (gatSync_head (gateAt w x.gate) x.head x.proof hg).2.2 with e | e
  · rw [e]; exact ho
  · rw [e]; exact h.gates _ (gateAt_mem h.ok hx.1.1)
theorem inv_hear {first : List Int} {w : World} (h : Inv first w) {i : Int} (hi : 0 ≤ i ∧ i ≤ (w.bag.length : Int) - 1) : Inv first (hear w i) :=
  inv_heard (inv_lose h i) (msgAt_ok h.ok hi) (h.bag _ (msgAt_mem hi))
theorem inv_twice {first : List Int} {w : World} (h : Inv first w) {i : Int} (hi : 0 ≤ i ∧ i ≤ (w.bag.length : Int) - 1) : Inv first (twice w i) := by
  have hok := twice_ok h.ok hi
  unfold twice at hok ⊢
  split at hok
  · rename_i hr
    rw [if_pos hr]
    refine ⟨hok, h.isFirst, h.fold, h.money, h.gates, fun x hx => ?_⟩
    rcases List.mem_append.1 hx with hx | hx
    · exact h.bag x hx
    · obtain rfl := List.mem_singleton.1 hx
      exact h.bag _ (msgAt_mem hi)
  · rename_i hr
    rw [if_neg hr]
    exact h
theorem gatShow_head (g : Gate) (t who : Int) (r : Row) (p : List Int) (hg : gatOk g = true) : (gatShow g t who r p).1.head = g.head := by
  unfold gatShow
  rw [if_pos hg]
  split <;> rfl
theorem inv_show {first : List Int} {w : World} (h : Inv first w) (k t who : Int) : Inv first (showIt w k t who).1 := by
  unfold showIt
  split
  · rename_i hr
    simp only [Bool.and_eq_true, decide_eq_true_eq, inR_iff] at hr
    split
    · exact h
    · split
      · have hg := gateAt_ok h.ok hr.1.1
        refine inv_setGate h (gatShow_ok hg) ?_
        rw [gatShow_head _ _ _ _ _ hg]
        exact h.gates _ (gateAt_mem h.ok hr.1.1)
      · exact h
  · exact h
theorem inv_tellOne {first : List Int} {w : World} (h : Inv first w) (t : Int) : Inv first (tellOne w t) := by
  unfold tellOne
  split
  · exact inv_ask h _
  · exact h
theorem inv_tells {first : List Int} : ∀ (ts : List Int) {w : World}, Inv first w → Inv first (ts.foldl tellOne w)
  | [], _, h => h
  | t :: ts, _, h => inv_tells ts (inv_tellOne h t)
theorem inv_tell {first : List Int} {w : World} (h : Inv first w) (k : Int) : Inv first (tell w k) := by
  unfold tell
  split
  · exact inv_tells _ h
  · exact h
theorem inv_step {first : List Int} {w : World} (h : Inv first w) (e : Ev) : Inv first (step w e).1 := by
  unfold step
  split
  · exact inv_ask h _
  split
  · exact inv_tick h
  split
  · exact inv_fall h
  split
  · exact inv_send h _
  split
  · dsimp only; split
    · exact inv_hear h (inR_iff.1 ‹_›)
    · exact h
  split
  · dsimp only; split
    · exact inv_lose h _
    · exact h
  split
  · dsimp only; split
    · exact inv_twice h (inR_iff.1 ‹_›)
    · exact h
  split
  · exact inv_show h _ _ _
  split
  · exact inv_tell h _
  · exact h
theorem inv_run {first : List Int} : ∀ (es : List Ev) {w : World}, Inv first w → Inv first (runFrom w es)
  | [], _, h => h
  | e :: es, _, h => inv_run es (inv_step h e)
theorem Inv.wldMoney {first : List Int} {w : World} (h : Inv first w) : wldMoney w = first.sum := by
  obtain ⟨rows, hm⟩ := h.rows
  unfold Sw.wldMoney
  rw [hm.total]
  have := h.money
  unfold total at this
  rw [this]
  have hs := hm.sum
  have h1 := (sum_bd w.market.purses 100000 (by omega) (monOk_iff.1 hm.mon).2).1
  have h2 := (heldSum_bd hm.deals.1).1
  exact wrap64_in (by omega)
end Go.Proofs.Ytdbnbembjebfhaa.Sw

namespace Go.Proofs.Ytdbnbembjebfhaa.Sw
set_option maxRecDepth 100000
set_option linter.unusedSimpArgs false
set_option linter.unusedVariables false
open Go.RowKit (wrap64)

theorem root_parts {xs : List Int} (h : 2 ≤ xs.length) : root xs = pair (root (xs.take (split xs.length))) (root (xs.drop (split xs.length))) := by
  match xs, h with
  | x :: y :: r, _ => rw [root]; rfl
theorem split_mid {m n : Nat} (h1 : split n < m) (h2 : m ≤ n) (h3 : 2 ≤ n) : split m = split n := by
  unfold split at *
  have e : (m - 1).log2 = (n - 1).log2 := by
    have hn := (Nat.log2_eq_iff (n := n - 1) (k := (n - 1).log2) (by omega)).1 rfl
    exact (Nat.log2_eq_iff (by omega)).2 ⟨by omega, by omega⟩
  rw [e]
theorem grow_shows : ∀ (n : Nat) (l : List Int) (m : Nat) (old : Int) (known : Bool), 1 ≤ m → m ≤ l.length → l.length ≤ n → (known = true → old = root (l.take m)) →
    grR m l.length old (grow n l m known).reverse known = some (root (l.take m), root l)
  | 0, l, m, old, known, h1, h2, h3, _ => by omega
  | n + 1, l, m, old, known, h1, h2, h3, ho => by
    rw [grow]
    by_cases hm : m = l.length
    · rw [if_pos hm]
      have ht : l.take m = l := List.take_of_length_le (by omega)
      rw [ht] at ho ⊢
      cases known with
      | true => simp [grR, hm, ho rfl]
      | false => simp [grR, hm]
    · rw [if_neg hm]
      have h2' : 2 ≤ l.length := by omega
      have hs := split_lt h2'
      have hp := split_pos l.length
      have hr := root_parts h2'
      by_cases hk : m ≤ split l.length
      · rw [if_pos hk, List.reverse_append, List.reverse_singleton, List.singleton_append, grR, if_neg hm, if_pos hk]
        have hl : (l.take (split l.length)).length = split l.length := by rw [List.length_take]; omega
        have ht : (l.take (split l.length)).take m = l.take m := by rw [List.take_take, Nat.min_eq_left hk]
        have ih := grow_shows n (l.take (split l.length)) m old known h1 (by omega) (by omega) (by rw [ht]; exact ho)
        rw [hl, ht] at ih
        rw [ih, hr]
        rfl
      · rw [if_neg hk, List.reverse_append, List.reverse_singleton, List.singleton_append, grR, if_neg hm, if_neg hk]
        have hl : (l.drop (split l.length)).length = l.length - split l.length := List.length_drop ..
        have ih := grow_shows n (l.drop (split l.length)) (m - split l.length) old false (by omega) (by omega) (by omega) (by simp)
        rw [hl] at ih
        rw [ih, hr]
        have hlm : (l.take m).length = m := by rw [List.length_take]; omega
        have hrm := root_parts (xs := l.take m) (by omega)
        rw [hlm, split_mid (by omega) h2 h2', List.take_take, Nat.min_eq_left (by omega), List.drop_take] at hrm
        rw [hrm]
        rfl
theorem con_shows {l : List Int} {m : Nat} (h : treOk l = true) (h1 : 1 ≤ m) (h2 : m ≤ l.length) : conCheck m (root (l.take m)) l.length (root l) (conProof l m) = true := by
  have hl := treOk_iff.1 h
  have hp := conProof_ok l m
  have hc : conProof l m = growth l m true := by
    unfold conProof
    rw [if_pos (by simp only [Bool.and_eq_true, inR_iff]; exact ⟨h, by omega⟩)]
    rfl
  have hs := grow_shows l.length l m (root (l.take m)) true h1 h2 (Nat.le_refl _) (fun _ => rfl)
  unfold conCheck
  rw [Bool.and_eq_true, Bool.and_eq_true, Bool.and_eq_true, Bool.and_eq_true, Bool.and_eq_true, inR_iff, inR_iff]
  refine ⟨⟨⟨⟨⟨by omega, by omega⟩, root_mix _ (all_take hl.2)⟩, root_mix _ hl.2⟩, hp⟩, ?_⟩
  rw [hc]
  show (grR (m : Int).toNat (l.length : Int).toNat _ (grow l.length l m true).reverse true == _) = true
  rw [Int.toNat_natCast, Int.toNat_natCast, hs]
  simp
theorem head_shape {log : List Ent} {h : Head} (e : hedOf log = some h) : h.size = log.length ∧ h.log = root (log.map entLeaf) := by
  obtain ⟨rows, _, rfl⟩ := hedOf_some.1 e
  exact ⟨rfl, rfl⟩
/-- The head of all entries is shown to follow that of the first so many. -/
theorem follows {log : List Ent} {h x : Head} (ho : Of log h) (e : hedOf log = some x) : hedFollows h x (hedProof log h.size) = true := by
  obtain ⟨hs, hh⟩ := hedAt_some.1 ho
  have ok1 := hedOf_ok hh
  have ok2 := hedOf_ok e
  have sh1 := head_shape hh
  have sh2 := head_shape e
  have h40 : log.length ≤ 40 := by
    obtain ⟨rows, hr, _⟩ := hedOf_some.1 e
    exact (ownFold_some.1 hr).1
  unfold hedFollows
  rw [ok1.1, ok2.1]
  have hle : h.size ≤ x.size := by omega
  have heq : (decide (h.size ≠ x.size) || decide (h = x)) = true := by
    by_cases hx : h.size = x.size
    · rw [List.take_of_length_le (by omega)] at hh
      rw [hh] at e
      simp [Option.some.inj e]
    · simp [hx]
  rw [heq, decide_eq_true hle]
  simp only [Bool.and_self, Bool.true_and]
  have hp : hedProof log h.size = conProof (log.map entLeaf) h.size := by simp [hedProof, h40]
  rw [hp]
  by_cases h0 : h.size = 0
  · rw [if_pos h0, h0]
    have : inR (0 : Int) 1 ((log.map entLeaf).length) = false := by simp [inR]
    have e0 : conProof (log.map entLeaf) 0 = [] := by unfold conProof; rw [this, Bool.and_false]; rfl
    rw [e0]; rfl
  · rw [if_neg h0]
    have hto : treOk (log.map entLeaf) = true := treOk_iff.2 ⟨by simpa using h40, entLeaves_mix log⟩
    have hc := con_shows (l := log.map entLeaf) (m := h.size.toNat) hto (by omega) (by rw [List.length_map]; omega)
    rw [← List.map_take, List.length_map] at hc
    rw [sh1.2, sh2.2, sh2.1]
    have e1 : ((h.size.toNat : Nat) : Int) = h.size := by omega
    rw [e1] at hc
    exact hc

/-! ### what is there can be shown -/
theorem incl_len : ∀ (n : Nat) (l : List Int) (i : Nat), i < l.length → (incl n l i).length ≤ l.length - 1
  | 0, l, i, h => by simp [incl]
  | n + 1, l, i, h => by
    rw [incl]
    split
    · simp
    · have hs := split_lt (n := l.length) (by omega)
      have hp := split_pos l.length
      split
      · have := incl_len n (l.take (split l.length)) i (by rw [List.length_take]; omega)
        rw [List.length_take] at this
        simp only [List.length_append, List.length_singleton]
        omega
      · have := incl_len n (l.drop (split l.length)) (i - split l.length) (by rw [List.length_drop]; omega)
        rw [List.length_drop] at this
        simp only [List.length_append, List.length_singleton]
        omega
theorem incl_mix : ∀ (n : Nat) (l : List Int) (i : Nat), l.all mixOk = true → (incl n l i).all mixOk = true
  | 0, l, i, h => by simp [incl]
  | n + 1, l, i, h => by
    rw [incl]
    split
    · rfl
    · split
      · simp [incl_mix n _ i (all_take h), root_mix _ (all_drop h)]
      · simp [incl_mix n _ _ (all_drop h), root_mix _ (all_take h)]
theorem incl_shows : ∀ (n : Nat) (l : List Int) (i : Nat) (x : Int), l[i]? = some x → l.length ≤ n → upR l.length i x (incl n l i).reverse = (root l, true)
  | 0, l, i, x, h, hn => by have := (List.getElem?_eq_some_iff.1 h).1; omega
  | n + 1, l, i, x, h, hn => by
    have hi := (List.getElem?_eq_some_iff.1 h).1
    rw [incl]
    by_cases h1 : l.length ≤ 1
    · rw [if_pos h1]
      match l, h, hi, h1 with
      | [y], h, hi, h1 =>
        have : i = 0 := by simpa using hi
        subst this
        have : y = x := by simpa using h
        subst this
        simp [upR, root]
    · rw [if_neg h1]
      have hs := split_lt (n := l.length) (by omega)
      have hp := split_pos l.length
      have hr := root_parts (xs := l) (by omega)
      by_cases hk : i < split l.length
      · rw [if_pos hk, List.reverse_append, List.reverse_singleton, List.singleton_append, upR, if_neg h1, if_pos hk]
        have hl : (l.take (split l.length)).length = split l.length := by rw [List.length_take]; omega
        have ih := incl_shows n (l.take (split l.length)) i x (by rw [List.getElem?_take, if_pos hk]; exact h) (by omega)
        rw [hl] at ih
        rw [ih, hr]
      · rw [if_neg hk, List.reverse_append, List.reverse_singleton, List.singleton_append, upR, if_neg h1, if_neg hk]
        have hl : (l.drop (split l.length)).length = l.length - split l.length := List.length_drop ..
        have ih := incl_shows n (l.drop (split l.length)) (i - split l.length) x (by rw [List.getElem?_drop, show split l.length + (i - split l.length) = i from by omega]; exact h) (by omega)
        rw [hl] at ih
        rw [ih, hr]
theorem leavesFrom_get : ∀ (rows : List Row) (t : Int) (k : Nat) (r : Row), rows[k]? = some r → (leavesFrom t rows)[k]? = some (ownLeaf (t + k) r)
  | [], t, k, r, h => by simp at h
  | x :: xs, t, 0, r, h => by
    simp at h
    subst h
    simp [leavesFrom]
  | x :: xs, t, k + 1, r, h => by
    have := leavesFrom_get xs (t + 1) k r (by simpa using h)
    rw [leavesFrom, List.getElem?_cons_succ, this]
    congr 2
    omega
theorem leavesFrom_len : ∀ (rows : List Row) (t : Int), (leavesFrom t rows).length = rows.length
  | [], _ => rfl
  | r :: rs, t => by simp [leavesFrom, leavesFrom_len rs]
theorem ownLeaves_len (rows : List Row) : (ownLeaves rows).length = rows.length := leavesFrom_len rows 0
theorem rowAt_get {rows : List Row} (h : ownOk rows = true) {t : Int} (ht : 0 ≤ t ∧ t ≤ 7) : rows[t.toNat]? = some (rowAt rows t) := by
  have h8 := ownOk_len h
  obtain ⟨r, hr⟩ : ∃ r, rows[t.toNat]? = some r := ⟨_, List.getElem?_eq_getElem (by omega)⟩
  rw [rowAt, getD_of hr]
  exact hr
/-- How a ticket stands is shown under the root of all rows. -/
theorem own_shows {rows : List Row} (h : ownOk rows = true) {t : Int} (ht : 0 ≤ t ∧ t ≤ 7) : ownCheck (ownRoot rows) t (rowAt rows t) (ownProof rows t) = true := by
  have h8 := ownOk_len h
  have hit : inR t 0 7 = true := inR_iff.2 ht
  have hg := leavesFrom_get rows 0 t.toNat _ (rowAt_get h ht)
  rw [show (0 : Int) + (t.toNat : Nat) = t from by omega] at hg
  have hl := ownLeaves_len rows
  have hs := incl_shows (ownLeaves rows).length (ownLeaves rows) t.toNat _ hg (Nat.le_refl _)
  have hp : ownProof rows t = inclusion (ownLeaves rows) t.toNat := by simp [ownProof, h, hit]
  have hr : ownRoot rows = root (ownLeaves rows) := by simp [ownRoot, h]
  unfold ownCheck treCheck
  rw [hit, Bool.true_and, hp, hr]
  have htp : treOk (inclusion (ownLeaves rows) t.toNat) = true := by
    have hm := incl_mix (ownLeaves rows).length (ownLeaves rows) t.toNat (ownLeaves_mix rows)
    have hn := incl_len (ownLeaves rows).length (ownLeaves rows) t.toNat (by omega)
    exact treOk_iff.2 ⟨by unfold inclusion; omega, hm⟩
  have hu : up 8 t.toNat (ownLeaf t (rowAt rows t)) (inclusion (ownLeaves rows) t.toNat) = (root (ownLeaves rows), true) := by
    unfold up inclusion
    rw [hl, h8] at hs
    rw [hl, h8]
    exact hs
  unfold treUp
  rw [if_pos (by
    simp only [Bool.and_eq_true, inR_iff]
    refine ⟨⟨⟨⟨by omega, by omega⟩, ownLeaf_mix _ _⟩, htp⟩, ?_⟩
    show (up 8 t.toNat _ _).2 = true
    rw [hu])]
  show (some (up 8 t.toNat _ _).1 == _) = true
  rw [hu]
  simp
end Go.Proofs.Ytdbnbembjebfhaa.Sw

namespace Go.Proofs.Ytdbnbembjebfhaa
set_option maxRecDepth 100000
set_option linter.unusedSimpArgs false
set_option linter.unusedVariables false
open Go.RowKit Go
set_option maxHeartbeats 1000000

theorem incl_small {N : Nat} {l : List Int} {i : Nat} (h : l.length ≤ 1) : Sw.incl N l i = [] := by
  cases N with
  | zero => rfl
  | succ N => rw [Sw.incl, if_pos h]
theorem incl_big {N : Nat} {l : List Int} {i : Nat} (h : ¬ l.length ≤ 1) : Sw.incl (N + 1) l i =
    if i < Sw.split l.length then Sw.incl N (l.take (Sw.split l.length)) i ++ [Sw.root (l.drop (Sw.split l.length))]
    else Sw.incl N (l.drop (Sw.split l.length)) (i - Sw.split l.length) ++ [Sw.root (l.take (Sw.split l.length))] := by
  rw [Sw.incl, if_neg h]
theorem sIncl_c (N : Nat) (A : Option Addr) (c n i : Nat) (xs : List Int) (w : World) (hN : n ≤ N) (hN4 : N ≤ 40) (hxs : RI w 0 A c n xs) (hok : xs.all Sw.mixOk = true) (hi : i ≤ 40) : Calls Try.prog 78 #[.slice A n c, .int .i64 i] w fun E w' => ∃ A' c' n', E = .returned (.slice A' n' c') ∧ OwI w' w.heap.size A' c' n' (Sw.incl N xs i) ∧ n' ≤ N ∧ Ex w w' := by
  induction N generalizing A c n i xs w with
  | zero =>
    obtain rfl : n = 0 := by omega
    have e : Sw.incl 0 xs i = [] := rfl
    rw [e]
    go_enter Try.func78, Try.ntmps78
    go_wp2_with fail
    go_ret
    refine ⟨_, _, _, rfl, ?_, Nat.zero_le _, ext_⟩
    (refine Ow.new [] (by (first | rfl | (simp only [zA, zC, zD, zN]; done) | omega)) rfl rfl (fun _ => rfl) (by exact sz_) (by omega))
  | succ N ih =>
    have hl := Lib.hid hxs.1
    have hcap := hxs.2.le
    by_cases h1 : n ≤ 1
    · have e : Sw.incl (N + 1) xs i = [] := incl_small (by have := hl.out; omega)
      rw [e]
      have hlt : (n : Int) < 2 := by omega
      go_enter Try.func78, Try.ntmps78
      go_wp2_with fail
      go_ret
      refine ⟨_, _, _, rfl, ?_, Nat.zero_le _, ext_⟩
      (refine Ow.new [] (by (first | rfl | (simp only [zA, zC, zD, zN]; done) | omega)) rfl rfl (fun _ => rfl) (by exact sz_) (by omega))
    · have h2 : 2 ≤ n := by omega
      have hs1 := Sw.split_lt h2
      have hs0 := Sw.split_pos n
      have hg := incl_big (N := N) (l := xs) (i := i) (by have := hl.out; omega)
      rw [← hl.out] at hg
      have Hg := Lib.hid hg
      clear hg
      have hnlt : ¬ (n : Int) < 2 := by omega
      have z3 : ¬ (c = Sw.split n) := by omega
      have z0 : (0 : Int) ≤ ↑(Sw.split n) := by omega
      have z1 : (↑(Sw.split n) : Int) ≤ ↑n := by omega
      have z2 : (↑(Sw.split n) : Int) ≤ ↑c := by omega
      by_cases hms : i < Sw.split n
      · go_enter Try.func78, Try.ntmps78
        go_wp2_with (first | (go_at_call 108; apply Calls.mono; apply sTreSplit_c; (first | assumption | omega); (first | assumption | omega); rintro E w' ⟨rfl, rfl⟩))
        (refine wp_name ?_; intro W0 hb0; have hst := xr hb0; (try simp only [zA, zC, zD, zN] at hst); obtain ⟨hc0, hf0, hz0⟩ := hst; go_region_held3 (fun w' => Held W0 w') ((first | with_reducible assumption | with_reducible exact Held.start _ | with_reducible exact Held.of (by assumption) | with_reducible exact Held.ex (by assumption) (by assumption) | ((repeat (first | with_reducible refine Held.set ?_ (by simp only [zA, zC, zD, zN]; omega) | with_reducible refine Held.alloc ?_ _ | with_reducible refine Held.drew ?_)); (first | with_reducible assumption | with_reducible exact Held.refl _ | with_reducible exact Held.of (by assumption) | with_reducible exact Held.ex (by assumption) (by assumption))) | exact Held.of (by exact ext_))) ((first | (go_at_call 78; apply Calls.mono; apply ih; omega; omega; (apply Rs.at0; apply RI_take hxs; omega; (exact kf_)); exact List.all_take hok; omega; rintro E w1 ⟨A3, c3, n3, rfl, ho3, hn3, hb⟩; have hst := xr hb; (try simp only [zA, zC, zD, zN] at hst); obtain ⟨hc, hf, hz⟩ := hst) | (go_at_call 109; apply Calls.mono; apply (sRoot_c 40); omega; (apply Rs.at0; apply RI_drop hxs; omega; (exact kf_)); omega; exact List.all_drop hok; rintro E w1 ⟨rfl, hb⟩; have hst := xr hb; (try simp only [zA, zC, zD, zN] at hst); obtain ⟨hc, hf, hz⟩ := hst) | (apply step_app el_I one_I rfl rfl rfl rfl; (first | assumption | exact Ow.nil _ _ | (apply Ow.keep; assumption; exact kf_) | (refine Ow.new [] (by (first | rfl | (simp only [zA, zC, zD, zN]; done) | omega)) rfl rfl (fun _ => rfl) (by exact sz_) (by omega))); (first | (refine Rs.new [Sw.root (xs.drop (Sw.split n))] (by (first | rfl | (simp only [zA, zC, zD, zN]; done) | omega)) rfl rfl (fun _ => rfl) (by omega))); omega; exact sz_; intro A1 c1 w2 ho1 hch1 hat1 hex1 hlow1; have hbx := hex1 (fun _ => False) W0 (And.right (by assumption : Held W0 _)) (by exact sz_); clear hex1 hlow1))); all_goals (have hb := And.right (by assumption : Held W0 _); have hst := xr hb; (try simp only [zA, zC, zD, zN] at hst); obtain ⟨hc, hf, hz⟩ := hst))
        go_wp2
        go_ret
        refine ⟨_, _, _, rfl, ?_, by omega, ext_⟩
        rw [Hg.out, if_pos hms]
        exact ho1.less (by exact sz_)
      · have y0 : IntKind.i64.wrap ((i : Int) - ↑(Sw.split n)) = ((i - Sw.split n : Nat) : Int) := by rw [IntWalk.i64_in _ (by omega)]; omega
        go_enter Try.func78, Try.ntmps78
        go_wp2_with (first | (go_at_call 108; apply Calls.mono; apply sTreSplit_c; (first | assumption | omega); (first | assumption | omega); rintro E w' ⟨rfl, rfl⟩))
        (refine wp_name ?_; intro W0 hb0; have hst := xr hb0; (try simp only [zA, zC, zD, zN] at hst); obtain ⟨hc0, hf0, hz0⟩ := hst; go_region_held3 (fun w' => Held W0 w') ((first | with_reducible assumption | with_reducible exact Held.start _ | with_reducible exact Held.of (by assumption) | with_reducible exact Held.ex (by assumption) (by assumption) | ((repeat (first | with_reducible refine Held.set ?_ (by simp only [zA, zC, zD, zN]; omega) | with_reducible refine Held.alloc ?_ _ | with_reducible refine Held.drew ?_)); (first | with_reducible assumption | with_reducible exact Held.refl _ | with_reducible exact Held.of (by assumption) | with_reducible exact Held.ex (by assumption) (by assumption))) | exact Held.of (by exact ext_))) ((first | (go_at_call 78; apply Calls.mono; apply ih; omega; omega; (apply Rs.at0; apply RI_drop hxs; omega; (exact kf_)); exact List.all_drop hok; omega; rintro E w1 ⟨A3, c3, n3, rfl, ho3, hn3, hb⟩; have hst := xr hb; (try simp only [zA, zC, zD, zN] at hst); obtain ⟨hc, hf, hz⟩ := hst) | (go_at_call 109; apply Calls.mono; apply (sRoot_c 40); omega; (apply Rs.at0; apply RI_take hxs; omega; (exact kf_)); omega; exact List.all_take hok; rintro E w1 ⟨rfl, hb⟩; have hst := xr hb; (try simp only [zA, zC, zD, zN] at hst); obtain ⟨hc, hf, hz⟩ := hst) | (apply step_app el_I one_I rfl rfl rfl rfl; (first | assumption | exact Ow.nil _ _ | (apply Ow.keep; assumption; exact kf_) | (refine Ow.new [] (by (first | rfl | (simp only [zA, zC, zD, zN]; done) | omega)) rfl rfl (fun _ => rfl) (by exact sz_) (by omega))); (first | (refine Rs.new [Sw.root (xs.take (Sw.split n))] (by (first | rfl | (simp only [zA, zC, zD, zN]; done) | omega)) rfl rfl (fun _ => rfl) (by omega))); omega; exact sz_; intro A1 c1 w2 ho1 hch1 hat1 hex1 hlow1; have hbx := hex1 (fun _ => False) W0 (And.right (by assumption : Held W0 _)) (by exact sz_); clear hex1 hlow1))); all_goals (have hb := And.right (by assumption : Held W0 _); have hst := xr hb; (try simp only [zA, zC, zD, zN] at hst); obtain ⟨hc, hf, hz⟩ := hst))
        go_wp2
        go_ret
        refine ⟨_, _, _, rfl, ?_, by omega, ext_⟩
        rw [Hg.out, if_neg hms]
        exact ho1.less (by exact sz_)
theorem incl_N : ∀ (N M : Nat) (xs : List Int) (i : Nat), xs.length ≤ N → xs.length ≤ M → Sw.incl N xs i = Sw.incl M xs i
  | 0, M, xs, i, h1, h2 => by rw [incl_small (by omega), incl_small (by omega)]
  | N + 1, 0, xs, i, h1, h2 => by rw [incl_small (by omega), incl_small (by omega)]
  | N + 1, M + 1, xs, i, h1, h2 => by
    by_cases e : xs.length ≤ 1
    · rw [incl_small e, incl_small e]
    · have s1 := Sw.split_lt (n := xs.length) (by omega)
      have s0 := Sw.split_pos xs.length
      rw [incl_big e, incl_big e, incl_N N M _ i (by rw [List.length_take]; omega) (by rw [List.length_take]; omega), incl_N N M _ (i - Sw.split xs.length) (by rw [List.length_drop]; omega) (by rw [List.length_drop]; omega)]
theorem sOwnProof_c (A : Option Addr) (c n : Nat) (xs : List Sw.Row) (t : Int) (w : World) (hxs : RR w 0 A c n xs) (hn : n ≤ 4194304) : Calls Try.prog 34 #[.slice A n c, .int .i64 t] w fun E w' => ∃ A' c' n', E = .returned (.slice A' n' c') ∧ OwI w' w.heap.size A' c' n' (Sw.ownProof xs t) ∧ Ex w w' := by
  have hl := Lib.hid hxs.1
  cases g1 : Sw.ownOk xs
  · have e : Sw.ownProof xs t = [] := by simp [Sw.ownProof, g1]
    rw [e]; clear e
    go_enter Try.func34, Try.ntmps34
    go_wp2_with (first | (go_at_call 77; apply Calls.mono; apply sOwnOk_c; ((first | (apply Rs.at0; assumption) | (apply Ow.rs0; assumption)); exact kf_); rintro E w1 ⟨rfl, hb⟩; have hst := xr hb; (try simp only [zA, zC, zD, zN] at hst); obtain ⟨hc, hf, hz⟩ := hst) | (go_at_call 41; refine (l1In_c _ _ _ _).mono ?_; rintro E w' ⟨rfl, rfl⟩))
    go_ret
    refine ⟨_, _, _, rfl, ?_, ext_⟩
    (refine Ow.new [] (by (first | rfl | (simp only [zA, zC, zD, zN]; done) | omega)) rfl rfl (fun _ => rfl) (by exact sz_) (by omega))
  cases g2 : Sw.inR t 0 7
  · have e : Sw.ownProof xs t = [] := by simp [Sw.ownProof, g2]
    rw [e]; clear e
    go_enter Try.func34, Try.ntmps34
    go_wp2_with (first | (go_at_call 77; apply Calls.mono; apply sOwnOk_c; ((first | (apply Rs.at0; assumption) | (apply Ow.rs0; assumption)); exact kf_); rintro E w1 ⟨rfl, hb⟩; have hst := xr hb; (try simp only [zA, zC, zD, zN] at hst); obtain ⟨hc, hf, hz⟩ := hst) | (go_at_call 41; refine (l1In_c _ _ _ _).mono ?_; rintro E w' ⟨rfl, rfl⟩))
    go_ret
    refine ⟨_, _, _, rfl, ?_, ext_⟩
    (refine Ow.new [] (by (first | rfl | (simp only [zA, zC, zD, zN]; done) | omega)) rfl rfl (fun _ => rfl) (by exact sz_) (by omega))
  have h8 := Sw.ownOk_len g1
  have hn8 : n = 8 := by have := hl.out; omega
  have ht := Sw.inR_iff.1 g2
  obtain ⟨k, rfl⟩ : ∃ k : Nat, t = k := ⟨t.toNat, by omega⟩
  have e : Sw.ownProof xs k = Sw.incl 8 (Sw.ownLeaves xs) k := by
    rw [Sw.ownProof, if_pos (by rw [g1, g2]; rfl), Sw.inclusion, Int.toNat_natCast, Sw.ownLeaves_len, h8]
  rw [e]
  have hmx := Sw.ownLeaves_mix xs
  subst hn8
  have hk : k ≤ 40 := by omega
  clear e h8 ht
  go_enter Try.func34, Try.ntmps34
  go_wp2_with (first | (go_at_call 77; apply Calls.mono; apply sOwnOk_c; ((first | (apply Rs.at0; assumption) | (apply Ow.rs0; assumption)); exact kf_); rintro E w1 ⟨rfl, hb⟩; have hst := xr hb; (try simp only [zA, zC, zD, zN] at hst); obtain ⟨hc, hf, hz⟩ := hst) | (go_at_call 41; refine (l1In_c _ _ _ _).mono ?_; rintro E w' ⟨rfl, rfl⟩) | (go_at_call 79; apply Calls.mono; apply (sLeaves_c (xs := xs)); (apply Rs.at0 hxs; (exact kf_)); (try omega); rintro E w1 ⟨A1, c1, rfl, ho1, hb⟩; have hst := xr hb; (try simp only [zA, zC, zD, zN] at hst); obtain ⟨hc, hf, hz⟩ := hst) | (go_at_call 78; apply Calls.mono; apply (sIncl_c 8 (xs := Sw.ownLeaves xs)); omega; omega; (apply Ow.rs0 ho1; (exact kf_)); exact hmx; omega; rintro E w2 ⟨A2, c2, n2, rfl, ho2, hn2, hb⟩; have hst := xr hb; (try simp only [zA, zC, zD, zN] at hst); obtain ⟨hc, hf, hz⟩ := hst))
  go_ret
  exact ⟨_, _, _, rfl, (ho2.keep kf_).less sz_, ext_⟩
end Go.Proofs.Ytdbnbembjebfhaa

namespace Go.Proofs.Ytdbnbembjebfhaa
set_option maxRecDepth 100000
set_option linter.unusedSimpArgs false
set_option linter.unusedVariables false
open Go.RowKit Go
set_option maxHeartbeats 4000000

def sel5 (v : Nat) (a b c d e : Int) : Int := if v = 0 then a else if v = 1 then b else if v = 2 then c else if v = 3 then d else e
theorem sel5_cell {v : Nat} (h : v < 5) (W : World) (a b c d e : Int) (T : TypeId) : (W.alloc (.cells #[.int .i64 a, .int .i64 b, .int .i64 c, .int .i64 d, .int .i64 e] T)).cell? ⟨W.heap.size, v, none⟩ = some (.int .i64 (sel5 v a b c d e)) := by
  rcases (by omega : v = 0 ∨ v = 1 ∨ v = 2 ∨ v = 3 ∨ v = 4) with rfl | rfl | rfl | rfl | rfl <;> simp [go_sem, sel5]
theorem l20Row_c (rb P : Nat) (w : World) (hr : Rdp w rb P) (hP : P ≤ 900000) : Calls Try.prog 33 #[.pointer (some ⟨rb, 0, none⟩)] w fun E w' => ∃ (a : Int) (b : Int) (c : Bool), E = .returned (.agg #[.int .i64 a, .int .i64 b, .bool c]) ∧ Rdp w' rb (P + 10) ∧ Ch (· = rb) w w' := by
  have hlt := hr.lt
  have hrd := hr
  go_enter Try.func33, Try.ntmps33
  go_wp2_with fail
  (focus (refine wp_name ?_; intro W0 hb0; have hst := xr hb0; (try simp only [zA, zC, zD, zN] at hst); obtain ⟨hc0, hf0, hz0⟩ := hst; refine wp_regionX [12] (S := fun w' => HeldR rb W0 w') hdR (fun hHeld => ?_); refine GoesX.take 0 3 [1, 2, 5, 6, 7, 9, 10, 11, 12] hHeld (h := ?_); refine GoesX.take 4 7 [5, 6, 7, 9, 10, 11, 12] hHeld (h := ?_); refine GoesX.take 8 11 [9, 10, 11, 12] hHeld (h := ?_); refine GoesX.ready (rs := [1, 3]) (by kernel_rfl) (by simp) ?_; refine EachX.cons rfl (fun K hK => ?_) ?_; rotate_left; refine EachX.cons rfl (fun K hK => ?_) EachX.nil; (focus (go_simp; refine outS hK hdR (h := fun hH2 => ?_); clear hK K hHeld; have hHeld := hH2; clear hH2; refine GoesX.one 1 (h := fun K hK => ?_); go_simp; (first | (go_at_call 29; apply Calls.mono; apply (pickN_c (N := 7)); (apply Rdp.keep; assumption; (exact kb_)); omega; rfl; decide; rintro E w7 ⟨v7, rfl, hv7, hrd, hb⟩; (have hst := xc hb; (try simp only [zA, zC, zD, zN] at hst); obtain ⟨hc, hf, hz⟩ := hst)) | (go_at_call 29; apply Calls.mono; apply (pickN_c (N := 5)); (apply Rdp.keep; assumption; (exact kb_)); omega; rfl; decide; rintro E w5 ⟨v5, rfl, hv5, hrd, hb⟩; have hsel := sel5_cell hv5; have hv5i : (v5 : Int) < 5 := (by omega); (have hst := xc hb; (try simp only [zA, zC, zD, zN] at hst); obtain ⟨hc, hf, hz⟩ := hst)) | (go_at_call 29; apply Calls.mono; apply (pickN_c (N := 2)); (apply Rdp.keep; assumption; (exact kb_)); omega; rfl; decide; rintro E w2 ⟨v2, rfl, hv2, hrd, hb⟩; (have hst := xc hb; (try simp only [zA, zC, zD, zN] at hst); obtain ⟨hc, hf, hz⟩ := hst))); (try go_wp2_with fail); refine outS hK hdR (h := fun hH2 => ?_); clear hK K hHeld; have hHeld := hH2; clear hH2; refine GoesX.take 2 5 [11, 12] hHeld (h := ?_); refine GoesX.one 5 (h := fun K hK => ?_); go_simp; (first | (go_at_call 29; apply Calls.mono; apply (pickN_c (N := 7)); (apply Rdp.keep; assumption; (exact kb_)); omega; rfl; decide; rintro E w7 ⟨v7, rfl, hv7, hrd, hb⟩; (have hst := xc hb; (try simp only [zA, zC, zD, zN] at hst); obtain ⟨hc, hf, hz⟩ := hst)) | (go_at_call 29; apply Calls.mono; apply (pickN_c (N := 5)); (apply Rdp.keep; assumption; (exact kb_)); omega; rfl; decide; rintro E w5 ⟨v5, rfl, hv5, hrd, hb⟩; have hsel := sel5_cell hv5; have hv5i : (v5 : Int) < 5 := (by omega); (have hst := xc hb; (try simp only [zA, zC, zD, zN] at hst); obtain ⟨hc, hf, hz⟩ := hst)) | (go_at_call 29; apply Calls.mono; apply (pickN_c (N := 2)); (apply Rdp.keep; assumption; (exact kb_)); omega; rfl; decide; rintro E w2 ⟨v2, rfl, hv2, hrd, hb⟩; (have hst := xc hb; (try simp only [zA, zC, zD, zN] at hst); obtain ⟨hc, hf, hz⟩ := hst))); (try go_wp2_with fail); refine outS hK hdR (h := fun hH2 => ?_); clear hK K hHeld; have hHeld := hH2; clear hH2; refine GoesX.take 6 9 [7, 11, 12] hHeld (h := ?_); refine GoesX.ready (rs := [7, 9]) (by kernel_rfl) (by simp) ?_; refine EachX.cons rfl (fun K hK => ?_) ?_; rotate_left; refine EachX.cons rfl (fun K hK => ?_) EachX.nil; (focus (go_simp; (first | (go_at_call 29; apply Calls.mono; apply (pickN_c (N := 7)); (apply Rdp.keep; assumption; (exact kb_)); omega; rfl; decide; rintro E w7 ⟨v7, rfl, hv7, hrd, hb⟩; (have hst := xc hb; (try simp only [zA, zC, zD, zN] at hst); obtain ⟨hc, hf, hz⟩ := hst)) | (go_at_call 29; apply Calls.mono; apply (pickN_c (N := 5)); (apply Rdp.keep; assumption; (exact kb_)); omega; rfl; decide; rintro E w5 ⟨v5, rfl, hv5, hrd, hb⟩; have hsel := sel5_cell hv5; have hv5i : (v5 : Int) < 5 := (by omega); (have hst := xc hb; (try simp only [zA, zC, zD, zN] at hst); obtain ⟨hc, hf, hz⟩ := hst)) | (go_at_call 29; apply Calls.mono; apply (pickN_c (N := 2)); (apply Rdp.keep; assumption; (exact kb_)); omega; rfl; decide; rintro E w2 ⟨v2, rfl, hv2, hrd, hb⟩; (have hst := xc hb; (try simp only [zA, zC, zD, zN] at hst); obtain ⟨hc, hf, hz⟩ := hst))); (try go_wp2_with fail); refine outS hK hdR (h := fun hH2 => ?_); clear hK K hHeld; have hHeld := hH2; clear hH2; refine GoesX.take 10 13 [11, 12] hHeld (h := ?_); refine GoesX.one 7 (h := fun K hK => ?_); go_simp; refine outS hK hdR (h := fun hH2 => ?_); clear hK K hHeld; have hHeld := hH2; clear hH2; refine GoesX.take 11 14 [12] hHeld (h := ?_); refine GoesX.oneX 12 (h := fun K hK => ?_); go_simp; refine outX hK (h := ?_); clear hK K; refine GoesX.done (by kernel_rfl) ?_ _)); rotate_right 1; (focus (go_simp; refine outS hK hdR (h := fun hH2 => ?_); clear hK K hHeld; have hHeld := hH2; clear hH2; refine GoesX.one 9 (h := fun K hK => ?_); go_simp; (first | (go_at_call 29; apply Calls.mono; apply (pickN_c (N := 7)); (apply Rdp.keep; assumption; (exact kb_)); omega; rfl; decide; rintro E w7 ⟨v7, rfl, hv7, hrd, hb⟩; (have hst := xc hb; (try simp only [zA, zC, zD, zN] at hst); obtain ⟨hc, hf, hz⟩ := hst)) | (go_at_call 29; apply Calls.mono; apply (pickN_c (N := 5)); (apply Rdp.keep; assumption; (exact kb_)); omega; rfl; decide; rintro E w5 ⟨v5, rfl, hv5, hrd, hb⟩; have hsel := sel5_cell hv5; have hv5i : (v5 : Int) < 5 := (by omega); (have hst := xc hb; (try simp only [zA, zC, zD, zN] at hst); obtain ⟨hc, hf, hz⟩ := hst)) | (go_at_call 29; apply Calls.mono; apply (pickN_c (N := 2)); (apply Rdp.keep; assumption; (exact kb_)); omega; rfl; decide; rintro E w2 ⟨v2, rfl, hv2, hrd, hb⟩; (have hst := xc hb; (try simp only [zA, zC, zD, zN] at hst); obtain ⟨hc, hf, hz⟩ := hst))); (try go_wp2_with fail); refine outS hK hdR (h := fun hH2 => ?_); clear hK K hHeld; have hHeld := hH2; clear hH2; refine GoesX.take 10 13 [11, 12] hHeld (h := ?_); refine GoesX.take 11 14 [12] hHeld (h := ?_); refine GoesX.oneX 12 (h := fun K hK => ?_); go_simp; refine outX hK (h := ?_); clear hK K; refine GoesX.done (by kernel_rfl) ?_ _)))); rotate_right 1; (focus (go_simp; (first | (go_at_call 29; apply Calls.mono; apply (pickN_c (N := 7)); (apply Rdp.keep; assumption; (exact kb_)); omega; rfl; decide; rintro E w7 ⟨v7, rfl, hv7, hrd, hb⟩; (have hst := xc hb; (try simp only [zA, zC, zD, zN] at hst); obtain ⟨hc, hf, hz⟩ := hst)) | (go_at_call 29; apply Calls.mono; apply (pickN_c (N := 5)); (apply Rdp.keep; assumption; (exact kb_)); omega; rfl; decide; rintro E w5 ⟨v5, rfl, hv5, hrd, hb⟩; have hsel := sel5_cell hv5; have hv5i : (v5 : Int) < 5 := (by omega); (have hst := xc hb; (try simp only [zA, zC, zD, zN] at hst); obtain ⟨hc, hf, hz⟩ := hst)) | (go_at_call 29; apply Calls.mono; apply (pickN_c (N := 2)); (apply Rdp.keep; assumption; (exact kb_)); omega; rfl; decide; rintro E w2 ⟨v2, rfl, hv2, hrd, hb⟩; (have hst := xc hb; (try simp only [zA, zC, zD, zN] at hst); obtain ⟨hc, hf, hz⟩ := hst))); (try go_wp2_with fail); refine outS hK hdR (h := fun hH2 => ?_); clear hK K hHeld; have hHeld := hH2; clear hH2; refine GoesX.take 2 5 [11, 12] hHeld (h := ?_); refine GoesX.ready (rs := [3, 5]) (by kernel_rfl) (by simp) ?_; refine EachX.cons rfl (fun K hK => ?_) ?_; rotate_left; refine EachX.cons rfl (fun K hK => ?_) EachX.nil; (focus (go_simp; (first | (go_at_call 29; apply Calls.mono; apply (pickN_c (N := 7)); (apply Rdp.keep; assumption; (exact kb_)); omega; rfl; decide; rintro E w7 ⟨v7, rfl, hv7, hrd, hb⟩; (have hst := xc hb; (try simp only [zA, zC, zD, zN] at hst); obtain ⟨hc, hf, hz⟩ := hst)) | (go_at_call 29; apply Calls.mono; apply (pickN_c (N := 5)); (apply Rdp.keep; assumption; (exact kb_)); omega; rfl; decide; rintro E w5 ⟨v5, rfl, hv5, hrd, hb⟩; have hsel := sel5_cell hv5; have hv5i : (v5 : Int) < 5 := (by omega); (have hst := xc hb; (try simp only [zA, zC, zD, zN] at hst); obtain ⟨hc, hf, hz⟩ := hst)) | (go_at_call 29; apply Calls.mono; apply (pickN_c (N := 2)); (apply Rdp.keep; assumption; (exact kb_)); omega; rfl; decide; rintro E w2 ⟨v2, rfl, hv2, hrd, hb⟩; (have hst := xc hb; (try simp only [zA, zC, zD, zN] at hst); obtain ⟨hc, hf, hz⟩ := hst))); (try go_wp2_with fail); refine outS hK hdR (h := fun hH2 => ?_); clear hK K hHeld; have hHeld := hH2; clear hH2; refine GoesX.ready (rs := [3, 9]) (by kernel_rfl) (by simp) ?_; refine EachX.cons rfl (fun K hK => ?_) ?_; rotate_left; refine EachX.cons rfl (fun K hK => ?_) EachX.nil; (focus (go_simp; (first | (go_at_call 29; apply Calls.mono; apply (pickN_c (N := 7)); (apply Rdp.keep; assumption; (exact kb_)); omega; rfl; decide; rintro E w7 ⟨v7, rfl, hv7, hrd, hb⟩; (have hst := xc hb; (try simp only [zA, zC, zD, zN] at hst); obtain ⟨hc, hf, hz⟩ := hst)) | (go_at_call 29; apply Calls.mono; apply (pickN_c (N := 5)); (apply Rdp.keep; assumption; (exact kb_)); omega; rfl; decide; rintro E w5 ⟨v5, rfl, hv5, hrd, hb⟩; have hsel := sel5_cell hv5; have hv5i : (v5 : Int) < 5 := (by omega); (have hst := xc hb; (try simp only [zA, zC, zD, zN] at hst); obtain ⟨hc, hf, hz⟩ := hst)) | (go_at_call 29; apply Calls.mono; apply (pickN_c (N := 2)); (apply Rdp.keep; assumption; (exact kb_)); omega; rfl; decide; rintro E w2 ⟨v2, rfl, hv2, hrd, hb⟩; (have hst := xc hb; (try simp only [zA, zC, zD, zN] at hst); obtain ⟨hc, hf, hz⟩ := hst))); (try go_wp2_with fail); refine outS hK hdR (h := fun hH2 => ?_); clear hK K hHeld; have hHeld := hH2; clear hH2; refine GoesX.take 10 13 [11, 12] hHeld (h := ?_); refine GoesX.one 3 (h := fun K hK => ?_); go_simp; refine outS hK hdR (h := fun hH2 => ?_); clear hK K hHeld; have hHeld := hH2; clear hH2; refine GoesX.take 6 9 [7, 11, 12] hHeld (h := ?_); refine GoesX.one 7 (h := fun K hK => ?_); go_simp; refine outS hK hdR (h := fun hH2 => ?_); clear hK K hHeld; have hHeld := hH2; clear hH2; refine GoesX.take 11 14 [12] hHeld (h := ?_); refine GoesX.oneX 12 (h := fun K hK => ?_); go_simp; refine outX hK (h := ?_); clear hK K; refine GoesX.done (by kernel_rfl) ?_ _)); rotate_right 1; (focus (go_simp; refine outS hK hdR (h := fun hH2 => ?_); clear hK K hHeld; have hHeld := hH2; clear hH2; refine GoesX.take 6 9 [7, 11, 12] hHeld (h := ?_); refine GoesX.ready (rs := [7, 9]) (by kernel_rfl) (by simp) ?_; refine EachX.cons rfl (fun K hK => ?_) ?_; rotate_left; refine EachX.cons rfl (fun K hK => ?_) EachX.nil; (focus (go_simp; (first | (go_at_call 29; apply Calls.mono; apply (pickN_c (N := 7)); (apply Rdp.keep; assumption; (exact kb_)); omega; rfl; decide; rintro E w7 ⟨v7, rfl, hv7, hrd, hb⟩; (have hst := xc hb; (try simp only [zA, zC, zD, zN] at hst); obtain ⟨hc, hf, hz⟩ := hst)) | (go_at_call 29; apply Calls.mono; apply (pickN_c (N := 5)); (apply Rdp.keep; assumption; (exact kb_)); omega; rfl; decide; rintro E w5 ⟨v5, rfl, hv5, hrd, hb⟩; have hsel := sel5_cell hv5; have hv5i : (v5 : Int) < 5 := (by omega); (have hst := xc hb; (try simp only [zA, zC, zD, zN] at hst); obtain ⟨hc, hf, hz⟩ := hst)) | (go_at_call 29; apply Calls.mono; apply (pickN_c (N := 2)); (apply Rdp.keep; assumption; (exact kb_)); omega; rfl; decide; rintro E w2 ⟨v2, rfl, hv2, hrd, hb⟩; (have hst := xc hb; (try simp only [zA, zC, zD, zN] at hst); obtain ⟨hc, hf, hz⟩ := hst))); (try go_wp2_with fail); refine outS hK hdR (h := fun hH2 => ?_); clear hK K hHeld; have hHeld := hH2; clear hH2; refine GoesX.take 10 13 [11, 12] hHeld (h := ?_); refine GoesX.one 7 (h := fun K hK => ?_); go_simp; refine outS hK hdR (h := fun hH2 => ?_); clear hK K hHeld; have hHeld := hH2; clear hH2; refine GoesX.take 11 14 [12] hHeld (h := ?_); refine GoesX.oneX 12 (h := fun K hK => ?_); go_simp; refine outX hK (h := ?_); clear hK K; refine GoesX.done (by kernel_rfl) ?_ _)); rotate_right 1; (focus (go_simp; refine outS hK hdR (h := fun hH2 => ?_); clear hK K hHeld; have hHeld := hH2; clear hH2; refine GoesX.one 9 (h := fun K hK => ?_); go_simp; (first | (go_at_call 29; apply Calls.mono; apply (pickN_c (N := 7)); (apply Rdp.keep; assumption; (exact kb_)); omega; rfl; decide; rintro E w7 ⟨v7, rfl, hv7, hrd, hb⟩; (have hst := xc hb; (try simp only [zA, zC, zD, zN] at hst); obtain ⟨hc, hf, hz⟩ := hst)) | (go_at_call 29; apply Calls.mono; apply (pickN_c (N := 5)); (apply Rdp.keep; assumption; (exact kb_)); omega; rfl; decide; rintro E w5 ⟨v5, rfl, hv5, hrd, hb⟩; have hsel := sel5_cell hv5; have hv5i : (v5 : Int) < 5 := (by omega); (have hst := xc hb; (try simp only [zA, zC, zD, zN] at hst); obtain ⟨hc, hf, hz⟩ := hst)) | (go_at_call 29; apply Calls.mono; apply (pickN_c (N := 2)); (apply Rdp.keep; assumption; (exact kb_)); omega; rfl; decide; rintro E w2 ⟨v2, rfl, hv2, hrd, hb⟩; (have hst := xc hb; (try simp only [zA, zC, zD, zN] at hst); obtain ⟨hc, hf, hz⟩ := hst))); (try go_wp2_with fail); refine outS hK hdR (h := fun hH2 => ?_); clear hK K hHeld; have hHeld := hH2; clear hH2; refine GoesX.take 10 13 [11, 12] hHeld (h := ?_); refine GoesX.take 11 14 [12] hHeld (h := ?_); refine GoesX.oneX 12 (h := fun K hK => ?_); go_simp; refine outX hK (h := ?_); clear hK K; refine GoesX.done (by kernel_rfl) ?_ _)))))); rotate_right 1; (focus (go_simp; refine outS hK hdR (h := fun hH2 => ?_); clear hK K hHeld; have hHeld := hH2; clear hH2; refine GoesX.one 5 (h := fun K hK => ?_); go_simp; (first | (go_at_call 29; apply Calls.mono; apply (pickN_c (N := 7)); (apply Rdp.keep; assumption; (exact kb_)); omega; rfl; decide; rintro E w7 ⟨v7, rfl, hv7, hrd, hb⟩; (have hst := xc hb; (try simp only [zA, zC, zD, zN] at hst); obtain ⟨hc, hf, hz⟩ := hst)) | (go_at_call 29; apply Calls.mono; apply (pickN_c (N := 5)); (apply Rdp.keep; assumption; (exact kb_)); omega; rfl; decide; rintro E w5 ⟨v5, rfl, hv5, hrd, hb⟩; have hsel := sel5_cell hv5; have hv5i : (v5 : Int) < 5 := (by omega); (have hst := xc hb; (try simp only [zA, zC, zD, zN] at hst); obtain ⟨hc, hf, hz⟩ := hst)) | (go_at_call 29; apply Calls.mono; apply (pickN_c (N := 2)); (apply Rdp.keep; assumption; (exact kb_)); omega; rfl; decide; rintro E w2 ⟨v2, rfl, hv2, hrd, hb⟩; (have hst := xc hb; (try simp only [zA, zC, zD, zN] at hst); obtain ⟨hc, hf, hz⟩ := hst))); (try go_wp2_with fail); refine outS hK hdR (h := fun hH2 => ?_); clear hK K hHeld; have hHeld := hH2; clear hH2; refine GoesX.take 6 9 [7, 11, 12] hHeld (h := ?_); refine GoesX.ready (rs := [7, 9]) (by kernel_rfl) (by simp) ?_; refine EachX.cons rfl (fun K hK => ?_) ?_; rotate_left; refine EachX.cons rfl (fun K hK => ?_) EachX.nil; (focus (go_simp; (first | (go_at_call 29; apply Calls.mono; apply (pickN_c (N := 7)); (apply Rdp.keep; assumption; (exact kb_)); omega; rfl; decide; rintro E w7 ⟨v7, rfl, hv7, hrd, hb⟩; (have hst := xc hb; (try simp only [zA, zC, zD, zN] at hst); obtain ⟨hc, hf, hz⟩ := hst)) | (go_at_call 29; apply Calls.mono; apply (pickN_c (N := 5)); (apply Rdp.keep; assumption; (exact kb_)); omega; rfl; decide; rintro E w5 ⟨v5, rfl, hv5, hrd, hb⟩; have hsel := sel5_cell hv5; have hv5i : (v5 : Int) < 5 := (by omega); (have hst := xc hb; (try simp only [zA, zC, zD, zN] at hst); obtain ⟨hc, hf, hz⟩ := hst)) | (go_at_call 29; apply Calls.mono; apply (pickN_c (N := 2)); (apply Rdp.keep; assumption; (exact kb_)); omega; rfl; decide; rintro E w2 ⟨v2, rfl, hv2, hrd, hb⟩; (have hst := xc hb; (try simp only [zA, zC, zD, zN] at hst); obtain ⟨hc, hf, hz⟩ := hst))); (try go_wp2_with fail); refine outS hK hdR (h := fun hH2 => ?_); clear hK K hHeld; have hHeld := hH2; clear hH2; refine GoesX.take 10 13 [11, 12] hHeld (h := ?_); refine GoesX.one 7 (h := fun K hK => ?_); go_simp; refine outS hK hdR (h := fun hH2 => ?_); clear hK K hHeld; have hHeld := hH2; clear hH2; refine GoesX.take 11 14 [12] hHeld (h := ?_); refine GoesX.oneX 12 (h := fun K hK => ?_); go_simp; refine outX hK (h := ?_); clear hK K; refine GoesX.done (by kernel_rfl) ?_ _)); rotate_right 1; (focus (go_simp; refine outS hK hdR (h := fun hH2 => ?_); clear hK K hHeld; have hHeld := hH2; clear hH2; refine GoesX.one 9 (h := fun K hK => ?_); go_simp; (first | (go_at_call 29; apply Calls.mono; apply (pickN_c (N := 7)); (apply Rdp.keep; assumption; (exact kb_)); omega; rfl; decide; rintro E w7 ⟨v7, rfl, hv7, hrd, hb⟩; (have hst := xc hb; (try simp only [zA, zC, zD, zN] at hst); obtain ⟨hc, hf, hz⟩ := hst)) | (go_at_call 29; apply Calls.mono; apply (pickN_c (N := 5)); (apply Rdp.keep; assumption; (exact kb_)); omega; rfl; decide; rintro E w5 ⟨v5, rfl, hv5, hrd, hb⟩; have hsel := sel5_cell hv5; have hv5i : (v5 : Int) < 5 := (by omega); (have hst := xc hb; (try simp only [zA, zC, zD, zN] at hst); obtain ⟨hc, hf, hz⟩ := hst)) | (go_at_call 29; apply Calls.mono; apply (pickN_c (N := 2)); (apply Rdp.keep; assumption; (exact kb_)); omega; rfl; decide; rintro E w2 ⟨v2, rfl, hv2, hrd, hb⟩; (have hst := xc hb; (try simp only [zA, zC, zD, zN] at hst); obtain ⟨hc, hf, hz⟩ := hst))); (try go_wp2_with fail); refine outS hK hdR (h := fun hH2 => ?_); clear hK K hHeld; have hHeld := hH2; clear hH2; refine GoesX.take 10 13 [11, 12] hHeld (h := ?_); refine GoesX.take 11 14 [12] hHeld (h := ?_); refine GoesX.oneX 12 (h := fun K hK => ?_); go_simp; refine outX hK (h := ?_); clear hK K; refine GoesX.done (by kernel_rfl) ?_ _))))))))
  all_goals go_wp2_with fail
  all_goals refine bodyPost_ret (v := .agg #[.int .i64 (IntKind.i64.wrap ((v7 : Int) - 1)), .int .i64 (sel5 v5 0 10 50 51 (-1)), .bool ((v2 : Int) == 0)]) (by simp [results, Try.results33, go_sem, *]) rfl ?_
  all_goals exact ⟨_, _, _, rfl, (Rdp.keep hrd (by (exact kb_))).more (by omega), ext_⟩
end Go.Proofs.Ytdbnbembjebfhaa

