/-
  Texts joined: Plain9, LawS, Frame, Open, OpenB, End.
-/
import Derived.Test.YtimpagcanengoaaPk3
import Derived.Test.YtimpagcanengoaaPk16
import Derived.Test.YtimpagcanengoaaPk10
import Derived.Test.YtimpagcanengoaaPk13
import Derived.Test.YtimpagcanengoaaPk4
import Derived.Test.YtimpagcanengoaaPk6
import Derived.Test.YtimpagcanengoaaPk5
import Derived.Deep.DeepCutAuto
import Derived.Test.YtimpagcanengoaaPk1
import Derived.Carry
import Derived.WalkKit
import Derived.ProofKit
import Derived.ChangeSame
import Derived.OpenShut
import Derived.ChangeSlices
import Derived.Deep.Slices
import Derived.Test.YtimpagcanengoaaPk2
import Derived.Test.YtimpagcanengoaaRows
import Derived.Handed
import Derived.JoinedOf
namespace Go.Proofs.Ytimpagcanengoaa.Sw
set_option maxRecDepth 100000
set_option linter.unusedSimpArgs false
set_option linter.unusedVariables false
open Go.RowKit (wrap64)

theorem mktDo_y {m : Mkt} {r : Req} (h1 : mktOk m = true) (h2 : reqOk r = true) : mktDo m r = doIt m r := by simp [mktDo, h1, h2]
theorem mktDo_n {m : Mkt} {r : Req} (h : mktOk m = false ∨ reqOk r = false) : mktDo m r = (mktZ, 0) := by
  rcases h with h | h <;> simp [mktDo, h]
theorem doIt_new {m : Mkt} {r : Req} (h : lastOf m.nums r.user < r.n) : doIt m r = (noted (effect m r).1 r (effect m r).2, (effect m r).2) := by
  unfold doIt
  rw [if_neg (by omega), if_neg (by omega)]
theorem doIt_same {m : Mkt} {r : Req} (h : r.n = lastOf m.nums r.user) : doIt m r = (m, lastOf m.said r.user) := by
  unfold doIt
  rw [if_pos h]
theorem doIt_old {m : Mkt} {r : Req} (h : r.n < lastOf m.nums r.user) : doIt m r = (m, 7) := by
  unfold doIt
  rw [if_neg (by omega), if_pos h]
/-- A request of a market that is ok, and one that is not. -/
theorem valid (m : Mkt) (r : Req) : ((mktOk m && reqOk r) = false ∧ mktDo m r = (mktZ, 0)) ∨ ∃ rows, MOk m rows ∧ mktOk m = true ∧ reqOk r = true ∧ mktDo m r = doIt m r ∧ (∃ rows', MOk (doIt m r).1 rows') ∧ 1 ≤ (doIt m r).2 ∧ (doIt m r).2 ≤ 7 := by
  cases g1 : mktOk m
  · exact .inl ⟨rfl, mktDo_n (.inl g1)⟩
  cases g2 : reqOk r
  · exact .inl ⟨rfl, mktDo_n (.inr g2)⟩
  obtain ⟨rows, h⟩ := mktOk_iff.1 g1
  exact .inr ⟨rows, h, rfl, rfl, mktDo_y g1 g2, doIt_ok h g2, doIt_ans h g2⟩
/-- What is asked twice is done once. -/
theorem asked {m : Mkt} {rows : List Row} {r : Req} (h : MOk m rows) (hr : reqOk r = true) : doIt (doIt m r).1 r = doIt m r ∧
    (((doIt m r).2 = 7 ∧ (doIt m r).1 = m ∧ r.n < lastOf m.nums r.user) ∨ ((doIt m r).2 ≠ 7 ∧ lastOf (doIt m r).1.nums r.user = r.n ∧ (r.n = lastOf m.nums r.user → (doIt m r).1 = m))) := by
  have hq := reqOk_iff.1 hr
  rcases Int.lt_trichotomy r.n (lastOf m.nums r.user) with hn | hn | hn
  · rw [doIt_old hn]
    exact ⟨doIt_old hn, .inl ⟨rfl, rfl, hn⟩⟩
  · have hs := numOk_iff.1 (said_of h hq.1)
    rw [doIt_same hn]
    refine ⟨doIt_same hn, .inr ⟨?_, hn.symm, fun _ => rfl⟩⟩
    show lastOf m.said r.user ≠ 7
    omega
  · have he := effect_eff h hr
    have ha := effect_ans m r
    obtain ⟨h1, h2⟩ := lastOf_noted (a := (effect m r).2) h hr he.nums he.said
    rw [doIt_new hn]
    dsimp only
    refine ⟨?_, .inr ⟨by omega, h1, fun hc => by omega⟩⟩
    rw [doIt_same h1.symm, h2]
/-- What is refused turns nothing but numbers. -/
theorem refused {m : Mkt} {rows : List Row} {r : Req} (h : MOk m rows) (hr : reqOk r = true) (hn : (doIt m r).2 ≠ 1) : (doIt m r).1.log = m.log ∧ (doIt m r).1.purses = m.purses ∧ (doIt m r).1.deals = m.deals := by
  have d := did h hr
  generalize (doIt m r).1 = x at *
  generalize (doIt m r).2 = n at *
  cases d with
  | again => exact ⟨rfl, rfl, rfl⟩
  | old => exact ⟨rfl, rfl, rfl⟩
  | no a => exact ⟨rfl, rfl, rfl⟩
  | yes x => exact absurd rfl hn
/-- Entries only grow, by one at most. -/
theorem grown {m : Mkt} {rows : List Row} {r : Req} (h : MOk m rows) (hr : reqOk r = true) : m.log.length ≤ (doIt m r).1.log.length ∧ (doIt m r).1.log.length ≤ m.log.length + 1 ∧ (doIt m r).1.log.take m.log.length = m.log := by
  rcases doIt_log h hr with e | ⟨x, e⟩ <;> rw [e] <;> simp
theorem kept {m : Mkt} {rows : List Row} {r : Req} (h : MOk m rows) (hr : reqOk r = true) : monSum (doIt m r).1.purses + mktHeld (doIt m r).1 = monSum m.purses + mktHeld m := by
  obtain ⟨rows', h'⟩ := doIt_ok h hr
  rw [h'.total, h.total]
  exact doIt_total h hr
theorem kept_tick {m : Mkt} {rows : List Row} (h : MOk m rows) (hc : m.clock ≠ 99999) : monSum (tick m).purses + mktHeld (tick m) = monSum m.purses + mktHeld m := by
  rw [(tick_ok h hc).total, h.total]
  exact tick_total h
/-- Behind what was done: rows by the ticket, and apart from it. -/
theorem done_rows {m x : Mkt} {rows : List Row} {r : Req} (h : MOk m rows) (hr : reqOk r = true) (d : DoneBy m rows r x) {t : Int} (h0 : 0 ≤ t) (ht : t ≠ r.ticket) : rowAt (mktRows x) t = rowAt (mktRows m) t := by
  obtain ⟨rows', e1, e2⟩ := d.fold h hr
  rw [mktRows_of e1, mktRows_of h.fold]
  exact e2 t h0 ht
theorem noted_rows (x : Mkt) (r : Req) (a : Int) : mktRows (noted x r a) = mktRows x := rfl
/-- Nobody sells what is not theirs. -/
theorem hands {m : Mkt} {rows : List Row} {r : Req} (h : MOk m rows) (hr : reqOk r = true) (h1 : (doIt m r).2 = 1) (hx : (doIt m r).1 ≠ m) :
    (r.kind = 1 → r.user = 1 ∧ (rowAt (mktRows m) r.ticket).who = 0 ∧ (rowAt (mktRows (doIt m r).1) r.ticket).who = r.who) ∧
    (r.kind = 4 → r.user ≠ (rowAt (mktRows m) r.ticket).who ∧ (rowAt (mktRows m) r.ticket).who ≠ 0) ∧
    (r.kind ≠ 1 → r.kind ≠ 4 → r.user = (rowAt (mktRows m) r.ticket).who) := by
  have hq := reqOk_iff.1 hr
  have d := did h hr
  generalize (doIt m r).1 = x at *
  generalize (doIt m r).2 = n at *
  rw [mktRows_of h.fold]
  cases d with
  | again => exact absurd rfl hx
  | old => omega
  | no a => omega
  | yes x hn d he =>
    rw [noted_rows]
    cases d with
    | issue k1 u1 u2 u3 hl hm =>
      refine ⟨fun _ => ⟨u1, u3, ?_⟩, fun hk => by omega, fun hk => absurd k1 hk⟩
      have ho := ownFold_ok h.fold
      have hf : ownFits rows ⟨1, r.ticket, r.who, r.price⟩ = true := ownFits_iff.2 ⟨ho, entOk_iff.2 (by dsimp only; omega), (fitsRow_iff (.inl rfl)).2 (.inl ⟨rfl, u3⟩)⟩
      rw [mktRows_of (ownFold_snoc h.fold hl hf), rowAt_put (ownOk_len ho) hq.2.2.2.1 hq.2.2.2.1.1, if_pos rfl]
      rfl
    | offer k2 hw => exact ⟨fun hk => by omega, fun hk => by omega, fun _ _ => hw.symm⟩
    | drop k d k3 hw => exact ⟨fun hk => by omega, fun hk => by omega, fun _ _ => hw.symm⟩
    | fund k d k4 hk hd ht hh hs hm =>
      have hdo := dealOk_iff.1 (h.deals.get hd)
      refine ⟨fun hk => by omega, fun _ => ?_, fun _ hk => absurd k4 hk⟩
      rw [← ht, hdo.2.2.1]
      exact ⟨fun e => hs e.symm, by omega⟩
    | settle k d k5 hk hd ht hh hs hl hm =>
      have hdo := dealOk_iff.1 (h.deals.get hd)
      refine ⟨fun hk => by omega, fun hk => by omega, fun _ _ => ?_⟩
      rw [← ht, hdo.2.2.1]; exact hs.symm
    | enter k6 hw => exact ⟨fun hk => by omega, fun hk => by omega, fun _ _ => hw.symm⟩
/-- A request turns its ticket alone. -/
theorem apart {m : Mkt} {rows : List Row} {r : Req} (h : MOk m rows) (hr : reqOk r = true) {t : Int} (h0 : 0 ≤ t) (ht : t ≠ r.ticket) :
    rowAt (mktRows (doIt m r).1) t = rowAt (mktRows m) t ∧ dealOf (doIt m r).1.deals t = dealOf m.deals t := by
  have d := did h hr
  generalize (doIt m r).1 = x at *
  generalize (doIt m r).2 = n at *
  cases d with
  | again => exact ⟨rfl, rfl⟩
  | old => exact ⟨rfl, rfl⟩
  | no a => exact ⟨rfl, rfl⟩
  | yes x hn d he => exact ⟨done_rows h hr d h0 ht, (d.apart h he ht).symm⟩
theorem mktRows_len {m : Mkt} {rows : List Row} (h : MOk m rows) : (mktRows m).length = 8 := by
  rw [mktRows_of h.fold]
  exact ownOk_len (ownFold_ok h.fold)
theorem monHas_of {p : List Int} {u : Int} (h : monOk p = true) (hu : 1 ≤ u ∧ u ≤ 5) : monHas p u = purse p u := by
  unfold monHas
  rw [h, inR_iff.2 hu]
  rfl
theorem dealAt_of {clock : Int} {rows : List Row} {ds : List Deal} (h : DOk clock rows ds) {k : Nat} {d : Deal} (hk : ds[k]? = some d) : dealOf ds d.ticket = some d := dealOf_at h hk
/-- How what was settled is told. -/
def Settled (m x : Mkt) (r : Req) (e : Ent) (d : Deal) : Prop :=
  x.log = m.log ++ [e] ∧ e.kind = 2 ∧ e.price = d.price ∧ r.kind = 5 ∧ dealOf m.deals r.ticket = some d ∧ dealOf x.deals r.ticket = none ∧ 0 < d.buyer ∧ (rowAt (mktRows x) r.ticket).who = d.buyer ∧
    monHas x.purses d.seller = monHas m.purses d.seller + d.price ∧ mktHeld x = mktHeld m - d.price
/-- Both move, or neither does. -/
theorem both {m : Mkt} {rows : List Row} {r : Req} (h : MOk m rows) (hr : reqOk r = true) :
    ((r.kind ≠ 5 ∨ (doIt m r).2 ≠ 1 ∨ r.n ≤ lastOf m.nums r.user) ∧ ((doIt m r).1.log = m.log ∨ ∃ e, (doIt m r).1.log = m.log ++ [e] ∧ e.kind ≠ 2)) ∨ ∃ e d, Settled m (doIt m r).1 r e d := by
  have hq := reqOk_iff.1 hr
  obtain ⟨rows', h'⟩ := doIt_ok h hr
  have d := did h hr
  generalize (doIt m r).1 = x at *
  generalize (doIt m r).2 = n at *
  cases d with
  | again hn => exact .inl ⟨.inr (.inr (by omega)), .inl rfl⟩
  | old hn => exact .inl ⟨.inr (.inr (by omega)), .inl rfl⟩
  | no a hn h2 h6 => exact .inl ⟨.inr (.inl (by omega)), .inl rfl⟩
  | yes x hn d he =>
    cases d with
    | issue k1 => exact .inl ⟨.inl (by omega), .inr ⟨_, rfl, by dsimp only; omega⟩⟩
    | offer k2 => exact .inl ⟨.inl (by omega), .inl rfl⟩
    | drop k d k3 => exact .inl ⟨.inl (by omega), .inl rfl⟩
    | fund k d k4 => exact .inl ⟨.inl (by omega), .inl rfl⟩
    | enter k6 => exact .inl ⟨.inl (by omega), .inr ⟨_, rfl, by dsimp only; omega⟩⟩
    | settle k d k5 hk hd ht hh hs hl hm =>
      right
      have ho := ownFold_ok h.fold
      have hdo := dealOk_iff.1 (h.deals.get hd)
      have hcap := entCap_le (rowAt rows d.ticket).face
      have hb : 0 < d.buyer := by simpa [held] using hh
      have hf : ownFits rows ⟨2, r.ticket, d.buyer, d.price⟩ = true := by
        refine ownFits_iff.2 ⟨ho, entOk_iff.2 ?_, (fitsRow_iff (.inr (.inl rfl))).2 (.inr (.inl ⟨rfl, ?_⟩))⟩ <;> dsimp only
        · omega
        · rw [← ht]
          refine ⟨by omega, ?_, hdo.2.2.2.1, hdo.2.2.2.2.1.2⟩
          rw [hdo.2.2.1]; omega
      refine ⟨_, d, rfl, rfl, rfl, k5, by rw [← ht]; exact dealOf_at h.deals hd, ?_, hb, ?_, ?_, ?_⟩
      · refine dealOf_none.2 fun y hy => ?_
        rw [← ht]
        exact erase_other h.deals hd y hy
      · rw [noted_rows, mktRows_of (ownFold_snoc h.fold hl hf), rowAt_put (ownOk_len ho) hq.2.2.2.1 hq.2.2.2.1.1, if_pos rfl]
        rfl
      · show monHas (turned m.purses d.seller d.price) d.seller = _
        rw [monHas_of (turned_ok hm) hdo.2.1, monHas_of h.mon hdo.2.1, purse_turned hm hdo.2.1.1, if_pos rfl]
      · have e1 : mktHeld (noted { m with purses := turned m.purses d.seller d.price, log := m.log ++ [⟨2, r.ticket, d.buyer, d.price⟩], deals := m.deals.eraseIdx k } r 1) = heldSum (m.deals.eraseIdx k) := heldOf_eq h'.deals h'.dlen
        rw [e1, heldSum_erase hd, mktHeld, heldOf_eq h.deals h.dlen]
        simp [heldIn, hh]
theorem insert_at {d : Deal} : ∀ {ds : List Deal}, (∀ x ∈ ds, x.ticket ≠ d.ticket) → ∃ k, dealAt (insertDeal d ds) d.ticket = some k ∧ (insertDeal d ds).eraseIdx k = ds ∧ (insertDeal d ds)[k]? = some d
  | [], _ => ⟨0, by simp [insertDeal, dealAt], by simp [insertDeal], by simp [insertDeal]⟩
  | x :: xs, h => by
    unfold insertDeal
    split
    · refine ⟨0, ?_, rfl, rfl⟩
      unfold dealAt
      rw [List.findIdx?_cons, decide_eq_true rfl]
      rfl
    · obtain ⟨k, h1, h2, h3⟩ := insert_at (d := d) (ds := xs) fun y hy => h y (List.mem_cons_of_mem _ hy)
      refine ⟨k + 1, ?_, by rw [List.eraseIdx_cons_succ, h2], by rw [List.getElem?_cons_succ, h3]⟩
      unfold dealAt at h1 ⊢
      rw [List.findIdx?_cons, h1, decide_eq_false (h x (List.mem_cons_self ..))]
      rfl
/-- What is dropped was not offered. -/
theorem dropped {m : Mkt} {rows : List Row} {r : Req} (h : MOk m rows) (hr : reqOk r = true) (h1 : (doIt m r).2 = 1) (k2 : r.kind = 2) (hn : r.n ≠ lastOf m.nums r.user) (hm : r.n ≠ 99999) :
    reqOk ⟨r.user, r.n + 1, 3, r.ticket, 0, 0⟩ = true ∧ dealOf (doIt m r).1.deals r.ticket = some ⟨r.ticket, r.user, r.price, 0, 0⟩ ∧
    (doIt (doIt m r).1 ⟨r.user, r.n + 1, 3, r.ticket, 0, 0⟩).2 = 1 ∧ (doIt (doIt m r).1 ⟨r.user, r.n + 1, 3, r.ticket, 0, 0⟩).1.deals = m.deals ∧
    (doIt (doIt m r).1 ⟨r.user, r.n + 1, 3, r.ticket, 0, 0⟩).1.log = m.log ∧ (doIt (doIt m r).1 ⟨r.user, r.n + 1, 3, r.ticket, 0, 0⟩).1.purses = m.purses := by
  have hq := reqOk_iff.1 hr
  obtain ⟨rows', h'⟩ := doIt_ok h hr
  have d := did h hr
  generalize (doIt m r).1 = x at *
  generalize (doIt m r).2 = n at *
  refine ⟨reqOk_iff.2 (by dsimp only; omega), ?_⟩
  cases d with
  | again hc => exact absurd hc hn
  | old => omega
  | no a => omega
  | yes x hlt d he =>
    obtain ⟨l1, l2⟩ := lastOf_noted (a := 1) h hr he.nums he.said
    cases d with
    | issue k1 => omega
    | drop k d k3 => omega
    | fund k d k4 => omega
    | settle k d k5 => omega
    | enter k6 => omega
    | offer _ hw hk hu hp =>
      have hno : ∀ y ∈ m.deals, y.ticket ≠ (⟨r.ticket, r.user, r.price, 0, 0⟩ : Deal).ticket := dealAt_none hk
      obtain ⟨k, a1, a2, a3⟩ := insert_at hno
      have a0 : dealOf (insertDeal ⟨r.ticket, r.user, r.price, 0, 0⟩ m.deals) r.ticket = some ⟨r.ticket, r.user, r.price, 0, 0⟩ := dealOf_at h'.deals a3
      refine ⟨a0, ?_⟩
      rw [doIt_new (by show lastOf _ r.user < r.n + 1; rw [l1]; omega)]
      have ef : effect (noted { m with deals := insertDeal ⟨r.ticket, r.user, r.price, 0, 0⟩ m.deals } r 1) ⟨r.user, r.n + 1, 3, r.ticket, 0, 0⟩ = ({ noted { m with deals := insertDeal ⟨r.ticket, r.user, r.price, 0, 0⟩ m.deals } r 1 with deals := m.deals }, 1) := by
        unfold effect
        dsimp only
        rw [if_neg (by omega), if_neg (by omega), if_pos rfl]
        unfold dropIt
        rw [if_neg (by rw [show mktRows (noted { m with deals := insertDeal ⟨r.ticket, r.user, r.price, 0, 0⟩ m.deals } r 1) = rows from mktRows_of h.fold]; exact fun hc => hc hw)]
        rw [show dealAt (noted { m with deals := insertDeal ⟨r.ticket, r.user, r.price, 0, 0⟩ m.deals } r 1).deals r.ticket = some k from a1]
        dsimp only
        rw [show (noted { m with deals := insertDeal ⟨r.ticket, r.user, r.price, 0, 0⟩ m.deals } r 1).deals = insertDeal ⟨r.ticket, r.user, r.price, 0, 0⟩ m.deals from rfl, getD_of a3, a2]
        rfl
      rw [ef]
      exact ⟨rfl, rfl, rfl, rfl⟩
/-- What is put down is held. -/
theorem funded {m : Mkt} {rows : List Row} {r : Req} (h : MOk m rows) (hr : reqOk r = true) (h1 : (doIt m r).2 = 1) (k4 : r.kind = 4) (hn : r.n ≠ lastOf m.nums r.user) :
    ∃ d, dealOf m.deals r.ticket = some d ∧ dealOf (doIt m r).1.deals r.ticket = some { d with buyer := r.user, due := m.clock + 5 } ∧ d.buyer = 0 ∧
      monHas (doIt m r).1.purses r.user = monHas m.purses r.user - d.price ∧ mktHeld (doIt m r).1 = mktHeld m + d.price ∧ mktRows (doIt m r).1 = mktRows m ∧ r.ticket ∈ mktFor (doIt m r).1 r.user := by
  have hq := reqOk_iff.1 hr
  obtain ⟨rows', h'⟩ := doIt_ok h hr
  have d := did h hr
  generalize (doIt m r).1 = x at *
  generalize (doIt m r).2 = n at *
  cases d with
  | again hc => exact absurd hc hn
  | old => omega
  | no a => omega
  | yes x hlt d he =>
    cases d with
    | issue k1 => omega
    | offer k2 => omega
    | drop k d k3 => omega
    | settle k d k5 => omega
    | enter k6 => omega
    | fund k d _ hk hd ht hh hs hm =>
      have hdo := dealOk_iff.1 (h.deals.get hd)
      have hb : ¬ 0 < d.buyer := by simpa [held] using hh
      have hlt : k < m.deals.length := (List.getElem?_eq_some_iff.1 hd).1
      have hset : (m.deals.set k { d with buyer := r.user, due := m.clock + 5 })[k]? = some { d with buyer := r.user, due := m.clock + 5 } := by
        rw [List.getElem?_set_self hlt]
      have e2 : dealOf (m.deals.set k { d with buyer := r.user, due := m.clock + 5 }) d.ticket = some { d with buyer := r.user, due := m.clock + 5 } := dealOf_at h'.deals hset
      refine ⟨d, by rw [← ht]; exact dealOf_at h.deals hd, by rw [← ht]; exact e2, by omega, ?_, ?_, rfl, ?_⟩
      · show monHas (turned m.purses r.user (-d.price)) r.user = _
        rw [monHas_of (turned_ok hm) hq.1, monHas_of h.mon hq.1, purse_turned hm hq.1.1, if_pos rfl]
        omega
      · have e1 : mktHeld (noted { m with purses := turned m.purses r.user (-d.price), deals := m.deals.set k { d with buyer := r.user, due := m.clock + 5 } } r 1) = heldSum (m.deals.set k { d with buyer := r.user, due := m.clock + 5 }) := heldOf_eq h'.deals h'.dlen
        rw [e1, heldSum_set hd, mktHeld, heldOf_eq h.deals h.dlen]
        have i1 : heldIn d = 0 := by simp [heldIn, hh]
        have i2 : heldIn { d with buyer := r.user, due := m.clock + 5 } = d.price := by
          have : held { d with buyer := r.user, due := m.clock + 5 } = true := by simp [held]; omega
          simp [heldIn, this]
        omega
      · unfold mktFor
        rw [List.mem_map]
        refine ⟨{ d with buyer := r.user, due := m.clock + 5 }, List.mem_filter.2 ⟨List.mem_of_getElem? hset, ?_⟩, ht⟩
        have : held { d with buyer := r.user, due := m.clock + 5 } = true := by simp [held]; omega
        simp [this]
/-- One deal, when the clock goes on. -/
theorem tick_deal {m : Mkt} {rows : List Row} (h : MOk m rows) {d : Deal} (hd : d ∈ m.deals) :
    (backDeal (m.clock + 1) d).ticket = d.ticket ∧ (backDeal (m.clock + 1) d).price = d.price ∧ (0 < d.buyer → d.due = m.clock → (backDeal (m.clock + 1) d).buyer = 0) ∧
    (¬ (0 < d.buyer ∧ d.due = m.clock) → backDeal (m.clock + 1) d = d) ∧ (0 < (backDeal (m.clock + 1) d).buyer → m.clock + 1 ≤ (backDeal (m.clock + 1) d).due) := by
  have hdo := dealOk_iff.1 (h.deals.1 d hd)
  unfold backDeal
  by_cases hh : 0 < d.buyer
  · have e1 : held d = true := by simp [held, hh]
    by_cases hc : d.due < m.clock + 1
    · rw [if_pos (by simp [e1, hc])]
      exact ⟨rfl, rfl, fun _ _ => rfl, fun hno => absurd ⟨hh, by omega⟩ hno, fun hp => absurd hp (Int.lt_irrefl 0)⟩
    · rw [if_neg (by simp [hc])]
      exact ⟨rfl, rfl, fun _ he => by omega, fun _ => rfl, fun _ => by omega⟩
  · have e1 : held d = false := by simp [held, hh]
    rw [if_neg (by simp [e1])]
    exact ⟨rfl, rfl, fun h => absurd h hh, fun _ => rfl, fun h => absurd h hh⟩
theorem ticks_snoc : ∀ (n : Nat) (m y : Mkt), ticks n m = some y → ticks (n + 1) m = if y.clock = 99999 then none else some (tick y)
  | 0, m, y, h => by
    obtain rfl : m = y := by simpa [ticks] using h
    rfl
  | n + 1, m, y, h => by
    rw [ticks] at h
    rw [ticks]
    split at h
    · cases h
    · rename_i hc
      rw [if_neg hc]
      exact ticks_snoc n (tick m) y h
theorem ticks_mktTick {n : Nat} {m y : Mkt} {rows : List Row} (h0 : MOk m rows) (h : ticks n m = some y) (h2 : (mktTick y).2 = true) : ticks (n + 1) m = some (mktTick y).1 := by
  have hy := (ticks_ok n m y rows h0 h).1
  have hk := mktOk_iff.2 ⟨_, hy⟩
  rw [ticks_snoc n m y h]
  unfold mktTick at h2 ⊢
  rw [if_pos hk] at h2 ⊢
  split
  · rename_i hc
    rw [if_pos hc] at h2
    cases h2
  · rename_i hc
    rfl
theorem ticks_first {m : Mkt} (h2 : (mktTick m).2 = true) : (∃ rows, MOk m rows) ∧ ticks 1 m = some (mktTick m).1 := by
  have hk : mktOk m = true := by
    cases hk : mktOk m
    · simp [mktTick, hk] at h2
    · rfl
  obtain ⟨rows, h⟩ := mktOk_iff.1 hk
  exact ⟨⟨rows, h⟩, ticks_mktTick (n := 0) h rfl h2⟩
theorem mktTick_len (m : Mkt) : (mktTick m).1.log.length + (mktTick m).1.purses.length + (mktTick m).1.deals.length + (mktTick m).1.nums.length + (mktTick m).1.said.length ≤ 66 := by
  unfold mktTick
  cases hk : mktOk m
  · simp [mktZ]
  · obtain ⟨rows, h⟩ := mktOk_iff.1 hk
    have h40 := (ownFold_some.1 h.fold).1
    have h5 := (monOk_iff.1 h.mon).1
    rw [if_pos rfl]
    split
    · have := h.dlen; have := h.nlen; have := h.slen; dsimp only; omega
    · rename_i hc
      have h' := tick_ok h hc
      have h40 := (ownFold_some.1 h'.fold).1
      have h5 := (monOk_iff.1 h'.mon).1
      have := h'.dlen; have := h'.nlen; have := h'.slen; dsimp only; omega
end Go.Proofs.Ytimpagcanengoaa.Sw

namespace Go.Proofs.Ytimpagcanengoaa
set_option maxRecDepth 100000
set_option linter.unusedSimpArgs false
set_option linter.unusedVariables false
open Go.RowKit Go
set_option maxHeartbeats 2000000

/-- A request in block g. -/
structure QAt (w : World) (g : Nat) (r : Sw.Req) : Prop where
  lt : g < w.heap.size
  c0 : w.cell? ⟨g, 0, none⟩ = some (.int .i64 r.user)
  c1 : w.cell? ⟨g, 1, none⟩ = some (.int .i64 r.n)
  c2 : w.cell? ⟨g, 2, none⟩ = some (.int .i64 r.kind)
  c3 : w.cell? ⟨g, 3, none⟩ = some (.int .i64 r.ticket)
  c4 : w.cell? ⟨g, 4, none⟩ = some (.int .i64 r.who)
  c5 : w.cell? ⟨g, 5, none⟩ = some (.int .i64 r.price)
  free : ∀ i, w.frozen? ⟨g, i, none⟩ = false
theorem swHas_c (A : Option Addr) (c n : Nat) (xs : List Int) (t : Int) (w : World) (hxs : RI w 0 A c n xs) : Calls Try.prog 39 #[.slice A n c, .int .i64 t] w fun E w' => E = .returned (.bool (decide (t ∈ xs))) ∧ w = w' := by
  have hl := Lib.hid hxs.1
  have hbig := Rs.big hxs
  go_enter Try.func39, Try.ntmps39
  go_wp2
  go_loop [5] (fun i => ∃ k : Nat, k ≤ n ∧ i = .int .i64 k ∧ decide (t ∈ xs) = decide (t ∈ xs.drop k)) (fun i => n - (intOf i).toNat)
  case atStart => exact ⟨0, Nat.zero_le _, rfl, rfl⟩
  case round =>
    obtain ⟨k, hk, rfl, hrel⟩ := hrel
    by_cases hlt : k < n
    · obtain ⟨g, off, y, rfl, hg0, hg, hd, hy, hc⟩ := at_I hxs hlt
      rw [hd] at hrel
      have Hrel := Lib.hid hrel; clear hrel hd hy
      cases hyt : (y == t)
      · go_wp2
        go_round
        case rel => exact ⟨k + 1, by omega, by go_num, by rw [Hrel.out]; have : y ≠ t := by simpa using hyt
                                                          simp [Ne.symm this]⟩
        case measure => simp [intOf]; omega
      · go_wp2
        go_ret
        exact ⟨ret_b (by rw [Hrel.out]; have : y = t := by simpa using hyt
                         simp [this]), rfl⟩
    · have Hrel := Lib.hid hrel; clear hrel
      go_wp2
      go_ret
      refine ⟨ret_b ?_, rfl⟩
      rw [Hrel.out, List.drop_of_length_le (by have := hl.out; omega)]
      simp
theorem swMarketZ_c (aL : Option Addr) (aLc aLn : Nat) (aP : Option Addr) (aPc aPn : Nat) (aD : Option Addr) (aDc aDn : Nat) (aN : Option Addr) (aNc aNn : Nat) (aS : Option Addr) (aSc aSn : Nat) (x : Sw.Mkt) (w : World) (hx : RM w 0 aL aLc aLn aP aPc aPn aD aDc aDn aN aNc aNn aS aSc aSn x) : Calls Try.prog 18 #[.agg #[.slice aL aLn aLc, .slice aP aPn aPc, .slice aD aDn aDc, .int .i64 x.clock, .slice aN aNn aNc, .slice aS aSn aSc], .agg #[.slice none 0 0, .slice none 0 0, .slice none 0 0, .int .i64 0, .slice none 0 0, .slice none 0 0]] w fun E w' => E = .returned (.bool (decide (x = Sw.mktZ))) ∧ Ex w w' :=
  swMarket_c _ _ _ _ _ _ _ _ _ _ _ _ _ _ _ x _ _ _ _ _ _ _ _ _ _ _ _ _ _ _ Sw.mktZ w hx ⟨⟨rfl, Rd.none_ _ _ _⟩, ⟨rfl, Rd.none_ _ _ _⟩, ⟨rfl, Rd.none_ _ _ _⟩, ⟨rfl, Rd.none_ _ _ _⟩, ⟨rfl, Rd.none_ _ _ _⟩⟩
theorem dealOf_ix : ∀ (ds : List Sw.Deal) (t : Int), Sw.dealOf ds t = (Sw.dealAt ds t).bind fun k => ds[k]?
  | [], t => rfl
  | d :: ds, t => by
    have ih := dealOf_ix ds t
    unfold Sw.dealOf Sw.dealAt at ih ⊢
    rw [List.find?_cons, List.findIdx?_cons]
    cases h : decide (d.ticket = t)
    · dsimp only
      rw [ih]
      cases List.findIdx? (fun d => decide (d.ticket = t)) ds <;> rfl
    · rfl
theorem iDealOf_c (aL : Option Addr) (aLc aLn : Nat) (aP : Option Addr) (aPc aPn : Nat) (aD : Option Addr) (aDc aDn : Nat) (aN : Option Addr) (aNc aNn : Nat) (aS : Option Addr) (aSc aSn : Nat) (m : Sw.Mkt) (t : Int) (o : Option Sw.Deal) (w : World) (hD : RDl w 0 aD aDc aDn m.deals) (ho : Sw.dealOf m.deals t = o) : Calls Try.prog 36 #[.agg #[.slice aL aLn aLc, .slice aP aPn aPc, .slice aD aDn aDc, .int .i64 m.clock, .slice aN aNn aNc, .slice aS aSn aSc], .int .i64 t] w fun E w' => E = .returned (.tuple #[.agg #[.int .i64 (o.getD Sw.dealZ).ticket, .int .i64 (o.getD Sw.dealZ).seller, .int .i64 (o.getD Sw.dealZ).price, .int .i64 (o.getD Sw.dealZ).buyer, .int .i64 (o.getD Sw.dealZ).due], .bool o.isSome]) ∧ Ex w w' := by
  rw [dealOf_ix] at ho
  cases hk : Sw.dealAt m.deals t with
  | none =>
    rw [hk] at ho
    subst ho
    exact iDealOfN_c _ _ _ _ _ _ _ _ _ _ _ _ _ _ _ m t w hD (dealIx_none hk)
  | some k =>
    obtain ⟨d, hd, _⟩ := Sw.dealAt_some hk
    rw [hk] at ho
    have ho' : o = some d := ho.symm.trans hd
    subst ho'
    exact iDealOfY_c _ _ _ _ _ _ _ _ _ _ _ _ _ _ _ m t k d w hD (dealIx_some hk) hd
theorem iMonHas_c (A : Option Addr) (c n : Nat) (xs : List Int) (who : Int) (w : World) (hxs : RI w 0 A c n xs) : Calls Try.prog 37 #[.slice A n c, .int .i64 who] w fun E w' => E = .returned (.int .i64 (Sw.monHas xs who)) ∧ Ex w w' := by
  cases g1 : Sw.monOk xs
  case false =>
    have e : Sw.monHas xs who = 0 := by simp [Sw.monHas, g1]
    rw [e]; clear e
    go_enter Try.func37, Try.ntmps37
    go_wp2_with (first | (go_at_call 29; apply Calls.mono; apply iMonOk_c; ((first | (apply Rs.at0; assumption) | (apply Ow.rs0; assumption) | (apply OwT.rs0; assumption)); exact kf_); rintro E w1 ⟨rfl, hb⟩; have hst := xr hb; (try simp only [zA, zC, zD, zN] at hst); obtain ⟨hc, hf, hz⟩ := hst) | (go_at_call 69; refine (isUser_c _ _).mono ?_; rintro E w' ⟨rfl, rfl⟩))
    go_ret
    exact ⟨rfl, ext_⟩
  have hn5 : n = 5 := by rw [hxs.1, monOk_len g1]
  subst hn5
  cases g2 : Sw.inR who 1 5
  case false =>
    have e : Sw.monHas xs who = 0 := by simp [Sw.monHas, g2]
    rw [e]; clear e
    go_enter Try.func37, Try.ntmps37
    go_wp2_with (first | (go_at_call 29; apply Calls.mono; apply iMonOk_c; ((first | (apply Rs.at0; assumption) | (apply Ow.rs0; assumption) | (apply OwT.rs0; assumption)); exact kf_); rintro E w1 ⟨rfl, hb⟩; have hst := xr hb; (try simp only [zA, zC, zD, zN] at hst); obtain ⟨hc, hf, hz⟩ := hst) | (go_at_call 69; refine (isUser_c _ _).mono ?_; rintro E w' ⟨rfl, rfl⟩))
    go_ret
    exact ⟨rfl, ext_⟩
  have hw := Sw.inR_iff.1 g2
  obtain ⟨k, rfl⟩ : ∃ k : Nat, who = k + 1 := ⟨(who - 1).toNat, by omega⟩
  have hk : k < 5 := by omega
  obtain ⟨g, off, y, rfl, hg0, hg, hd, hy, hc0⟩ := at_I hxs hk
  have e : Sw.monHas xs ((k : Int) + 1) = y := by rw [Sw.monHas_of g1 hw]; exact purse_at hy
  rw [e]; clear e hd hy hw
  have t2 : IntKind.i64.wrap ((k : Int) + 1 - 1) = k := by rw [IntWalk.i64_in _ (by omega)]; omega
  go_enter Try.func37, Try.ntmps37
  go_wp2_with (first | (go_at_call 29; apply Calls.mono; apply iMonOk_c; ((first | (apply Rs.at0; assumption) | (apply Ow.rs0; assumption) | (apply OwT.rs0; assumption)); exact kf_); rintro E w1 ⟨rfl, hb⟩; have hst := xr hb; (try simp only [zA, zC, zD, zN] at hst); obtain ⟨hc, hf, hz⟩ := hst) | (go_at_call 69; refine (isUser_c _ _).mono ?_; rintro E w' ⟨rfl, rfl⟩))
  go_ret
  exact ⟨rfl, ext_⟩
theorem mktDo_len (m : Sw.Mkt) (r : Sw.Req) : (Sw.mktDo m r).1.len ≤ 66 := by
  unfold Sw.mktDo
  cases g1 : Sw.mktOk m
  · simp [Sw.mktZ, Sw.Mkt.len]
  cases g2 : Sw.reqOk r
  · simp [Sw.mktZ, Sw.Mkt.len]
  obtain ⟨rows, hok⟩ := Sw.mktOk_iff.1 g1
  obtain ⟨rows2, hk2⟩ := Sw.doIt_ok hok g2
  obtain ⟨q1, q2, q3, q4, q5⟩ := MOk_len hk2
  simp only [Bool.and_self, if_true, Sw.Mkt.len]
  omega
end Go.Proofs.Ytimpagcanengoaa

namespace Go.Proofs.Ytimpagcanengoaa
set_option maxRecDepth 100000
set_option linter.unusedSimpArgs false
set_option linter.unusedVariables false
open Go.ChangeShapes Go.WideShapes Go.ChangeAt Go.RowKit Go

section
variable {H : Type} {enc : TypeId × Value → H} {P : Program}
theorem trodAll_stays (hl : laidOutB P = true) {W W' : World} {sp : Nat → Bool} (hb : Below W.heap.size W W') : ∀ {ts : List TypeId} {vs : List Value} {ds : List (DataW H)} {ps : List MemPlace},
    ts.all (fun t => P.readableRec t && decide (t < P.types.size)) = true → DataW.TrodAll enc P W 0 (fun _ => true) true ts vs ds ps → (∀ x ∈ ps, x.block < W.heap.size) → (∀ x ∈ ps, sp x.block = true) →
    DataW.TrodAll enc P W' 0 sp true ts vs ds ps
  | [], [], [], _, _, h, _, _ => h
  | t :: ts, v :: vs, d :: ds, _, hr, ⟨p, q, h1, h2, e⟩, hlt, hs => by
    simp only [List.all_cons, Bool.and_eq_true, decide_eq_true_eq] at hr
    subst e
    refine ⟨p, q, ?_, trodAll_stays hl hb hr.2 h2 (fun x hx => hlt x (List.mem_append_right _ hx)) (fun x hx => hs x (List.mem_append_right _ hx)), rfl⟩
    exact WideElems.Trod_stays hl hr.1.1 hr.1.2 h1 (fun x hx => hb.same (hlt x (List.mem_append_left _ hx))) (fun x hx => hs x (List.mem_append_left _ hx))

/-- A call that returns true and turns nothing that was there is what a law's statement asks. -/
theorem law_post {f : Func} {s : ChangeSpec} {apart fresh handsOn again : Bool} {W W' : World} {args : Array Value} {ds gs : List (DataW H)} {before : List MemPlace} {tb : TypeId}
    (hl : laidOutB P = true) (hr : f.params.toList.all (fun t => P.readableRec t && decide (t < P.types.size)) = true) (hres : f.resultTypes = #[tb]) (htb : P.underlying tb = some .bool) (hv : s.vars = [])
    (hfn : (s.fn H ds).results = [.lit (.bool true)] ∧ (s.fn H ds).args = ds ∧ (s.fn H ds).vars = [])
    (hW : DataW.Whole enc P f.params.toList s.vars apart W args.toList ds gs before) (hb : Ex W W') : s.post enc P f apart fresh handsOn again W args (.bool true) W' := by
  have hW0 := hW
  have hbl := hb.below
  have hlt : ∀ p ∈ before, p.block < W.heap.size := fun p hp => by simpa using hW.lt p hp
  obtain ⟨p, q, hA, hV, he, hz, hn⟩ := hW
  rw [hv] at hV
  obtain ⟨rfl, rfl⟩ := trodVars_none hV
  rw [List.append_nil] at he
  subst he
  obtain ⟨f1, f2, f3⟩ := hfn
  have hargs : ∀ sp : Nat → Bool, (∀ x ∈ before, sp x.block = true) → DataW.TrodAll enc P W' 0 sp true f.params.toList args.toList (s.fn H (ds ++ [])).args before := fun sp hs => by
    rw [List.append_nil, f2]
    exact trodAll_stays hl hbl hr hA hlt hs
  have hvars : ∀ sp : Nat → Bool, DataW.TrodVars enc P W' sp s.vars (s.fn H (ds ++ [])).vars [] := fun sp => by
    rw [List.append_nil, f3, hv]
    rfl
  have hresu : ∀ (b : Nat) (sp : Nat → Bool) (hd : Bool), DataW.TrodAll enc P W' b sp hd f.resultTypes.toList ((Value.bool true).resultList f.resultTypes.size) (s.fn H (ds ++ [])).results [] := fun b sp hd => by
    rw [List.append_nil, f1, hres]
    exact trodAll_cons_mk (shut_bool htb _) trodAll_mk0
  have hold : ∀ p ∈ before, (fun b => decide (b < W.heap.size)) p.block = true := fun p hp => by simpa using hlt p hp
  refine ⟨ds, [], before, [], before, [], hW0, hresu _ _ _, hargs _ hold, hvars _, World.keptBut_mono (fun p hp => ⟨hp, Or.inr (by simpa using hp)⟩) (hbl.frame _), fun _ => ?_⟩
  refine ⟨ok_one (by rw [hres]) rfl (okWide_bool_mk htb _), _, _, ([] ++ before) ++ [], ⟨[] ++ before, [], trodAll_append (hargs _ (fun _ _ => rfl)) (hresu _ _ _), hvars _, rfl, ?_, ?_⟩, ?_⟩
  · intro b off hp
    have hp' : MemPlace.cell b off ∈ before := by simpa using hp
    rw [hbl.frozen (by exact hlt _ hp')]
    exact hz b off (by simpa using hp)
  · intro ha
    have := hn ha
    simpa using this
  · intro p hp _
    simpa using hp

theorem spot_of_cell {W : World} {a : Addr} {v : Value} (h : W.cell? a = some v) : a.spot = none ∧ a.block < W.heap.size := by
  unfold World.cell? at h
  split at h
  · rename_i c T fz hh
    refine ⟨?_, (Array.getElem?_eq_some_iff.1 hh).1⟩
    cases hs : a.spot with
    | none => rfl
    | some _ => rw [hs] at h; simp at h
  · cases h

theorem flat_one {α : Type} {f : α → Value} (xs : List α) : xs.flatMap (fun x => [f x]) = xs.map f := by
  induction xs with
  | nil => rfl
  | cons x xs ih => rw [List.flatMap_cons, ih]; rfl

/-- A slice of numbers that reads is one that may be read. -/
theorem ri_of_trod {W : World} {t e : TypeId} {fuel : Nat} {cs : List Value} {x : DataW H × List MemPlace} (ht : P.underlying t = some (.slice e)) (he : P.underlying e = some (.int .i64)) (hc : P.cellsOf e = 1)
    (h : DataW.trod enc P W 0 (fun _ => true) true fuel t cs = some x) : ∃ A c n xs, cs = [.slice A n c] ∧ RI W 0 A c n xs := by
  rcases open_ints ht he hc h with ⟨rfl, _⟩ | ⟨a, len, cap, zs, rfl, _, hl, hm, hz, _, hcell, _⟩
  · exact ⟨none, 0, 0, [], rfl, rfl, Rd.none_ _ _ _⟩
  · have hz' : zs.length = cap := by simpa using hz
    refine ⟨some a, cap, len, zs.take len, rfl, by rw [List.length_take]; omega, ⟨?_, hl, hm, (fun h => by cases h), fun b hb hn => ?_⟩⟩
    · show ((zs.take len).flatMap fun x => [Value.int .i64 x]).length = len * 1
      rw [flat_one, List.length_map, List.length_take]; omega
    · obtain rfl := Option.some.inj hb
      have h0 := spot_of_cell (hcell 0 (by omega))
      refine ⟨?_, Nat.zero_le _, ?_, fun j u hu => ?_⟩
      · have := h0.1
        simp only [Addr.add] at this
        split at this <;> first | exact this | contradiction | omega
      · have := h0.2
        simp only [Addr.add] at this
        split at this <;> first | exact this | contradiction | omega
      replace hu : ((zs.take len).flatMap fun x => [Value.int .i64 x])[j]? = some u := hu
      rw [flat_one, List.getElem?_map, Option.map_eq_some_iff] at hu
      obtain ⟨y, hy, rfl⟩ := hu
      rw [List.getElem?_take] at hy
      split at hy
      · have hj := (List.getElem?_eq_some_iff.1 hy).1
        have := hcell j hj
        rw [List.getD_eq_getElem?_getD, hy] at this
        obtain ⟨g, off, spot⟩ := a
        have hs : spot = none := by
          have := h0.1
          simp only [Addr.add] at this
          split at this <;> first | exact this | contradiction | omega
        subst hs
        rw [Addr.add_lit] at this
        exact this
      · cases hy

/-- A head that reads is three numbers. -/
theorem head_of_trod {W : World} {t ti : TypeId} {f0 f1 f2 : Field} {fuel : Nat} {cs : List Value} {x : DataW H × List MemPlace} (ht : P.underlying t = some (.struct #[f0, f1, f2])) (hi : P.underlying ti = some (.int .i64)) (hci : P.cellsOf ti = 1) (hct : P.cellsOf t = 3)
    (e0 : f0.type = ti ∧ f0.offset = 0) (e1 : f1.type = ti ∧ f1.offset = 1) (e2 : f2.type = ti ∧ f2.offset = 2)
    (h : DataW.trod enc P W 0 (fun _ => true) true fuel t cs = some x) : ∃ a b c : Int, cs = [.int .i64 a, .int .i64 b, .int .i64 c] := by
  obtain ⟨xs, n, _, _, hl, hxl, hf⟩ := DataW.trod_struct ht h
  rw [hct] at hl
  have key : ∀ (i : Nat) (f : Field), #[f0, f1, f2][i]? = some f → f.type = ti → ∃ a : Int, (cs.drop f.offset).take 1 = [.int .i64 a] := by
    intro i f hfi hft
    have h1 := hf i f hfi
    have hx : i < xs.length := by
      have := (Array.getElem?_eq_some_iff.1 hfi).1
      rw [hxl]; exact this
    rw [hft, hci, List.getElem?_eq_getElem hx] at h1
    obtain ⟨a, ha, _⟩ := DataW.trod_int hi h1
    exact ⟨a, ha⟩
  match cs, hl with
  | [c0, c1, c2], _ =>
    obtain ⟨a, ha⟩ := key 0 f0 rfl e0.1
    obtain ⟨b, hb⟩ := key 1 f1 rfl e1.1
    obtain ⟨c, hc⟩ := key 2 f2 rfl e2.1
    rw [e0.2] at ha
    rw [e1.2] at hb
    rw [e2.2] at hc
    simp at ha hb hc
    exact ⟨a, b, c, by rw [ha, hb, hc]⟩

/-- A gate that reads is a head and a slice of numbers. -/
theorem gate_of_trod {W : World} {t th ts ti : TypeId} {f0 f1 h0 h1 h2 : Field} {fuel : Nat} {cs : List Value} {x : DataW H × List MemPlace} (ht : P.underlying t = some (.struct #[f0, f1])) (hth : P.underlying th = some (.struct #[h0, h1, h2])) (hts : P.underlying ts = some (.slice ti)) (hi : P.underlying ti = some (.int .i64))
    (hci : P.cellsOf ti = 1) (hch : P.cellsOf th = 3) (hcs : P.cellsOf ts = 1) (hct : P.cellsOf t = 4)
    (e0 : f0.type = th ∧ f0.offset = 0) (e1 : f1.type = ts ∧ f1.offset = 3) (g0 : h0.type = ti ∧ h0.offset = 0) (g1 : h1.type = ti ∧ h1.offset = 1) (g2 : h2.type = ti ∧ h2.offset = 2)
    (h : DataW.trod enc P W 0 (fun _ => true) true fuel t cs = some x) : ∃ (a b c : Int) (A : Option Addr) (d n : Nat) (zs : List Int), cs = [.int .i64 a, .int .i64 b, .int .i64 c, .slice A n d] ∧ RI W 0 A d n zs := by
  obtain ⟨xs, n, _, _, hl, hxl, hf⟩ := DataW.trod_struct ht h
  rw [hct] at hl
  have k0 := hf 0 f0 rfl
  have k1 := hf 1 f1 rfl
  rw [e0.1, e0.2, hch, List.getElem?_eq_getElem (by rw [hxl]; exact Nat.zero_lt_succ _)] at k0
  rw [e1.1, e1.2, hcs, List.getElem?_eq_getElem (by rw [hxl]; exact Nat.one_lt_two)] at k1
  obtain ⟨a, b, c, q0⟩ := head_of_trod hth hi hci hch g0 g1 g2 k0
  obtain ⟨A, d, m, zs, q1, hr⟩ := ri_of_trod hts hi hci k1
  match cs, hl with
  | [c0, c1, c2, c3], _ =>
    simp at q0 q1
    obtain ⟨rfl, rfl, rfl⟩ := q0
    exact ⟨_, _, _, A, d, m, zs, by rw [q1], hr⟩

theorem slice_form {W : World} {base : Nat} {t e : TypeId} {v : Value} {A : Option Addr} {n c : Nat} (ht : P.underlying t = some (.slice e)) (hv : Value.okWide P W .any base t v) (h : v.cells.toList = [.slice A n c]) : v = .slice A n c := by
  unfold Value.okWide at hv
  rw [ht] at hv
  unfold Cell.okWide Cell.ok at hv
  rw [ht] at hv
  cases v <;> simp_all [Value.cells]
end
end Go.Proofs.Ytimpagcanengoaa

namespace Go.Proofs.Ytimpagcanengoaa
set_option maxRecDepth 100000
set_option linter.unusedSimpArgs false
set_option linter.unusedVariables false
open Go.ChangeShapes Go.WideShapes Go.ChangeAt Go.RowKit Go

section
variable {H : Type} {enc : TypeId × Value → H} {P : Program} {W : World}
theorem add_spot {a : Addr} (h : a.spot = none) (i : Nat) : a.add i = ⟨a.block, a.off + i, none⟩ := by
  obtain ⟨b, o, s⟩ := a
  dsimp only at h
  subst h
  exact Addr.add_lit _ _ _
/-- A slice whose elements read as things of α. -/
theorem rs_of_trod {α : Type} {ec : α → List Value} {sz : Nat} {t e : TypeId} {fuel : Nat} {cs : List Value} {x : DataW H × List MemPlace} (ht : P.underlying t = some (.slice e)) (hc : P.cellsOf e = sz) (hp : 0 < sz) (hsz : ∀ y, (ec y).length = sz)
    {Q : α → Prop} (he : ∀ n cs y, DataW.trod enc P W 0 (fun _ => true) true n e cs = some y → ∃ z : α, cs = ec z ∧ Q z) (h : DataW.trod enc P W 0 (fun _ => true) true fuel t cs = some x) :
    ∃ A c n xs, cs = [.slice A n c] ∧ Rs ec sz W 0 A c n xs ∧ ∀ y ∈ xs, Q y := by
  rcases Go.Deep.open_slice ht h with ⟨rfl, _⟩ | ⟨a, len, cap, m, n, D, Pl, rfl, _, hl, hm, hmm, hxx, hi⟩
  · exact ⟨none, 0, 0, [], rfl, ⟨rfl, Rd.none_ _ _ _⟩, by simp⟩
  · rw [if_pos rfl] at hmm
    subst hmm
    rw [hc] at hi
    have hi2 : ∀ i, i < len → ∃ z : α, Q z ∧ ∀ j, j < sz → W.cell? ((a.add (i * sz)).add j) = (ec z)[j]? := by
      intro i hil
      obtain ⟨cs', h1, h2⟩ := hi i (by omega)
      obtain ⟨z, rfl, hq⟩ := he _ _ _ h2
      exact ⟨z, hq, (World.cells?_some h1).2.2⟩
    have spot : 0 < len → a.spot = none ∧ a.block < W.heap.size := by
      intro h0
      obtain ⟨z, _, hz⟩ := hi2 0 h0
      have h1 := hz 0 hp
      rw [List.getElem?_eq_getElem (by rw [hsz]; exact hp)] at h1
      have h2 := spot_of_cell h1
      rw [Nat.zero_mul] at h2
      have e0 : ∀ b : Addr, (b.add 0).spot = none → b.spot = none := by
        intro b hb
        simp only [Addr.add] at hb
        split at hb <;> first | exact hb | contradiction | omega
      have e1 : ∀ b : Addr, (b.add 0).block = b.block := by
        intro b
        simp only [Addr.add]
        split <;> rfl
      exact ⟨e0 _ (e0 _ h2.1), by rw [e1, e1] at h2; exact h2.2⟩
    obtain ⟨xs, hlen, hxs⟩ : ∃ xs : List α, xs.length = len ∧ ∀ i z, xs[i]? = some z → Q z ∧ ∀ j, j < sz → W.cell? ((a.add (i * sz)).add j) = (ec z)[j]? := by
      clear hi spot h hl hxx
      induction len with
      | zero => exact ⟨[], rfl, by simp⟩
      | succ k ih =>
        obtain ⟨xs, h1, h2⟩ := ih (fun i hi => hi2 i (by omega))
        obtain ⟨z, hz⟩ := hi2 k (by omega)
        refine ⟨xs ++ [z], by simp [h1], fun i y hy => ?_⟩
        rw [List.getElem?_append] at hy
        split at hy
        · exact h2 i y hy
        · have : i = k := by
            have := (List.getElem?_eq_some_iff.1 hy).1
            simp at this
            omega
          subst this
          rw [h1, Nat.sub_self] at hy
          simp at hy
          subst hy
          exact hz
    refine ⟨some a, m, len, xs, rfl, ⟨hlen.symm, ⟨?_, hl, hm, (fun h => by cases h), fun b hb hn => ?_⟩⟩, fun y hy => ?_⟩
    · have key : ∀ xs : List α, (xs.flatMap ec).length = xs.length * sz := by
        intro xs
        induction xs with
        | nil => simp
        | cons x xs ih => simp only [List.flatMap_cons, List.length_append, hsz, ih, List.length_cons, Nat.succ_mul]; omega
      rw [key, hlen]
    · obtain rfl := Option.some.inj hb
      obtain ⟨s1, s2⟩ := spot hn
      refine ⟨s1, Nat.zero_le _, s2, fun j u hu => ?_⟩
      have key : ∀ xs : List α, (xs.flatMap ec).length = xs.length * sz := by
        intro xs
        induction xs with
        | nil => simp
        | cons x xs ih => simp only [List.flatMap_cons, List.length_append, hsz, ih, List.length_cons, Nat.succ_mul]; omega
      have hj := (List.getElem?_eq_some_iff.1 hu).1
      rw [key] at hj
      have hk : j / sz < xs.length := Nat.div_lt_of_lt_mul (by rw [Nat.mul_comm]; exact hj)
      have hr : j % sz < sz := Nat.mod_lt _ hp
      have hd : j / sz * sz + j % sz = j := by rw [Nat.mul_comm]; exact Nat.div_add_mod _ _
      have h1 := flat_get hsz xs (j / sz) (j % sz) hk hr
      rw [hd, hu] at h1
      have h2 := (hxs (j / sz) _ (List.getElem?_eq_getElem hk)).2 (j % sz) hr
      rw [← h1, add_spot s1, add_spot rfl] at h2
      dsimp only at h2
      rw [Nat.add_assoc, hd] at h2
      exact h2
    · obtain ⟨i, hi⟩ := List.getElem?_of_mem hy
      exact (hxs i y hi).1

def fieldsInt (fs : Array Field) (ti : TypeId) : Bool := (List.range fs.size).all fun i => match fs[i]? with
  | some f => decide (f.type = ti) && decide (f.offset = i)
  | none => false
def valInt : Value → Int
  | .int _ n => n
  | _ => 0
/-- A struct of numbers. -/
theorem ints_of_trod {t ti : TypeId} {fs : Array Field} {fuel : Nat} {cs : List Value} {x : DataW H × List MemPlace} (ht : P.underlying t = some (.struct fs)) (hi : P.underlying ti = some (.int .i64)) (hci : P.cellsOf ti = 1) (hct : P.cellsOf t = fs.size) (hf : fieldsInt fs ti = true)
    (h : DataW.trod enc P W 0 (fun _ => true) true fuel t cs = some x) : ∃ zs : List Int, zs.length = fs.size ∧ cs = zs.map (Value.int .i64) := by
  obtain ⟨xs, n, _, _, hl, hxl, hg⟩ := DataW.trod_struct ht h
  have key : ∀ i, i < fs.size → ∃ a : Int, cs[i]? = some (.int .i64 a) := by
    intro i hi'
    have h0 := List.all_eq_true.1 hf i (List.mem_range.2 hi')
    have hfi : fs[i]? = some fs[i] := Array.getElem?_eq_getElem hi'
    rw [hfi] at h0
    simp only [Bool.and_eq_true, decide_eq_true_eq] at h0
    have h1 := hg i fs[i] hfi
    rw [h0.1, h0.2, hci, List.getElem?_eq_getElem (by omega)] at h1
    obtain ⟨a, ha, _⟩ := DataW.trod_int hi h1
    refine ⟨a, ?_⟩
    rw [List.drop_eq_getElem_cons (by omega)] at ha
    simp only [List.take_succ_cons, List.take_zero, List.cons.injEq, and_true] at ha
    rw [List.getElem?_eq_getElem (by omega), ha]
  refine ⟨cs.map valInt, by simp [hl, hct], ?_⟩
  apply List.ext_getElem?
  intro i
  rw [List.getElem?_map, List.getElem?_map]
  by_cases hi' : i < fs.size
  · obtain ⟨a, ha⟩ := key i hi'
    rw [ha]; rfl
  · rw [List.getElem?_eq_none (by omega)]; rfl
/-- A field of a struct. -/
theorem field_of_trod {t : TypeId} {fs : Array Field} {fuel : Nat} {cs : List Value} {x : DataW H × List MemPlace} (ht : P.underlying t = some (.struct fs)) (h : DataW.trod enc P W 0 (fun _ => true) true fuel t cs = some x) {i : Nat} {f : Field} {ft : TypeId} {o k : Nat}
    (hf : fs[i]? = some f) (h1 : f.type = ft) (h2 : f.offset = o) (h3 : P.cellsOf ft = k) : ∃ n y, DataW.trod enc P W 0 (fun _ => true) true n ft ((cs.drop o).take k) = some y := by
  obtain ⟨xs, n, _, _, hl, hxl, hg⟩ := DataW.trod_struct ht h
  have h0 := hg i f hf
  have hi' := (Array.getElem?_eq_some_iff.1 hf).1
  rw [h1, h2, h3, List.getElem?_eq_getElem (by omega)] at h0
  exact ⟨n, _, h0⟩
theorem struct_len {t : TypeId} {fs : Array Field} {fuel : Nat} {cs : List Value} {x : DataW H × List MemPlace} (ht : P.underlying t = some (.struct fs)) (h : DataW.trod enc P W 0 (fun _ => true) true fuel t cs = some x) : cs.length = P.cellsOf t := by
  obtain ⟨xs, n, _, _, hl, hxl, hg⟩ := DataW.trod_struct ht h
  exact hl
end
end Go.Proofs.Ytimpagcanengoaa

namespace Go.Proofs.Ytimpagcanengoaa
set_option maxRecDepth 100000
set_option linter.unusedSimpArgs false
set_option linter.unusedVariables false
open Go.ChangeShapes Go.WideShapes Go.ChangeAt Go.RowKit Go
section
variable {H : Type} {enc : TypeId × Value → H} {W : World}
theorem cells_B : Try.prog.cellsOf 5 = 1 := by kernel_rfl
theorem o_bytes {n : Nat} {cs : List Value} {y : DataW H × List MemPlace} (h : DataW.trod enc Try.prog W 0 (fun _ => true) true n 22 cs = some y) : ∃ A c n xs, cs = [.slice A n c] ∧ RB W 0 A c n xs ∧ ∀ x ∈ xs, 0 ≤ x ∧ x ≤ 255 :=
  rs_of_trod (ec := encB) (sz := 1) (Q := fun x => 0 ≤ x ∧ x ≤ 255) Try.underlying22 cells_B (by omega) (fun _ => rfl) (fun n cs y h => by
    obtain ⟨a, rfl, _, hw⟩ := DataW.trod_int Try.underlying5 h
    refine ⟨a, rfl, ?_⟩
    simp only [Lit.wf, Bool.and_eq_true, decide_eq_true_eq] at hw
    exact hw) h
end
end Go.Proofs.Ytimpagcanengoaa

namespace Go.Proofs.Ytimpagcanengoaa
set_option maxRecDepth 100000
set_option linter.unusedSimpArgs false
set_option linter.unusedVariables false
open Go.ChangeShapes Go.WideShapes Go.ChangeAt Go.RowKit Go
theorem own_knob : ownKnob Try.prog.godebug = none := by kernel_rfl
theorem laid_out : laidOutB Try.prog = true := by kernel_rfl
end Go.Proofs.Ytimpagcanengoaa

