/-
  Texts joined: Plain7.
-/
import Derived.Test.YtdbnbembjebfhaaGreatPz26
namespace Go.Proofs.YtdbnbembjebfhaaGreat.Sw
set_option maxRecDepth 100000
set_option linter.unusedSimpArgs false
set_option linter.unusedVariables false
open Go.RowKit (wrap64)

/-- What came of a request. -/
inductive Did (m : Mkt) (rows : List Row) (r : Req) : Mkt → Int → Prop
  | again : r.n = lastOf m.nums r.user → Did m rows r m (lastOf m.said r.user)
  | old : r.n < lastOf m.nums r.user → Did m rows r m 7
  | no (a : Int) : lastOf m.nums r.user < r.n → 2 ≤ a → a ≤ 6 → Did m rows r (noted m r a) a
  | yes (x : Mkt) : lastOf m.nums r.user < r.n → DoneBy m rows r x → Eff m x → Did m rows r (noted x r 1) 1
theorem did {m : Mkt} {rows : List Row} {r : Req} (h : MOk m rows) (hr : reqOk r = true) : Did m rows r (doIt m r).1 (doIt m r).2 := by
  unfold doIt
  split
  · exact .again ‹_›
  split
  · exact .old ‹_›
  · have ha := effect_ans m r
    have he := effect_eff h hr
    show Did m rows r (noted (effect m r).1 r (effect m r).2) (effect m r).2
    rcases effect_done h hr with ⟨h1, h2⟩ | ⟨h1, h2⟩
    · rw [h2]
      exact .no _ (by omega) (by omega) (by omega)
    · rw [h1]
      exact .yes _ (by omega) h2 he
theorem lastOf_noted {m x : Mkt} {r : Req} {a : Int} {rows : List Row} (h : MOk m rows) (hr : reqOk r = true) (hn : x.nums = m.nums) (hs : x.said = m.said) :
    lastOf (noted x r a).nums r.user = r.n ∧ lastOf (noted x r a).said r.user = a := by
  have hr := reqOk_iff.1 hr
  constructor
  · show lastOf (x.nums.set _ _) _ = _
    rw [lastOf_set (by rw [hn, h.nlen]) hr.1 hr.1.1, if_pos rfl]
  · show lastOf (x.said.set _ _) _ = _
    rw [lastOf_set (by rw [hs, h.slen]) hr.1 hr.1.1, if_pos rfl]

/-! ### deals by their tickets -/
theorem dealOf_iff {clock : Int} {rows : List Row} {ds : List Deal} (h : DOk clock rows ds) {t : Int} {d : Deal} : dealOf ds t = some d ↔ d ∈ ds ∧ d.ticket = t := by
  unfold dealOf
  constructor
  · intro e
    exact ⟨List.mem_of_find?_eq_some e, by have := List.find?_some e; simpa using this⟩
  · rintro ⟨h1, h2⟩
    cases e : ds.find? (fun d => decide (d.ticket = t)) with
    | none =>
      have := List.find?_eq_none.1 e d h1
      simp [h2] at this
    | some d' =>
      have h3 := List.mem_of_find?_eq_some e
      have h4 : d'.ticket = t := by have := List.find?_some e; simpa using this
      obtain ⟨i, hi, rfl⟩ := List.getElem_of_mem h1
      obtain ⟨j, hj, rfl⟩ := List.getElem_of_mem h3
      have := h.inj (List.getElem?_eq_getElem hi) (List.getElem?_eq_getElem hj) (by rw [h2, h4])
      subst this
      rfl
theorem dealOf_none {ds : List Deal} {t : Int} : dealOf ds t = none ↔ ∀ d ∈ ds, d.ticket ≠ t := by
  unfold dealOf
  rw [List.find?_eq_none]
  simp
theorem dealOf_same {c c' : Int} {rows rows' : List Row} {ds es : List Deal} (h : DOk c rows ds) (k : DOk c' rows' es) {t : Int} (he : ∀ d, d.ticket = t → (d ∈ ds ↔ d ∈ es)) : dealOf ds t = dealOf es t := by
  cases e : dealOf ds t with
  | none =>
    symm
    rw [dealOf_none] at e ⊢
    intro d hd ht
    exact e d ((he d ht).2 hd) ht
  | some d =>
    symm
    rw [dealOf_iff h] at e
    rw [dealOf_iff k]
    exact ⟨(he d e.2).1 e.1, e.2⟩
theorem dealOf_at {clock : Int} {rows : List Row} {ds : List Deal} (h : DOk clock rows ds) {k : Nat} {d : Deal} (hk : ds[k]? = some d) : dealOf ds d.ticket = some d := (dealOf_iff h).2 ⟨List.mem_of_getElem? hk, rfl⟩
theorem erase_mem {ds : List Deal} {k : Nat} {d x : Deal} (hk : ds[k]? = some d) (hx : x.ticket ≠ d.ticket) : x ∈ ds.eraseIdx k ↔ x ∈ ds := by
  rw [List.mem_eraseIdx_iff_getElem?]
  constructor
  · rintro ⟨i, _, hi⟩
    exact List.mem_of_getElem? hi
  · intro h
    obtain ⟨i, hi⟩ := List.getElem?_of_mem h
    refine ⟨i, ?_, hi⟩
    rintro rfl
    rw [hk] at hi
    exact hx (by rw [Option.some.inj hi])
theorem set_mem {ds : List Deal} {k : Nat} {d e x : Deal} (hk : ds[k]? = some d) (h1 : x.ticket ≠ d.ticket) (h2 : x.ticket ≠ e.ticket) : x ∈ ds.set k e ↔ x ∈ ds := by
  have hk' := (List.getElem?_eq_some_iff.1 hk).1
  constructor
  · intro h
    rcases List.mem_or_eq_of_mem_set h with h | rfl
    · exact h
    · exact absurd rfl h2
  · intro h
    obtain ⟨i, hi⟩ := List.getElem?_of_mem h
    have hne : k ≠ i := by
      rintro rfl
      rw [hk] at hi
      exact h1 (by rw [Option.some.inj hi])
    exact List.mem_of_getElem? (i := i) (by rw [List.getElem?_set, if_neg hne]; exact hi)

/-! ### what a request leaves apart -/
/-- Rows behind what was done. -/
theorem DoneBy.fold {m x : Mkt} {rows : List Row} {r : Req} (h : MOk m rows) (hr : reqOk r = true) (d : DoneBy m rows r x) :
    ∃ rows', ownFold x.log = some rows' ∧ ∀ t, 0 ≤ t → t ≠ r.ticket → rowAt rows' t = rowAt rows t := by
  have hr := reqOk_iff.1 hr
  have ho := ownFold_ok h.fold
  have put : ∀ (e : Ent), e.ticket = r.ticket → ownFits rows e = true → m.log.length < 40 → ∃ rows', ownFold (m.log ++ [e]) = some rows' ∧ ∀ t, 0 ≤ t → t ≠ r.ticket → rowAt rows' t = rowAt rows t := by
    intro e he hf hl
    refine ⟨_, ownFold_snoc h.fold hl hf, fun t h0 ht => ?_⟩
    rw [rowAt_put (ownOk_len ho) (by rw [he]; exact hr.2.2.2.1) h0, if_neg (by rw [he]; exact ht)]
  cases d with
  | issue k1 h1 h2 h3 hl h4 =>
    refine put ⟨1, r.ticket, r.who, r.price⟩ rfl (ownFits_iff.2 ⟨ho, entOk_iff.2 ?_, (fitsRow_iff (.inl rfl)).2 (.inl ⟨rfl, h3⟩)⟩) hl
    dsimp only
    omega
  | offer => exact ⟨rows, h.fold, fun _ _ _ => rfl⟩
  | drop => exact ⟨rows, h.fold, fun _ _ _ => rfl⟩
  | fund => exact ⟨rows, h.fold, fun _ _ _ => rfl⟩
  | settle k d k5 hk hd ht hh hs hl hm =>
    have hdo := dealOk_iff.1 (h.deals.get hd)
    have hcap := entCap_le (rowAt rows d.ticket).face
    have hb : 0 < d.buyer := by simpa [held] using hh
    refine put ⟨2, r.ticket, d.buyer, d.price⟩ rfl (ownFits_iff.2 ⟨ho, entOk_iff.2 ?_, (fitsRow_iff (.inr (.inl rfl))).2 (.inr (.inl ⟨rfl, ?_⟩))⟩) hl <;> dsimp only
    · omega
    · rw [← ht]
      refine ⟨by omega, ?_, hdo.2.2.2.1, hdo.2.2.2.2.1.2⟩
      rw [hdo.2.2.1]; omega
  | enter k6 h1 h2 h3 hl =>
    refine put ⟨3, r.ticket, r.user, 0⟩ rfl (ownFits_iff.2 ⟨ho, entOk_iff.2 ?_, (fitsRow_iff (.inr (.inr rfl))).2 (.inr (.inr ⟨rfl, h1, h2⟩))⟩) hl
    dsimp only
    omega
/-- Behind what was done all other tickets are offered as they were. -/
theorem DoneBy.apart {m x : Mkt} {rows : List Row} {r : Req} (h : MOk m rows) (d : DoneBy m rows r x) (e : Eff m x) {t : Int} (ht : t ≠ r.ticket) : dealOf m.deals t = dealOf x.deals t := by
  obtain ⟨rows', _, hx⟩ := e.rows
  refine dealOf_same h.deals hx fun y hy => ?_
  cases d with
  | issue => exact Iff.rfl
  | offer =>
    rw [insertDeal_mem]
    constructor
    · exact .inr
    · rintro (rfl | h)
      · exact absurd hy.symm ht
      · exact h
  | drop k d k3 h1 hk hd hdt => exact (erase_mem hd (by rw [hdt, hy]; exact ht)).symm
  | fund k d k4 hk hd hdt => exact (set_mem hd (by rw [hdt, hy]; exact ht) (by dsimp only; rw [hdt, hy]; exact ht)).symm
  | settle k d k5 hk hd hdt => exact (erase_mem hd (by rw [hdt, hy]; exact ht)).symm
  | enter => exact Iff.rfl

/-! ### the clock -/
theorem back_idle {clock : Int} : ∀ (ds : List Deal) (p : List Int), (∀ d ∈ ds, (held d && decide (d.due < clock)) = false) → ds.foldl (backPurse clock) p = p ∧ ds.map (backDeal clock) = ds
  | [], p, _ => ⟨rfl, rfl⟩
  | d :: ds, p, h => by
    have h1 := h d (List.mem_cons_self ..)
    have h2 := back_idle ds p (fun x hx => h x (List.mem_cons_of_mem _ hx))
    rw [List.foldl_cons, List.map_cons]
    have e1 : backPurse clock p d = p := by unfold backPurse; rw [if_neg (by rw [h1]; simp)]
    have e2 : backDeal clock d = d := by unfold backDeal; rw [if_neg (by rw [h1]; simp)]
    rw [e1, e2, h2.1, h2.2]
    exact ⟨rfl, rfl⟩
/-- So many ticks, one behind the other; none, if the clock ends before. -/
def ticks : Nat → Mkt → Option Mkt
  | 0, m => some m
  | n + 1, m => if m.clock = 99999 then none else ticks n (tick m)
theorem tick_held {m : Mkt} {d : Deal} (hd : d ∈ (tick m).deals) (hh : held d = true) : d ∈ m.deals := by
  simp only [tick, List.mem_map] at hd
  obtain ⟨x, hx, rfl⟩ := hd
  unfold backDeal at hh ⊢
  split at hh
  · simp [held] at hh
  · rename_i hc
    rw [if_neg hc]
    exact hx
theorem ticks_ok : ∀ (n : Nat) (m x : Mkt) (rows : List Row), MOk m rows → ticks n m = some x → MOk x rows ∧ x.clock = m.clock + n ∧ total x = total m ∧ x.log = m.log ∧ ∀ d ∈ x.deals, held d = true → d ∈ m.deals
  | 0, m, x, rows, h, e => by
    obtain rfl : m = x := by simpa [ticks] using e
    exact ⟨h, by omega, rfl, rfl, fun d hd _ => hd⟩
  | n + 1, m, x, rows, h, e => by
    rw [ticks] at e
    split at e
    · cases e
    · rename_i hc
      obtain ⟨h1, h2, h3, h4, h5⟩ := ticks_ok n (tick m) x rows (tick_ok h hc) e
      have hck : (tick m).clock = m.clock + 1 := rfl
      rw [hck] at h2
      exact ⟨h1, by omega, by rw [h3, tick_total h], h4, fun d hd hh => tick_held (h5 d hd hh) hh⟩
/-- Behind six ticks nothing is held, and purses have what was. -/
theorem ends {m x : Mkt} {rows : List Row} (h : MOk m rows) (e : ticks 6 m = some x) : mktHeld x = 0 ∧ monSum x.purses = monSum m.purses + mktHeld m := by
  obtain ⟨h1, h2, h3, h4, h5⟩ := ticks_ok 6 m x rows h e
  have hno : ∀ d ∈ x.deals, heldIn d = 0 := by
    intro d hd
    unfold heldIn
    split
    · rename_i hh
      have ha := dealOk_iff.1 (h1.deals.1 d hd)
      have hb := dealOk_iff.1 (h.deals.1 d (h5 d hd hh))
      have hc : 0 < d.buyer := by simpa [held] using hh
      omega
    · rfl
  have h0 : heldSum x.deals = 0 := by
    unfold heldSum
    have key : ∀ ds : List Deal, (∀ d ∈ ds, heldIn d = 0) → (ds.map heldIn).sum = 0 := by
      intro ds
      induction ds with
      | nil => intro _; rfl
      | cons d ds ih =>
        intro hd
        rw [List.map_cons, List.sum_cons, hd d (List.mem_cons_self ..), ih (fun x hx => hd x (List.mem_cons_of_mem _ hx))]
        rfl
    exact key _ hno
  have ht := h.total
  have hs := monSum_eq h1.mon
  unfold total at h3
  refine ⟨by rw [mktHeld, heldOf_eq h1.deals h1.dlen, h0], ?_⟩
  rw [ht, hs]
  omega
end Go.Proofs.YtdbnbembjebfhaaGreat.Sw

