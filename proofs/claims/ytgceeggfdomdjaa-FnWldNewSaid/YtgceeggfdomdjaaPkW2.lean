/-
  Texts joined: Plain2, Plain3, Deep, Draw1, DrawE, Own, Seat, RowsW, Rows2, Heads, Law1.
-/
import Derived.Test.YtgceeggfdomdjaaPkW1
import Derived.Laws.BitsAllLaws
import Derived.Deep.DeepCutAuto
import Derived.Maps.AppendAt
import Derived.OwnWalk
import Derived.Test.YtgceeggfdomdjaaProg
namespace Go.Proofs.Ytgceeggfdomdjaa.Sw
set_option maxRecDepth 100000
set_option linter.unusedSimpArgs false
set_option linter.unusedVariables false
open Go.RowKit (wrap64)

/-! ### deals -/
theorem dealOk_iff {clock : Int} {rows : List Row} {d : Deal} : dealOk clock rows d = true ↔ (0 ≤ d.ticket ∧ d.ticket ≤ 7) ∧ (1 ≤ d.seller ∧ d.seller ≤ 5) ∧ (rowAt rows d.ticket).who = d.seller ∧ (rowAt rows d.ticket).used = false ∧
    (1 ≤ d.price ∧ d.price ≤ entCap (rowAt rows d.ticket).face) ∧ ((d.buyer = 0 ∧ d.due = 0) ∨ ((1 ≤ d.buyer ∧ d.buyer ≤ 5) ∧ d.buyer ≠ d.seller ∧ (clock ≤ d.due ∧ d.due ≤ clock + 5))) := by
  unfold dealOk
  by_cases h : d.buyer = 0
  · rw [if_pos h]
    simp only [Bool.and_eq_true, inR_iff, decide_eq_true_eq, Bool.not_eq_true', and_assoc]
    simp [h]
  · rw [if_neg h]
    simp only [Bool.and_eq_true, inR_iff, decide_eq_true_eq, Bool.not_eq_true', and_assoc]
    simp [h]
theorem entCap_le (f : Int) : entCap f ≤ 60 := by
  unfold entCap
  split
  · have := inR_iff.1 ‹_›; omega
  · omega
def DOk (clock : Int) (rows : List Row) (ds : List Deal) : Prop := (∀ d ∈ ds, dealOk clock rows d = true) ∧ ds.Pairwise (fun a b => a.ticket < b.ticket)
theorem dealsOk_iff {clock : Int} {rows : List Row} : ∀ (ds : List Deal) (p : Int), dealsOk clock rows p ds = true ↔ DOk clock rows ds ∧ ∀ d ∈ ds, p < d.ticket
  | [], p => by simp [dealsOk, DOk]
  | d :: ds, p => by
    rw [dealsOk, Bool.and_eq_true, Bool.and_eq_true, dealsOk_iff ds, decide_eq_true_eq]
    unfold DOk
    simp only [List.mem_cons, forall_eq_or_imp, List.pairwise_cons]
    constructor
    · rintro ⟨⟨h1, h2⟩, ⟨h3, h4⟩, h5⟩
      exact ⟨⟨⟨h1, h3⟩, h5, h4⟩, h2, fun x hx => Int.lt_trans h2 (h5 x hx)⟩
    · rintro ⟨⟨⟨h1, h3⟩, h5, h4⟩, h2, _⟩
      exact ⟨⟨h1, h2⟩, ⟨h3, h4⟩, h5⟩
theorem dealsOk_iff' {clock : Int} {rows : List Row} {ds : List Deal} : dealsOk clock rows (-1) ds = true ↔ DOk clock rows ds := by
  rw [dealsOk_iff]
  exact ⟨fun h => h.1, fun h => ⟨h, fun d hd => by have := (dealOk_iff.1 (h.1 d hd)).1; omega⟩⟩
theorem DOk.get {clock : Int} {rows : List Row} {ds : List Deal} (h : DOk clock rows ds) {k : Nat} {d : Deal} (hk : ds[k]? = some d) : dealOk clock rows d = true := h.1 d (List.mem_of_getElem? hk)
theorem DOk.inj {clock : Int} {rows : List Row} {ds : List Deal} (h : DOk clock rows ds) {i j : Nat} {a b : Deal} (hi : ds[i]? = some a) (hj : ds[j]? = some b) (e : a.ticket = b.ticket) : i = j := by
  have hp := List.pairwise_iff_getElem.1 h.2
  obtain ⟨hi', rfl⟩ := List.getElem?_eq_some_iff.1 hi
  obtain ⟨hj', rfl⟩ := List.getElem?_eq_some_iff.1 hj
  rcases Nat.lt_trichotomy i j with hij | hij | hij
  · have := hp i j hi' hj' hij; omega
  · exact hij
  · have := hp j i hj' hi' hij; omega
theorem DOk.sub {clock : Int} {rows : List Row} {ds es : List Deal} (h : DOk clock rows ds) (hs : es.Sublist ds) : DOk clock rows es :=
  ⟨fun d hd => h.1 d (hs.subset hd), h.2.sublist hs⟩
/-- Rows that stand alike at all deals' tickets. -/
theorem DOk.rows {clock : Int} {rows rows' : List Row} {ds : List Deal} (h : DOk clock rows ds) (hr : ∀ d ∈ ds, rowAt rows' d.ticket = rowAt rows d.ticket) : DOk clock rows' ds :=
  ⟨fun d hd => by have := h.1 d hd; rw [dealOk_iff] at this ⊢; rw [hr d hd]; exact this, h.2⟩
theorem erase_other {clock : Int} {rows : List Row} {ds : List Deal} (h : DOk clock rows ds) {k : Nat} {d : Deal} (hk : ds[k]? = some d) : ∀ x ∈ ds.eraseIdx k, x.ticket ≠ d.ticket := by
  intro x hx e
  rw [List.mem_eraseIdx_iff_getElem?] at hx
  obtain ⟨i, hi, hx⟩ := hx
  exact hi (h.inj hx hk e)
theorem DOk.set {clock : Int} {rows : List Row} {ds : List Deal} (h : DOk clock rows ds) {k : Nat} {d e : Deal} (hk : ds[k]? = some d) (ht : e.ticket = d.ticket) (he : dealOk clock rows e = true) : DOk clock rows (ds.set k e) := by
  refine ⟨fun x hx => ?_, ?_⟩
  · rcases List.mem_or_eq_of_mem_set hx with hx | rfl
    · exact h.1 x hx
    · exact he
  · rw [List.pairwise_iff_getElem]
    obtain ⟨hk', rfl⟩ := List.getElem?_eq_some_iff.1 hk
    intro i j hi hj hij
    have hp := List.pairwise_iff_getElem.1 h.2 i j (by simpa using hi) (by simpa using hj) hij
    rw [List.getElem_set, List.getElem_set]
    split <;> split <;> subst_vars <;> (try rw [ht]) <;> (try exact hp) <;> omega
theorem insertDeal_mem {d x : Deal} : ∀ {ds : List Deal}, x ∈ insertDeal d ds ↔ x = d ∨ x ∈ ds
  | [] => by simp [insertDeal]
  | y :: ys => by
    rw [insertDeal]
    split
    · simp
    · rw [List.mem_cons, insertDeal_mem, List.mem_cons]
      constructor
      · rintro (h | h | h)
        · exact .inr (.inl h)
        · exact .inl h
        · exact .inr (.inr h)
      · rintro (h | h | h)
        · exact .inr (.inl h)
        · exact .inl h
        · exact .inr (.inr h)
theorem insertDeal_len {d : Deal} : ∀ {ds : List Deal}, (insertDeal d ds).length = ds.length + 1
  | [] => rfl
  | y :: ys => by
    rw [insertDeal]
    split
    · rfl
    · rw [List.length_cons, insertDeal_len, List.length_cons]
theorem insertDeal_rises {d : Deal} : ∀ {ds : List Deal}, ds.Pairwise (fun a b => a.ticket < b.ticket) → (∀ x ∈ ds, x.ticket ≠ d.ticket) → (insertDeal d ds).Pairwise (fun a b => a.ticket < b.ticket)
  | [], _, _ => by simp [insertDeal]
  | y :: ys, h, hn => by
    rw [List.pairwise_cons] at h
    have hy := hn y (List.mem_cons_self ..)
    rw [insertDeal]
    split
    · rw [List.pairwise_cons, List.pairwise_cons]
      refine ⟨fun x hx => ?_, h.1, h.2⟩
      rcases List.mem_cons.1 hx with rfl | hx
      · assumption
      · have := h.1 x hx; omega
    · rw [List.pairwise_cons]
      refine ⟨fun x hx => ?_, insertDeal_rises h.2 (fun x hx => hn x (List.mem_cons_of_mem _ hx))⟩
      rcases insertDeal_mem.1 hx with rfl | hx
      · omega
      · exact h.1 x hx
theorem dealAt_some {ds : List Deal} {t : Int} {k : Nat} (h : dealAt ds t = some k) : ∃ d, ds[k]? = some d ∧ d.ticket = t := by
  unfold dealAt at h
  rw [List.findIdx?_eq_some_iff_getElem] at h
  obtain ⟨hk, h1, _⟩ := h
  exact ⟨ds[k], List.getElem?_eq_getElem hk, by simpa using h1⟩
theorem dealAt_none {ds : List Deal} {t : Int} (h : dealAt ds t = none) : ∀ d ∈ ds, d.ticket ≠ t := by
  unfold dealAt at h
  rw [List.findIdx?_eq_none_iff] at h
  intro d hd e
  have := h d hd
  simp [e] at this
theorem getD_of {α : Type} {l : List α} {k : Nat} {x z : α} (h : l[k]? = some x) : l.getD k z = x := by rw [List.getD_eq_getElem?_getD, h]; rfl

/-! ### what is held -/
def heldIn (d : Deal) : Int := if held d then d.price else 0
def heldSum (ds : List Deal) : Int := (ds.map heldIn).sum
theorem heldIn_bd {clock : Int} {rows : List Row} {d : Deal} (h : dealOk clock rows d = true) : 0 ≤ heldIn d ∧ heldIn d ≤ 60 := by
  have := (dealOk_iff.1 h).2.2.2.2.1
  have := entCap_le (rowAt rows d.ticket).face
  unfold heldIn
  split <;> omega
theorem heldSum_bd {clock : Int} {rows : List Row} : ∀ {ds : List Deal}, (∀ d ∈ ds, dealOk clock rows d = true) → 0 ≤ heldSum ds ∧ heldSum ds ≤ 60 * ds.length
  | [], _ => by simp [heldSum]
  | d :: ds, h => by
    have h1 := heldIn_bd (h d (List.mem_cons_self ..))
    have h2 := heldSum_bd (fun x hx => h x (List.mem_cons_of_mem _ hx))
    unfold heldSum at h2 ⊢
    rw [List.map_cons, List.sum_cons, List.length_cons]
    omega
theorem heldFrom_eq {clock : Int} {rows : List Row} : ∀ (ds : List Deal) (s : Int), 0 ≤ s → s + 60 * ds.length ≤ 9223372036854775807 → (∀ d ∈ ds, dealOk clock rows d = true) → heldFrom s ds = s + heldSum ds
  | [], s, _, _, _ => by simp [heldFrom, heldSum]
  | d :: ds, s, h0, h1, h => by
    have hd := heldIn_bd (h d (List.mem_cons_self ..))
    rw [List.length_cons] at h1
    have := heldFrom_eq ds (s + heldIn d) (by omega) (by omega) (fun x hx => h x (List.mem_cons_of_mem _ hx))
    unfold heldFrom at this ⊢
    rw [List.foldl_cons]
    have e : heldStep s d = s + heldIn d := by
      unfold heldStep heldIn
      unfold heldIn at hd
      split
      · rw [if_pos ‹_›] at hd
        rw [wrap64_in (by omega)]
      · omega
    rw [e, this]
    unfold heldSum
    rw [List.map_cons, List.sum_cons]
    omega
theorem heldOf_eq {clock : Int} {rows : List Row} {ds : List Deal} (h : DOk clock rows ds) (h8 : ds.length ≤ 8) : heldOf ds = heldSum ds := by
  rw [heldOf, heldFrom_eq ds 0 (by omega) (by omega) h.1]; omega
theorem heldSum_erase : ∀ {ds : List Deal} {k : Nat} {d : Deal}, ds[k]? = some d → heldSum (ds.eraseIdx k) = heldSum ds - heldIn d
  | [], k, d, h => by simp at h
  | x :: xs, 0, d, h => by
    obtain rfl : x = d := by simpa using h
    unfold heldSum
    simp only [List.eraseIdx_cons_zero, List.map_cons, List.sum_cons]
    omega
  | x :: xs, k + 1, d, h => by
    have := heldSum_erase (ds := xs) (k := k) (d := d) (by simpa using h)
    unfold heldSum at this ⊢
    simp only [List.eraseIdx_cons_succ, List.map_cons, List.sum_cons, this]
    omega
theorem heldSum_set : ∀ {ds : List Deal} {k : Nat} {d e : Deal}, ds[k]? = some d → heldSum (ds.set k e) = heldSum ds - heldIn d + heldIn e
  | [], k, d, e, h => by simp at h
  | x :: xs, 0, d, e, h => by
    obtain rfl : x = d := by simpa using h
    unfold heldSum
    simp only [List.set_cons_zero, List.map_cons, List.sum_cons]
    omega
  | x :: xs, k + 1, d, e, h => by
    have := heldSum_set (ds := xs) (k := k) (d := d) (e := e) (by simpa using h)
    unfold heldSum at this ⊢
    simp only [List.set_cons_succ, List.map_cons, List.sum_cons, this]
    omega
theorem heldSum_insert {d : Deal} : ∀ {ds : List Deal}, heldSum (insertDeal d ds) = heldIn d + heldSum ds
  | [] => by simp [insertDeal, heldSum]
  | x :: xs => by
    have := heldSum_insert (d := d) (ds := xs)
    unfold heldSum at this ⊢
    rw [insertDeal]
    split
    · simp
    · simp only [List.map_cons, List.sum_cons, this]
      omega

/-! ### a market that is ok -/
structure MOk (m : Mkt) (rows : List Row) : Prop where
  fold : ownFold m.log = some rows
  mon : monOk m.purses = true
  dlen : m.deals.length ≤ 8
  clk : 0 ≤ m.clock ∧ m.clock ≤ 99999
  nlen : m.nums.length = 5
  slen : m.said.length = 5
  deals : DOk m.clock rows m.deals
  nums : numsOk m.nums m.said = true
  sum : m.purses.sum + heldSum m.deals ≤ 100000
theorem mktRows_of {m : Mkt} {rows : List Row} (h : ownFold m.log = some rows) : mktRows m = rows := by rw [mktRows, h]; rfl
theorem mktOk_iff {m : Mkt} : mktOk m = true ↔ ∃ rows, MOk m rows := by
  unfold mktOk
  simp only [Bool.and_eq_true, decide_eq_true_eq, inR_iff, dealsOk_iff']
  constructor
  · rintro ⟨⟨⟨⟨⟨⟨⟨⟨h1, h2⟩, h3⟩, h4⟩, h5⟩, h6⟩, h7⟩, h8⟩, h9⟩
    obtain ⟨rows, hr⟩ := Option.isSome_iff_exists.1 h1
    rw [mktRows_of hr] at h7
    refine ⟨rows, hr, h2, h3, h4, h5, h6, h7, h8, ?_⟩
    rw [monSum_eq h2, mktHeld, heldOf_eq h7 h3] at h9
    exact h9
  · rintro ⟨rows, hr, h2, h3, h4, h5, h6, h7, h8, h9⟩
    rw [mktRows_of hr]
    refine ⟨⟨⟨⟨⟨⟨⟨⟨by rw [hr]; rfl, h2⟩, h3⟩, h4⟩, h5⟩, h6⟩, h7⟩, h8⟩, ?_⟩
    rw [monSum_eq h2, mktHeld, heldOf_eq h7 h3]
    exact h9
def total (m : Mkt) : Int := m.purses.sum + heldSum m.deals
theorem MOk.total {m : Mkt} {rows : List Row} (h : MOk m rows) : monSum m.purses + mktHeld m = m.purses.sum + heldSum m.deals := by
  rw [monSum_eq h.mon, mktHeld, heldOf_eq h.deals h.dlen]
theorem reqOk_iff {r : Req} : reqOk r = true ↔ (1 ≤ r.user ∧ r.user ≤ 5) ∧ (1 ≤ r.n ∧ r.n ≤ 99999) ∧ (1 ≤ r.kind ∧ r.kind ≤ 6) ∧ (0 ≤ r.ticket ∧ r.ticket ≤ 7) ∧
    ((r.kind = 1 ∧ (1 ≤ r.who ∧ r.who ≤ 5) ∧ (1 ≤ r.price ∧ r.price ≤ 50)) ∨ (r.kind = 2 ∧ r.who = 0 ∧ (1 ≤ r.price ∧ r.price ≤ 999)) ∨ (r.kind ≠ 1 ∧ r.kind ≠ 2 ∧ r.who = 0 ∧ r.price = 0)) := by
  unfold reqOk
  by_cases h1 : r.kind = 1
  · rw [if_pos h1]; simp only [Bool.and_eq_true, inR_iff, and_assoc]; simp [h1]
  · by_cases h2 : r.kind = 2
    · rw [if_neg h1, if_pos h2]; simp only [Bool.and_eq_true, inR_iff, and_assoc, decide_eq_true_eq]; simp [h2]
    · rw [if_neg h1, if_neg h2]; simp only [Bool.and_eq_true, inR_iff, and_assoc, decide_eq_true_eq]; simp [h1, h2]

/-- What an effect leaves: the market but its numbers is ok; as many numbers; money as it was. -/
structure Eff (m x : Mkt) : Prop where
  rows : ∃ rows, ownFold x.log = some rows ∧ DOk x.clock rows x.deals
  mon : monOk x.purses = true
  dlen : x.deals.length ≤ 8
  clk : x.clock = m.clock
  nums : x.nums = m.nums
  said : x.said = m.said
  sum : x.purses.sum + heldSum x.deals = m.purses.sum + heldSum m.deals
theorem Eff.refl {m : Mkt} {rows : List Row} (h : MOk m rows) : Eff m m := ⟨⟨rows, h.fold, h.deals⟩, h.mon, h.dlen, rfl, rfl, rfl, rfl⟩
theorem rises_len8 {clock : Int} {rows : List Row} {ds : List Deal} (h : DOk clock rows ds) : ds.length ≤ 8 := by
  have key : ∀ (ds : List Deal) (p : Int), ds.Pairwise (fun a b => a.ticket < b.ticket) → (∀ d ∈ ds, p < d.ticket ∧ d.ticket ≤ 7) → -1 ≤ p → p ≤ 7 → (ds.length : Int) ≤ 7 - p := by
    intro ds
    induction ds with
    | nil => intro p _ _ h0 h1; simp; omega
    | cons d ds ih =>
      intro p hp hd h0 h1
      rw [List.pairwise_cons] at hp
      have h2 := hd d (List.mem_cons_self ..)
      have := ih d.ticket hp.2 (fun x hx => ⟨hp.1 x hx, (hd x (List.mem_cons_of_mem _ hx)).2⟩) (by omega) h2.2
      rw [List.length_cons]
      omega
  have := key ds (-1) h.2 (fun d hd => by have := (dealOk_iff.1 (h.1 d hd)).1; omega) (by omega) (by omega)
  omega
theorem issue_eff {m : Mkt} {rows : List Row} {r : Req} (h : MOk m rows) (hr : reqOk r = true) (hk : r.kind = 1) : Eff m (issue m r (rowAt rows r.ticket)).1 := by
  have hr := reqOk_iff.1 hr
  unfold issue
  split
  · exact .refl h
  split
  · exact .refl h
  split
  · exact .refl h
  split
  case isFalse => exact .refl h
  rename_i h1 h2 h3 h4
  rw [moveMay_iff] at h4
  obtain ⟨h4, h5, h6, h7⟩ := h4
  have hl : m.log.length < 40 := by have := (ownFold_some.1 h.fold).1; omega
  have hf : ownFits rows ⟨1, r.ticket, r.who, r.price⟩ = true := by
    rw [ownFits_iff]
    refine ⟨ownFold_ok h.fold, entOk_iff.2 ?_, (fitsRow_iff (.inl rfl)).2 (.inl ⟨rfl, by simpa using h2⟩)⟩
    dsimp only
    omega
  have hno : ∀ d ∈ m.deals, d.ticket ≠ r.ticket := fun d hd e => by
    have := (dealOk_iff.1 (h.deals.1 d hd))
    rw [e] at this
    omega
  refine ⟨⟨_, ownFold_snoc h.fold hl hf, h.deals.rows fun d hd => ?_⟩, turned_ok h7, h.dlen, rfl, rfl, rfl, ?_⟩
  · rw [rowAt_put (ownOk_len (ownFold_ok h.fold)) ⟨hr.2.2.2.1.1, hr.2.2.2.1.2⟩ (dealOk_iff.1 (h.deals.1 d hd)).1.1, if_neg (hno d hd)]
  · show (turned _ _ _).sum + heldSum m.deals = _
    rw [turned_sum h7, turned_sum h6]
    omega
theorem none_of {α : Type} {o : Option α} (h : o.isSome = false) : o = none := by cases o <;> simp_all
theorem offer_eff {m : Mkt} {rows : List Row} {r : Req} (h : MOk m rows) (hr : reqOk r = true) (hk : r.kind = 2) : Eff m (offer m r (rowAt rows r.ticket) (dealAt m.deals r.ticket)).1 := by
  have hr := reqOk_iff.1 hr
  unfold offer
  split
  · exact .refl h
  split
  · exact .refl h
  split
  · exact .refl h
  rename_i h1 h2 h3
  simp only [not_or, Bool.not_eq_true] at h2
  have hno := dealAt_none (none_of h2.1)
  have hd : DOk m.clock rows (insertDeal ⟨r.ticket, r.user, r.price, 0, 0⟩ m.deals) := by
    refine ⟨fun d hd => ?_, insertDeal_rises h.deals.2 hno⟩
    rcases insertDeal_mem.1 hd with rfl | hd
    · rw [dealOk_iff]
      dsimp only
      refine ⟨hr.2.2.2.1, hr.1, by simpa using h1, h2.2, by omega, .inl ⟨rfl, rfl⟩⟩
    · exact h.deals.1 d hd
  refine ⟨⟨rows, h.fold, hd⟩, h.mon, rises_len8 hd, rfl, rfl, rfl, ?_⟩
  show _ + heldSum (insertDeal _ _) = _
  rw [heldSum_insert]
  simp [heldIn, held]
theorem drop_eff {m : Mkt} {rows : List Row} {r : Req} (h : MOk m rows) : Eff m (dropIt m r (rowAt rows r.ticket) (dealAt m.deals r.ticket)).1 := by
  unfold dropIt
  split
  · exact .refl h
  split
  · exact .refl h
  rename_i k hk
  obtain ⟨d, hd, ht⟩ := dealAt_some hk
  rw [getD_of hd]
  split
  · exact .refl h
  rename_i h2
  have hs := List.eraseIdx_sublist m.deals k
  refine ⟨⟨rows, h.fold, h.deals.sub hs⟩, h.mon, Nat.le_trans hs.length_le h.dlen, rfl, rfl, rfl, ?_⟩
  show _ + heldSum (m.deals.eraseIdx k) = _
  rw [heldSum_erase hd]
  simp [heldIn, h2]
theorem fund_eff {m : Mkt} {rows : List Row} {r : Req} (h : MOk m rows) (hr : reqOk r = true) : Eff m (fund m r (dealAt m.deals r.ticket)).1 := by
  have hr := reqOk_iff.1 hr
  unfold fund
  split
  · exact .refl h
  rename_i k hk
  obtain ⟨d, hd, ht⟩ := dealAt_some hk
  rw [getD_of hd]
  split
  · exact .refl h
  split
  · exact .refl h
  split
  case isFalse => exact .refl h
  rename_i h1 h2 h3
  have hdo := dealOk_iff.1 (h.deals.get hd)
  have he : DOk m.clock rows (m.deals.set k { d with buyer := r.user, due := m.clock + 5 }) := by
    refine h.deals.set hd rfl (dealOk_iff.2 ?_)
    dsimp only
    refine ⟨hdo.1, hdo.2.1, hdo.2.2.1, hdo.2.2.2.1, hdo.2.2.2.2.1, .inr ⟨hr.1, fun e => h2 e.symm, by omega⟩⟩
  refine ⟨⟨rows, h.fold, he⟩, turned_ok h3, by simpa using h.dlen, rfl, rfl, rfl, ?_⟩
  show (turned _ _ _).sum + heldSum (m.deals.set k _) = _
  rw [turned_sum h3, heldSum_set hd]
  have hu : heldIn { d with buyer := r.user, due := m.clock + 5 } = d.price := if_pos (by simp [held]; omega)
  have hb : heldIn d = 0 := if_neg h1
  rw [hu, hb]
  omega
theorem settle_eff {m : Mkt} {rows : List Row} {r : Req} (h : MOk m rows) (hr : reqOk r = true) : Eff m (settle m r (dealAt m.deals r.ticket)).1 := by
  have hr := reqOk_iff.1 hr
  unfold settle
  split
  · exact .refl h
  rename_i k hk
  obtain ⟨d, hd, ht⟩ := dealAt_some hk
  rw [getD_of hd]
  split
  · exact .refl h
  split
  · exact .refl h
  split
  · exact .refl h
  rename_i h1 h2 h3
  have hdo := dealOk_iff.1 (h.deals.get hd)
  have hh : held d = true := by simpa using h1
  have hb : 0 < d.buyer := by simpa [held] using hh
  have hl : m.log.length < 40 := by have := (ownFold_some.1 h.fold).1; omega
  have hp := hdo.2.2.2.2.1
  have hcap := entCap_le (rowAt rows d.ticket).face
  have hf : ownFits rows ⟨2, r.ticket, d.buyer, d.price⟩ = true := by
    rw [ownFits_iff]
    refine ⟨ownFold_ok h.fold, entOk_iff.2 ?_, (fitsRow_iff (.inr (.inl rfl))).2 (.inr (.inl ⟨rfl, ?_⟩))⟩ <;> dsimp only
    · omega
    · rw [← ht]
      refine ⟨by omega, ?_, hdo.2.2.2.1, hp.2⟩
      rw [hdo.2.2.1]; omega
  have hs := List.eraseIdx_sublist m.deals k
  have hsum : turnMay m.purses d.seller d.price = true := by
    refine turnMay_in h.mon hdo.2.1 (by omega) ?_
    have h4 := h.sum
    have h5 := heldSum_erase hd
    have h6 := (heldSum_bd (h.deals.sub hs).1).1
    have : heldIn d = d.price := by simp [heldIn, hh]
    omega
  have e : monTurn m.purses d.seller d.price = turned m.purses d.seller d.price := by simp [monTurn, hsum]
  refine ⟨⟨_, ownFold_snoc h.fold hl hf, (h.deals.sub hs).rows fun x hx => ?_⟩, by dsimp only; rw [e]; exact turned_ok hsum, Nat.le_trans hs.length_le h.dlen, rfl, rfl, rfl, ?_⟩
  · have := erase_other h.deals hd x hx
    rw [rowAt_put (ownOk_len (ownFold_ok h.fold)) ⟨hr.2.2.2.1.1, hr.2.2.2.1.2⟩ (dealOk_iff.1 ((h.deals.sub hs).1 x hx)).1.1, if_neg (by dsimp only; omega)]
  · show (monTurn _ _ _).sum + heldSum (m.deals.eraseIdx k) = _
    rw [e, turned_sum hsum, heldSum_erase hd]
    simp only [heldIn, hh, if_true]
    omega
theorem enter_eff {m : Mkt} {rows : List Row} {r : Req} (h : MOk m rows) (hr : reqOk r = true) : Eff m (enter m r (rowAt rows r.ticket) (dealAt m.deals r.ticket)).1 := by
  have hr := reqOk_iff.1 hr
  unfold enter
  split
  · exact .refl h
  split
  · exact .refl h
  split
  · exact .refl h
  rename_i h1 h2 h3
  simp only [not_or, Bool.not_eq_true] at h2
  have hno := dealAt_none (none_of h2.2)
  have hl : m.log.length < 40 := by have := (ownFold_some.1 h.fold).1; omega
  have hf : ownFits rows ⟨3, r.ticket, r.user, 0⟩ = true := by
    rw [ownFits_iff]
    refine ⟨ownFold_ok h.fold, entOk_iff.2 ?_, (fitsRow_iff (.inr (.inr rfl))).2 (.inr (.inr ⟨rfl, by simpa using h1, h2.1⟩))⟩
    dsimp only
    omega
  refine ⟨⟨_, ownFold_snoc h.fold hl hf, h.deals.rows fun d hd => ?_⟩, h.mon, h.dlen, rfl, rfl, rfl, rfl⟩
  rw [rowAt_put (ownOk_len (ownFold_ok h.fold)) ⟨hr.2.2.2.1.1, hr.2.2.2.1.2⟩ (dealOk_iff.1 (h.deals.1 d hd)).1.1, if_neg (hno d hd)]
theorem effect_eff {m : Mkt} {rows : List Row} {r : Req} (h : MOk m rows) (hr : reqOk r = true) : Eff m (effect m r).1 := by
  unfold effect
  rw [mktRows_of h.fold]
  split
  · exact issue_eff h hr ‹_›
  split
  · exact offer_eff h hr ‹_›
  split
  · exact drop_eff h
  split
  · exact fund_eff h hr
  split
  · exact settle_eff h hr
  · exact enter_eff h hr
theorem effect_ans (m : Mkt) (r : Req) : 1 ≤ (effect m r).2 ∧ (effect m r).2 ≤ 6 := by
  have key : ∀ (P : Mkt × Int → Prop) (c : Prop) [Decidable c] (a b : Mkt × Int), P a → P b → P (if c then a else b) := by
    intro P c _ a b ha hb; split <;> assumption
  unfold effect issue offer dropIt fund settle enter
  repeat' (first | (split) | decide)
  all_goals (first | decide | (dsimp only; omega))
theorem numsOk_iff : ∀ {ns ss : List Int}, ns.length = ss.length → (numsOk ns ss = true ↔ ∀ (k : Nat) (n s : Int), ns[k]? = some n → ss[k]? = some s → numOk n s = true)
  | [], [], _ => by simp [numsOk]
  | [], _ :: _, h => by simp at h
  | _ :: _, [], h => by simp at h
  | n :: ns, s :: ss, h => by
    rw [numsOk, Bool.and_eq_true, numsOk_iff (by simpa using h)]
    constructor
    · rintro ⟨h1, h2⟩ k a b ha hb
      cases k with
      | zero => simp at ha hb; subst ha hb; exact h1
      | succ k => exact h2 k a b (by simpa using ha) (by simpa using hb)
    · intro h
      exact ⟨h 0 n s rfl rfl, fun k a b ha hb => h (k + 1) a b (by simpa using ha) (by simpa using hb)⟩
theorem numOk_iff {n s : Int} : numOk n s = true ↔ (0 ≤ n ∧ n ≤ 99999) ∧ (0 ≤ s ∧ s ≤ 6) ∧ (n = 0 ↔ s = 0) := by
  unfold numOk
  simp only [Bool.and_eq_true, inR_iff, and_assoc]
  simp
theorem noted_nums {ns ss : List Int} (hn : ns.length = 5) (hs : ss.length = 5) (h : numsOk ns ss = true) {k : Nat} {n s : Int} (ho : numOk n s = true) : numsOk (ns.set k n) (ss.set k s) = true := by
  rw [numsOk_iff (by rw [hn, hs])] at h
  rw [numsOk_iff (by simp [hn, hs])]
  intro j a b ha hb
  rw [List.getElem?_set] at ha hb
  by_cases hj : k = j
  · rw [if_pos hj] at ha hb
    split at ha
    · split at hb
      · cases ha; cases hb; exact ho
      · cases hb
    · cases ha
  · rw [if_neg hj] at ha hb
    exact h j a b ha hb
theorem Eff.noted {m x : Mkt} {rows : List Row} {r : Req} {a : Int} (h : MOk m rows) (he : Eff m x) (hr : reqOk r = true) (ha : 1 ≤ a ∧ a ≤ 6) : ∃ rows', MOk (noted x r a) rows' := by
  have hr := reqOk_iff.1 hr
  obtain ⟨rows', h1, h2⟩ := he.rows
  have hck := h.clk
  refine ⟨rows', h1, he.mon, he.dlen, by show 0 ≤ x.clock ∧ x.clock ≤ 99999; rw [he.clk]; exact hck, by simp [Sw.noted, he.nums, h.nlen], by simp [Sw.noted, he.said, h.slen], h2, ?_, by show x.purses.sum + heldSum x.deals ≤ _; rw [he.sum]; exact h.sum⟩
  show numsOk (x.nums.set _ _) (x.said.set _ _) = true
  rw [he.nums, he.said]
  exact noted_nums h.nlen h.slen h.nums (numOk_iff.2 ⟨by omega, by omega, by omega⟩)
theorem doIt_ok {m : Mkt} {rows : List Row} {r : Req} (h : MOk m rows) (hr : reqOk r = true) : ∃ rows', MOk (doIt m r).1 rows' := by
  unfold doIt
  split
  · exact ⟨rows, h⟩
  split
  · exact ⟨rows, h⟩
  · exact (effect_eff h hr).noted h hr (effect_ans m r)
theorem doIt_mktOk {m : Mkt} {r : Req} (h : mktOk m = true) (hr : reqOk r = true) : mktOk (doIt m r).1 = true := by
  obtain ⟨rows, h⟩ := mktOk_iff.1 h
  exact mktOk_iff.2 (doIt_ok h hr)
theorem doIt_total {m : Mkt} {rows : List Row} {r : Req} (h : MOk m rows) (hr : reqOk r = true) : total (doIt m r).1 = total m := by
  unfold doIt
  split
  · rfl
  split
  · rfl
  · exact (effect_eff h hr).sum

/-! ### the clock -/
theorem backDeal_ok {clock : Int} {rows : List Row} {d : Deal} (h : dealOk clock rows d = true) : dealOk (clock + 1) rows (backDeal (clock + 1) d) = true := by
  rw [dealOk_iff] at h ⊢
  unfold backDeal
  split
  · exact ⟨h.1, h.2.1, h.2.2.1, h.2.2.2.1, h.2.2.2.2.1, .inl ⟨rfl, rfl⟩⟩
  · rename_i hh
    refine ⟨h.1, h.2.1, h.2.2.1, h.2.2.2.1, h.2.2.2.2.1, ?_⟩
    simp only [held, Bool.and_eq_true, decide_eq_true_eq, not_and] at hh
    rcases h.2.2.2.2.2 with h6 | h6
    · exact .inl h6
    · have := hh (by omega)
      exact .inr ⟨h6.1, h6.2.1, by omega⟩
theorem backDeal_ticket (clock : Int) (d : Deal) : (backDeal clock d).ticket = d.ticket := by unfold backDeal; split <;> rfl
theorem backs {clock ck : Int} {rows : List Row} : ∀ (ds : List Deal) (p : List Int), monOk p = true → (∀ d ∈ ds, dealOk ck rows d = true) → p.sum + heldSum ds ≤ 100000 →
    monOk (ds.foldl (backPurse clock) p) = true ∧ (ds.foldl (backPurse clock) p).sum + heldSum (ds.map (backDeal clock)) = p.sum + heldSum ds
  | [], p, hp, _, _ => ⟨hp, rfl⟩
  | d :: ds, p, hp, hd, hs => by
    have hdo := dealOk_iff.1 (hd d (List.mem_cons_self ..))
    have hb := (heldSum_bd (fun x hx => hd x (List.mem_cons_of_mem _ hx))).1
    have hd' := fun x hx => hd x (List.mem_cons_of_mem d hx)
    have e1 : heldSum (d :: ds) = heldIn d + heldSum ds := by simp [heldSum]
    have e2 : heldSum ((d :: ds).map (backDeal clock)) = heldIn (backDeal clock d) + heldSum (ds.map (backDeal clock)) := by simp [heldSum]
    rw [e1] at hs
    rw [e1, e2, List.foldl_cons]
    unfold backPurse backDeal
    by_cases hc : (held d && decide (d.due < clock)) = true
    · rw [if_pos hc, if_pos hc]
      simp only [Bool.and_eq_true] at hc
      have hi : heldIn d = d.price := by simp [heldIn, hc.1]
      have hb0 : 0 < d.buyer := by simpa [held] using hc.1
      have hm := turnMay_in hp (who := d.buyer) (n := d.price) (by omega) (by omega) (by omega)
      have e : monTurn p d.buyer d.price = turned p d.buyer d.price := by simp [monTurn, hm]
      rw [e]
      have ih := backs (clock := clock) ds (turned p d.buyer d.price) (turned_ok hm) hd' (by rw [turned_sum hm]; omega)
      refine ⟨ih.1, ?_⟩
      have h0 : heldIn { d with buyer := 0, due := 0 } = 0 := by simp [heldIn, held]
      rw [h0]
      have := ih.2
      rw [turned_sum hm] at this
      unfold backPurse at this
      unfold backDeal at this
      omega
    · rw [if_neg hc, if_neg hc]
      have hi := (heldIn_bd (hd d (List.mem_cons_self ..))).1
      have ih := backs (clock := clock) ds p hp hd' (by omega)
      refine ⟨ih.1, ?_⟩
      have := ih.2
      unfold backPurse at this
      unfold backDeal at this
      omega
theorem tick_ok {m : Mkt} {rows : List Row} (h : MOk m rows) (hc : m.clock ≠ 99999) : MOk (tick m) rows := by
  have hb := backs (clock := m.clock + 1) m.deals m.purses h.mon h.deals.1 h.sum
  have hck := h.clk
  refine ⟨h.fold, hb.1, by simpa [tick] using h.dlen, by show 0 ≤ m.clock + 1 ∧ m.clock + 1 ≤ 99999; omega, h.nlen, h.slen, ⟨fun d hd => ?_, ?_⟩, h.nums, ?_⟩
  · simp only [tick, List.mem_map] at hd
    obtain ⟨x, hx, rfl⟩ := hd
    exact backDeal_ok (h.deals.1 x hx)
  · show (m.deals.map _).Pairwise _
    rw [List.pairwise_map]
    refine h.deals.2.imp fun {a b} hab => ?_
    rw [backDeal_ticket, backDeal_ticket]
    exact hab
  · show (m.deals.foldl (backPurse (m.clock + 1)) m.purses).sum + heldSum (m.deals.map (backDeal (m.clock + 1))) ≤ _
    rw [hb.2]
    exact h.sum
theorem tick_total {m : Mkt} {rows : List Row} (h : MOk m rows) : total (tick m) = total m := (backs (clock := m.clock + 1) m.deals m.purses h.mon h.deals.1 h.sum).2
theorem tick_mktOk {m : Mkt} (h : mktOk m = true) (hc : m.clock ≠ 99999) : mktOk (tick m) = true := by
  obtain ⟨rows, h⟩ := mktOk_iff.1 h
  exact mktOk_iff.2 ⟨rows, tick_ok h hc⟩
theorem mktNew_ok {p : List Int} (hp : monOk p = true) (hs : monSum p ≤ 100000) : MOk (mktNew p) rows0 := by
  have e : mktNew p = ⟨[], p, [], 0, [0, 0, 0, 0, 0], [0, 0, 0, 0, 0]⟩ := by simp [mktNew, hp, hs]
  rw [e]
  refine ⟨rfl, hp, by simp, by simp, rfl, rfl, ⟨by simp, by simp⟩, rfl, ?_⟩
  rw [monSum_eq hp] at hs
  simpa [heldSum] using hs
end Go.Proofs.Ytgceeggfdomdjaa.Sw

namespace Go.Proofs.Ytgceeggfdomdjaa.Sw
set_option maxRecDepth 100000
set_option linter.unusedSimpArgs false
set_option linter.unusedVariables false
open Go.RowKit (wrap64)

theorem mix_iff {a : Int} : mixOk a = true ↔ 0 ≤ a ∧ a ≤ 65520 := by simp [mixOk, inR_iff]
theorem pair_mix (a b : Int) : mixOk (pair a b) = true := by
  rw [mix_iff]; unfold pair
  exact ⟨Int.emod_nonneg _ (by omega), by have := Int.emod_lt_of_pos (a * 8191 + b * 127 + a * b + 31) (show (0 : Int) < 65521 by omega); omega⟩
theorem root_mix : ∀ (xs : List Int), xs.all mixOk = true → mixOk (root xs) = true
  | [], _ => by simp [root]; decide
  | [x], h => by simpa [root] using h
  | x :: y :: r, _ => by rw [root]; exact pair_mix _ _
theorem mixLeaf_mix (l : List Int) : mixOk (mixLeaf l) = true := by
  rw [mix_iff]; unfold mixLeaf
  exact ⟨Int.emod_nonneg _ (by omega), by have := Int.emod_lt_of_pos (mixLeafFrom 7 l * 31 + l.length) (show (0 : Int) < 65521 by omega); omega⟩
theorem ownLeaf_mix (t : Int) (r : Row) : mixOk (ownLeaf t r) = true := by
  unfold ownLeaf
  split
  · exact mixLeaf_mix _
  · rfl
theorem leavesFrom_mix : ∀ (rows : List Row) (t : Int), (leavesFrom t rows).all mixOk = true
  | [], _ => rfl
  | r :: rs, t => by simp only [leavesFrom, List.all_cons, ownLeaf_mix, leavesFrom_mix rs, Bool.and_self]
theorem ownLeaves_mix (rows : List Row) : (ownLeaves rows).all mixOk = true := leavesFrom_mix rows 0
theorem entLeaves_mix (es : List Ent) : (es.map entLeaf).all mixOk = true := by
  rw [List.all_map, List.all_eq_true]; exact fun e _ => mixLeaf_mix _
theorem all_take {p : Int → Bool} {xs : List Int} {k : Nat} (h : xs.all p = true) : (xs.take k).all p = true := by
  rw [List.all_eq_true] at *; exact fun x hx => h x (List.mem_of_mem_take hx)
theorem all_drop {p : Int → Bool} {xs : List Int} {k : Nat} (h : xs.all p = true) : (xs.drop k).all p = true := by
  rw [List.all_eq_true] at *; exact fun x hx => h x (List.mem_of_mem_drop hx)
theorem grow_ok : ∀ (n : Nat) (l : List Int) (m : Nat) (known : Bool), l.all mixOk = true → 1 ≤ m → m ≤ l.length → (grow n l m known).all mixOk = true ∧ (grow n l m known).length ≤ l.length
  | 0, l, m, known, _, _, _ => by simp [grow]
  | n + 1, l, m, known, h, h0, h1 => by
    rw [grow]
    split
    · rename_i hm
      split
      · simp
      · simp [root_mix l h]; omega
    · have hs := split_lt (n := l.length) (by omega)
      have hp := split_pos l.length
      split
      · have ih := grow_ok n (l.take (split l.length)) m known (all_take h) h0 (by rw [List.length_take]; omega)
        rw [List.length_take] at ih
        simp only [List.all_append, List.all_cons, List.all_nil, Bool.and_true, Bool.and_eq_true, List.length_append, List.length_singleton]
        exact ⟨⟨ih.1, root_mix _ (all_drop h)⟩, by omega⟩
      · have ih := grow_ok n (l.drop (split l.length)) (m - split l.length) false (all_drop h) (by omega) (by rw [List.length_drop]; omega)
        rw [List.length_drop] at ih
        simp only [List.all_append, List.all_cons, List.all_nil, Bool.and_true, Bool.and_eq_true, List.length_append, List.length_singleton]
        exact ⟨⟨ih.1, root_mix _ (all_take h)⟩, by omega⟩
theorem treOk_iff {l : List Int} : treOk l = true ↔ l.length ≤ 40 ∧ l.all mixOk = true := by simp [treOk]
theorem conProof_ok (l : List Int) (m : Int) : treOk (conProof l m) = true := by
  unfold conProof
  split
  · rename_i h
    simp only [Bool.and_eq_true, inR_iff] at h
    have h1 := treOk_iff.1 h.1
    have := grow_ok l.length l m.toNat true h1.2 (by omega) (by omega)
    exact treOk_iff.2 ⟨by unfold growth; omega, this.1⟩
  · rfl
theorem hedProof_ok (l : List Ent) (m : Int) : treOk (hedProof l m) = true := by
  unfold hedProof
  split
  · exact conProof_ok _ _
  · rfl
theorem hedOk_iff {h : Head} : hedOk h = true ↔ (0 ≤ h.size ∧ h.size ≤ 40) ∧ mixOk h.log = true ∧ mixOk h.own = true := by
  simp [hedOk, inR_iff, and_assoc]
theorem ownRoot_mix (rows : List Row) : mixOk (ownRoot rows) = true := by
  unfold ownRoot
  split
  · exact root_mix _ (ownLeaves_mix _)
  · rfl
theorem hedOf_some {l : List Ent} {h : Head} : hedOf l = some h ↔ ∃ rows, ownFold l = some rows ∧ h = ⟨l.length, root (l.map entLeaf), ownRoot rows⟩ := by
  unfold hedOf
  rw [Option.map_eq_some_iff]
  constructor
  · rintro ⟨r, h1, rfl⟩; exact ⟨r, h1, rfl⟩
  · rintro ⟨r, h1, rfl⟩; exact ⟨r, h1, rfl⟩
theorem hedOf_ok {l : List Ent} {h : Head} (e : hedOf l = some h) : hedOk h = true ∧ h.size = l.length := by
  obtain ⟨rows, h1, rfl⟩ := hedOf_some.1 e
  have := (ownFold_some.1 h1).1
  rw [hedOk_iff]
  exact ⟨⟨by dsimp only; omega, root_mix _ (entLeaves_mix _), ownRoot_mix _⟩, rfl⟩
theorem hedOf_getD_ok (l : List Ent) : hedOk ((hedOf l).getD headZ) = true := by
  cases h : hedOf l with
  | none => decide
  | some x => exact (hedOf_ok h).1

/-! ### gates -/
theorem rises_iff : ∀ (xs : List Int) (p : Int), risesFrom p xs = true ↔ (∀ x ∈ xs, (0 ≤ x ∧ x ≤ 7) ∧ p < x) ∧ xs.Pairwise (· < ·)
  | [], p => by simp [risesFrom]
  | x :: xs, p => by
    rw [risesFrom, Bool.and_eq_true, Bool.and_eq_true, inR_iff, decide_eq_true_eq, rises_iff xs]
    simp only [List.mem_cons, forall_eq_or_imp, List.pairwise_cons]
    constructor
    · rintro ⟨⟨h1, h2⟩, h3, h4⟩
      exact ⟨⟨⟨h1, h2⟩, fun y hy => ⟨(h3 y hy).1, Int.lt_trans h2 (h3 y hy).2⟩⟩, fun y hy => (h3 y hy).2, h4⟩
    · rintro ⟨⟨⟨h1, h2⟩, h3⟩, h4, h5⟩
      exact ⟨⟨h1, h2⟩, fun y hy => ⟨(h3 y hy).1, h4 y hy⟩, h5⟩
theorem gatOk_iff {g : Gate} : gatOk g = true ↔ hedOk g.head = true ∧ (∀ x ∈ g.done, 0 ≤ x ∧ x ≤ 7) ∧ g.done.Pairwise (· < ·) := by
  unfold gatOk
  rw [Bool.and_eq_true, rises_iff]
  constructor
  · rintro ⟨h1, h2, h3⟩; exact ⟨h1, fun x hx => (h2 x hx).1, h3⟩
  · rintro ⟨h1, h2, h3⟩; exact ⟨h1, fun x hx => ⟨h2 x hx, by have := h2 x hx; omega⟩, h3⟩
theorem insert_mem {d x : Int} : ∀ {ds : List Int}, x ∈ insert d ds ↔ x = d ∨ x ∈ ds
  | [] => by simp [insert]
  | y :: ys => by
    rw [insert]
    split
    · simp
    · rw [List.mem_cons, insert_mem, List.mem_cons]
      constructor
      · rintro (h | h | h)
        · exact .inr (.inl h)
        · exact .inl h
        · exact .inr (.inr h)
      · rintro (h | h | h)
        · exact .inr (.inl h)
        · exact .inl h
        · exact .inr (.inr h)
theorem insert_len {d : Int} : ∀ {ds : List Int}, (insert d ds).length = ds.length + 1
  | [] => rfl
  | y :: ys => by
    rw [insert]
    split
    · rfl
    · rw [List.length_cons, insert_len, List.length_cons]
theorem insert_rises {d : Int} : ∀ {ds : List Int}, ds.Pairwise (· < ·) → d ∉ ds → (insert d ds).Pairwise (· < ·)
  | [], _, _ => by simp [insert]
  | y :: ys, h, hn => by
    rw [List.pairwise_cons] at h
    simp only [List.mem_cons, not_or] at hn
    rw [insert]
    split
    · rw [List.pairwise_cons, List.pairwise_cons]
      refine ⟨fun x hx => ?_, h.1, h.2⟩
      rcases List.mem_cons.1 hx with rfl | hx
      · assumption
      · have := h.1 x hx; omega
    · rw [List.pairwise_cons]
      refine ⟨fun x hx => ?_, insert_rises h.2 hn.2⟩
      rcases insert_mem.1 hx with rfl | hx
      · omega
      · exact h.1 x hx
theorem hedFollows_ok {o h : Head} {p : List Int} (e : hedFollows o h p = true) : hedOk o = true ∧ hedOk h = true ∧ o.size ≤ h.size := by
  simp only [hedFollows, Bool.and_eq_true, decide_eq_true_eq] at e
  exact ⟨e.1.1.1.1, e.1.1.1.2, e.1.1.2⟩
theorem gatSync_ok {g : Gate} {h : Head} {p : List Int} (hg : gatOk g = true) : gatOk (gatSync g h p).1 = true := by
  unfold gatSync
  rw [if_pos hg]
  split
  · rename_i hf
    rw [gatOk_iff] at hg ⊢
    exact ⟨(hedFollows_ok hf).2.1, hg.2⟩
  · exact hg
theorem gatMay_facts {g : Gate} {t who : Int} {r : Row} {p : List Int} (h : gatMay g t who r p = true) : (1 ≤ who ∧ who ≤ 5) ∧ who = r.who ∧ r.used = false ∧ t ∉ g.done ∧ (0 ≤ t ∧ t ≤ 7) := by
  simp only [gatMay, ownCheck, Bool.and_eq_true, inR_iff, decide_eq_true_eq, Bool.not_eq_true'] at h
  refine ⟨h.1.1.1.1, h.1.1.1.2, h.1.1.2, ?_, h.2.1⟩
  have := h.1.2
  intro hm
  simp [hm] at this
theorem gatShow_ok {g : Gate} {t who : Int} {r : Row} {p : List Int} (hg : gatOk g = true) : gatOk (gatShow g t who r p).1 = true := by
  unfold gatShow
  rw [if_pos hg]
  split
  · rename_i hf
    have hf := gatMay_facts hf
    rw [gatOk_iff] at hg ⊢
    refine ⟨hg.1, fun x hx => ?_, insert_rises hg.2.2 hf.2.2.2.1⟩
    rcases insert_mem.1 hx with rfl | hx
    · exact hf.2.2.2.2
    · exact hg.2.1 x hx
  · exact hg
theorem gatNew_ok : gatOk gatNew = true := by
  rw [gatOk_iff]
  exact ⟨hedOf_getD_ok [], by simp [gatNew], by simp [gatNew]⟩

/-! ### worlds -/
structure WOk (w : World) : Prop where
  mkt : mktOk w.market = true
  first : monOk w.first = true
  lines : w.lines.length ≤ 300
  glen : w.gates.length = 2
  blen : w.bag.length ≤ 6
  lok : ∀ r ∈ w.lines, lineOk r = true
  gok : ∀ g ∈ w.gates, gatOk g = true
  bok : ∀ x ∈ w.bag, msgOk x = true
theorem wldOk_iff {w : World} : wldOk w = true ↔ WOk w := by
  simp only [wldOk, Bool.and_eq_true, decide_eq_true_eq, List.all_eq_true]
  constructor
  · rintro ⟨⟨⟨⟨⟨⟨⟨h1, h2⟩, h3⟩, h4⟩, h5⟩, h6⟩, h7⟩, h8⟩; exact ⟨h1, h2, h3, h4, h5, h6, h7, h8⟩
  · rintro ⟨h1, h2, h3, h4, h5, h6, h7, h8⟩; exact ⟨⟨⟨⟨⟨⟨⟨h1, h2⟩, h3⟩, h4⟩, h5⟩, h6⟩, h7⟩, h8⟩
theorem gateAt_ok {w : World} (h : WOk w) {k : Int} (hk : 0 ≤ k ∧ k ≤ 1) : gatOk (gateAt w k) = true := by
  unfold gateAt
  have hl := h.glen
  obtain ⟨g, hg⟩ : ∃ g, w.gates[k.toNat]? = some g := ⟨_, List.getElem?_eq_getElem (by omega)⟩
  rw [getD_of hg]
  exact h.gok g (List.mem_of_getElem? hg)
theorem msgAt_ok {w : World} (h : WOk w) {i : Int} (hi : 0 ≤ i ∧ i ≤ (w.bag.length : Int) - 1) : msgOk (msgAt w i) = true := by
  unfold msgAt
  obtain ⟨g, hg⟩ : ∃ g, w.bag[i.toNat]? = some g := ⟨_, List.getElem?_eq_getElem (by omega)⟩
  rw [getD_of hg]
  exact h.bok g (List.mem_of_getElem? hg)
theorem ask_ok {w : World} (h : WOk w) (r : Req) : WOk (ask w r).1 := by
  unfold ask
  split
  · rename_i hr
    simp only [Bool.and_eq_true, decide_eq_true_eq] at hr
    refine ⟨doIt_mktOk h.mkt hr.1, h.first, by simp; omega, h.glen, h.blen, fun x hx => ?_, h.gok, h.bok⟩
    rcases List.mem_append.1 hx with hx | hx
    · exact h.lok x hx
    · obtain rfl := List.mem_singleton.1 hx
      simp [lineOk, hr.1]
  · exact h
theorem tickW_ok {w : World} (h : WOk w) : WOk (tickW w) := by
  unfold tickW
  split
  · rename_i hr
    simp only [Bool.and_eq_true, decide_eq_true_eq] at hr
    refine ⟨tick_mktOk h.mkt hr.1, h.first, by simp; omega, h.glen, h.blen, fun x hx => ?_, h.gok, h.bok⟩
    rcases List.mem_append.1 hx with hx | hx
    · exact h.lok x hx
    · obtain rfl := List.mem_singleton.1 hx
      rfl
  · exact h
theorem foldLines_ok : ∀ (rs : List Req) (m x : Mkt), mktOk m = true → foldLines m rs = some x → mktOk x = true
  | [], m, x, h, e => by simp [foldLines] at e; rw [← e]; exact h
  | r :: rs, m, x, h, e => by
    rw [foldLines] at e
    split at e
    · split at e
      · cases e
      · exact foldLines_ok rs _ x (tick_mktOk h ‹_›) e
    · split at e
      · exact foldLines_ok rs _ x (doIt_mktOk h ‹_›) e
      · cases e
theorem wldFold_ok {first : List Int} {lines : List Req} {x : Mkt} (e : wldFold first lines = some x) : mktOk x = true := by
  unfold wldFold at e
  split at e
  · rename_i h
    simp only [Bool.and_eq_true, decide_eq_true_eq] at h
    exact foldLines_ok _ _ _ (mktOk_iff.2 ⟨_, mktNew_ok h.1.1 h.1.2⟩) e
  · cases e
theorem fall_ok {w : World} (h : WOk w) : WOk (fall w) := by
  refine ⟨?_, h.first, h.lines, h.glen, by simp [fall], h.lok, h.gok, by simp [fall]⟩
  show mktOk ((wldFold w.first w.lines).getD w.market) = true
  cases e : wldFold w.first w.lines with
  | none => exact h.mkt
  | some x => exact wldFold_ok e
theorem send_ok {w : World} (h : WOk w) (k : Int) : WOk (send w k) := by
  unfold send
  split
  · rename_i hr
    simp only [Bool.and_eq_true, decide_eq_true_eq, inR_iff] at hr
    refine ⟨h.mkt, h.first, h.lines, h.glen, by simp; omega, h.lok, h.gok, fun x hx => ?_⟩
    rcases List.mem_append.1 hx with hx | hx
    · exact h.bok x hx
    · obtain rfl := List.mem_singleton.1 hx
      simp only [msgOk, Bool.and_eq_true, inR_iff]
      exact ⟨⟨hr.1, hedOf_getD_ok _⟩, hedProof_ok _ _⟩
  · exact h
theorem lose_ok {w : World} (h : WOk w) (i : Int) : WOk (lose w i) :=
  ⟨h.mkt, h.first, h.lines, h.glen, Nat.le_trans (List.eraseIdx_sublist w.bag i.toNat).length_le h.blen, h.lok, h.gok, fun x hx => h.bok x ((List.eraseIdx_sublist w.bag i.toNat).subset hx)⟩
theorem setGate_ok {w : World} (h : WOk w) {k : Nat} {g : Gate} (hg : gatOk g = true) : WOk { w with gates := w.gates.set k g } := by
  refine ⟨h.mkt, h.first, h.lines, by simpa using h.glen, h.blen, h.lok, fun x hx => ?_, h.bok⟩
  rcases List.mem_or_eq_of_mem_set hx with hx | rfl
  · exact h.gok x hx
  · exact hg
theorem heard_ok {w : World} (h : WOk w) {x : Msg} (hx : msgOk x = true) : WOk (heard w x) := by
  simp only [msgOk, Bool.and_eq_true, inR_iff] at hx
  exact setGate_ok h (gatSync_ok (gateAt_ok h hx.1.1))
theorem hear_ok {w : World} (h : WOk w) {i : Int} (hi : 0 ≤ i ∧ i ≤ (w.bag.length : Int) - 1) : WOk (hear w i) := heard_ok (lose_ok h i) (msgAt_ok h hi)
theorem twice_ok {w : World} (h : WOk w) {i : Int} (hi : 0 ≤ i ∧ i ≤ (w.bag.length : Int) - 1) : WOk (twice w i) := by
  unfold twice
  split
  · refine ⟨h.mkt, h.first, h.lines, h.glen, by simp; omega, h.lok, h.gok, fun x hx => ?_⟩
    rcases List.mem_append.1 hx with hx | hx
    · exact h.bok x hx
    · obtain rfl := List.mem_singleton.1 hx
      exact msgAt_ok h hi
  · exact h
theorem showIt_ok {w : World} (h : WOk w) (k t who : Int) : WOk (showIt w k t who).1 := by
  unfold showIt
  split
  · rename_i hr
    simp only [Bool.and_eq_true, decide_eq_true_eq, inR_iff] at hr
    split
    · exact h
    · split
      · exact setGate_ok h (gatShow_ok (gateAt_ok h hr.1.1))
      · exact h
  · exact h
theorem tellOne_ok {w : World} (h : WOk w) (t : Int) : WOk (tellOne w t) := by
  unfold tellOne
  split
  · exact ask_ok h _
  · exact h
theorem tells_ok : ∀ (ts : List Int) {w : World}, WOk w → WOk (ts.foldl tellOne w)
  | [], _, h => h
  | t :: ts, _, h => tells_ok ts (tellOne_ok h t)
theorem tell_ok {w : World} (h : WOk w) (k : Int) : WOk (tell w k) := by
  unfold tell
  split
  · exact tells_ok _ h
  · exact h
theorem step_ok {w : World} (h : WOk w) (e : Ev) : WOk (step w e).1 := by
  unfold step
  split
  · exact ask_ok h _
  split
  · exact tickW_ok h
  split
  · exact fall_ok h
  split
  · exact send_ok h _
  split
  · dsimp only; split
    · exact hear_ok h (inR_iff.1 ‹_›)
    · exact h
  split
  · dsimp only; split
    · exact lose_ok h _
    · exact h
  split
  · dsimp only; split
    · exact twice_ok h (inR_iff.1 ‹_›)
    · exact h
  split
  · exact showIt_ok h _ _ _
  split
  · exact tell_ok h _
  · exact h
theorem wldNew_ok {p : List Int} (hp : monOk p = true) (hs : monSum p ≤ 100000) : WOk (wldNew p) := by
  have e : wldNew p = ⟨p, mktNew p, [], [gatNew, gatNew], []⟩ := by simp [wldNew, hp, hs]
  rw [e]
  exact ⟨mktOk_iff.2 ⟨_, mktNew_ok hp hs⟩, hp, by simp, rfl, by simp, by simp, by simp [gatNew_ok], by simp⟩
theorem run_ok : ∀ (es : List Ev) {w : World}, WOk w → WOk (runFrom w es)
  | [], _, h => h
  | e :: es, _, h => run_ok es (step_ok h e)
end Go.Proofs.Ytgceeggfdomdjaa.Sw

namespace Go.Proofs.Ytgceeggfdomdjaa
set_option maxRecDepth 100000
set_option linter.unusedSimpArgs false
set_option linter.unusedVariables false
open Go.RowKit Go

def Sw.Deal.enc (d : Sw.Deal) : List Value := [.int .i64 d.ticket, .int .i64 d.seller, .int .i64 d.price, .int .i64 d.buyer, .int .i64 d.due]
def Sw.Req.enc (r : Sw.Req) : List Value := [.int .i64 r.user, .int .i64 r.n, .int .i64 r.kind, .int .i64 r.ticket, .int .i64 r.who, .int .i64 r.price]
def Sw.Ev.enc (e : Sw.Ev) : List Value := [.int .i64 e.kind, .int .i64 e.req.user, .int .i64 e.req.n, .int .i64 e.req.kind, .int .i64 e.req.ticket, .int .i64 e.req.who, .int .i64 e.req.price, .int .i64 e.at_, .int .i64 e.ticket, .int .i64 e.who]
abbrev RDl := Rs Sw.Deal.enc 5
abbrev RQ := Rs Sw.Req.enc 6
abbrev REv := Rs Sw.Ev.enc 10
/-- A gate, a message as their cells hold them. -/
structure GV where
  h : Sw.Head
  A : Option Addr
  c : Nat
  n : Nat
structure XV where
  g : Int
  h : Sw.Head
  A : Option Addr
  c : Nat
  n : Nat
def GV.enc (v : GV) : List Value := [.int .i64 v.h.size, .int .i64 v.h.log, .int .i64 v.h.own, .slice v.A v.n v.c]
def XV.enc (v : XV) : List Value := [.int .i64 v.g, .int .i64 v.h.size, .int .i64 v.h.log, .int .i64 v.h.own, .slice v.A v.n v.c]
/-- Slices of gates, of messages: what each one shows may be read. -/
structure RG (w : World) (lo : Nat) (A : Option Addr) (c n : Nat) (gs : List Sw.Gate) : Prop where
  ex : ∃ vs : List GV, Rs GV.enc 4 w lo A c n vs ∧ n = gs.length ∧ ∀ (k : Nat) (v : GV) (g : Sw.Gate), vs[k]? = some v → gs[k]? = some g → v.h = g.head ∧ RI w lo v.A v.c v.n g.done
structure RX (w : World) (lo : Nat) (A : Option Addr) (c n : Nat) (xs : List Sw.Msg) : Prop where
  ex : ∃ vs : List XV, Rs XV.enc 5 w lo A c n vs ∧ n = xs.length ∧ ∀ (k : Nat) (v : XV) (x : Sw.Msg), vs[k]? = some v → xs[k]? = some x → v.g = x.gate ∧ v.h = x.head ∧ RI w lo v.A v.c v.n x.proof
structure RM (w : World) (lo : Nat) (aL : Option Addr) (aLc aLn : Nat) (aP : Option Addr) (aPc aPn : Nat) (aD : Option Addr) (aDc aDn : Nat) (aN : Option Addr) (aNc aNn : Nat) (aS : Option Addr) (aSc aSn : Nat) (m : Sw.Mkt) : Prop where
  log : RE w lo aL aLc aLn m.log
  purses : RI w lo aP aPc aPn m.purses
  deals : RDl w lo aD aDc aDn m.deals
  nums : RI w lo aN aNc aNn m.nums
  said : RI w lo aS aSc aSn m.said
structure RW (w : World) (lo : Nat) (aF : Option Addr) (aFc aFn : Nat) (aL : Option Addr) (aLc aLn : Nat) (aP : Option Addr) (aPc aPn : Nat) (aD : Option Addr) (aDc aDn : Nat) (aN : Option Addr) (aNc aNn : Nat) (aS : Option Addr) (aSc aSn : Nat) (aI : Option Addr) (aIc aIn : Nat) (aG : Option Addr) (aGc aGn : Nat) (aB : Option Addr) (aBc aBn : Nat) (x : Sw.World) : Prop where
  first : RI w lo aF aFc aFn x.first
  mkt : RM w lo aL aLc aLn aP aPc aPn aD aDc aDn aN aNc aNn aS aSc aSn x.market
  lines : RQ w lo aI aIc aIn x.lines
  gates : RG w lo aG aGc aGn x.gates
  bag : RX w lo aB aBc aBn x.bag

section
variable {w w0 W : World} {lo lo' c n k : Nat} {A : Option Addr}
theorem RG.keep {gs : List Sw.Gate} (h : RG w0 lo A c n gs) (hk : KF lo w0 W) : RG W lo A c n gs := by
  obtain ⟨vs, h1, h2, h3⟩ := h.ex
  exact ⟨vs, h1.keep hk, h2, fun k v g hv hg => ⟨(h3 k v g hv hg).1, (h3 k v g hv hg).2.keep hk⟩⟩
theorem RG.less {gs : List Sw.Gate} (h : RG w0 lo A c n gs) (hl : lo' ≤ lo) : RG w0 lo' A c n gs := by
  obtain ⟨vs, h1, h2, h3⟩ := h.ex
  exact ⟨vs, h1.less hl, h2, fun k v g hv hg => ⟨(h3 k v g hv hg).1, (h3 k v g hv hg).2.less hl⟩⟩
theorem RX.keep {xs : List Sw.Msg} (h : RX w0 lo A c n xs) (hk : KF lo w0 W) : RX W lo A c n xs := by
  obtain ⟨vs, h1, h2, h3⟩ := h.ex
  exact ⟨vs, h1.keep hk, h2, fun k v g hv hg => ⟨(h3 k v g hv hg).1, (h3 k v g hv hg).2.1, (h3 k v g hv hg).2.2.keep hk⟩⟩
theorem RX.less {xs : List Sw.Msg} (h : RX w0 lo A c n xs) (hl : lo' ≤ lo) : RX w0 lo' A c n xs := by
  obtain ⟨vs, h1, h2, h3⟩ := h.ex
  exact ⟨vs, h1.less hl, h2, fun k v g hv hg => ⟨(h3 k v g hv hg).1, (h3 k v g hv hg).2.1, (h3 k v g hv hg).2.2.less hl⟩⟩
theorem RG.at0 {gs : List Sw.Gate} (h : RG w0 lo A c n gs) (hk : KF lo w0 W) : RG W 0 A c n gs := (h.keep hk).less (Nat.zero_le _)
theorem RX.at0 {xs : List Sw.Msg} (h : RX w0 lo A c n xs) (hk : KF lo w0 W) : RX W 0 A c n xs := (h.keep hk).less (Nat.zero_le _)
theorem RM.keep {aL : Option Addr} {aLc aLn : Nat} {aP : Option Addr} {aPc aPn : Nat} {aD : Option Addr} {aDc aDn : Nat} {aN : Option Addr} {aNc aNn : Nat} {aS : Option Addr} {aSc aSn : Nat} {m : Sw.Mkt} (h : RM w0 lo aL aLc aLn aP aPc aPn aD aDc aDn aN aNc aNn aS aSc aSn m) (hk : KF lo w0 W) : RM W lo aL aLc aLn aP aPc aPn aD aDc aDn aN aNc aNn aS aSc aSn m := ⟨h.1.keep hk, h.2.keep hk, h.3.keep hk, h.4.keep hk, h.5.keep hk⟩
theorem RM.less {aL : Option Addr} {aLc aLn : Nat} {aP : Option Addr} {aPc aPn : Nat} {aD : Option Addr} {aDc aDn : Nat} {aN : Option Addr} {aNc aNn : Nat} {aS : Option Addr} {aSc aSn : Nat} {m : Sw.Mkt} (h : RM w0 lo aL aLc aLn aP aPc aPn aD aDc aDn aN aNc aNn aS aSc aSn m) (hl : lo' ≤ lo) : RM w0 lo' aL aLc aLn aP aPc aPn aD aDc aDn aN aNc aNn aS aSc aSn m := ⟨h.1.less hl, h.2.less hl, h.3.less hl, h.4.less hl, h.5.less hl⟩
theorem RM.at0 {aL : Option Addr} {aLc aLn : Nat} {aP : Option Addr} {aPc aPn : Nat} {aD : Option Addr} {aDc aDn : Nat} {aN : Option Addr} {aNc aNn : Nat} {aS : Option Addr} {aSc aSn : Nat} {m : Sw.Mkt} (h : RM w0 lo aL aLc aLn aP aPc aPn aD aDc aDn aN aNc aNn aS aSc aSn m) (hk : KF lo w0 W) : RM W 0 aL aLc aLn aP aPc aPn aD aDc aDn aN aNc aNn aS aSc aSn m := (h.keep hk).less (Nat.zero_le _)
theorem RW.keep {aF : Option Addr} {aFc aFn : Nat} {aL : Option Addr} {aLc aLn : Nat} {aP : Option Addr} {aPc aPn : Nat} {aD : Option Addr} {aDc aDn : Nat} {aN : Option Addr} {aNc aNn : Nat} {aS : Option Addr} {aSc aSn : Nat} {aI : Option Addr} {aIc aIn : Nat} {aG : Option Addr} {aGc aGn : Nat} {aB : Option Addr} {aBc aBn : Nat} {x : Sw.World} (h : RW w0 lo aF aFc aFn aL aLc aLn aP aPc aPn aD aDc aDn aN aNc aNn aS aSc aSn aI aIc aIn aG aGc aGn aB aBc aBn x) (hk : KF lo w0 W) : RW W lo aF aFc aFn aL aLc aLn aP aPc aPn aD aDc aDn aN aNc aNn aS aSc aSn aI aIc aIn aG aGc aGn aB aBc aBn x := ⟨h.1.keep hk, h.2.keep hk, h.3.keep hk, h.4.keep hk, h.5.keep hk⟩
theorem RW.less {aF : Option Addr} {aFc aFn : Nat} {aL : Option Addr} {aLc aLn : Nat} {aP : Option Addr} {aPc aPn : Nat} {aD : Option Addr} {aDc aDn : Nat} {aN : Option Addr} {aNc aNn : Nat} {aS : Option Addr} {aSc aSn : Nat} {aI : Option Addr} {aIc aIn : Nat} {aG : Option Addr} {aGc aGn : Nat} {aB : Option Addr} {aBc aBn : Nat} {x : Sw.World} (h : RW w0 lo aF aFc aFn aL aLc aLn aP aPc aPn aD aDc aDn aN aNc aNn aS aSc aSn aI aIc aIn aG aGc aGn aB aBc aBn x) (hl : lo' ≤ lo) : RW w0 lo' aF aFc aFn aL aLc aLn aP aPc aPn aD aDc aDn aN aNc aNn aS aSc aSn aI aIc aIn aG aGc aGn aB aBc aBn x := ⟨h.1.less hl, h.2.less hl, h.3.less hl, h.4.less hl, h.5.less hl⟩
theorem RW.at0 {aF : Option Addr} {aFc aFn : Nat} {aL : Option Addr} {aLc aLn : Nat} {aP : Option Addr} {aPc aPn : Nat} {aD : Option Addr} {aDc aDn : Nat} {aN : Option Addr} {aNc aNn : Nat} {aS : Option Addr} {aSc aSn : Nat} {aI : Option Addr} {aIc aIn : Nat} {aG : Option Addr} {aGc aGn : Nat} {aB : Option Addr} {aBc aBn : Nat} {x : Sw.World} (h : RW w0 lo aF aFc aFn aL aLc aLn aP aPc aPn aD aDc aDn aN aNc aNn aS aSc aSn aI aIc aIn aG aGc aGn aB aBc aBn x) (hk : KF lo w0 W) : RW W 0 aF aFc aFn aL aLc aLn aP aPc aPn aD aDc aDn aN aNc aNn aS aSc aSn aI aIc aIn aG aGc aGn aB aBc aBn x := (h.keep hk).less (Nat.zero_le _)

theorem at_D {xs : List Sw.Deal} (h : RDl w lo A c n xs) (hk : k < n) :
    ∃ g off x, A = some ⟨g, off, none⟩ ∧ lo ≤ g ∧ g < w.heap.size ∧ xs.drop k = x :: xs.drop (k + 1) ∧ xs[k]? = some x ∧
      w.cell? ⟨g, off + k * 5, none⟩ = some (.int .i64 x.ticket) ∧ w.cell? ⟨g, off + k * 5 + 1, none⟩ = some (.int .i64 x.seller) ∧
      w.cell? ⟨g, off + k * 5 + 2, none⟩ = some (.int .i64 x.price) ∧ w.cell? ⟨g, off + k * 5 + 3, none⟩ = some (.int .i64 x.buyer) ∧ w.cell? ⟨g, off + k * 5 + 4, none⟩ = some (.int .i64 x.due) := by
  obtain ⟨g, off, x, h1, h2, h3, h4, h5, h6⟩ := Rs.at_ h (fun _ => rfl) hk
  exact ⟨g, off, x, h1, h2, h3, h4, h5, by simpa using h6 0 _ (by omega) rfl, h6 1 _ (by omega) rfl, h6 2 _ (by omega) rfl, h6 3 _ (by omega) rfl, h6 4 _ (by omega) rfl⟩
theorem at_Q {xs : List Sw.Req} (h : RQ w lo A c n xs) (hk : k < n) :
    ∃ g off x, A = some ⟨g, off, none⟩ ∧ lo ≤ g ∧ g < w.heap.size ∧ xs.drop k = x :: xs.drop (k + 1) ∧ xs[k]? = some x ∧
      w.cell? ⟨g, off + k * 6, none⟩ = some (.int .i64 x.user) ∧ w.cell? ⟨g, off + k * 6 + 1, none⟩ = some (.int .i64 x.n) ∧
      w.cell? ⟨g, off + k * 6 + 2, none⟩ = some (.int .i64 x.kind) ∧ w.cell? ⟨g, off + k * 6 + 3, none⟩ = some (.int .i64 x.ticket) ∧
      w.cell? ⟨g, off + k * 6 + 4, none⟩ = some (.int .i64 x.who) ∧ w.cell? ⟨g, off + k * 6 + 5, none⟩ = some (.int .i64 x.price) := by
  obtain ⟨g, off, x, h1, h2, h3, h4, h5, h6⟩ := Rs.at_ h (fun _ => rfl) hk
  exact ⟨g, off, x, h1, h2, h3, h4, h5, by simpa using h6 0 _ (by omega) rfl, h6 1 _ (by omega) rfl, h6 2 _ (by omega) rfl, h6 3 _ (by omega) rfl, h6 4 _ (by omega) rfl, h6 5 _ (by omega) rfl⟩
theorem at_Ev {xs : List Sw.Ev} (h : REv w lo A c n xs) (hk : k < n) :
    ∃ g off x, A = some ⟨g, off, none⟩ ∧ lo ≤ g ∧ g < w.heap.size ∧ xs.drop k = x :: xs.drop (k + 1) ∧ xs[k]? = some x ∧
      w.cell? ⟨g, off + k * 10, none⟩ = some (.int .i64 x.kind) ∧ w.cell? ⟨g, off + k * 10 + 1, none⟩ = some (.int .i64 x.req.user) ∧ w.cell? ⟨g, off + k * 10 + 2, none⟩ = some (.int .i64 x.req.n) ∧
      w.cell? ⟨g, off + k * 10 + 3, none⟩ = some (.int .i64 x.req.kind) ∧ w.cell? ⟨g, off + k * 10 + 4, none⟩ = some (.int .i64 x.req.ticket) ∧
      w.cell? ⟨g, off + k * 10 + 5, none⟩ = some (.int .i64 x.req.who) ∧ w.cell? ⟨g, off + k * 10 + 6, none⟩ = some (.int .i64 x.req.price) ∧
      w.cell? ⟨g, off + k * 10 + 7, none⟩ = some (.int .i64 x.at_) ∧ w.cell? ⟨g, off + k * 10 + 8, none⟩ = some (.int .i64 x.ticket) ∧ w.cell? ⟨g, off + k * 10 + 9, none⟩ = some (.int .i64 x.who) := by
  obtain ⟨g, off, x, h1, h2, h3, h4, h5, h6⟩ := Rs.at_ h (fun _ => rfl) hk
  exact ⟨g, off, x, h1, h2, h3, h4, h5, by simpa using h6 0 _ (by omega) rfl, h6 1 _ (by omega) rfl, h6 2 _ (by omega) rfl, h6 3 _ (by omega) rfl, h6 4 _ (by omega) rfl, h6 5 _ (by omega) rfl, h6 6 _ (by omega) rfl, h6 7 _ (by omega) rfl, h6 8 _ (by omega) rfl, h6 9 _ (by omega) rfl⟩
theorem at_G {gs : List Sw.Gate} (h : RG w lo A c n gs) (hk : k < n) :
    ∃ g off x B d m, A = some ⟨g, off, none⟩ ∧ lo ≤ g ∧ g < w.heap.size ∧ gs.drop k = x :: gs.drop (k + 1) ∧ gs[k]? = some x ∧
      w.cell? ⟨g, off + k * 4, none⟩ = some (.int .i64 x.head.size) ∧ w.cell? ⟨g, off + k * 4 + 1, none⟩ = some (.int .i64 x.head.log) ∧
      w.cell? ⟨g, off + k * 4 + 2, none⟩ = some (.int .i64 x.head.own) ∧ w.cell? ⟨g, off + k * 4 + 3, none⟩ = some (.slice B m d) ∧ RI w lo B d m x.done := by
  obtain ⟨vs, h1, h2, h3⟩ := h.ex
  obtain ⟨g, off, v, h4, h5, h6, h7, h8, h9⟩ := Rs.at_ h1 (fun _ => rfl) hk
  have hg : gs[k]? = some gs[k] := List.getElem?_eq_getElem (by omega)
  obtain ⟨e, hr⟩ := h3 k v _ h8 hg
  refine ⟨g, off, gs[k], v.A, v.c, v.n, h4, h5, h6, List.drop_eq_getElem_cons (by omega), hg, ?_, ?_, ?_, h9 3 _ (by omega) rfl, hr⟩
  · rw [← e]; simpa using h9 0 _ (by omega) rfl
  · rw [← e]; exact h9 1 _ (by omega) rfl
  · rw [← e]; exact h9 2 _ (by omega) rfl
theorem at_X {xs : List Sw.Msg} (h : RX w lo A c n xs) (hk : k < n) :
    ∃ g off x B d m, A = some ⟨g, off, none⟩ ∧ lo ≤ g ∧ g < w.heap.size ∧ xs.drop k = x :: xs.drop (k + 1) ∧ xs[k]? = some x ∧
      w.cell? ⟨g, off + k * 5, none⟩ = some (.int .i64 x.gate) ∧ w.cell? ⟨g, off + k * 5 + 1, none⟩ = some (.int .i64 x.head.size) ∧ w.cell? ⟨g, off + k * 5 + 2, none⟩ = some (.int .i64 x.head.log) ∧
      w.cell? ⟨g, off + k * 5 + 3, none⟩ = some (.int .i64 x.head.own) ∧ w.cell? ⟨g, off + k * 5 + 4, none⟩ = some (.slice B m d) ∧ RI w lo B d m x.proof := by
  obtain ⟨vs, h1, h2, h3⟩ := h.ex
  obtain ⟨g, off, v, h4, h5, h6, h7, h8, h9⟩ := Rs.at_ h1 (fun _ => rfl) hk
  have hg : xs[k]? = some xs[k] := List.getElem?_eq_getElem (by omega)
  obtain ⟨e1, e, hr⟩ := h3 k v _ h8 hg
  refine ⟨g, off, xs[k], v.A, v.c, v.n, h4, h5, h6, List.drop_eq_getElem_cons (by omega), hg, ?_, ?_, ?_, ?_, h9 4 _ (by omega) rfl, hr⟩
  · rw [← e1]; simpa using h9 0 _ (by omega) rfl
  · rw [← e]; exact h9 1 _ (by omega) rfl
  · rw [← e]; exact h9 2 _ (by omega) rfl
  · rw [← e]; exact h9 3 _ (by omega) rfl
theorem Rs.big {α : Type} {enc : α → List Value} {sz : Nat} {xs : List α} (h : Rs enc sz w lo A c n xs) : n ≤ 9223372036854775807 := by
  have := h.2.le; have := h.2.cap; unfold maxLen at this; omega
theorem RG.len {gs : List Sw.Gate} (h : RG w lo A c n gs) : n = gs.length ∧ n ≤ 9223372036854775807 := by
  obtain ⟨vs, h1, h2, _⟩ := h.ex
  exact ⟨h2, h1.big⟩
theorem RX.len {xs : List Sw.Msg} (h : RX w lo A c n xs) : n = xs.length ∧ n ≤ 9223372036854775807 := by
  obtain ⟨vs, h1, h2, _⟩ := h.ex
  exact ⟨h2, h1.big⟩
end
end Go.Proofs.Ytgceeggfdomdjaa

namespace Go.Proofs.Ytgceeggfdomdjaa
set_option maxRecDepth 100000
set_option linter.unusedSimpArgs false
set_option linter.unusedVariables false
open Go.RowKit Go
set_option maxHeartbeats 1000000

/-- A reader at block rb; it has read p times. -/
structure Rdr (w : World) (rb p : Nat) : Prop where
  ex : ∃ A c n bs, w.cell? ⟨rb, 0, none⟩ = some (.slice A n c) ∧ RB w 0 A c n bs ∧ n ≤ 2000 ∧ (∀ x ∈ bs, 0 ≤ x ∧ x ≤ 255) ∧ ∀ a, A = some a → 0 < n → a.block < rb
  pos : w.cell? ⟨rb, 1, none⟩ = some (.int .i64 p)
  free : ∀ i, w.frozen? ⟨rb, i, none⟩ = false
  lt : rb < w.heap.size
  lb : Lb w rb 2
/-- Blocks up to rb are as they were. -/
structure KB (rb : Nat) (w w' : World) : Prop where
  size : w.heap.size ≤ w'.heap.size
  block : ∀ b, b ≤ rb → b < w.heap.size → w'.heap[b]? = w.heap[b]?
theorem bR (rb : Nat) (w : World) : KB rb w w := ⟨Nat.le_refl _, fun _ _ _ => rfl⟩
theorem bA {rb : Nat} {a w : World} {o : Obj} (h : KB rb a w) : KB rb a (w.alloc o) :=
  ⟨by simp; have := h.size; omega, fun i hl hi => (Below.heap_alloc _ _ _ (Nat.lt_of_lt_of_le hi h.size)).trans (h.block i hl hi)⟩
theorem bD {rb : Nat} {a w : World} (h : KB rb a w) : KB rb a w.drew := ⟨h.size, h.block⟩
theorem bN {rb : Nat} {a w : World} {n : Nat} (h : KB rb a w) : KB rb a (w.drewN n) := ⟨h.size, h.block⟩
theorem bS {rb : Nat} {a w : World} {p : Addr} {u : Value} (h : KB rb a w) (hp : rb < p.block) : KB rb a (w.setCell p u) :=
  ⟨by simpa [World.setCell] using h.size, fun i hl hi => (Below.heap_setCell _ _ _ _ (by rintro rfl; omega)).trans (h.block i hl hi)⟩
theorem bE {rb : Nat} {a w w' : World} (hb : Ex w w') (h : KB rb a w) : KB rb a w' :=
  ⟨Nat.le_trans h.size hb.size, fun i hl hi => (hb.block i (Nat.lt_of_lt_of_le hi h.size) (fun h => h)).trans (h.block i hl hi)⟩
theorem bC {g rb : Nat} {a w w' : World} (hb : Ch (· = g) w w') (h : KB rb a w) (hg : rb < g) : KB rb a w' :=
  ⟨Nat.le_trans h.size hb.size, fun i hl hi => (hb.block i (Nat.lt_of_lt_of_le hi h.size) (by omega)).trans (h.block i hl hi)⟩
theorem kb_ {p : Prop} (h : p := by with_reducible repeat (first | exact bR _ _ | apply bA | apply bD | apply bN | (refine bS ?_ (by first | omega | (simp only [zA, zC, zD, zN]; omega))) | (apply bE; assumption) | (refine bC (by assumption) ?_ (by first | omega | (simp only [zA, zC, zD, zN]; omega))))) : p := h
theorem Rdr.keep {w w' : World} {rb p : Nat} (h : Rdr w rb p) (k : KB rb w w') : Rdr w' rb p := by
  obtain ⟨A, c, n, bs, h1, h2, h3, h4, h5⟩ := h.ex
  have hb := k.block rb (Nat.le_refl _) h.lt
  refine ⟨⟨A, c, n, bs, (World.cell?_of_block (w := w) (a := ⟨rb, 0, none⟩) hb).trans h1, ⟨h2.1, ?_⟩, h3, h4, h5⟩, (World.cell?_of_block (w := w) (a := ⟨rb, 1, none⟩) hb).trans h.pos, fun i => (World.frozen?_of_block (w := w) (a := ⟨rb, i, none⟩) hb).trans (h.free i), Nat.lt_of_lt_of_le h.lt k.size, ?_⟩
  case refine_2 => obtain ⟨cs, T, h6, h7⟩ := h.lb; exact ⟨cs, T, hb.trans h6, h7⟩
  refine ⟨h2.2.len, h2.2.le, h2.2.cap, h2.2.nil, fun a ha hn => ?_⟩
  obtain ⟨q1, q2, q3, q4⟩ := h2.2.cells a ha hn
  exact ⟨q1, q2, Nat.lt_of_lt_of_le q3 k.size, fun j u hu => (World.cell?_of_block (w := w) (a := ⟨a.block, a.off + j, none⟩) (k.block a.block (Nat.le_of_lt (h5 a ha hn)) q3)).trans (q4 j u hu)⟩
theorem Rdr.step {w : World} {rb p : Nat} (h : Rdr w rb p) : Rdr (w.setCell ⟨rb, 1, none⟩ (.int .i64 ((p : Int) + 1))) rb (p + 1) := by
  obtain ⟨A, c, n, bs, h1, h2, h3, h4, h5⟩ := h.ex
  have hne : ∀ b, b ≠ rb → (w.setCell ⟨rb, 1, none⟩ (.int .i64 ((p : Int) + 1))).heap[b]? = w.heap[b]? := fun b hb => Below.heap_setCell _ _ _ _ hb
  obtain ⟨o, ho⟩ : ∃ o, w.heap[rb]? = some o := ⟨_, Array.getElem?_eq_getElem h.lt⟩
  have hpos := h.pos
  cases o with
  | cells cs T fz =>
    have hs : ∀ i, i ≠ 1 → (w.setCell ⟨rb, 1, none⟩ (.int .i64 ((p : Int) + 1))).cell? ⟨rb, i, none⟩ = w.cell? ⟨rb, i, none⟩ := by
      intro i hi
      simp [World.cell?, World.setCell, Array.getElem?_modify, ho, Array.getElem?_setIfInBounds, Ne.symm hi]
    refine ⟨⟨A, c, n, bs, (hs 0 (by omega)).trans h1, ⟨h2.1, ?_⟩, h3, h4, h5⟩, ?_, fun i => ?_, by simpa [World.setCell] using h.lt, h.lb.set⟩
    · refine ⟨h2.2.len, h2.2.le, h2.2.cap, h2.2.nil, fun a ha hn => ?_⟩
      obtain ⟨q1, q2, q3, q4⟩ := h2.2.cells a ha hn
      exact ⟨q1, q2, by simpa [World.setCell] using q3, fun j u hu => (World.cell?_of_block (w := w) (a := ⟨a.block, a.off + j, none⟩) (hne _ (show a.block ≠ rb by have := h5 a ha hn; omega))).trans (q4 j u hu)⟩
    · have hlt : 1 < cs.size := by
        simp only [World.cell?, ho] at hpos
        by_cases h : 1 < cs.size
        · exact h
        · simp [Array.getElem?_eq_none (by omega : cs.size ≤ 1)] at hpos
      simp [World.cell?, World.setCell, Array.getElem?_modify, ho, Array.getElem?_setIfInBounds, hlt]
    · have := h.free i
      simp [World.frozen?, World.setCell, Array.getElem?_modify, ho] at this ⊢
      exact this
  | _ => simp [World.cell?, ho] at hpos

theorem xor_nat (a b : Nat) (ha : a < 4611686018427387904) (hb : b < 4611686018427387904) : bits .xor .i64 (a : Int) (b : Int) = ((a ^^^ b : Nat) : Int) := by
  show IntKind.i64.wrap ((BitVec.ofInt 64 (a : Int) ^^^ BitVec.ofInt 64 (b : Int)).toNat : Int) = _
  have hx : a ^^^ b < 2 ^ 62 := Nat.xor_lt_two_pow (by omega) (by omega)
  rw [BitVec.toNat_xor, BitVec.ofInt_natCast, BitVec.ofInt_natCast, BitVec.toNat_ofNat, BitVec.toNat_ofNat, Nat.mod_eq_of_lt (by omega), Nat.mod_eq_of_lt (by omega), IntWalk.i64_in _ (by omega)]

/-- A reader that has read at most P times. -/
def Rdp (w : World) (rb P : Nat) : Prop := ∃ p, p ≤ P ∧ Rdr w rb p
theorem Rdp.keep {w w' : World} {rb P : Nat} (h : Rdp w rb P) (k : KB rb w w') : Rdp w' rb P := by
  obtain ⟨p, hp, h⟩ := h
  exact ⟨p, hp, h.keep k⟩
theorem Rdp.more {w : World} {rb P Q : Nat} (h : Rdp w rb P) (k : P ≤ Q) : Rdp w rb Q := by
  obtain ⟨p, hp, h⟩ := h
  exact ⟨p, by omega, h⟩
theorem Rdp.lt {w : World} {rb P : Nat} (h : Rdp w rb P) : rb < w.heap.size := by
  obtain ⟨p, hp, h⟩ := h
  exact h.lt
theorem Rdp.lb {w : World} {rb P : Nat} (h : Rdp w rb P) : Lb w rb 2 := by
  obtain ⟨p, hp, h⟩ := h
  exact h.lb
theorem HeldC.chr {g n rb m : Nat} {W w w' : World} (k : HeldC g n rb m W w) (c : Ch (· = rb) w w') (l : Lb w' rb m) : HeldC g n rb m W w' := by
  by_cases hg : g = rb
  · subst hg
    obtain ⟨cs, T, h1, h2⟩ := k.lb
    obtain ⟨cs', T', h3, h4⟩ := k.lc
    rw [h1] at h3
    cases h3
    have hnm : n = m := by omega
    subst hnm
    exact .of (k.ch.trans' c (fun i _ hi => Or.inr hi)) l l
  · exact .of (k.ch.trans' c (fun i _ hi => Or.inr hi)) (Lb.chk c k.lb hg) l
theorem Rdr.new {w : World} {A : Option Addr} {c n : Nat} {bs : List Int} {T : TypeId} (h : RB w 0 A c n bs) (hn : n ≤ 2000) (hq : ∀ x ∈ bs, 0 ≤ x ∧ x ≤ 255) :
    Rdr (w.alloc (.cells #[.slice A n c, .int .i64 0] T)) w.heap.size 0 := by
  refine ⟨⟨A, c, n, bs, by simp [go_sem], h.keep (KF.refl _ _).alloc, hn, hq, fun a ha hn0 => ?_⟩, by simp [go_sem], fun i => by simp [go_sem], by simp, Lb.new rfl rfl⟩
  exact (h.2.cells a ha hn0).2.2.1

/-- Blocks up to rb, behind an append to what lies higher. -/
theorem bL {rb lo : Nat} {a w w' : World} (hz : w.heap.size ≤ w'.heap.size) (hl : ∀ b, b < lo → w'.heap[b]? = w.heap[b]?) (h : KB rb a w) (hr : rb < lo) : KB rb a w' :=
  ⟨Nat.le_trans h.size hz, fun i hi hs => (hl i (by omega)).trans (h.block i hi hs)⟩

theorem RB_take {w : World} {lo c n k : Nat} {A : Option Addr} {xs : List Int} (h : RB w lo A c n xs) (hk : k ≤ n) : RB w lo A c k (xs.take k) := Rs.take h (fun _ => rfl) hk

theorem l20Open_c (A : Option Addr) (c n : Nat) (bs : List Int) (w : World) (hxs : RB w 0 A c n bs) (hq : ∀ x ∈ bs, 0 ≤ x ∧ x ≤ 255) : Calls Try.prog 65 #[.slice A n c] w fun E w' => ∃ rb, E = .returned (.pointer (some ⟨rb, 0, none⟩)) ∧ Rdp w' rb 0 ∧ w.heap.size ≤ rb ∧ Ex w w' := by
  have hl := Lib.hid hxs.1
  have hcap := hxs.2.le
  have hbig := Rs.big hxs
  by_cases hn : n ≤ 2000
  · have hb : decide (2000 < n) = false := by simp; omega
    have H0 := Lib.hid (And.intro hxs hq)
    clear hxs hq
    go_enter Try.func65, Try.ntmps65
    go_wp2_with fail
    go_ret
    refine ⟨_, rfl, ⟨0, Nat.le_refl _, Rdr.new H0.out.1 hn H0.out.2⟩, Nat.le_refl _, ext_⟩
  · have H0 := Lib.hid (And.intro hxs hq)
    clear hxs hq
    go_enter Try.func65, Try.ntmps65
    go_wp2_with fail
    go_ret
    refine ⟨_, rfl, ⟨0, Nat.le_refl _, Rdr.new (RB_take H0.out.1 (show 2000 ≤ n by omega)) (Nat.le_refl _) (fun x hx => H0.out.2 x (List.mem_of_mem_take hx))⟩, Nat.le_refl _, ext_⟩

theorem emod_bd (a : Nat) {m : Nat} (hm : 0 < m) : (0 : Int) ≤ (a : Int) % (m : Int) ∧ (a : Int) % (m : Int) < m := ⟨Int.emod_nonneg _ (by omega), Int.emod_lt_of_pos _ (by omega)⟩
theorem tmod_nn {x n : Int} (hx : 0 ≤ x) (hn : 1 ≤ n) : 0 ≤ x.tmod n ∧ x.tmod n < n := by
  rw [Int.tmod_eq_emod_of_nonneg hx]
  exact ⟨Int.emod_nonneg _ (by omega), Int.emod_lt_of_pos _ (by omega)⟩

theorem pick_c (rb P : Nat) (n : Int) (w : World) (hr : Rdp w rb P) (hP : P ≤ 1000000) (h1 : 1 ≤ n) : Calls Try.prog 137 #[.pointer (some ⟨rb, 0, none⟩), .int .i64 n] w fun E w' => ∃ v, E = .returned (.int .i64 v) ∧ (0 ≤ v ∧ v < n) ∧ Rdp w' rb (P + 1) ∧ Ch (· = rb) w w' := by
  obtain ⟨p, hp, hr⟩ := hr
  have Hs := Lib.hid (show Rdp (w.setCell ⟨rb, 1, none⟩ (.int .i64 ((p : Int) + 1))) rb (P + 1) from ⟨p + 1, by omega, hr.step⟩)
  obtain ⟨⟨A, c, m, bs, hc0, hbs, hm, hq, hab⟩, hc1, hfr, hlt⟩ := hr
  have hbig := Rs.big hbs
  have Hq := Lib.hid hq
  clear hq
  by_cases h0 : m = 0
  · subst h0
    go_enter Try.func137, Try.ntmps137
    go_wp2_with fail
    go_ret
    exact ⟨0, rfl, ⟨by omega, by omega⟩, Hs.out, Ch.setCell (S := (· = rb)) (Ch.refl _ _) (.inl rfl) _⟩
  have hm0 : 0 < m := by omega
  have hb0 : ((m : Int) == 0) = false := by simp; omega
  by_cases hlt : p < m
  · obtain ⟨g, off, y, rfl, hg0, hg, hd, hy, hc⟩ := at_B hbs hlt
    have hgr := hab _ rfl hm0
    dsimp only at hgr
    have hyb := Hq.out y (List.mem_of_getElem? hy)
    obtain ⟨hy0, hy1⟩ := hyb
    clear hd hy hab
    go_enter Try.func137, Try.ntmps137
    go_wp2_with fail
    go_ret
    exact ⟨_, rfl, ⟨Int.emod_nonneg _ (by omega), Int.emod_lt_of_pos _ (by omega)⟩, Hs.out, Ch.setCell (S := (· = rb)) (Ch.refl _ _) (.inl rfl) _⟩
  · have t1 := emod_bd p hm0
    obtain ⟨t10, t11⟩ := t1
    have t2 : (0 : Int) ≤ ((p : Int) * 7 + 3) % (m : Int) ∧ ((p : Int) * 7 + 3) % (m : Int) < m := ⟨Int.emod_nonneg _ (by omega), Int.emod_lt_of_pos _ (by omega)⟩
    obtain ⟨t20, t21⟩ := t2
    obtain ⟨g, off, y, rfl, hg0, hg, hd, hy, hcy⟩ := at_B hbs (Nat.mod_lt p hm0)
    obtain ⟨g', off', z, hA', _, _, hd', hz, hcz⟩ := at_B hbs (Nat.mod_lt (p * 7 + 3) hm0)
    cases hA'
    have hgr := hab _ rfl hm0
    dsimp only at hgr
    have hyb := Hq.out y (List.mem_of_getElem? hy)
    obtain ⟨hy0, hy1⟩ := hyb
    have hzb := Hq.out z (List.mem_of_getElem? hz)
    obtain ⟨hz0, hz1⟩ := hzb
    rw [show p % m = ((p : Int) % (m : Int)).toNat from by rw [← Int.natCast_emod]; exact (Int.toNat_natCast _).symm] at hcy
    rw [show (p * 7 + 3) % m = (((p : Int) * 7 + 3) % (m : Int)).toNat from by
      rw [show (p : Int) * 7 + 3 = ((p * 7 + 3 : Nat) : Int) from by omega, ← Int.natCast_emod]; exact (Int.toNat_natCast _).symm] at hcz
    clear hd hy hd' hz hab
    have w1 : IntKind.i64.wrap ((p : Int) * 7) = (p : Int) * 7 := IntWalk.i64_in _ (by omega)
    have w2 : IntKind.i64.wrap ((p : Int) * 7 + 3) = (p : Int) * 7 + 3 := IntWalk.i64_in _ (by omega)
    have w3 : IntKind.i64.wrap (y * 131) = y * 131 := IntWalk.i64_in _ (by omega)
    have w4 : IntKind.i64.wrap (z * 1117) = z * 1117 := IntWalk.i64_in _ (by omega)
    have w5 : IntKind.i64.wrap (y * 131 + z * 1117) = y * 131 + z * 1117 := IntWalk.i64_in _ (by omega)
    have w6 : IntKind.i64.wrap ((p : Int) * 29) = (p : Int) * 29 := IntWalk.i64_in _ (by omega)
    have w7 : IntKind.i64.wrap (y * 131 + z * 1117 + (p : Int) * 29) = y * 131 + z * 1117 + (p : Int) * 29 := IntWalk.i64_in _ (by omega)
    have e1 : (p : Int).tmod (m : Int) = (p : Int) % (m : Int) := Int.tmod_eq_emod_of_nonneg (by omega)
    have e2 : ((p : Int) * 7 + 3).tmod (m : Int) = ((p : Int) * 7 + 3) % (m : Int) := Int.tmod_eq_emod_of_nonneg (by omega)
    have e3 : (p : Int).tdiv (m : Int) = (p : Int) / (m : Int) := Int.tdiv_eq_ediv_of_nonneg (by omega)
    have t30 : (0 : Int) ≤ (p : Int) / (m : Int) := Int.ediv_nonneg (by omega) (by omega)
    have t31 : (p : Int) / (m : Int) ≤ p := Int.ediv_le_self _ (by omega)
    have w8 : IntKind.i64.wrap ((p : Int) / (m : Int) * 53) = (p : Int) / (m : Int) * 53 := IntWalk.i64_in _ (by omega)
    have w9 : IntKind.i64.wrap (y * 131 + z * 1117 + (p : Int) * 29 + (p : Int) / (m : Int) * 53) = y * 131 + z * 1117 + (p : Int) * 29 + (p : Int) / (m : Int) * 53 := IntWalk.i64_in _ (by omega)
    go_enter Try.func137, Try.ntmps137
    go_wp2_with fail
    go_quiet ((first | fail))
    go_wp2
    go_ret
    obtain ⟨X, hX⟩ : ∃ X : Nat, y * 131 + z * 1117 + (p : Int) * 29 + (p : Int) / (m : Int) * 53 = X := ⟨_, (Int.toNat_of_nonneg (by omega)).symm⟩
    have hXb : X < 4611686018427387904 := by omega
    have hx := xor_nat X (X / 64) hXb (by omega)
    rw [show ((X / 64 : Nat) : Int) = (X : Int) / 64 from by omega] at hx
    refine ⟨_, rfl, ?_, Hs.out.keep (bN (bR _ _)), (Ch.setCell (S := (· = rb)) (Ch.refl _ _) (.inl rfl) _).drewN _⟩
    rw [hX, hx]
    exact tmod_nn (Int.natCast_nonneg _) h1

def LitQ (Q : Int → Prop) : List Value → Prop
  | [] => True
  | u :: us => (∃ x, u = .int .i64 x ∧ Q x) ∧ LitQ Q us
theorem LitQ.nil {Q : Int → Prop} : LitQ Q [] := trivial
theorem LitQ.cons {Q : Int → Prop} {u : Value} {us : List Value} (h : ∃ x, u = .int .i64 x ∧ Q x) (k : LitQ Q us) : LitQ Q (u :: us) := ⟨h, k⟩
theorem LitQ.at_ {Q : Int → Prop} : ∀ {us : List Value} {i : Nat}, LitQ Q us → i < us.length → ∃ x, us[i]? = some (.int .i64 x) ∧ Q x
  | [], i, _, h => absurd h (by simp)
  | u :: us, 0, h, _ => by obtain ⟨⟨x, rfl, hx⟩, _⟩ := h; exact ⟨x, rfl, hx⟩
  | u :: us, i + 1, h, hi => LitQ.at_ (us := us) h.2 (by simpa using hi)
/-- Behind an append to what lies higher. -/
theorem Rdp.low {w w' : World} {rb P lo : Nat} (h : Rdp w rb P) (hz : w.heap.size ≤ w'.heap.size) (hl : ∀ b, b < lo → w'.heap[b]? = w.heap[b]?) (hr : rb < lo) : Rdp w' rb P := h.keep (bL hz hl (bR _ _) hr)
/-- A draw out of a literal that was just written out. -/
theorem pickLit (Q : Int → Prop) {rb P : Nat} {n : Int} {w : World} {cs : Array Value} {T : TypeId} (hr : Rdp (w.alloc (.cells cs T)) rb P) (hP : P ≤ 1000000) (hn : n = cs.toList.length) (hQ : LitQ Q cs.toList) (h1 : 1 ≤ n) (hlt : rb < w.heap.size) :
    Calls Try.prog 137 #[.pointer (some ⟨rb, 0, none⟩), .int .i64 n] (w.alloc (.cells cs T)) fun E w' => ∃ (v : Nat) (x : Int), E = .returned (.int .i64 v) ∧ (v : Int) < n ∧ Q x ∧ w'.cell? ⟨w.heap.size, v, none⟩ = some (.int .i64 x) ∧ Rdp w' rb (P + 1) ∧ Ch (· = rb) (w.alloc (.cells cs T)) w' := by
  refine (pick_c rb P n _ hr hP h1).mono ?_
  rintro E w' ⟨v, rfl, ⟨h2, h3⟩, h4, h5⟩
  obtain ⟨v, rfl⟩ := Int.eq_ofNat_of_zero_le h2
  obtain ⟨x, hx, hq⟩ := LitQ.at_ (i := v) hQ (by omega)
  refine ⟨v, x, rfl, h3, hq, ?_, h4, h5⟩
  have := h5.cell (p := ⟨w.heap.size, v, none⟩) (by simp) (by show ¬ w.heap.size = rb; omega)
  rw [this]
  simp only [World.cell?, heap_alloc_new]
  simpa using hx

theorem odd_c (rb P : Nat) (n : Int) (w : World) (hr : Rdp w rb P) (hP : P ≤ 1000000) (h1 : 1 ≤ n) (h2 : n ≤ 1000000) : Calls Try.prog 70 #[.pointer (some ⟨rb, 0, none⟩), .int .i64 n] w fun E w' => ∃ b, E = .returned (.bool b) ∧ Rdp w' rb (P + 1) ∧ Ch (· = rb) w w' := by
  go_enter Try.func70, Try.ntmps70
  go_wp2_with (go_at_call 137; apply Calls.mono; apply pick_c; (apply Rdp.keep; assumption; (exact kb_)); (first | assumption | omega); (first | assumption | omega); rintro E w1 ⟨v, rfl, ⟨hv0, hv1⟩, hrd, hb⟩; have hst := xc hb; (try simp only [zA, zC, zD, zN] at hst); obtain ⟨hc, hf, hz⟩ := hst)
  go_ret
  exact ⟨_, rfl, hrd, ext_⟩
theorem l20Mix_c (rb P : Nat) (n : Int) (w : World) (hr : Rdp w rb P) (hP : P ≤ 999000) (h1 : 1 ≤ n) (h2 : n ≤ 1000000) : Calls Try.prog 145 #[.pointer (some ⟨rb, 0, none⟩), .int .i64 n] w fun E w' => ∃ m, E = .returned (.int .i64 m) ∧ Rdp w' rb (P + 4) ∧ Ch (· = rb) w w' := by
  have hlt := hr.lt
  go_enter Try.func145, Try.ntmps145
  go_wp2_with (first | (go_at_call 70; apply Calls.mono; apply odd_c; (apply Rdp.keep; assumption; (exact kb_)); (first | assumption | omega); (first | assumption | omega); (first | assumption | omega); rintro E w1 ⟨b, rfl, hrd, hb⟩; have hst := xc hb; (try simp only [zA, zC, zD, zN] at hst); obtain ⟨hc, hf, hz⟩ := hst) | (go_at_call 137; apply Calls.mono; apply (pickLit (fun _ => True)); (apply Rdp.keep; assumption; (exact kb_)); omega; (first | rfl | (simp; done)); (repeat (first | exact LitQ.nil | (refine LitQ.cons ⟨_, rfl, (by first | exact trivial | omega)⟩ ?_))); omega; (first | omega | (simp only [zA, zC, zD, zN]; omega)); rintro E w1 ⟨v, x, rfl, hv, hq, hcx, hrd, hb⟩; (try simp only [zA, zC, zD, zN] at hcx); have hst := xc hb; (try simp only [zA, zC, zD, zN] at hst); obtain ⟨hc, hf, hz⟩ := hst) | (go_at_call 137; apply Calls.mono; apply pick_c; (apply Rdp.keep; assumption; (exact kb_)); (first | assumption | omega); (first | assumption | omega); rintro E w1 ⟨v, rfl, ⟨hv0, hv1⟩, hrd, hb⟩; have hst := xc hb; (try simp only [zA, zC, zD, zN] at hst); obtain ⟨hc, hf, hz⟩ := hst))
  all_goals (go_ret; exact ⟨_, rfl, hrd.more (by omega), ext_⟩)
/-- Block g is n numbers, none frozen. -/
def Ints (w : World) (g n : Nat) : Prop := ∃ (zs : List Int) (T : TypeId), zs.length = n ∧ w.heap[g]? = some (.cells (zs.map (Value.int .i64)).toArray T (0, 0))
section
variable {w w' : World} {g n : Nat}
theorem Ints.lt (h : Ints w g n) : g < w.heap.size := by
  obtain ⟨zs, T, h1, h2⟩ := h
  exact (Array.getElem?_eq_some_iff.1 h2).1
theorem Ints.new {cs : Array Value} {T : TypeId} {zs : List Int} (hg : g = w.heap.size) (hcs : cs = (zs.map (Value.int .i64)).toArray) (hn : zs.length = n) : Ints (w.alloc (.cells cs T)) g n := by
  subst hg hcs
  exact ⟨zs, T, hn, heap_alloc_new w _⟩
theorem Ints.alloc {o : Obj} (h : Ints w g n) : Ints (w.alloc o) g n := by
  have := h.lt
  obtain ⟨zs, T, h1, h2⟩ := h
  exact ⟨zs, T, h1, (Below.heap_alloc w o g this).trans h2⟩
theorem Ints.drew (h : Ints w g n) : Ints w.drew g n := h
theorem Ints.ch {S : Nat → Prop} (hb : Ch S w w') (hS : ¬ S g) (h : Ints w g n) : Ints w' g n := by
  have := h.lt
  obtain ⟨zs, T, h1, h2⟩ := h
  exact ⟨zs, T, h1, (hb.block g this hS).trans h2⟩
theorem Ints.set {p : Addr} {v : Int} (h : Ints w g n) (hp : p.spot = none) : Ints (w.setCell p (.int .i64 v)) g n := by
  obtain ⟨zs, T, h1, h2⟩ := h
  by_cases he : p.block = g
  · subst he
    refine ⟨zs.set p.off v, T, by rw [List.length_set]; exact h1, ?_⟩
    simp only [World.setCell, Array.getElem?_modify, if_true, h2, Option.map_some, hp]
    congr 2
    apply Array.ext'
    simp [List.map_set]
  · exact ⟨zs, T, h1, (Below.heap_setCell w p _ g (fun e => he e.symm)).trans h2⟩
theorem Ints.lb (h : Ints w g n) : Lb w g n := by
  obtain ⟨zs, T, h1, h2⟩ := h
  exact ⟨_, T, h2, by simp [h1]⟩
theorem Ints.free (h : Ints w g n) : ∀ i, w.frozen? ⟨g, i, none⟩ = false := h.lb.rules.2
theorem Ints.at_ (h : Ints w g n) {i : Nat} (hi : i < n) : ∃ a : Int, w.cell? ⟨g, i, none⟩ = some (.int .i64 a) := by
  obtain ⟨zs, T, h1, h2⟩ := h
  refine ⟨zs[i], ?_⟩
  simp [World.cell?, h2, h1, hi]
end
/-- Where a struct of n numbers is drawn into block g, to be handed out by block r. -/
structure DrawAt (w0 w : World) (rb r g n P : Nat) : Prop where
  own : Ints w g n
  res : Ints w r n
  rd : Rdp w rb P
  ch : Ch (· = rb) w0 w
end Go.Proofs.Ytgceeggfdomdjaa

namespace Go.Proofs.Ytgceeggfdomdjaa
set_option maxRecDepth 100000
set_option linter.unusedSimpArgs false
set_option linter.unusedVariables false
open Go.RowKit Go
set_option maxHeartbeats 2000000

theorem pick_z (rb P : Nat) (n N : Int) (w : World) (hr : Rdp w rb P) (hP : P ≤ 1000000) (hN : n ≤ N) (h0 : 0 ≤ N) : Calls Try.prog 137 #[.pointer (some ⟨rb, 0, none⟩), .int .i64 n] w fun E w' => ∃ v, E = .returned (.int .i64 v) ∧ (0 ≤ v ∧ v ≤ N) ∧ Rdp w' rb (P + 1) ∧ Ch (· = rb) w w' := by
  by_cases h1 : 1 ≤ n
  · refine (pick_c rb P n w hr hP h1).mono ?_
    rintro E w' ⟨v, rfl, ⟨h2, h3⟩, h4, h5⟩
    exact ⟨v, rfl, ⟨h2, by omega⟩, h4, h5⟩
  obtain ⟨p, hp, hr⟩ := hr
  have Hs := Lib.hid (show Rdp (w.setCell ⟨rb, 1, none⟩ (.int .i64 ((p : Int) + 1))) rb (P + 1) from ⟨p + 1, by omega, hr.step⟩)
  obtain ⟨⟨A, c, m, bs, hc0, hbs, hm, hq, hab⟩, hc1, hfr, hlt⟩ := hr
  clear hq
  have hn1 : n < 1 := by omega
  go_enter Try.func137, Try.ntmps137
  go_wp2_with fail
  go_ret
  exact ⟨0, rfl, ⟨by omega, by omega⟩, Hs.out, Ch.setCell (S := (· = rb)) (Ch.refl _ _) (.inl rfl) _⟩

theorem l20Entry_c (rb P : Nat) (n : Int) (w : World) (hr : Rdp w rb P) (hP : P ≤ 999000) (h1 : 1 ≤ n) (h2 : n ≤ 1000000) : Calls Try.prog 139 #[.pointer (some ⟨rb, 0, none⟩), .int .i64 n] w fun E w' => ∃ a b c d, E = .returned (.agg #[.int .i64 a, .int .i64 b, .int .i64 c, .int .i64 d]) ∧ Rdp w' rb (P + 10) ∧ Ch (· = rb) w w' := by
  have hlt := hr.lt
  go_enter Try.func139, Try.ntmps139
  go_upto_if 17 with (first | (go_at_call 137; apply Calls.mono; apply (pickLit (fun _ => True)); (apply Rdp.keep; assumption; (exact kb_)); omega; (first | rfl | (simp; done)); (repeat (first | exact LitQ.nil | (refine LitQ.cons ⟨_, rfl, (by first | exact trivial | omega)⟩ ?_))); omega; (first | omega | (simp only [zA, zC, zD, zN]; omega)); rintro E w1 ⟨v, x, rfl, hv, hq, hcx, hrd, hb⟩; (try simp only [zA, zC, zD, zN] at hcx); have hst := xc hb; (try simp only [zA, zC, zD, zN] at hst); obtain ⟨hc, hf, hz⟩ := hst) | (go_at_call 137; apply Calls.mono; apply pick_c; (apply Rdp.keep; assumption; (exact kb_)); (first | assumption | omega); (first | assumption | omega); rintro E w1 ⟨v, rfl, ⟨hv0, hv1⟩, hrd, hb⟩; have hst := xc hb; (try simp only [zA, zC, zD, zN] at hst); obtain ⟨hc, hf, hz⟩ := hst))
  obtain ⟨g, hgg⟩ : ∃ g, g = w1.heap.size := ⟨_, rfl⟩
  have hg0 : w.heap.size + 1 ≤ g := by omega
  have Hgg := Lib.hid hgg
  clear hgg
  go_cut [] (fun wx => DrawAt w wx rb w.heap.size g 4 (P + 4))
  case first =>
    go_wp2_with (go_at_call 137; apply Calls.mono; apply (pickLit (fun _ => True)); (apply Rdp.keep; assumption; (exact kb_)); omega; (first | rfl | (simp; done)); (repeat (first | exact LitQ.nil | (refine LitQ.cons ⟨_, rfl, (by first | exact trivial | omega)⟩ ?_))); omega; (first | omega | (simp only [zA, zC, zD, zN]; omega)); rintro E w1 ⟨v, x, rfl, hv, hq, hcx, hrd, hb⟩; (try simp only [zA, zC, zD, zN] at hcx); have hst := xc hb; (try simp only [zA, zC, zD, zN] at hst); obtain ⟨hc, hf, hz⟩ := hst)
    all_goals go_meet
    all_goals (refine ⟨?_, ?_, Rdp.more (Rdp.keep (by assumption) (by (exact kb_))) (by omega), ext_⟩)
    all_goals (try rw [Hgg.out])
    all_goals (repeat (first | with_reducible assumption | exact Ints.new (zs := [_, _, _]) (by first | with_reducible rfl | omega) rfl rfl | exact Ints.new (zs := [_, _, _, _]) (by first | with_reducible rfl | omega) rfl rfl | exact Ints.new (zs := [_, _, _, _, _, _]) (by first | with_reducible rfl | omega) rfl rfl | with_reducible apply Ints.alloc | with_reducible apply Ints.drew | (with_reducible refine Ints.set ?_ rfl) | (with_reducible refine Ints.ch (by assumption) (by first | omega | (simp only [zA, zC, zD, zN]; omega)) ?_)))
  case rest =>
    ((repeat (rename Ch _ _ _ => zz; clear zz)); (repeat (rename Rdp _ _ _ => zz; clear zz)); (repeat (rename (∀ (b o : Nat), ¬ ((⟨b, 0, none⟩ : Addr) = ⟨b - _ + _, 0, none⟩) → _) => zz; clear zz)))
    rw [← Hgg.out]
    obtain ⟨own, res, rd, hbx⟩ := hcut
    have hzx := hbx.size
    have hgl := own.lt
    have hgr : g ≠ rb := by omega
    obtain ⟨o0, ho0⟩ := own.at_ (i := 0) (by omega); obtain ⟨o1, ho1⟩ := own.at_ (i := 1) (by omega); obtain ⟨o2, ho2⟩ := own.at_ (i := 2) (by omega); obtain ⟨o3, ho3⟩ := own.at_ (i := 3) (by omega); have hof := own.free
    go_upto_if 26 with (go_at_call 70; apply Calls.mono; apply odd_c; (apply Rdp.keep; assumption; (exact kb_)); (first | assumption | omega); (first | assumption | omega); (first | assumption | omega); rintro E w1 ⟨b, rfl, hrd, hb⟩; have hst := xc hb; (try simp only [zA, zC, zD, zN] at hst); obtain ⟨hc, hf, hz⟩ := hst)
    go_cut [] (fun wx => DrawAt w wx rb w.heap.size g 4 (P + 7))
    case first =>
      go_wp2_with (first | (go_at_call 137; apply Calls.mono; apply (pickLit (fun _ => True)); (apply Rdp.keep; assumption; (exact kb_)); omega; (first | rfl | (simp; done)); (repeat (first | exact LitQ.nil | (refine LitQ.cons ⟨_, rfl, (by first | exact trivial | omega)⟩ ?_))); omega; (first | omega | (simp only [zA, zC, zD, zN]; omega)); rintro E w1 ⟨v, x, rfl, hv, hq, hcx, hrd, hb⟩; (try simp only [zA, zC, zD, zN] at hcx); have hst := xc hb; (try simp only [zA, zC, zD, zN] at hst); obtain ⟨hc, hf, hz⟩ := hst) | (go_at_call 137; apply Calls.mono; apply pick_c; (apply Rdp.keep; assumption; (exact kb_)); (first | assumption | omega); (first | assumption | omega); rintro E w1 ⟨v, rfl, ⟨hv0, hv1⟩, hrd, hb⟩; have hst := xc hb; (try simp only [zA, zC, zD, zN] at hst); obtain ⟨hc, hf, hz⟩ := hst) | (go_at_call 107; refine (sEntCap_c _ _).mono ?_; rintro E w' ⟨rfl, rfl⟩))
      all_goals go_meet
      all_goals (refine ⟨?_, ?_, Rdp.more (Rdp.keep (by assumption) (by (exact kb_))) (by omega), ext_⟩)
      all_goals (repeat (first | with_reducible assumption | exact Ints.new (zs := [_, _, _]) (by first | with_reducible rfl | omega) rfl rfl | exact Ints.new (zs := [_, _, _, _]) (by first | with_reducible rfl | omega) rfl rfl | exact Ints.new (zs := [_, _, _, _, _, _]) (by first | with_reducible rfl | omega) rfl rfl | with_reducible apply Ints.alloc | with_reducible apply Ints.drew | (with_reducible refine Ints.set ?_ rfl) | (with_reducible refine Ints.ch (by assumption) (by first | omega | (simp only [zA, zC, zD, zN]; omega)) ?_)))
    case rest =>
      ((repeat (rename Ch _ _ _ => zz; clear zz)); (repeat (rename Rdp _ _ _ => zz; clear zz)); (repeat (rename (∀ (b o : Nat), ¬ ((⟨b, 0, none⟩ : Addr) = ⟨b - _ + _, 0, none⟩) → _) => zz; clear zz)))
      clear own res hzx hgl
      obtain ⟨own, res, rd, hbx⟩ := hcut
      have hzx := hbx.size
      have hgl := own.lt
      obtain ⟨o0, ho0⟩ := own.at_ (i := 0) (by omega); obtain ⟨o1, ho1⟩ := own.at_ (i := 1) (by omega); obtain ⟨o2, ho2⟩ := own.at_ (i := 2) (by omega); obtain ⟨o3, ho3⟩ := own.at_ (i := 3) (by omega); have hof := own.free
      obtain ⟨r0, hr0⟩ := res.at_ (i := 0) (by omega); obtain ⟨r1, hr1⟩ := res.at_ (i := 1) (by omega); obtain ⟨r2, hr2⟩ := res.at_ (i := 2) (by omega); obtain ⟨r3, hr3⟩ := res.at_ (i := 3) (by omega); have hrf := res.free
      go_wp2_with fail
      refine bodyPost_ret (v := .agg #[.int .i64 o0, .int .i64 o1, .int .i64 o2, .int .i64 o3]) (by simp [results, Try.results139, go_sem, *]) rfl ?_
      exact ⟨o0, o1, o2, o3, rfl, rd.keep (by (exact kb_)) |>.more (by omega), ext_⟩
end Go.Proofs.Ytgceeggfdomdjaa

namespace Go.Proofs.Ytgceeggfdomdjaa
set_option maxRecDepth 100000
set_option linter.unusedSimpArgs false
set_option linter.unusedVariables false
open Go.RowKit Go

/-- What the program's tables say of a slice type and its element type. -/
structure ElemOk (P : Program) (t e : TypeId) (sz bytes : Nat) : Prop where
  sl : P.underlying t = some (.slice e)
  info : ∃ i z, P.info? e = some i ∧ i.zero = some z ∧ i.size = sz ∧ i.bytes = bytes ∧ z.cells.size = sz
  pos : 0 < sz
theorem ElemOk.mk' {P : Program} {t e : TypeId} {sz bytes : Nat} {z : Value} (h1 : P.underlying t = some (.slice e)) (h2 : (P.info? e).map (fun i => (i.zero, i.size, i.bytes)) = some (some z, sz, bytes)) (h3 : z.cells.size = sz) (h4 : 0 < sz) : ElemOk P t e sz bytes := by
  obtain ⟨i, hi, hz, hs, hb⟩ := info_parts h2
  exact ⟨h1, ⟨i, z, hi, hz, hs, hb, h3⟩, h4⟩

/-- An owned slice: its block is the call's own, from lo on. -/
def Ow {α : Type} (enc : α → List Value) (sz : Nat) (e : TypeId) (w : World) (lo : Nat) (A : Option Addr) (c n : Nat) (xs : List α) : Prop :=
  n = xs.length ∧ w.ownsRow lo e sz (.slice A n c) n (xs.flatMap enc)

section
variable {α : Type} {enc : α → List Value} {sz : Nat} {e : TypeId} {w w' w0 : World} {lo lo' c n : Nat} {A : Option Addr} {xs : List α}
theorem Ow.rs (h : Ow enc sz e w lo A c n xs) : Rs enc sz w lo A c n xs := ⟨h.1, Rd.of_own h.2⟩
theorem Ow.nil (w : World) (lo : Nat) : Ow enc sz e w lo none 0 0 [] := ⟨rfl, World.ownsRow_nil w lo e sz⟩
/-- Its block, and that it is whole. -/
theorem Ow.form (h : Ow enc sz e w lo A c n xs) : (A = none ∧ n = 0 ∧ c = 0) ∨ ∃ g cur, A = some ⟨g, 0, none⟩ ∧ lo ≤ g ∧ g < w.heap.size ∧ w.heap[g]? = some (.cells cur e (0, 0)) ∧ n ≤ c ∧ c ≤ maxLen ∧ cur.size = c * sz ∧ cur.toList.take (n * sz) = xs.flatMap enc := by
  rcases h.2.2 with ⟨hv, h0⟩ | ⟨g, cap, cur, hv, hb, hh, hn, hm, hs, ht⟩
  · injection hv with h1 h2 h3; exact .inl ⟨h1, h2, h3⟩
  · injection hv with h1 h2 h3
    subst h3
    exact .inr ⟨g, cur, h1, hb, (Array.getElem?_eq_some_iff.1 hh).1, hh, hn, hm, hs, ht⟩
theorem Ow.blk (h : Ow enc sz e w lo A c n xs) {a : Addr} (ha : A = some a) : lo ≤ a.block ∧ a.block < w.heap.size := by
  rcases h.form with ⟨h1, _⟩ | ⟨g, cur, h1, h2, h3, _⟩
  · rw [h1] at ha; cases ha
  · rw [h1] at ha; cases ha; exact ⟨h2, h3⟩
theorem Ow.keep_ (h : Ow enc sz e w lo A c n xs) (hk : ∀ a, A = some a → w'.heap[a.block]? = w.heap[a.block]?) : Ow enc sz e w' lo A c n xs := by
  refine ⟨h.1, h.2.1, ?_⟩
  rcases h.2.2 with hv | ⟨g, cap, cur, hv, hb, hh, r⟩
  · exact .inl hv
  · have hA : A = some ⟨g, 0, none⟩ := by injection hv
    exact .inr ⟨g, cap, cur, hv, hb, (hk _ hA).trans hh, r⟩
theorem Ow.keep (h : Ow enc sz e w lo A c n xs) (hk : KF lo w w') : Ow enc sz e w' lo A c n xs := h.keep_ fun a ha => hk.block _ (h.blk ha).1 (h.blk ha).2
theorem Ow.less (h : Ow enc sz e w lo A c n xs) (hl : lo' ≤ lo) : Ow enc sz e w lo' A c n xs := by
  refine ⟨h.1, h.2.1, ?_⟩
  rcases h.2.2 with hv | ⟨g, cap, cur, hv, hb, r⟩
  · exact .inl hv
  · exact .inr ⟨g, cap, cur, hv, Nat.le_trans hl hb, r⟩
theorem Ow.rs0 (h : Ow enc sz e w0 lo A c n xs) (hk : KF lo w0 w) : Rs enc sz w 0 A c n xs := h.rs.at0 hk
/-- What an append may turn. -/
def atA (A : Option Addr) : Nat → Prop := fun k => ∃ a, A = some a ∧ k = a.block
theorem Ex.app (h : Ex w0 w) (ho : Ow enc sz e w lo A c n xs) (hl : w0.heap.size ≤ lo) (hc : Ch (atA A) w w') : Ex w0 w' :=
  h.trans' hc (fun i hi ⟨a, ha, hk⟩ => by have := (ho.blk ha).1; omega)
theorem Ch.app {S : Nat → Prop} (h : Ch S w0 w) (ho : Ow enc sz e w lo A c n xs) (hl : w0.heap.size ≤ lo) (hc : Ch (atA A) w w') : Ch S w0 w' :=
  h.trans' hc (fun i hi ⟨a, ha, hk⟩ => by have := (ho.blk ha).1; omega)
theorem KF.app {l0 : Nat} (hc : Ch (atA A) w w') (ho : Ow enc sz e w lo A c n xs) (h : KF l0 w0 w) (hl : w0.heap.size ≤ lo) : KF l0 w0 w' :=
  KF.ch hc h (fun i ⟨a, ha, hk⟩ => by have := (ho.blk ha).1; omega)

/-- A slice that has just been written out, as an owned one. -/
theorem Ow.new {cs : Array Value} {g : Nat} (xs : List α) (hg : g = w.heap.size) (hcs : cs = (xs.flatMap enc).toArray) (hn : n = xs.length) (hsz : ∀ x, (enc x).length = sz) (hl : lo ≤ g) (hm : n ≤ 4194304) :
    Ow enc sz e (w.alloc (.cells cs e)) lo (some ⟨g, 0, none⟩) n n xs := by
  subst hg hcs
  have hlen : ∀ xs : List α, (xs.flatMap enc).length = xs.length * sz := by
    intro xs
    induction xs with
    | nil => simp
    | cons x xs ih => simp only [List.flatMap_cons, List.length_append, hsz, ih, List.length_cons, Nat.succ_mul]; omega
  refine ⟨hn, ?_⟩
  have := World.ownsRow_lit (base := lo) (e := e) (size := sz) w (xs.flatMap enc).toArray n hl (by unfold maxLen; omega) (by simp only [List.size_toArray]; rw [hlen, hn])
  simpa using this
end

section
variable {α : Type} {enc : α → List Value} {sz : Nat} {e : TypeId} {w : World} {lo c n : Nat} {A : Option Addr} {xs : List α}
/-- Element k of an owned slice: it may be read and written. -/
theorem Ow.at_ (h : Ow enc sz e w lo A c n xs) (hsz : ∀ x, (enc x).length = sz) {k : Nat} (hk : k < n) :
    ∃ g x, A = some ⟨g, 0, none⟩ ∧ lo ≤ g ∧ g < w.heap.size ∧ xs[k]? = some x ∧ (∀ j u, j < sz → (enc x)[j]? = some u → w.cell? ⟨g, k * sz + j, none⟩ = some u) ∧ (∀ i, w.frozen? ⟨g, i, none⟩ = false) := by
  obtain ⟨g', off, x, h1, h2, h3, h4, h5, h6⟩ := h.rs.at_ hsz hk
  rcases h.form with ⟨hA, _⟩ | ⟨g, cur, hA, hlo, hlt, hh, _⟩
  · rw [hA] at h1; cases h1
  · rw [hA] at h1
    have e := Option.some.inj h1
    injection e with e1 e2
    subst e1 e2
    exact ⟨g, x, hA, hlo, hlt, h5, fun j u hj hu => by have := h6 j u hj hu; rwa [Nat.zero_add] at this, fun i => by simp [World.frozen?, hh]⟩
theorem flat_set (hsz : ∀ x, (enc x).length = sz) {u : Value} {j : Nat} (hj : j < sz) : ∀ (xs : List α) (k : Nat) (x y : α), xs[k]? = some x → enc y = (enc x).set j u →
    (xs.flatMap enc).set (k * sz + j) u = (xs.set k y).flatMap enc := by
  intro xs
  induction xs with
  | nil => intro k x y h; simp at h
  | cons a xs ih =>
    intro k x y h hy
    cases k with
    | zero =>
      obtain rfl : a = x := by simpa using h
      simp only [List.flatMap_cons, Nat.zero_mul, Nat.zero_add, List.set_cons_zero]
      rw [List.set_append_left _ _ (by rw [hsz]; exact hj), hy]
    | succ k =>
      simp only [List.flatMap_cons, List.set_cons_succ]
      rw [List.set_append_right _ _ (by rw [hsz, Nat.succ_mul]; omega)]
      rw [show (k + 1) * sz + j - (enc a).length = k * sz + j from by rw [hsz, Nat.succ_mul]; omega]
      rw [ih k x y (by simpa using h) hy]
/-- One cell of element k is written. -/
theorem Ow.set (h : Ow enc sz e w lo A c n xs) (hsz : ∀ x, (enc x).length = sz) {g k j : Nat} {u : Value} {x y : α} (hA : A = some ⟨g, 0, none⟩) (hx : xs[k]? = some x) (hj : j < sz) (hy : enc y = (enc x).set j u) :
    Ow enc sz e (w.setCell ⟨g, k * sz + j, none⟩ u) lo A c n (xs.set k y) := by
  have hk : k < xs.length := (List.getElem?_eq_some_iff.1 hx).1
  refine ⟨by rw [List.length_set]; exact h.1, ?_, ?_⟩
  · rw [← flat_set hsz hj xs k x y hx hy, List.length_set]; exact h.2.1
  · rcases h.form with ⟨hA', _⟩ | ⟨g', cur, hA', hlo, hlt, hh, hn, hm, hs, ht⟩
    · rw [hA'] at hA; cases hA
    · rw [hA'] at hA
      have e1 := Option.some.inj hA
      injection e1 with e1
      subst e1
      refine .inr ⟨g', c, cur.setIfInBounds (k * sz + j) u, by rw [hA'], hlo, ?_, hn, hm, by simpa using hs, ?_⟩
      · simp [World.setCell, Array.getElem?_modify, hh]
      · rw [Array.toList_setIfInBounds, List.take_set, ht]
        exact flat_set hsz hj xs k x y hx hy
end

theorem low_rules {W w1 : World} {lo : Nat} (h : ∀ b, b < lo → w1.heap[b]? = W.heap[b]?) :
    (∀ b o, ¬ ((⟨b, 0, none⟩ : Addr) = ⟨b - lo + lo, 0, none⟩) → w1.cell? ⟨b, o, none⟩ = W.cell? ⟨b, o, none⟩) ∧
    (∀ b o, ¬ ((⟨b, 0, none⟩ : Addr) = ⟨b - lo + lo, 0, none⟩) → w1.frozen? ⟨b, o, none⟩ = W.frozen? ⟨b, o, none⟩) :=
  ⟨fun b o hb => World.cell?_of_block (w := W) (a := ⟨b, o, none⟩) (h b (lt_of_addr hb)), fun b o hb => World.frozen?_of_block (w := W) (a := ⟨b, o, none⟩) (h b (lt_of_addr hb))⟩

theorem wp_app {P : Program} {w : World} {o : Oper} {a : Act} {Kx : Act → World → Prop} {Q : Exit → Act → World → Prop} {α : Type} {enc : α → List Value} {sz bytes : Nat} {t e : TypeId} {s x : Operand}
    {lo lo2 c n m d : Nat} {A B : Option Addr} {xs ys : List α}
    (hel : ElemOk P t e sz bytes) (h1 : ∀ x, ∀ u ∈ enc x, u.oneCell' = true)
    (ho : o.op = .call { callee := .builtin .append, args := #[s, x], argTypes := #[t, t] }) (hs : a.eval s = .slice A n c) (hx : a.eval x = .slice B m d)
    (hown : Ow enc sz e w lo A c n xs) (hnew : Rs enc sz w lo2 B d m ys) (hb : (n + m) * bytes ≤ 140737488355328 ∧ n + m ≤ 9223372036854775807) (hlo : lo ≤ w.heap.size)
    (K : ∀ A' c' w', Ow enc sz e w' lo A' c' (n + m) (xs ++ ys) → Ch (atA A) w w' → (∀ b, A' = some b → A = some b ∨ w.heap.size ≤ b.block) → (∀ S w0, Ch S w0 w → w0.heap.size ≤ lo → Ch S w0 w') → (∀ b, b < lo → w'.heap[b]? = w.heap[b]?) → Kx (a.put o.dst (.slice A' (n + m) c')) w') :
    o.wp P a w Kx Q := by
  obtain ⟨i, z, hi, hz, hsz', hby, hzs⟩ := hel.info
  have hmem : ∀ u ∈ ys.flatMap enc, u.oneCell' = true := by
    intro u hu
    obtain ⟨y, _, hy⟩ := List.mem_flatMap.1 hu
    exact h1 y u hy
  have run : ∃ v' w', (Builtin.append_ #[t, t] o.type #[.slice A n c, .slice B m d]).run P w = .ok v' w' ∧ w'.ownsRow lo e sz v' (n + m) ((xs ++ ys).flatMap enc) ∧ w.grownBy w' (Value.slice A n c).ownBlock ∧
      (v'.ownBlock = (Value.slice A n c).ownBlock ∨ v'.ownBlock = some w.heap.size) := by
    cases B with
    | none =>
      have hd := hnew.2.nil rfl
      have hm : m = 0 := by have := hnew.2.le; omega
      subst hd hm
      have hy : ys = [] := List.eq_nil_of_length_eq_zero hnew.1.symm
      subst hy
      exact ⟨_, w, run_append_owned_none w lo t o.type e i sz hel.sl hi _ n _ hown.2, by simpa using hown.2, World.grownBy.refl w _, .inl rfl⟩
    | some ad =>
      obtain ⟨v', w', hrun, h2, h3, _, h5⟩ := run_append_own_at (P := P) w lo t o.type e i z sz bytes hel.sl hi hz hsz' hby hzs hel.pos _ n _ hown.2 ad m d (ys.flatMap enc) hnew.2.len
        (fun j u hu => by
          have hm : 0 < m := by
            have h1 := (List.getElem?_eq_some_iff.1 hu).1
            rw [hnew.2.len] at h1
            rcases Nat.eq_zero_or_pos m with h0 | h0
            · subst h0; simp at h1
            · exact h0
          obtain ⟨h1', _, _, h4⟩ := hnew.2.cells _ rfl hm
          obtain ⟨g, off, spot⟩ := ad
          dsimp only at h1' h4
          subst h1'
          rw [Addr.add_lit]; exact h4 j u hu) hmem (by unfold maxLen; omega) hb.1 hlo
      exact ⟨v', w', hrun, by simpa using h2, h3, h5⟩
  obtain ⟨v', w', hrun, h2, h3, h5⟩ := run
  unfold Oper.wp execOp
  simp only [ho, resolve, invoke, builtin, Sem.run_bind, Sem.run_pure, Result.andThen_ok, List.map_toArray, List.map_cons, List.map_nil, hs, hx, hrun]
  have hlen : n + m = (xs ++ ys).length := by rw [List.length_append, hown.1, hnew.1]
  have hch : Ch (atA A) w w' := ⟨h3.os, h3.tape, h3.output, h3.size, fun k hk hS => h3.block k hk (fun e => hS (by
    cases A with
    | none => simp [Value.ownBlock] at e
    | some a => simp [Value.ownBlock] at e; exact ⟨a, rfl, e⟩))⟩
  have hlow : ∀ b, b < lo → w'.heap[b]? = w.heap[b]? := fun b hb => hch.block b (by omega) (fun ⟨a, ha, hk⟩ => by have := (hown.blk ha).1; omega)
  rcases h2.2 with ⟨rfl, h0⟩ | ⟨g, cap, cur, rfl, r⟩
  · rw [h0] at hlen
    have hx' : xs ++ ys = [] := List.eq_nil_of_length_eq_zero hlen.symm
    have := K none 0 w' ⟨by rw [hx']; simpa using h0, by rw [hx', h0]; simpa using World.ownsRow_nil w' lo e sz⟩ hch (fun b hb => by cases hb) (fun S w0 h hl => Ch.app h hown hl hch) hlow
    rw [h0] at this
    exact this
  · refine K (some ⟨g, 0, none⟩) cap w' ⟨hlen, h2⟩ hch (fun b hb => ?_) (fun S w0 h hl => Ch.app h hown hl hch) hlow
    obtain rfl := Option.some.inj hb
    rcases h5 with h5 | h5
    · left
      rcases hown.form with ⟨hA, _, _⟩ | ⟨g', cur', hA, _⟩
      · subst hA; simp [Value.ownBlock] at h5
      · subst hA; simp [Value.ownBlock] at h5; subst h5; rfl
    · right
      simp [Value.ownBlock] at h5
      subst h5
      exact Nat.le_refl _

theorem wpList_app {P : Program} {w : World} {ops : Array Oper} {rest : List Oper} {o : Oper} {a : Act} {Q : Exit → Act → World → Prop} {α : Type} {enc : α → List Value} {sz bytes : Nat} {t e : TypeId} {s x : Operand}
    {lo lo2 c n m d : Nat} {A B : Option Addr} {xs ys : List α}
    (hel : ElemOk P t e sz bytes) (h1 : ∀ x, ∀ u ∈ enc x, u.oneCell' = true) (hgd : o.guard = none)
    (ho : o.op = .call { callee := .builtin .append, args := #[s, x], argTypes := #[t, t] }) (hs : a.eval s = .slice A n c) (hx : a.eval x = .slice B m d)
    (hown : Ow enc sz e w lo A c n xs) (hnew : Rs enc sz w lo2 B d m ys) (hb : (n + m) * bytes ≤ 140737488355328 ∧ n + m ≤ 9223372036854775807) (hlo : lo ≤ w.heap.size)
    (K : ∀ A' c' w', Ow enc sz e w' lo A' c' (n + m) (xs ++ ys) → Ch (atA A) w w' → (∀ b, A' = some b → A = some b ∨ w.heap.size ≤ b.block) → (∀ S w0, Ch S w0 w → w0.heap.size ≤ lo → Ch S w0 w') → (∀ b, b < lo → w'.heap[b]? = w.heap[b]?) → wpList P ops Q rest (a.put o.dst (.slice A' (n + m) c')) w') :
    wpList P ops Q (o :: rest) a w :=
  wpList_plain hgd fun K' hK' => wp_app hel h1 ho hs hx hown hnew hb hlo fun A' c' w' p1 p2 p3 p4 p5 => hK' _ _ (K A' c' w' p1 p2 p3 p4 p5)
/-- The same inside a region that draws its order. -/
theorem step_app {P : Program} {w : World} {ops : Array Oper} {o : Oper} {a : Act} {Kx : Act → World → Prop} {Q : Exit → Act → World → Prop} {E : Prop} {α : Type} {enc : α → List Value} {sz bytes : Nat} {t e : TypeId} {s x : Operand}
    {lo lo2 c n m d : Nat} {A B : Option Addr} {xs ys : List α}
    (hel : ElemOk P t e sz bytes) (h1 : ∀ x, ∀ u ∈ enc x, u.oneCell' = true) (hgd : o.guard = none)
    (ho : o.op = .call { callee := .builtin .append, args := #[s, x], argTypes := #[t, t] }) (hs : a.eval s = .slice A n c) (hx : a.eval x = .slice B m d)
    (hown : Ow enc sz e w lo A c n xs) (hnew : Rs enc sz w lo2 B d m ys) (hb : (n + m) * bytes ≤ 140737488355328 ∧ n + m ≤ 9223372036854775807) (hlo : lo ≤ w.heap.size)
    (K : ∀ A' c' w', Ow enc sz e w' lo A' c' (n + m) (xs ++ ys) → Ch (atA A) w w' → (∀ b, A' = some b → A = some b ∨ w.heap.size ≤ b.block) → (∀ S w0, Ch S w0 w → w0.heap.size ≤ lo → Ch S w0 w') → (∀ b, b < lo → w'.heap[b]? = w.heap[b]?) → Kx (a.put o.dst (.slice A' (n + m) c')) w') :
    if Region.wanted o (yielded ops a.tmps) = true then o.wp P a w Kx Q else E := by
  rw [if_pos (by simp [Region.wanted, hgd])]
  exact wp_app hel h1 ho hs hx hown hnew hb hlo K

theorem madeCells_flat {α : Type} {enc : α → List Value} {sz : Nat} (zx : α) (hsz : (enc zx).length = sz) (hp : 0 < sz) : ∀ n : Nat, (madeCells (enc zx).toArray (n * sz)).toList = (List.replicate n zx).flatMap enc := by
  intro n
  have key : ∀ n : Nat, (List.range (n * sz)).map (fun j => (enc zx).toArray[j % sz]!) = (List.replicate n zx).flatMap enc := by
    intro n
    induction n with
    | zero => simp
    | succ n ih =>
      rw [Nat.succ_mul, List.range_add, List.map_append, ih, List.replicate_succ', List.flatMap_append, List.flatMap_cons, List.flatMap_nil, List.append_nil]
      congr 1
      apply List.ext_getElem
      · simp [hsz]
      · intro j h1 h2
        have hj : j < sz := by simpa using h1
        simp [Nat.mod_eq_of_lt hj, hsz, hj]
  rw [madeCells, Array.toList_map, Array.toList_range]
  simp only [List.size_toArray, hsz]
  exact key n

/-- 'make([]T, n)'. -/
theorem wpList_mk {P : Program} {w : World} {ops : Array Oper} {rest : List Oper} {o : Oper} {a : Act} {Q : Exit → Act → World → Prop} {α : Type} {enc : α → List Value} {sz bytes : Nat} {t e : TypeId} {l c : Operand} {lo n : Nat}
    (hel : ElemOk P t e sz bytes) (zx : α) (hzx : ∀ i z, P.info? e = some i → i.zero = some z → z.cells = (enc zx).toArray) (hsz : (enc zx).length = sz) (hgd : o.guard = none)
    (ho : o.op = .makeSlice t l c) (hl : a.eval l = .int .i64 n) (hc : a.eval c = .int .i64 n) (hb : bytes * n ≤ 281474976710656) (hn : n ≤ maxLen) (hlo : lo ≤ w.heap.size)
    (K : ∀ w', Ow enc sz e w' lo (some ⟨w.heap.size, 0, none⟩) n n (List.replicate n zx) → Ex w w' → w.heap.size + 1 ≤ w'.heap.size → wpList P ops Q rest (a.put o.dst (.slice (some ⟨w.heap.size, 0, none⟩) n n)) w') :
    wpList P ops Q (o :: rest) a w := by
  obtain ⟨i, z, hi, hz, hsz', hby, hzs⟩ := hel.info
  refine wpList_make_full w hgd l c t ho lo e i z sz hel.sl hi hz hsz' .i64 .i64 n n n hl hc rfl rfl (by rw [hby]; exact hb) hn hlo fun w' h1 h2 => ?_
  rw [hzx i z hi hz, madeCells_flat zx hsz hel.pos] at h1
  refine K w' ⟨(List.length_replicate ..).symm, ?_⟩ ⟨h2.os, h2.tape, h2.output, h2.size, fun k hk _ => h2.block k hk (by simp)⟩ ?_
  · exact h1
  · rcases h1.2 with ⟨hv, h0⟩ | ⟨g, cap, cur, hv, hb, hh, _⟩
    · cases hv
    · injection hv with e1
      injection e1 with e1
      injection e1 with e1
      subst e1
      exact (Array.getElem?_eq_some_iff.1 hh).1

theorem Ch.atq {A : Option Addr} {q : Nat} {w w' : World} (h : Ch (atA A) w w') (hA : A = none ∨ A = some ⟨q, 0, none⟩) : Ch (· = q) w w' :=
  h.mono fun i _ ⟨a, ha, hi⟩ => by
    rcases hA with rfl | rfl
    · cases ha
    · cases ha; exact hi
end Go.Proofs.Ytgceeggfdomdjaa

namespace Go.Proofs.Ytgceeggfdomdjaa
set_option maxRecDepth 100000
set_option linter.unusedSimpArgs false
set_option linter.unusedVariables false
open Go.RowKit Go
theorem el_I : ElemOk Try.prog 25 3 1 8 := .mk' (z := .int .i64 0) Try.underlying25 (by kernel_rfl) rfl (by omega)
theorem el_E : ElemOk Try.prog 45 134 4 32 := .mk' (z := .agg #[.int .i64 0, .int .i64 0, .int .i64 0, .int .i64 0]) Try.underlying45 (by kernel_rfl) rfl (by omega)
theorem el_R : ElemOk Try.prog 89 93 3 24 := .mk' (z := .agg #[.int .i64 0, .int .i64 0, .bool false]) Try.underlying89 (by kernel_rfl) rfl (by omega)
abbrev OwI := Ow encI 1 3
abbrev OwE := Ow Sw.Ent.enc 4 134
abbrev OwR := Ow Sw.Row.enc 3 93
theorem one_I (x : Int) : ∀ u ∈ encI x, u.oneCell' = true := by simp [encI, Value.oneCell']
theorem one_E (x : Sw.Ent) : ∀ u ∈ x.enc, u.oneCell' = true := by simp [Sw.Ent.enc, Value.oneCell']
theorem one_R (x : Sw.Row) : ∀ u ∈ x.enc, u.oneCell' = true := by simp [Sw.Row.enc, Value.oneCell']
end Go.Proofs.Ytgceeggfdomdjaa

namespace Go.Proofs.Ytgceeggfdomdjaa
set_option maxRecDepth 100000
set_option linter.unusedSimpArgs false
set_option linter.unusedVariables false
open Go.RowKit Go
set_option maxHeartbeats 400000
theorem take_snoc {α : Type} {xs : List α} {k : Nat} {y : α} (h : xs[k]? = some y) : xs.take (k + 1) = xs.take k ++ [y] := by rw [List.take_add_one, h]; rfl

theorem sEntLeaves_c (A : Option Addr) (c n : Nat) (xs : List Sw.Ent) (w : World) (hxs : RE w 0 A c n xs) (hn : n ≤ 4194304) : Calls Try.prog 142 #[.slice A n c] w fun E w' => ∃ A' c', E = .returned (.slice A' n c') ∧ OwI w' w.heap.size A' c' n (xs.map Sw.entLeaf) ∧ Ex w w' := by
  have hl := Lib.hid hxs.1
  go_enter Try.func142, Try.ntmps142
  go_wp2_with fail
  go_loopw [3, 4] (fun o i wr => ∃ (k : Nat) (B : Option Addr) (d : Nat), k ≤ n ∧ i = .int .i64 k ∧ o = .slice B k d ∧ Ex w wr ∧ OwI wr w.heap.size B d k ((xs.take k).map Sw.entLeaf)) (fun _ i _ => n - (intOf i).toNat)
  case atStart => exact ⟨0, _, 0, Nat.zero_le _, rfl, rfl, ext_, Ow.new [] rfl rfl rfl (fun _ => rfl) (Nat.le_refl _) (by omega)⟩
  case round =>
    obtain ⟨k, B, d, hk, rfl, rfl, hb, ho⟩ := hrel
    have hst := Ex.rules hb rfl
    obtain ⟨hc, hf, hz⟩ := hst
    by_cases hlt : k < n
    · obtain ⟨g, off, y, rfl, hg0, hg, hd, hy, hc0, hc1, hc2, hc3⟩ := at_E hxs hlt
      have Hd := Lib.hid hd; have Hy := Lib.hid hy; clear hd hy
      go_wp2_with (first | (go_at_call 175; refine (sEntLeaf_c _ _).mono ?_; rintro E w1 ⟨rfl, hb⟩; have hst := xr hb; (try simp only [zA, zC, zD, zN] at hst); obtain ⟨hc, hf, hz⟩ := hst) | (at_builtin; apply wpList_app (lo := w.heap.size) el_I one_I rfl rfl rfl rfl; (first | assumption | exact Ow.nil _ _ | (apply Ow.keep; assumption; exact kf_) | (refine Ow.new [] (by (first | rfl | (simp only [zA, zC, zD, zN]; done) | omega)) rfl rfl (fun _ => rfl) (by exact sz_) (by omega))); (first | (refine Rs.new [Sw.entLeaf y] (by (first | rfl | (simp only [zA, zC, zD, zN]; done) | omega)) rfl rfl (fun _ => rfl) (by omega))); omega; exact sz_; intro A1 c1 w2 ho1 hch1 hat1 hex1 hlow1; have hb := hex1 (fun _ => False) w (by exact ext_) (by exact sz_); have hz := hch1.size; (try simp only [zA, zC, zD, zN] at hz); obtain ⟨hc, hf⟩ := low_rules hlow1; clear hlow1 hex1))
      go_roundw
      case rel => exact ⟨k + 1, A1, c1, by omega, by go_num, rfl, hb, by rw [take_snoc Hy.out, List.map_append]; exact ho1⟩
      case measure => simp [intOf]; omega
    · go_wp2_with fail
      go_ret
      obtain rfl : k = n := by omega
      refine ⟨_, _, rfl, ?_, ext_⟩
      rw [List.take_of_length_le (by have := hl.out; omega)] at ho
      exact ho

theorem leavesFrom_length : ∀ (rows : List Sw.Row) (t : Int), (Sw.leavesFrom t rows).length = rows.length
  | [], _ => rfl
  | r :: rs, t => by simp [Sw.leavesFrom, leavesFrom_length rs]
theorem leavesFrom_snoc : ∀ (rows : List Sw.Row) (t : Int) (r : Sw.Row), Sw.leavesFrom t (rows ++ [r]) = Sw.leavesFrom t rows ++ [Sw.ownLeaf (t + rows.length) r]
  | [], t, r => by simp [Sw.leavesFrom]
  | x :: rs, t, r => by
    simp only [List.cons_append, Sw.leavesFrom, leavesFrom_snoc rs, List.length_cons]
    rw [show t + 1 + (rs.length : Int) = t + ((rs.length + 1 : Nat) : Int) from by omega]

theorem sLeaves_c (A : Option Addr) (c n : Nat) (xs : List Sw.Row) (w : World) (hxs : RR w 0 A c n xs) (hn : n ≤ 4194304) : Calls Try.prog 177 #[.slice A n c] w fun E w' => ∃ A' c', E = .returned (.slice A' n c') ∧ OwI w' w.heap.size A' c' n (Sw.ownLeaves xs) ∧ Ex w w' := by
  have hl := Lib.hid hxs.1
  go_enter Try.func177, Try.ntmps177
  go_wp2_with fail
  go_loopw [3, 4] (fun o i wr => ∃ (k : Nat) (B : Option Addr) (d : Nat), k ≤ n ∧ i = .int .i64 k ∧ o = .slice B k d ∧ Ex w wr ∧ OwI wr w.heap.size B d k (Sw.ownLeaves (xs.take k))) (fun _ i _ => n - (intOf i).toNat)
  case atStart => exact ⟨0, _, 0, Nat.zero_le _, rfl, rfl, ext_, Ow.new [] rfl rfl rfl (fun _ => rfl) (Nat.le_refl _) (by omega)⟩
  case round =>
    obtain ⟨k, B, d, hk, rfl, rfl, hb, ho⟩ := hrel
    have hst := Ex.rules hb rfl
    obtain ⟨hc, hf, hz⟩ := hst
    by_cases hlt : k < n
    · obtain ⟨g, off, y, rfl, hg0, hg, hd, hy, hc0, hc1, hc2⟩ := at_R hxs hlt
      have Hy := Lib.hid hy; clear hd hy
      go_wp2_with (first | (go_at_call 204; refine (sOwnLeaf_c _ _ _).mono ?_; rintro E w1 ⟨rfl, hb⟩; have hst := xr hb; (try simp only [zA, zC, zD, zN] at hst); obtain ⟨hc, hf, hz⟩ := hst) | (at_builtin; apply wpList_app (lo := w.heap.size) el_I one_I rfl rfl rfl rfl; (first | assumption | exact Ow.nil _ _ | (apply Ow.keep; assumption; exact kf_) | (refine Ow.new [] (by (first | rfl | (simp only [zA, zC, zD, zN]; done) | omega)) rfl rfl (fun _ => rfl) (by exact sz_) (by omega))); (first | (refine Rs.new [Sw.ownLeaf k y] (by (first | rfl | (simp only [zA, zC, zD, zN]; done) | omega)) rfl rfl (fun _ => rfl) (by omega))); omega; exact sz_; intro A1 c1 w2 ho1 hch1 hat1 hex1 hlow1; have hb := hex1 (fun _ => False) w (by exact ext_) (by exact sz_); have hz := hch1.size; (try simp only [zA, zC, zD, zN] at hz); obtain ⟨hc, hf⟩ := low_rules hlow1; clear hlow1 hex1))
      go_roundw
      case rel =>
        refine ⟨k + 1, A1, c1, by omega, by go_num, rfl, hb, ?_⟩
        rw [take_snoc Hy.out]
        unfold Sw.ownLeaves at ho1 ⊢
        rw [leavesFrom_snoc, List.length_take, Nat.min_eq_left (by have := hl.out; omega), Int.zero_add]
        exact ho1
      case measure => simp [intOf]; omega
    · go_wp2_with fail
      go_ret
      obtain rfl : k = n := by omega
      refine ⟨_, _, rfl, ?_, ext_⟩
      rw [List.take_of_length_le (by have := hl.out; omega)] at ho
      exact ho

theorem sOwnOk_c (A : Option Addr) (c n : Nat) (xs : List Sw.Row) (w : World) (hxs : RR w 0 A c n xs) : Calls Try.prog 176 #[.slice A n c] w fun E w' => E = .returned (.bool (Sw.ownOk xs)) ∧ Ex w w' := by
  have hl := Lib.hid hxs.1
  by_cases hn : n = 8
  · subst hn
    go_enter Try.func176, Try.ntmps176
    go_wp2_with fail
    go_loopw [3] (fun i wr => ∃ (k : Nat), k ≤ 8 ∧ i = .int .i64 k ∧ Ex w wr ∧ xs.all Sw.rowOk = (xs.drop k).all Sw.rowOk) (fun i _ => 8 - (intOf i).toNat)
    case atStart => exact ⟨0, Nat.zero_le _, rfl, ext_, rfl⟩
    case round =>
      obtain ⟨k, hk, rfl, hb, hrel⟩ := hrel
      have hst := Ex.rules hb rfl
      obtain ⟨hc, hf, hz⟩ := hst
      by_cases hlt : k < 8
      · obtain ⟨g, off, y, rfl, hg0, hg, hd, hy, hc0, hc1, hc2⟩ := at_R hxs hlt
        rw [hd] at hrel
        have Hrel := Lib.hid hrel; clear hd hy hrel
        go_wp2_with (first | (go_at_call 78; refine (l1In_c _ _ _ _).mono ?_; rintro E w' ⟨rfl, rfl⟩))
        all_goals (first | (refine ⟨⟨k + 1, by omega, by go_num, (by exact ext_), ?_⟩, by simp [intOf]; omega⟩; have hh := Hrel.out; clear Hrel; rw [List.all_cons] at hh; rw [hh]; clear hh; go_tidy; (try simp only [Bool.not_eq_true', Bool.not_eq_false', Bool.not_eq_true, Bool.not_eq_false, beq_iff_eq, bne_iff_ne, ne_eq, beq_eq_false_iff_ne, bne_eq_false_iff_eq] at *); have hp : Sw.rowOk y = true := (by (first | (simp [Sw.rowOk, show Sw.inR 0 1 5 = false from rfl, *]; done) | (simp [Sw.rowOk, show Sw.inR 0 1 5 = false from rfl, *]; omega) | (simp [Sw.rowOk, show Sw.inR 0 1 5 = false from rfl, *]; intros; simp_all; done) | (simp_all [Sw.rowOk, show Sw.inR 0 1 5 = false from rfl]; done))); simp [hp]) | (go_ret; refine ⟨ret_b ?_, (by first | rfl | exact ext_)⟩; have hh := Hrel.out; clear Hrel; rw [List.all_cons] at hh; unfold Sw.ownOk; rw [hh]; clear hh; go_tidy; (try simp only [Bool.not_eq_true', Bool.not_eq_false', Bool.not_eq_true, Bool.not_eq_false, beq_iff_eq, bne_iff_ne, ne_eq, beq_eq_false_iff_ne, bne_eq_false_iff_eq] at *); have hp : Sw.rowOk y = false := (by (first | (simp [Sw.rowOk, show Sw.inR 0 1 5 = false from rfl, *]; done) | (simp [Sw.rowOk, show Sw.inR 0 1 5 = false from rfl, *]; omega) | (simp [Sw.rowOk, show Sw.inR 0 1 5 = false from rfl, *]; intros; simp_all; done) | (simp_all [Sw.rowOk, show Sw.inR 0 1 5 = false from rfl]; done))); simp [hp]))
      · have Hrel := Lib.hid hrel; clear hrel
        go_wp2
        go_ret
        refine ⟨ret_b ?_, ext_⟩
        have := Hrel.out
        rw [List.drop_of_length_le (by have := hl.out; omega)] at this
        rw [Sw.ownOk, this, ← hl.out]
        simp
  · have hb : decide (n = 8) = false := by simp [hn]
    go_enter Try.func176, Try.ntmps176
    go_wp2
    go_ret
    refine ⟨ret_b ?_, Ch.refl _ _⟩
    rw [Sw.ownOk, ← hl.out]
    simp [hn]

theorem sOwnFits_c (A : Option Addr) (c n : Nat) (xs : List Sw.Row) (e : Sw.Ent) (w : World) (hxs : RR w 0 A c n xs) : Calls Try.prog 172 #[.slice A n c, .agg #[.int .i64 e.kind, .int .i64 e.ticket, .int .i64 e.who, .int .i64 e.price]] w fun E w' => E = .returned (.bool (Sw.ownFits xs e)) ∧ Ex w w' := by
  have hl := Lib.hid hxs.1
  by_cases h1 : Sw.ownOk xs = true
  · by_cases h2 : Sw.entOk e = true
    · have ht : 0 ≤ e.ticket ∧ e.ticket ≤ 7 := by simp [Sw.entOk, Sw.inR] at h2; omega
      obtain ⟨t, ht'⟩ := Int.eq_ofNat_of_zero_le ht.1
      have hn8 : n = 8 := by have := hl.out; simp [Sw.ownOk] at h1; omega
      subst hn8
      have hlt : t < 8 := by omega
      obtain ⟨g, off, y, rfl, hg0, hg, hd, hy, hc0, hc1, hc2⟩ := at_R hxs hlt
      have hrow : Sw.rowAt xs e.ticket = y := by simp [Sw.rowAt, ht', hy]
      have hfit : Sw.ownFits xs e = Sw.fitsRow y e := by simp [Sw.ownFits, h1, h2, hrow]
      have Hfit := Lib.hid hfit
      clear hfit hrow hd hy ht
      have Ht := Lib.hid ht'
      have ht2 : (0 : Int) ≤ e.ticket ∧ e.ticket < 8 := by omega
      obtain ⟨ht0, ht1⟩ := ht2
      have e0 : e.ticket.toNat = t := by omega
      clear ht'
      obtain ⟨yw, yf, yu⟩ := y
      dsimp only at hc0 hc1 hc2
      by_cases k1 : e.kind = 1
      · have hk1 : (e.kind == 1) = true := by simp [k1]
        have K1 := Lib.hid k1; clear k1
        go_enter Try.func172, Try.ntmps172
        go_wp2_with (first | (go_at_call 176; apply Calls.mono; apply sOwnOk_c; ((first | (apply Rs.at0; assumption) | (apply Ow.rs0; assumption)); exact kf_); rintro E w1 ⟨rfl, hb⟩; have hst := xr hb; (try simp only [zA, zC, zD, zN] at hst); obtain ⟨hc, hf, hz⟩ := hst) | (go_at_call 202; refine (sEntOk_c _ _).mono ?_; rintro E w1 ⟨rfl, hb⟩; have hst := xr hb; (try simp only [zA, zC, zD, zN] at hst); obtain ⟨hc, hf, hz⟩ := hst))
        go_ret
        refine ⟨ret_b ?_, ext_⟩
        rw [Hfit.out]
        simp [Sw.fitsRow, K1.out, beqI]
      have hk1 : (e.kind == 1) = false := by simp [k1]
      by_cases k2 : e.kind = 2
      · have hk2 : (e.kind == 2) = true := by simp [k2]
        have K2 := Lib.hid k2; clear k2
        by_cases b1 : yw = 0
        · have hb1 : (yw != 0) = false := by simp [b1]
          have B1 := Lib.hid b1; clear b1
          go_enter Try.func172, Try.ntmps172
          go_wp2_with (first | (go_at_call 176; apply Calls.mono; apply sOwnOk_c; ((first | (apply Rs.at0; assumption) | (apply Ow.rs0; assumption)); exact kf_); rintro E w1 ⟨rfl, hb⟩; have hst := xr hb; (try simp only [zA, zC, zD, zN] at hst); obtain ⟨hc, hf, hz⟩ := hst) | (go_at_call 202; refine (sEntOk_c _ _).mono ?_; rintro E w1 ⟨rfl, hb⟩; have hst := xr hb; (try simp only [zA, zC, zD, zN] at hst); obtain ⟨hc, hf, hz⟩ := hst))
          go_quiet ((first | (go_at_call 107; exact Calls.quiet_same (sEntCap_c _ _))))
          go_wp2
          go_ret
          refine ⟨ret_b ?_, ext_⟩
          rw [Hfit.out]
          simp [Sw.fitsRow, K2.out, B1.out]
        have hb1 : (yw != 0) = true := by simp [b1]
        cases yu with
        | true =>
          go_enter Try.func172, Try.ntmps172
          go_wp2_with (first | (go_at_call 176; apply Calls.mono; apply sOwnOk_c; ((first | (apply Rs.at0; assumption) | (apply Ow.rs0; assumption)); exact kf_); rintro E w1 ⟨rfl, hb⟩; have hst := xr hb; (try simp only [zA, zC, zD, zN] at hst); obtain ⟨hc, hf, hz⟩ := hst) | (go_at_call 202; refine (sEntOk_c _ _).mono ?_; rintro E w1 ⟨rfl, hb⟩; have hst := xr hb; (try simp only [zA, zC, zD, zN] at hst); obtain ⟨hc, hf, hz⟩ := hst))
          go_quiet ((first | (go_at_call 107; exact Calls.quiet_same (sEntCap_c _ _))))
          go_wp2
          go_ret
          refine ⟨ret_b ?_, ext_⟩
          rw [Hfit.out]
          simp [Sw.fitsRow, K2.out]
        | false =>
          by_cases b2 : yw = e.who
          · have hb2 : (yw != e.who) = false := by simp [b2]
            have B2 := Lib.hid b2; clear b2
            go_enter Try.func172, Try.ntmps172
            go_wp2_with (first | (go_at_call 176; apply Calls.mono; apply sOwnOk_c; ((first | (apply Rs.at0; assumption) | (apply Ow.rs0; assumption)); exact kf_); rintro E w1 ⟨rfl, hb⟩; have hst := xr hb; (try simp only [zA, zC, zD, zN] at hst); obtain ⟨hc, hf, hz⟩ := hst) | (go_at_call 202; refine (sEntOk_c _ _).mono ?_; rintro E w1 ⟨rfl, hb⟩; have hst := xr hb; (try simp only [zA, zC, zD, zN] at hst); obtain ⟨hc, hf, hz⟩ := hst))
            go_quiet ((first | (go_at_call 107; exact Calls.quiet_same (sEntCap_c _ _))))
            go_wp2
            go_ret
            refine ⟨ret_b ?_, ext_⟩
            rw [Hfit.out]
            simp [Sw.fitsRow, K2.out, B2.out]
          have hb2 : (yw != e.who) = true := by simp [b2]
          go_enter Try.func172, Try.ntmps172
          go_wp2_with (first | (go_at_call 176; apply Calls.mono; apply sOwnOk_c; ((first | (apply Rs.at0; assumption) | (apply Ow.rs0; assumption)); exact kf_); rintro E w1 ⟨rfl, hb⟩; have hst := xr hb; (try simp only [zA, zC, zD, zN] at hst); obtain ⟨hc, hf, hz⟩ := hst) | (go_at_call 202; refine (sEntOk_c _ _).mono ?_; rintro E w1 ⟨rfl, hb⟩; have hst := xr hb; (try simp only [zA, zC, zD, zN] at hst); obtain ⟨hc, hf, hz⟩ := hst))
          go_quiet ((first | (go_at_call 107; exact Calls.quiet_same (sEntCap_c _ _))))
          go_wp2
          go_ret
          refine ⟨ret_b ?_, ext_⟩
          rw [Hfit.out]
          simp [Sw.fitsRow, K2.out, b1, b2]
      have hk2 : (e.kind == 2) = false := by simp [k2]
      by_cases b1 : yw = e.who
      · have hb1 : (yw == e.who) = true := by simp [b1]
        have B1 := Lib.hid b1; clear b1
        go_enter Try.func172, Try.ntmps172
        go_wp2_with (first | (go_at_call 176; apply Calls.mono; apply sOwnOk_c; ((first | (apply Rs.at0; assumption) | (apply Ow.rs0; assumption)); exact kf_); rintro E w1 ⟨rfl, hb⟩; have hst := xr hb; (try simp only [zA, zC, zD, zN] at hst); obtain ⟨hc, hf, hz⟩ := hst) | (go_at_call 202; refine (sEntOk_c _ _).mono ?_; rintro E w1 ⟨rfl, hb⟩; have hst := xr hb; (try simp only [zA, zC, zD, zN] at hst); obtain ⟨hc, hf, hz⟩ := hst))
        go_ret
        refine ⟨ret_b ?_, ext_⟩
        rw [Hfit.out]
        simp [Sw.fitsRow, k1, k2, B1.out]
      have hb1 : (yw == e.who) = false := by simp [b1]
      go_enter Try.func172, Try.ntmps172
      go_wp2_with (first | (go_at_call 176; apply Calls.mono; apply sOwnOk_c; ((first | (apply Rs.at0; assumption) | (apply Ow.rs0; assumption)); exact kf_); rintro E w1 ⟨rfl, hb⟩; have hst := xr hb; (try simp only [zA, zC, zD, zN] at hst); obtain ⟨hc, hf, hz⟩ := hst) | (go_at_call 202; refine (sEntOk_c _ _).mono ?_; rintro E w1 ⟨rfl, hb⟩; have hst := xr hb; (try simp only [zA, zC, zD, zN] at hst); obtain ⟨hc, hf, hz⟩ := hst))
      go_ret
      refine ⟨ret_b ?_, ext_⟩
      rw [Hfit.out]
      simp [Sw.fitsRow, k1, k2, b1]
    · go_enter Try.func172, Try.ntmps172
      go_wp2_with (first | (go_at_call 176; apply Calls.mono; apply sOwnOk_c; ((first | (apply Rs.at0; assumption) | (apply Ow.rs0; assumption)); exact kf_); rintro E w1 ⟨rfl, hb⟩; have hst := xr hb; (try simp only [zA, zC, zD, zN] at hst); obtain ⟨hc, hf, hz⟩ := hst) | (go_at_call 202; refine (sEntOk_c _ _).mono ?_; rintro E w1 ⟨rfl, hb⟩; have hst := xr hb; (try simp only [zA, zC, zD, zN] at hst); obtain ⟨hc, hf, hz⟩ := hst))
      all_goals (go_ret; refine ⟨ret_b ?_, (by first | rfl | exact ext_)⟩; go_tidy; (try simp only [Bool.not_eq_true', Bool.not_eq_false', Bool.not_eq_true, Bool.not_eq_false, beq_iff_eq, bne_iff_ne, ne_eq, beq_eq_false_iff_ne, bne_eq_false_iff_eq] at *); (first | rfl | (simp [Sw.ownFits, *]; done) | (simp [Sw.ownFits, *]; omega) | (simp [Sw.ownFits, beqI, *]; done) | (simp_all [Sw.ownFits, beqI]; done) | (simp_all [Sw.ownFits, beqI] <;> omega) | simp_all [Sw.ownFits, beqI]))
  · go_enter Try.func172, Try.ntmps172
    go_wp2_with (first | (go_at_call 176; apply Calls.mono; apply sOwnOk_c; ((first | (apply Rs.at0; assumption) | (apply Ow.rs0; assumption)); exact kf_); rintro E w1 ⟨rfl, hb⟩; have hst := xr hb; (try simp only [zA, zC, zD, zN] at hst); obtain ⟨hc, hf, hz⟩ := hst) | (go_at_call 202; refine (sEntOk_c _ _).mono ?_; rintro E w1 ⟨rfl, hb⟩; have hst := xr hb; (try simp only [zA, zC, zD, zN] at hst); obtain ⟨hc, hf, hz⟩ := hst))
    all_goals (go_ret; refine ⟨ret_b ?_, (by first | rfl | exact ext_)⟩; go_tidy; (try simp only [Bool.not_eq_true', Bool.not_eq_false', Bool.not_eq_true, Bool.not_eq_false, beq_iff_eq, bne_iff_ne, ne_eq, beq_eq_false_iff_ne, bne_eq_false_iff_eq] at *); (first | rfl | (simp [Sw.ownFits, *]; done) | (simp [Sw.ownFits, *]; omega) | (simp [Sw.ownFits, beqI, *]; done) | (simp_all [Sw.ownFits, beqI]; done) | (simp_all [Sw.ownFits, beqI] <;> omega) | simp_all [Sw.ownFits, beqI]))
end Go.Proofs.Ytgceeggfdomdjaa

namespace Go.Proofs.Ytgceeggfdomdjaa
set_option maxRecDepth 100000
set_option linter.unusedSimpArgs false
set_option linter.unusedVariables false
open Go.RowKit Go
set_option maxHeartbeats 400000

theorem at_OR {w : World} {lo c n k : Nat} {A : Option Addr} {xs : List Sw.Row} (h : OwR w lo A c n xs) (hk : k < n) :
    ∃ g x, A = some ⟨g, 0, none⟩ ∧ lo ≤ g ∧ g < w.heap.size ∧ xs[k]? = some x ∧ w.cell? ⟨g, k * 3, none⟩ = some (.int .i64 x.who) ∧ w.cell? ⟨g, k * 3 + 1, none⟩ = some (.int .i64 x.face) ∧
      w.cell? ⟨g, k * 3 + 2, none⟩ = some (.bool x.used) ∧ (∀ i, w.frozen? ⟨g, i, none⟩ = false) := by
  obtain ⟨g, x, h1, h2, h3, h4, h5, h6⟩ := Ow.at_ h (fun _ => rfl) hk
  exact ⟨g, x, h1, h2, h3, h4, by simpa using h5 0 _ (by omega) rfl, h5 1 _ (by omega) rfl, h5 2 _ (by omega) rfl, h6⟩

theorem sNew_c (w : World) : Calls Try.prog 136 #[] w fun E w' => ∃ A, E = .returned (.slice A 8 8) ∧ OwR w' w.heap.size A 8 8 Sw.rows0 ∧ Ex w w' := by
  have hmk : ∀ w, (Instr.makeSlice 89 (.int .i64 8) (.int .i64 8)).run Try.prog w = .ok (.slice (some ⟨w.heap.size, 0, none⟩) 8 8) (w.alloc (.cells (Sw.rows0.flatMap Sw.Row.enc).toArray 93)) := fun _ => by kernel_rfl
  go_enter Try.func136, Try.ntmps136
  go_wp2
  go_ret
  exact ⟨_, rfl, Ow.new _ rfl rfl rfl (fun _ => rfl) (Nat.le_refl _) (by omega), ext_⟩

theorem OR_set0 {w : World} {lo c n k g : Nat} {A : Option Addr} {xs : List Sw.Row} (h : OwR w lo A c n xs) (hA : A = some ⟨g, 0, none⟩) {a b : Int} {u : Bool} (hx : xs[k]? = some ⟨a, b, u⟩) (v : Int) :
    OwR (w.setCell ⟨g, k * 3, none⟩ (.int .i64 v)) lo A c n (xs.set k ⟨v, b, u⟩) := by
  have := Ow.set h (fun _ => rfl) (j := 0) (u := .int .i64 v) hA hx (by omega) (y := ⟨v, b, u⟩) rfl
  simpa using this
theorem OR_set1 {w : World} {lo c n k g : Nat} {A : Option Addr} {xs : List Sw.Row} (h : OwR w lo A c n xs) (hA : A = some ⟨g, 0, none⟩) {a b : Int} {u : Bool} (hx : xs[k]? = some ⟨a, b, u⟩) (v : Int) :
    OwR (w.setCell ⟨g, k * 3 + 1, none⟩ (.int .i64 v)) lo A c n (xs.set k ⟨a, v, u⟩) :=
  Ow.set h (fun _ => rfl) (j := 1) (u := .int .i64 v) hA hx (by omega) (y := ⟨a, v, u⟩) rfl
theorem OR_set2 {w : World} {lo c n k g : Nat} {A : Option Addr} {xs : List Sw.Row} (h : OwR w lo A c n xs) (hA : A = some ⟨g, 0, none⟩) {a b : Int} {u : Bool} (hx : xs[k]? = some ⟨a, b, u⟩) (v : Bool) :
    OwR (w.setCell ⟨g, k * 3 + 2, none⟩ (.bool v)) lo A c n (xs.set k ⟨a, b, v⟩) :=
  Ow.set h (fun _ => rfl) (j := 2) (u := .bool v) hA hx (by omega) (y := ⟨a, b, v⟩) rfl
theorem set_at {α : Type} {xs : List α} {k : Nat} {x y : α} (h : xs[k]? = some x) : (xs.set k y)[k]? = some y := by
  have hk := (List.getElem?_eq_some_iff.1 h).1
  simp [hk]
theorem fits_facts {xs : List Sw.Row} {e : Sw.Ent} (h : Sw.ownFits xs e = true) : xs.length = 8 ∧ 0 ≤ e.ticket ∧ e.ticket < 8 ∧ (e.kind = 1 ∨ e.kind = 2 ∨ e.kind = 3) := by
  simp only [Sw.ownFits, Bool.and_eq_true, Sw.ownOk, Sw.entOk, Sw.inR, decide_eq_true_eq] at h
  obtain ⟨⟨⟨_, h1⟩, ⟨⟨h2, h3⟩, h4, h5⟩, h6⟩, h7⟩ := h
  refine ⟨h1, h2, by omega, ?_⟩
  split at h6
  · exact .inl ‹_›
  · split at h6
    · exact .inr (.inl ‹_›)
    · simp at h6; exact .inr (.inr h6.1)
/-- A ticket that is issued has not been used. -/
theorem fits_fresh {xs : List Sw.Row} {e : Sw.Ent} {t : Nat} {a b : Int} {u : Bool} (h : Sw.ownFits xs e = true) (hk : e.kind = 1) (ht : e.ticket = t) (hx : xs[t]? = some ⟨a, b, u⟩) : u = false := by
  simp only [Sw.ownFits, Bool.and_eq_true, Sw.ownOk, Sw.fitsRow, hk, Sw.rowAt, ht, Int.toNat_natCast, List.getD_eq_getElem?_getD, hx, Option.getD_some, if_true, decide_eq_true_eq] at h
  obtain ⟨⟨⟨h1, _⟩, _⟩, h2⟩ := h
  have := List.all_eq_true.1 h1 _ (List.mem_of_getElem? hx)
  simp [Sw.rowOk, Sw.inR] at this
  rcases this with h | h
  · exact h.2
  · omega
theorem put_eq {xs : List Sw.Row} {e : Sw.Ent} {t : Nat} {x : Sw.Row} (h : Sw.ownFits xs e = true) (ht : e.ticket = t) (hx : xs[t]? = some x) : Sw.ownPut xs e = xs.set t (Sw.putRow x e) := by
  simp [Sw.ownPut, h, Sw.putRows, Sw.rowAt, ht, hx]

theorem sOwnPut_c (A : Option Addr) (c n : Nat) (xs : List Sw.Row) (e : Sw.Ent) (w : World) (hxs : RR w 0 A c n xs) (hn : n ≤ 4194304) : Calls Try.prog 138 #[.slice A n c, .agg #[.int .i64 e.kind, .int .i64 e.ticket, .int .i64 e.who, .int .i64 e.price]] w fun E w' => ∃ A' c', E = .returned (.tuple #[.slice A' n c', .bool (Sw.ownFits xs e)]) ∧ OwR w' w.heap.size A' c' n (Sw.ownPut xs e) ∧ Ex w w' := by
  by_cases hfit : Sw.ownFits xs e = true
  · have hl := Lib.hid hxs.1
    obtain ⟨h8, t0, t1, hk⟩ := fits_facts hfit
    obtain ⟨t, ht⟩ := Int.eq_ofNat_of_zero_le t0
    have e0 : e.ticket.toNat = t := by omega
    have Ht := Lib.hid ht
    have htn : t < n := by have := hl.out; omega
    have hn8 : n = 8 := by have := hl.out; omega
    subst hn8
    have Hk := Lib.hid hk
    have H8 := Lib.hid h8
    clear ht hk h8
    have key : ∀ (b1 b2 : Bool), (e.kind == 1) = b1 → (e.kind == 2) = b2 → Calls Try.prog 138 #[.slice A 8 c, .agg #[.int .i64 e.kind, .int .i64 e.ticket, .int .i64 e.who, .int .i64 e.price]] w fun E w' => ∃ A' c', E = .returned (.tuple #[.slice A' 8 c', .bool (Sw.ownFits xs e)]) ∧ OwR w' w.heap.size A' c' 8 (Sw.ownPut xs e) ∧ Ex w w' := by
      intro b1 b2 hb1 hb2
      go_enter Try.func138, Try.ntmps138
      go_wp2_with (first | (at_builtin; apply wpList_app (lo := w.heap.size + 1) el_R one_R rfl rfl rfl rfl; (first | assumption | exact Ow.nil _ _ | (apply Ow.keep; assumption; exact kf_) | (refine Ow.new [] (by (first | rfl | (simp only [zA, zC, zD, zN]; done) | omega)) rfl rfl (fun _ => rfl) (by exact sz_) (by omega))); (first | ((first | (apply Rs.at0; assumption) | (apply Ow.rs0; assumption)); exact kf_)); omega; exact sz_; intro A1 c1 w2 ho1 hch1 hat1 hex1 hlow1; have hb := hex1 (fun _ => False) w (by exact ext_) (by exact sz_); have hz := hch1.size; (try simp only [zA, zC, zD, zN] at hz); obtain ⟨hc, hf⟩ := low_rules hlow1; clear hlow1 hex1))
      simp only [Nat.zero_add, List.nil_append] at ho1
      apply Calls.mono; apply sOwnFits_c; (first | assumption | ((first | (apply Rs.at0; assumption) | (apply Ow.rs0; assumption)); exact kf_) | omega); rintro E w3 ⟨rfl, hb3⟩; have hst := Ex.rules hb3 rfl; obtain ⟨hc3, hf3, hz3⟩ := hst
      have ho3 := Ow.keep ho1 (KF.ex hb3 (KF.refl _ _))
      obtain ⟨g, x, hA, hlo, hlt, hx, c0, c1, c2, hfz⟩ := at_OR ho3 htn
      obtain ⟨ya, yb, yu⟩ := x
      have Hx := Lib.hid hx
      have hlo' : w.heap.size ≤ g := by omega
      clear hx
      subst hA
      dsimp only at c0 c1 c2
      cases b1 with
      | true =>
        go_wp2_with fail
        go_ret2
        refine ⟨_, _, by rw [hfit]; rfl, ?_, ext_⟩
        have k1 : e.kind = 1 := by simpa using hb1
        rw [put_eq hfit Ht.out Hx.out]
        have hu := fits_fresh hfit k1 Ht.out Hx.out
        subst hu
        have r := OR_set2 (OR_set1 (OR_set0 ho3 rfl Hx.out e.who) rfl (set_at Hx.out) e.price) rfl (set_at (set_at Hx.out)) false
        simp only [List.set_set] at r
        simp only [Sw.putRow, k1, if_true]
        exact r.less (by omega)
      | false =>
        have k1 : ¬ e.kind = 1 := by simpa using hb1
        cases b2 with
        | true =>
          go_wp2_with fail
          go_ret2
          refine ⟨_, _, by rw [hfit]; rfl, ?_, ext_⟩
          have k2 : e.kind = 2 := by simpa using hb2
          rw [put_eq hfit Ht.out Hx.out]
          have r := OR_set0 ho3 rfl Hx.out e.who
          simp only [Sw.putRow, if_neg k1, k2, if_true]
          exact r.less (by omega)
        | false =>
          go_wp2_with fail
          go_ret2
          refine ⟨_, _, by rw [hfit]; rfl, ?_, ext_⟩
          have k2 : ¬ e.kind = 2 := by simpa using hb2
          rw [put_eq hfit Ht.out Hx.out]
          have r := OR_set2 ho3 rfl Hx.out true
          simp only [Sw.putRow, if_neg k1, if_neg k2]
          exact r.less (by omega)
    exact key _ _ rfl rfl
  · have hf0 : Sw.ownFits xs e = false := by simpa using hfit
    go_enter Try.func138, Try.ntmps138
    go_wp2_with (first | (at_builtin; apply wpList_app (lo := w.heap.size + 1) el_R one_R rfl rfl rfl rfl; (first | assumption | exact Ow.nil _ _ | (apply Ow.keep; assumption; exact kf_) | (refine Ow.new [] (by (first | rfl | (simp only [zA, zC, zD, zN]; done) | omega)) rfl rfl (fun _ => rfl) (by exact sz_) (by omega))); (first | ((first | (apply Rs.at0; assumption) | (apply Ow.rs0; assumption)); exact kf_)); omega; exact sz_; intro A1 c1 w2 ho1 hch1 hat1 hex1 hlow1; have hb := hex1 (fun _ => False) w (by exact ext_) (by exact sz_); have hz := hch1.size; (try simp only [zA, zC, zD, zN] at hz); obtain ⟨hc, hf⟩ := low_rules hlow1; clear hlow1 hex1) | (go_at_call 172; apply Calls.mono; apply sOwnFits_c; ((first | (apply Rs.at0; assumption) | (apply Ow.rs0; assumption)); exact kf_); rintro E w1 ⟨rfl, hb⟩; have hst := xr hb; (try simp only [zA, zC, zD, zN] at hst); obtain ⟨hc, hf, hz⟩ := hst))
    go_ret2
    refine ⟨_, _, by rw [hf0]; rfl, ?_, ext_⟩
    rw [show Sw.ownPut xs e = xs from by simp [Sw.ownPut, hf0]]
    simp only [Nat.zero_add, List.nil_append] at ho1
    refine Ow.less ?_ (show w.heap.size ≤ w.heap.size + 1 by omega)
    apply Ow.keep ho1; (exact kf_)
end Go.Proofs.Ytgceeggfdomdjaa

namespace Go.Proofs.Ytgceeggfdomdjaa
set_option maxRecDepth 100000
set_option linter.unusedSimpArgs false
set_option linter.unusedVariables false
open Go.RowKit Go
set_option maxHeartbeats 400000

theorem fold_ok : ∀ (es : List Sw.Ent) (rows r : List Sw.Row), Sw.foldFrom rows es = some r → rows.length = 8 → r.length = 8
  | [], rows, r, h, h8 => by simp [Sw.foldFrom] at h; rw [← h]; exact h8
  | e :: es, rows, r, h, h8 => by
    rw [Sw.foldFrom] at h
    split at h
    · exact fold_ok es _ r h (by simp [Sw.putRows, h8])
    · cases h
theorem ownFold_len {es : List Sw.Ent} {r : List Sw.Row} (h : Sw.ownFold es = some r) : r.length = 8 := by
  unfold Sw.ownFold at h
  split at h
  · exact fold_ok es _ r h rfl
  · cases h

theorem sOwnFold_c (A : Option Addr) (c n : Nat) (xs : List Sw.Ent) (w : World) (hxs : RE w 0 A c n xs) : Calls Try.prog 105 #[.slice A n c] w fun E w' => ∃ A' c' n', E = .returned (.tuple #[.slice A' n' c', .bool (Sw.ownFold xs).isSome]) ∧ OwR w' w.heap.size A' c' n' ((Sw.ownFold xs).getD []) ∧ Ex w w' := by
  have hl := Lib.hid hxs.1
  by_cases hn : n ≤ 40
  · have hn' : decide (40 < n) = false := by simp; omega
    go_enter Try.func105, Try.ntmps105
    go_wp2_with (first | (go_at_call 136; refine (sNew_c _).mono ?_; rintro E w1 ⟨A, rfl, hr, hb⟩; have hst := xr hb; (try simp only [zA, zC, zD, zN] at hst); obtain ⟨hc, hf, hz⟩ := hst))
    go_loopw [4, 5] (fun r i wr => ∃ (k : Nat) (B : Option Addr) (d : Nat) (rows : List Sw.Row), k ≤ n ∧ i = .int .i64 k ∧ r = .slice B 8 d ∧ Ex w wr ∧ OwR wr w.heap.size B d 8 rows ∧ Sw.ownFold xs = Sw.foldFrom rows (xs.drop k)) (fun _ i _ => n - (intOf i).toNat)
    case atStart => exact ⟨0, _, _, _, Nat.zero_le _, rfl, rfl, ext_, hr, by rw [Sw.ownFold, if_pos (by have := hl.out; omega)]; rfl⟩
    case round =>
      clear hb hc hf hz hr
      obtain ⟨k, B, d, rows, hk, rfl, rfl, hb, ho, hrel⟩ := hrel
      have hst := Ex.rules hb rfl
      obtain ⟨hc, hf, hz⟩ := hst
      by_cases hlt : k < n
      · obtain ⟨g, off, y, rfl, hg0, hg, hd, hy, hc0, hc1, hc2, hc3⟩ := at_E hxs hlt
        rw [hd, Sw.foldFrom] at hrel
        have Hrel := Lib.hid hrel
        clear hd hy hrel
        go_wp2_with (first | (go_at_call 138; apply Calls.mono; apply sOwnPut_c; (apply Ow.rs0 ho; exact KF.refl _ _); omega; rintro E w1 ⟨A1, c1, rfl, ho1, hb1⟩; have hst := Ex.rules hb1 rfl; obtain ⟨hc1', hf1', hz1'⟩ := hst))
        · go_ret2
          have hfit : Sw.ownFits rows y = false := by rename_i h; simpa using h
          have hh := Hrel.out
          rw [if_neg (by simp [hfit])] at hh
          refine ⟨_, _, _, by rw [hh]; rfl, ?_, ext_⟩
          rw [hh]
          (refine Ow.new [] (by (first | rfl | (simp only [zA, zC, zD, zN]; done) | omega)) rfl rfl (fun _ => rfl) (by exact sz_) (by omega))
        · have hfit : Sw.ownFits rows y = true := by rename_i h; simpa using h
          have hh := Hrel.out
          rw [if_pos hfit] at hh
          refine ⟨⟨k + 1, _, _, _, by omega, by go_num, rfl, ext_, ho1.less (by omega), ?_⟩, by simp [intOf]; omega⟩
          rw [hh, Sw.ownPut, if_pos hfit]
      · have Hrel := Lib.hid hrel; clear hrel
        go_wp2_with fail
        go_ret2
        obtain rfl : k = n := by omega
        have hh := Hrel.out
        rw [List.drop_of_length_le (by have := hl.out; omega)] at hh
        refine ⟨_, _, _, by rw [hh]; rfl, ?_, ext_⟩
        rw [hh]
        exact ho
  · have hn' : decide (40 < n) = true := by simp; omega
    go_enter Try.func105, Try.ntmps105
    go_wp2_with (first | (go_at_call 136; refine (sNew_c _).mono ?_; rintro E w1 ⟨A, rfl, hr, hb⟩; have hst := xr hb; (try simp only [zA, zC, zD, zN] at hst); obtain ⟨hc, hf, hz⟩ := hst))
    go_ret2
    have hh : Sw.ownFold xs = none := by rw [Sw.ownFold, if_neg (by have := hl.out; omega)]
    refine ⟨_, _, _, by rw [hh]; rfl, ?_, ext_⟩
    rw [hh]
    (refine Ow.new [] (by (first | rfl | (simp only [zA, zC, zD, zN]; done) | omega)) rfl rfl (fun _ => rfl) (by exact sz_) (by omega))

theorem mixLeaf_ok (l : List Int) : Sw.mixOk (Sw.mixLeaf l) = true := by
  rw [mixOk_bd]; unfold Sw.mixLeaf
  exact ⟨Int.emod_nonneg _ (by omega), by have := Int.emod_lt_of_pos (Sw.mixLeafFrom 7 l * 31 + l.length) (show (0 : Int) < 65521 by omega); omega⟩
theorem ownLeaf_ok (t : Int) (r : Sw.Row) : Sw.mixOk (Sw.ownLeaf t r) = true := by
  unfold Sw.ownLeaf
  split
  · exact mixLeaf_ok _
  · rfl
theorem leavesFrom_ok : ∀ (rows : List Sw.Row) (t : Int), (Sw.leavesFrom t rows).all Sw.mixOk = true
  | [], _ => rfl
  | r :: rs, t => by simp only [Sw.leavesFrom, List.all_cons, ownLeaf_ok, leavesFrom_ok rs, Bool.and_self]
theorem ownLeaves_ok (rows : List Sw.Row) : (Sw.ownLeaves rows).all Sw.mixOk = true := leavesFrom_ok rows 0
theorem entLeaves_ok (es : List Sw.Ent) : (es.map Sw.entLeaf).all Sw.mixOk = true := by
  rw [List.all_map, List.all_eq_true]; exact fun e _ => mixLeaf_ok _

theorem sOwnRoot_c (A : Option Addr) (c n : Nat) (xs : List Sw.Row) (w : World) (hxs : RR w 0 A c n xs) : Calls Try.prog 143 #[.slice A n c] w fun E w' => E = .returned (.int .i64 (Sw.ownRoot xs)) ∧ Ex w w' := by
  have hl := Lib.hid hxs.1
  by_cases hok : Sw.ownOk xs = true
  · have hn : n = 8 := by have := hl.out; simp [Sw.ownOk] at hok; omega
    subst hn
    go_enter Try.func143, Try.ntmps143
    go_wp2_with (first | (go_at_call 176; apply Calls.mono; apply sOwnOk_c; ((first | (apply Rs.at0; assumption) | (apply Ow.rs0; assumption)); exact kf_); rintro E w1 ⟨rfl, hb⟩; have hst := xr hb; (try simp only [zA, zC, zD, zN] at hst); obtain ⟨hc, hf, hz⟩ := hst) | (go_at_call 177; apply Calls.mono; apply sLeaves_c; (first | assumption | ((first | (apply Rs.at0; assumption) | (apply Ow.rs0; assumption)); exact kf_) | omega); omega; rintro E w1 ⟨A1, c1, rfl, ho1, hb1⟩) | (go_at_call 141; apply Calls.mono; apply (sRoot_c 8); omega; (apply Ow.rs0 ho1; exact KF.refl _ _); omega; exact ownLeaves_ok _; rintro E w2 ⟨rfl, hb2⟩))
    go_ret
    exact ⟨ret_i (by simp [Sw.ownRoot, hok]), ext_⟩
  · have hok' : Sw.ownOk xs = false := by simpa using hok
    go_enter Try.func143, Try.ntmps143
    go_wp2_with (first | (go_at_call 176; apply Calls.mono; apply sOwnOk_c; ((first | (apply Rs.at0; assumption) | (apply Ow.rs0; assumption)); exact kf_); rintro E w1 ⟨rfl, hb⟩; have hst := xr hb; (try simp only [zA, zC, zD, zN] at hst); obtain ⟨hc, hf, hz⟩ := hst))
    go_ret
    exact ⟨ret_i (by simp [Sw.ownRoot, hok']), ext_⟩

theorem sHedOf_c (A : Option Addr) (c n : Nat) (xs : List Sw.Ent) (w : World) (hxs : RE w 0 A c n xs) : Calls Try.prog 68 #[.slice A n c] w fun E w' => E = .returned (.tuple #[.agg #[.int .i64 ((Sw.hedOf xs).getD Sw.headZ).size, .int .i64 ((Sw.hedOf xs).getD Sw.headZ).log, .int .i64 ((Sw.hedOf xs).getD Sw.headZ).own], .bool (Sw.hedOf xs).isSome]) ∧ Ex w w' := by
  have hl := Lib.hid hxs.1
  cases hf : Sw.ownFold xs with
  | none =>
    have hh : Sw.hedOf xs = none := by simp [Sw.hedOf, hf]
    have hs : (Sw.ownFold xs).isSome = false := by simp [hf]
    have Hf := Lib.hid hf; have HH := Lib.hid hh; clear hf hh
    go_enter Try.func68, Try.ntmps68
    go_wp2_with (first | (go_at_call 105; apply Calls.mono; apply sOwnFold_c; ((first | (apply Rs.at0; assumption) | (apply Ow.rs0; assumption)); exact kf_); rintro E w1 ⟨A', c', n', rfl, hr, hb⟩; have hst := xr hb; (try simp only [zA, zC, zD, zN] at hst); obtain ⟨hc, hf, hz⟩ := hst))
    refine bodyPost_ret (v := .tuple #[.agg #[.int .i64 0, .int .i64 0, .int .i64 0], .bool false]) (by simp [results, Try.results68, go_sem, *]) rfl ?_
    exact ⟨by rw [HH.out]; rfl, ext_⟩
  | some rows =>
    have h8 := ownFold_len hf
    have hn : n ≤ 40 := by
      have := hl.out
      unfold Sw.ownFold at hf
      split at hf
      · omega
      · cases hf
    have hh : Sw.hedOf xs = some ⟨xs.length, Sw.root (xs.map Sw.entLeaf), Sw.ownRoot rows⟩ := by simp [Sw.hedOf, hf]
    have hs : (Sw.ownFold xs).isSome = true := by simp [hf]
    have hg : (Sw.ownFold xs).getD [] = rows := by simp [hf]
    have Hf := Lib.hid hf; have HH := Lib.hid hh; have H8 := Lib.hid h8; have HG := Lib.hid hg; clear hf hh h8 hg
    go_enter Try.func68, Try.ntmps68
    go_wp2_with (first | (go_at_call 105; apply Calls.mono; apply sOwnFold_c; (first | assumption | ((first | (apply Rs.at0; assumption) | (apply Ow.rs0; assumption)); exact kf_) | omega); rintro E w1 ⟨A1, c1, n1, rfl, ho1, hb⟩; rw [HG.out] at ho1; have hst := Ex.rules hb rfl; (try simp only [World.size_alloc, World.size_setCell, World.size_drew] at hst); obtain ⟨hc, hf, hz⟩ := hst) | (go_at_call 142; apply Calls.mono; apply sEntLeaves_c; (first | assumption | ((first | (apply Rs.at0; assumption) | (apply Ow.rs0; assumption)); exact kf_) | omega); omega; rintro E w2 ⟨A2, c2, rfl, ho2, hb2⟩; have hst := Ex.rules hb2 rfl; obtain ⟨hc2, hf2, hz2⟩ := hst) | (go_at_call 141; apply Calls.mono; apply (sRoot_c 40); omega; (apply Ow.rs0 ho2; exact KF.refl _ _); omega; exact entLeaves_ok _; rintro E w3 ⟨rfl, hb3⟩; have hst := Ex.rules hb3 rfl; obtain ⟨hc3, hf3, hz3⟩ := hst) | (go_at_call 143; apply Calls.mono; apply sOwnRoot_c; (apply Ow.rs0 ho1; (exact kf_)); rintro E w4 ⟨rfl, hb4⟩; have hst := Ex.rules hb4 rfl; obtain ⟨hc4, hf4, hz4⟩ := hst))
    refine bodyPost_ret (v := .tuple #[.agg #[.int .i64 n, .int .i64 (Sw.root (xs.map Sw.entLeaf)), .int .i64 (Sw.ownRoot rows)], .bool true]) (by simp [results, Try.results68, go_sem, *]) rfl ?_
    exact ⟨by rw [HH.out, ← hl.out]; rfl, ext_⟩
end Go.Proofs.Ytgceeggfdomdjaa

namespace Go.Proofs.Ytgceeggfdomdjaa
set_option maxRecDepth 100000
set_option linter.unusedSimpArgs false
set_option linter.unusedVariables false
open Go.RowKit Go
set_option maxHeartbeats 400000

theorem z_I : ∀ i z, Try.prog.info? 3 = some i → i.zero = some z → z.cells = (encI 0).toArray := by
  have h : (Try.prog.info? 3).map (·.zero) = some (some (.int .i64 0)) := by kernel_rfl
  intro i z hi hz
  rw [hi] at h
  simp only [Option.map_some, Option.some.injEq] at h
  rw [hz] at h
  cases h
  rfl

theorem at_OI {w : World} {lo c n k : Nat} {A : Option Addr} {xs : List Int} (h : OwI w lo A c n xs) (hk : k < n) :
    ∃ g x, A = some ⟨g, 0, none⟩ ∧ lo ≤ g ∧ g < w.heap.size ∧ xs[k]? = some x ∧ w.cell? ⟨g, k, none⟩ = some (.int .i64 x) ∧ (∀ i, w.frozen? ⟨g, i, none⟩ = false) := by
  obtain ⟨g, x, h1, h2, h3, h4, h5, h6⟩ := Ow.at_ h (fun _ => rfl) hk
  exact ⟨g, x, h1, h2, h3, h4, by simpa using h5 0 _ (by omega) rfl, h6⟩
theorem OI_set {w : World} {lo c n k g : Nat} {A : Option Addr} {xs : List Int} (h : OwI w lo A c n xs) (hA : A = some ⟨g, 0, none⟩) {a : Int} (hx : xs[k]? = some a) (v : Int) :
    OwI (w.setCell ⟨g, k, none⟩ (.int .i64 v)) lo A c n (xs.set k v) := by
  have := Ow.set h (fun _ => rfl) (j := 0) (u := .int .i64 v) hA hx (by omega) (y := v) rfl
  simpa using this

theorem szIntS_c (A : Option Addr) (c n : Nat) (xs : List Int) (l : Int) (w : World) (hxs : RI w 0 A c n xs) (h0 : 0 ≤ l) (h1 : l ≤ 1048576) : Calls Try.prog 112 #[.slice A n c, .int .i64 l] w fun E w' => E = .returned (.int .i64 (if l - n < 0 then -1 else l - n)) ∧ w = w' := by
  have hm : n ≤ 9223372036854775807 := by have := hxs.2.le; have := hxs.2.cap; unfold maxLen at this; omega
  have hw : IntKind.i64.wrap (l - n) = l - n := by rw [IntWalk.i64_in _ (by omega)]
  by_cases hn : l - n < 0
  · go_enter Try.func112, Try.ntmps112
    go_wp2
    go_ret
    exact ⟨ret_i (by simp [hn]), rfl⟩
  · go_enter Try.func112, Try.ntmps112
    go_wp2
    go_ret
    exact ⟨ret_i (by simp [hn]), rfl⟩

theorem take_set_step {α : Type} {xs : List α} {k n : Nat} {y z : α} (hn : n = xs.length) (hk : k < n) (hy : xs[k]? = some y) : (xs.take k ++ List.replicate (n - k) z).set k y = xs.take (k + 1) ++ List.replicate (n - (k + 1)) z := by
  have hl : (xs.take k).length = k := by rw [List.length_take]; omega
  rw [List.set_append_right _ _ (by omega), hl, Nat.sub_self, List.take_add_one, hy]
  obtain ⟨m, hm⟩ : ∃ m, n - k = m + 1 := ⟨n - k - 1, by omega⟩
  rw [hm, List.replicate_succ, List.set_cons_zero, show n - (k + 1) = m by omega]
  simp
theorem take_rep_at {α : Type} {xs : List α} {k n : Nat} {z : α} (hn : n = xs.length) (hk : k < n) : (xs.take k ++ List.replicate (n - k) z)[k]? = some z := by
  have hl : (xs.take k).length = k := by rw [List.length_take]; omega
  rw [List.getElem?_append_right (by omega), hl, Nat.sub_self, List.getElem?_replicate]
  simp; omega

theorem toIntS_c (A : Option Addr) (c n : Nat) (xs : List Int) (w : World) (hxs : RI w 0 A c n xs) (hn : n ≤ 4194304) : Calls Try.prog 116 #[.slice A n c] w fun E w' => ∃ g, E = .returned (.slice (some ⟨g, 0, none⟩) n n) ∧ OwI w' w.heap.size (some ⟨g, 0, none⟩) n n xs ∧ w.heap.size ≤ g ∧ g < w'.heap.size ∧ Ex w w' := by
  have hl := Lib.hid hxs.1
  go_enter Try.func116, Try.ntmps116
  go_wp2_with (at_make; apply wpList_mk (lo := w.heap.size) el_I 0 z_I rfl rfl rfl rfl rfl; omega; (unfold maxLen; omega); exact sz_; intro wm hom hbm hzm; have hst := xr hbm; (try simp only [zA, zC, zD, zN] at hst); obtain ⟨hcm, hfm, hzm2⟩ := hst)
  go_loopw [4] (fun i wr => ∃ k : Nat, k ≤ n ∧ i = .int .i64 k ∧ Ex w wr ∧ OwI wr w.heap.size (some ⟨w.heap.size, 0, none⟩) n n (xs.take k ++ List.replicate (n - k) 0)) (fun i _ => n - (intOf i).toNat)
  case atStart => exact ⟨0, Nat.zero_le _, rfl, by assumption, by simpa using hom⟩
  case round =>
    obtain ⟨k, hk, rfl, hb2, hrel⟩ := hrel
    have hst := Ex.rules hb2 rfl
    obtain ⟨hc2, hf2, hz2⟩ := hst
    by_cases hlt : k < n
    · obtain ⟨g, off, y, rfl, hg0, hg, hd, hy, hcy⟩ := at_I hxs hlt
      obtain ⟨g', x', hA', hg0', hg', hx', hc', hfr⟩ := at_OI hrel hlt
      cases hA'
      have Hs := Lib.hid (OI_set hrel rfl hx' y)
      have Hy := Lib.hid hy
      have Hd := Lib.hid hd
      clear hrel hd hy hx'
      go_wp2_with fail
      go_roundw
      case rel =>
        refine ⟨k + 1, by omega, by go_num, ext_, ?_⟩
        have := Hs.out
        rw [take_set_step hl.out hlt Hy.out] at this
        exact this
      case measure => simp [intOf]; omega
    · have Hrel := Lib.hid hrel; clear hrel
      go_wp2_with fail
      go_ret
      have := Hrel.out
      obtain rfl : k = n := by omega
      rw [Nat.sub_self, List.take_of_length_le (by have := hl.out; omega)] at this
      exact ⟨_, rfl, by simpa using this, Nat.le_refl _, (this.blk rfl).2, ext_⟩
end Go.Proofs.Ytgceeggfdomdjaa

