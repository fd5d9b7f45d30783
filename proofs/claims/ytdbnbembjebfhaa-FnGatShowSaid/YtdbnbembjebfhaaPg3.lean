/-
  Texts joined: Plain2, Plain3, Deep.
-/
import Derived.Test.YtdbnbembjebfhaaPg2
namespace Go.Proofs.Ytdbnbembjebfhaa.Sw
set_option maxRecDepth 100000
set_option linter.unusedSimpArgs false
set_option linter.unusedVariables false
open Go.RowKit (wrap64)

/-! ### deals -/
theorem dealOk_iff {clock : Int} {rows : List Row} {d : Deal} : dealOk clock rows d = true ↔ (0 ≤ d.ticket ∧ d.ticket ≤ 7) ∧ (1 ≤ d.seller ∧ d.seller ≤ 5) ∧ (rowAt rows d.ticket).who = d.seller ∧ (rowAt rows d.ticket).used = false ∧
    (1 ≤ d.price ∧ d.price ≤ entCap (rowAt rows d.ticket).face) ∧ ((d.buyer = 0 ∧ d.due = 0) ∨ ((1 ≤ d.buyer ∧ d.buyer ≤ 5) ∧ d.buyer ≠ d.seller ∧ (clock ≤ d.due ∧ d.due ≤ clock + 5))) := by
  unfold dealOk
  by_cases h : d.buyer = 0
  · rw [if_pos h]
    simp only [Bool.and_eq_true, inR_iff, decide_eq_true_eq, Bool.not_eq_true', and_assoc]
    simp [h]
  · rw [if_neg h]
    simp only [Bool.and_eq_true, inR_iff, decide_eq_true_eq, Bool.not_eq_true', and_assoc]
    simp [h]
theorem entCap_le (f : Int) : entCap f ≤ 60 := by
  unfold entCap
  split
  · have := inR_iff.1 ‹_›; omega
  · omega
def DOk (clock : Int) (rows : List Row) (ds : List Deal) : Prop := (∀ d ∈ ds, dealOk clock rows d = true) ∧ ds.Pairwise (fun a b => a.ticket < b.ticket)
theorem dealsOk_iff {clock : Int} {rows : List Row} : ∀ (ds : List Deal) (p : Int), dealsOk clock rows p ds = true ↔ DOk clock rows ds ∧ ∀ d ∈ ds, p < d.ticket
  | [], p => by simp [dealsOk, DOk]
  | d :: ds, p => by
    rw [dealsOk, Bool.and_eq_true, Bool.and_eq_true, dealsOk_iff ds, decide_eq_true_eq]
    unfold DOk
    simp only [List.mem_cons, forall_eq_or_imp, List.pairwise_cons]
    constructor
    · rintro ⟨⟨h1, h2⟩, ⟨h3, h4⟩, h5⟩
      exact ⟨⟨⟨h1, h3⟩, h5, h4⟩, h2, fun x hx => Int.lt_trans h2 (h5 x hx)⟩
    · rintro ⟨⟨⟨h1, h3⟩, h5, h4⟩, h2, _⟩
      exact ⟨⟨h1, h2⟩, ⟨h3, h4⟩, h5⟩
theorem dealsOk_iff' {clock : Int} {rows : List Row} {ds : List Deal} : dealsOk clock rows (-1) ds = true ↔ DOk clock rows ds := by
  rw [dealsOk_iff]
  exact ⟨fun h => h.1, fun h => ⟨h, fun d hd => by have := (dealOk_iff.1 (h.1 d hd)).1; omega⟩⟩
theorem DOk.get {clock : Int} {rows : List Row} {ds : List Deal} (h : DOk clock rows ds) {k : Nat} {d : Deal} (hk : ds[k]? = some d) : dealOk clock rows d = true := h.1 d (List.mem_of_getElem? hk)
theorem DOk.inj {clock : Int} {rows : List Row} {ds : List Deal} (h : DOk clock rows ds) {i j : Nat} {a b : Deal} (hi : ds[i]? = some a) (hj : ds[j]? = some b) (e : a.ticket = b.ticket) : i = j := by
  have hp := List.pairwise_iff_getElem.1 h.2
  obtain ⟨hi', rfl⟩ := List.getElem?_eq_some_iff.1 hi
  obtain ⟨hj', rfl⟩ := List.getElem?_eq_some_iff.1 hj
  rcases Nat.lt_trichotomy i j with hij | hij | hij
  · have := hp i j hi' hj' hij; omega
  · exact hij
  · have := hp j i hj' hi' hij; omega
theorem DOk.sub {clock : Int} {rows : List Row} {ds es : List Deal} (h : DOk clock rows ds) (hs : es.Sublist ds) : DOk clock rows es :=
  ⟨fun d hd => h.1 d (hs.subset hd), h.2.sublist hs⟩
/-- Rows that stand alike at all deals' tickets. -/
theorem DOk.rows {clock : Int} {rows rows' : List Row} {ds : List Deal} (h : DOk clock rows ds) (hr : ∀ d ∈ ds, rowAt rows' d.ticket = rowAt rows d.ticket) : DOk clock rows' ds :=
  ⟨fun d hd => by have := h.1 d hd; rw [dealOk_iff] at this ⊢; rw [hr d hd]; exact this, h.2⟩
theorem erase_other {clock : Int} {rows : List Row} {ds : List Deal} (h : DOk clock rows ds) {k : Nat} {d : Deal} (hk : ds[k]? = some d) : ∀ x ∈ ds.eraseIdx k, x.ticket ≠ d.ticket := by
  intro x hx e
  rw [List.mem_eraseIdx_iff_getElem?] at hx
  obtain ⟨i, hi, hx⟩ := hx
  exact hi (h.inj hx hk e)
theorem DOk.set {clock : Int} {rows : List Row} {ds : List Deal} (h : DOk clock rows ds) {k : Nat} {d e : Deal} (hk : ds[k]? = some d) (ht : e.ticket = d.ticket) (he : dealOk clock rows e = true) : DOk clock rows (ds.set k e) := by
  refine ⟨fun x hx => ?_, ?_⟩
  · rcases List.mem_or_eq_of_mem_set hx with hx | rfl
    · exact h.1 x hx
    · exact he
  · rw [List.pairwise_iff_getElem]
    obtain ⟨hk', rfl⟩ := List.getElem?_eq_some_iff.1 hk
    intro i j hi hj hij
    have hp := List.pairwise_iff_getElem.1 h.2 i j (by simpa using hi) (by simpa using hj) hij
    rw [List.getElem_set, List.getElem_set]
    split <;> split <;> subst_vars <;> (try rw [ht]) <;> (try exact hp) <;> omega
theorem insertDeal_mem {d x : Deal} : ∀ {ds : List Deal}, x ∈ insertDeal d ds ↔ x = d ∨ x ∈ ds
  | [] => by simp [insertDeal]
  | y :: ys => by
    rw [insertDeal]
    split
    · simp
    · rw [List.mem_cons, insertDeal_mem, List.mem_cons]
      constructor
      · rintro (h | h | h)
        · exact .inr (.inl h)
        · exact .inl h
        · exact .inr (.inr h)
      · rintro (h | h | h)
        · exact .inr (.inl h)
        · exact .inl h
        · exact .inr (.inr h)
theorem insertDeal_len {d : Deal} : ∀ {ds : List Deal}, (insertDeal d ds).length = ds.length + 1
  | [] => rfl
  | y :: ys => by
    rw [insertDeal]
    split
    · rfl
    · rw [List.length_cons, insertDeal_len, List.length_cons]
theorem insertDeal_rises {d : Deal} : ∀ {ds : List Deal}, ds.Pairwise (fun a b => a.ticket < b.ticket) → (∀ x ∈ ds, x.ticket ≠ d.ticket) → (insertDeal d ds).Pairwise (fun a b => a.ticket < b.ticket)
  | [], _, _ => by simp [insertDeal]
  | y :: ys, h, hn => by
    rw [List.pairwise_cons] at h
    have hy := hn y (List.mem_cons_self ..)
    rw [insertDeal]
    split
    · rw [List.pairwise_cons, List.pairwise_cons]
      refine ⟨fun x hx => ?_, h.1, h.2⟩
      rcases List.mem_cons.1 hx with rfl | hx
      · assumption
      · have := h.1 x hx; omega
    · rw [List.pairwise_cons]
      refine ⟨fun x hx => ?_, insertDeal_rises h.2 (fun x hx => hn x (List.mem_cons_of_mem _ hx))⟩
      rcases insertDeal_mem.1 hx with rfl | hx
      · omega
      · exact h.1 x hx
theorem dealAt_some {ds : List Deal} {t : Int} {k : Nat} (h : dealAt ds t = some k) : ∃ d, ds[k]? = some d ∧ d.ticket = t := by
  unfold dealAt at h
  rw [List.findIdx?_eq_some_iff_getElem] at h
  obtain ⟨hk, h1, _⟩ := h
  exact ⟨ds[k], List.getElem?_eq_getElem hk, by simpa using h1⟩
theorem dealAt_none {ds : List Deal} {t : Int} (h : dealAt ds t = none) : ∀ d ∈ ds, d.ticket ≠ t := by
  unfold dealAt at h
  rw [List.findIdx?_eq_none_iff] at h
  intro d hd e
  have := h d hd
  simp [e] at this
theorem getD_of {α : Type} {l : List α} {k : Nat} {x z : α} (h : l[k]? = some x) : l.getD k z = x := by rw [List.getD_eq_getElem?_getD, h]; rfl

/-! ### what is held -/
def heldIn (d : Deal) : Int := if held d then d.price else 0
def heldSum (ds : List Deal) : Int := (ds.map heldIn).sum
theorem heldIn_bd {clock : Int} {rows : List Row} {d : Deal} (h : dealOk clock rows d = true) : 0 ≤ heldIn d ∧ heldIn d ≤ 60 := by
  have := (dealOk_iff.1 h).2.2.2.2.1
  have := entCap_le (rowAt rows d.ticket).face
  unfold heldIn
  split <;> omega
theorem heldSum_bd {clock : Int} {rows : List Row} : ∀ {ds : List Deal}, (∀ d ∈ ds, dealOk clock rows d = true) → 0 ≤ heldSum ds ∧ heldSum ds ≤ 60 * ds.length
  | [], _ => by simp [heldSum]
  | d :: ds, h => by
    have h1 := heldIn_bd (h d (List.mem_cons_self ..))
    have h2 := heldSum_bd (fun x hx => h x (List.mem_cons_of_mem _ hx))
    unfold heldSum at h2 ⊢
    rw [List.map_cons, List.sum_cons, List.length_cons]
    omega
theorem heldFrom_eq {clock : Int} {rows : List Row} : ∀ (ds : List Deal) (s : Int), 0 ≤ s → s + 60 * ds.length ≤ 9223372036854775807 → (∀ d ∈ ds, dealOk clock rows d = true) → heldFrom s ds = s + heldSum ds
  | [], s, _, _, _ => by simp [heldFrom, heldSum]
  | d :: ds, s, h0, h1, h => by
    have hd := heldIn_bd (h d (List.mem_cons_self ..))
    rw [List.length_cons] at h1
    have := heldFrom_eq ds (s + heldIn d) (by omega) (by omega) (fun x hx => h x (List.mem_cons_of_mem _ hx))
    unfold heldFrom at this ⊢
    rw [List.foldl_cons]
    have e : heldStep s d = s + heldIn d := by
      unfold heldStep heldIn
      unfold heldIn at hd
      split
      · rw [if_pos ‹_›] at hd
        rw [wrap64_in (by omega)]
      · omega
    rw [e, this]
    unfold heldSum
    rw [List.map_cons, List.sum_cons]
    omega
theorem heldOf_eq {clock : Int} {rows : List Row} {ds : List Deal} (h : DOk clock rows ds) (h8 : ds.length ≤ 8) : heldOf ds = heldSum ds := by
  rw [heldOf, heldFrom_eq ds 0 (by omega) (by omega) h.1]; omega
theorem heldSum_erase : ∀ {ds : List Deal} {k : Nat} {d : Deal}, ds[k]? = some d → heldSum (ds.eraseIdx k) = heldSum ds - heldIn d
  | [], k, d, h => by simp at h
  | x :: xs, 0, d, h => by
    obtain rfl : x = d := by simpa using h
    unfold heldSum
    simp only [List.eraseIdx_cons_zero, List.map_cons, List.sum_cons]
    omega
  | x :: xs, k + 1, d, h => by
    have := heldSum_erase (ds := xs) (k := k) (d := d) (by simpa using h)
    unfold heldSum at this ⊢
    simp only [List.eraseIdx_cons_succ, List.map_cons, List.sum_cons, this]
    omega
theorem heldSum_set : ∀ {ds : List Deal} {k : Nat} {d e : Deal}, ds[k]? = some d → heldSum (ds.set k e) = heldSum ds - heldIn d + heldIn e
  | [], k, d, e, h => by simp at h
  | x :: xs, 0, d, e, h => by
    obtain rfl : x = d := by simpa using h
    unfold heldSum
    simp only [List.set_cons_zero, List.map_cons, List.sum_cons]
    omega
  | x :: xs, k + 1, d, e, h => by
    have := heldSum_set (ds := xs) (k := k) (d := d) (e := e) (by simpa using h)
    unfold heldSum at this ⊢
    simp only [List.set_cons_succ, List.map_cons, List.sum_cons, this]
    omega
theorem heldSum_insert {d : Deal} : ∀ {ds : List Deal}, heldSum (insertDeal d ds) = heldIn d + heldSum ds
  | [] => by simp [insertDeal, heldSum]
  | x :: xs => by
    have := heldSum_insert (d := d) (ds := xs)
    unfold heldSum at this ⊢
    rw [insertDeal]
    split
    · simp
    · simp only [List.map_cons, List.sum_cons, this]
      omega

/-! ### a market that is ok -/
structure MOk (m : Mkt) (rows : List Row) : Prop where
  fold : ownFold m.log = some rows
  mon : monOk m.purses = true
  dlen : m.deals.length ≤ 8
  clk : 0 ≤ m.clock ∧ m.clock ≤ 99999
  nlen : m.nums.length = 5
  slen : m.said.length = 5
  deals : DOk m.clock rows m.deals
  nums : numsOk m.nums m.said = true
  sum : m.purses.sum + heldSum m.deals ≤ 100000
theorem mktRows_of {m : Mkt} {rows : List Row} (h : ownFold m.log = some rows) : mktRows m = rows := by rw [mktRows, h]; rfl
theorem mktOk_iff {m : Mkt} : mktOk m = true ↔ ∃ rows, MOk m rows := by
  unfold mktOk
  simp only [Bool.and_eq_true, decide_eq_true_eq, inR_iff, dealsOk_iff']
  constructor
  · rintro ⟨⟨⟨⟨⟨⟨⟨⟨h1, h2⟩, h3⟩, h4⟩, h5⟩, h6⟩, h7⟩, h8⟩, h9⟩
    obtain ⟨rows, hr⟩ := Option.isSome_iff_exists.1 h1
    rw [mktRows_of hr] at h7
    refine ⟨rows, hr, h2, h3, h4, h5, h6, h7, h8, ?_⟩
    rw [monSum_eq h2, mktHeld, heldOf_eq h7 h3] at h9
    exact h9
  · rintro ⟨rows, hr, h2, h3, h4, h5, h6, h7, h8, h9⟩
    rw [mktRows_of hr]
    refine ⟨⟨⟨⟨⟨⟨⟨⟨by rw [hr]; rfl, h2⟩, h3⟩, h4⟩, h5⟩, h6⟩, h7⟩, h8⟩, ?_⟩
    rw [monSum_eq h2, mktHeld, heldOf_eq h7 h3]
    exact h9
def total (m : Mkt) : Int := m.purses.sum + heldSum m.deals
theorem MOk.total {m : Mkt} {rows : List Row} (h : MOk m rows) : monSum m.purses + mktHeld m = m.purses.sum + heldSum m.deals := by
  rw [monSum_eq h.mon, mktHeld, heldOf_eq h.deals h.dlen]
theorem reqOk_iff {r : Req} : reqOk r = true ↔ (1 ≤ r.user ∧ r.user ≤ 5) ∧ (1 ≤ r.n ∧ r.n ≤ 99999) ∧ (1 ≤ r.kind ∧ r.kind ≤ 6) ∧ (0 ≤ r.ticket ∧ r.ticket ≤ 7) ∧
    ((r.kind = 1 ∧ (1 ≤ r.who ∧ r.who ≤ 5) ∧ (1 ≤ r.price ∧ r.price ≤ 50)) ∨ (r.kind = 2 ∧ r.who = 0 ∧ (1 ≤ r.price ∧ r.price ≤ 999)) ∨ (r.kind ≠ 1 ∧ r.kind ≠ 2 ∧ r.who = 0 ∧ r.price = 0)) := by
  unfold reqOk
  by_cases h1 : r.kind = 1
  · rw [if_pos h1]; simp only [Bool.and_eq_true, inR_iff, and_assoc]; simp [h1]
  · by_cases h2 : r.kind = 2
    · rw [if_neg h1, if_pos h2]; simp only [Bool.and_eq_true, inR_iff, and_assoc, decide_eq_true_eq]; simp [h2]
    · rw [if_neg h1, if_neg h2]; simp only [Bool.and_eq_true, inR_iff, and_assoc, decide_eq_true_eq]; simp [h1, h2]

/-- What an effect leaves: the market but its numbers is ok; as many numbers; money as it was. -/
structure Eff (m x : Mkt) : Prop where
  rows : ∃ rows, ownFold x.log = some rows ∧ DOk x.clock rows x.deals
  mon : monOk x.purses = true
  dlen : x.deals.length ≤ 8
  clk : x.clock = m.clock
  nums : x.nums = m.nums
  said : x.said = m.said
  sum : x.purses.sum + heldSum x.deals = m.purses.sum + heldSum m.deals
theorem Eff.refl {m : Mkt} {rows : List Row} (h : MOk m rows) : Eff m m := ⟨⟨rows, h.fold, h.deals⟩, h.mon, h.dlen, rfl, rfl, rfl, rfl⟩
theorem rises_len8 {clock : Int} {rows : List Row} {ds : List Deal} (h : DOk clock rows ds) : ds.length ≤ 8 := by
  have key : ∀ (ds : List Deal) (p : Int), ds.Pairwise (fun a b => a.ticket < b.ticket) → (∀ d ∈ ds, p < d.ticket ∧ d.ticket ≤ 7) → -1 ≤ p → p ≤ 7 → (ds.length : Int) ≤ 7 - p := by
    intro ds
    induction ds with
    | nil => intro p _ _ h0 h1; simp; omega
    | cons d ds ih =>
      intro p hp hd h0 h1
      rw [List.pairwise_cons] at hp
      have h2 := hd d (List.mem_cons_self ..)
      have := ih d.ticket hp.2 (fun x hx => ⟨hp.1 x hx, (hd x (List.mem_cons_of_mem _ hx)).2⟩) (by omega) h2.2
      rw [List.length_cons]
      omega
  have := key ds (-1) h.2 (fun d hd => by have := (dealOk_iff.1 (h.1 d hd)).1; omega) (by omega) (by omega)
  omega
theorem issue_eff {m : Mkt} {rows : List Row} {r : Req} (h : MOk m rows) (hr : reqOk r = true) (hk : r.kind = 1) : Eff m (issue m r (rowAt rows r.ticket)).1 := by
  have hr := reqOk_iff.1 hr
  unfold issue
  split
  · exact .refl h
  split
  · exact .refl h
  split
  · exact .refl h
  split
  case isFalse => exact .refl h
  rename_i h1 h2 h3 h4
  rw [moveMay_iff] at h4
  obtain ⟨h4, h5, h6, h7⟩ := h4
  have hl : m.log.length < 40 := by have := (ownFold_some.1 h.fold).1; omega
  have hf : ownFits rows ⟨1, r.ticket, r.who, r.price⟩ = true := by
    rw [ownFits_iff]
    refine ⟨ownFold_ok h.fold, entOk_iff.2 ?_, (fitsRow_iff (.inl rfl)).2 (.inl ⟨rfl, by simpa using h2⟩)⟩
    dsimp only
    omega
  have hno : ∀ d ∈ m.deals, d.ticket ≠ r.ticket := fun d hd e => by
    have := (dealOk_iff.1 (h.deals.1 d hd))
    rw [e] at this
    omega
  refine ⟨⟨_, ownFold_snoc h.fold hl hf, h.deals.rows fun d hd => ?_⟩, turned_ok h7, h.dlen, rfl, rfl, rfl, ?_⟩
  · rw [rowAt_put (ownOk_len (ownFold_ok h.fold)) ⟨hr.2.2.2.1.1, hr.2.2.2.1.2⟩ (dealOk_iff.1 (h.deals.1 d hd)).1.1, if_neg (hno d hd)]
  · show (turned _ _ _).sum + heldSum m.deals = _
    rw [turned_sum h7, turned_sum h6]
    omega
theorem none_of {α : Type} {o : Option α} (h : o.isSome = false) : o = none := by cases o <;> simp_all
theorem offer_eff {m : Mkt} {rows : List Row} {r : Req} (h : MOk m rows) (hr : reqOk r = true) (hk : r.kind = 2) : Eff m (offer m r (rowAt rows r.ticket) (dealAt m.deals r.ticket)).1 := by
  have hr := reqOk_iff.1 hr
  unfold offer
  split
  · exact .refl h
  split
  · exact .refl h
  split
  · exact .refl h
  rename_i h1 h2 h3
  simp only [not_or, Bool.not_eq_true] at h2
  have hno := dealAt_none (none_of h2.1)
  have hd : DOk m.clock rows (insertDeal ⟨r.ticket, r.user, r.price, 0, 0⟩ m.deals) := by
    refine ⟨fun d hd => ?_, insertDeal_rises h.deals.2 hno⟩
    rcases insertDeal_mem.1 hd with rfl | hd
    · rw [dealOk_iff]
      dsimp only
      refine ⟨hr.2.2.2.1, hr.1, by simpa using h1, h2.2, by omega, .inl ⟨rfl, rfl⟩⟩
    · exact h.deals.1 d hd
  refine ⟨⟨rows, h.fold, hd⟩, h.mon, rises_len8 hd, rfl, rfl, rfl, ?_⟩
  show _ + heldSum (insertDeal _ _) = _
  rw [heldSum_insert]
  simp [heldIn, held]
theorem drop_eff {m : Mkt} {rows : List Row} {r : Req} (h : MOk m rows) : Eff m (dropIt m r (rowAt rows r.ticket) (dealAt m.deals r.ticket)).1 := by
  unfold dropIt
  split
  · exact .refl h
  split
  · exact .refl h
  rename_i k hk
  obtain ⟨d, hd, ht⟩ := dealAt_some hk
  rw [getD_of hd]
  split
  · exact .refl h
  rename_i h2
  have hs := List.eraseIdx_sublist m.deals k
  refine ⟨⟨rows, h.fold, h.deals.sub hs⟩, h.mon, Nat.le_trans hs.length_le h.dlen, rfl, rfl, rfl, ?_⟩
  show _ + heldSum (m.deals.eraseIdx k) = _
  rw [heldSum_erase hd]
  simp [heldIn, h2]
theorem fund_eff {m : Mkt} {rows : List Row} {r : Req} (h : MOk m rows) (hr : reqOk r = true) : Eff m (fund m r (dealAt m.deals r.ticket)).1 := by
  have hr := reqOk_iff.1 hr
  unfold fund
  split
  · exact .refl h
  rename_i k hk
  obtain ⟨d, hd, ht⟩ := dealAt_some hk
  rw [getD_of hd]
  split
  · exact .refl h
  split
  · exact .refl h
  split
  case isFalse => exact .refl h
  rename_i h1 h2 h3
  have hdo := dealOk_iff.1 (h.deals.get hd)
  have he : DOk m.clock rows (m.deals.set k { d with buyer := r.user, due := m.clock + 5 }) := by
    refine h.deals.set hd rfl (dealOk_iff.2 ?_)
    dsimp only
    refine ⟨hdo.1, hdo.2.1, hdo.2.2.1, hdo.2.2.2.1, hdo.2.2.2.2.1, .inr ⟨hr.1, fun e => h2 e.symm, by omega⟩⟩
  refine ⟨⟨rows, h.fold, he⟩, turned_ok h3, by simpa using h.dlen, rfl, rfl, rfl, ?_⟩
  show (turned _ _ _).sum + heldSum (m.deals.set k _) = _
  rw [turned_sum h3, heldSum_set hd]
  have hu : heldIn { d with buyer := r.user, due := m.clock + 5 } = d.price := if_pos (by simp [held]; omega)
  have hb : heldIn d = 0 := if_neg h1
  rw [hu, hb]
  omega
theorem settle_eff {m : Mkt} {rows : List Row} {r : Req} (h : MOk m rows) (hr : reqOk r = true) : Eff m (settle m r (dealAt m.deals r.ticket)).1 := by
  have hr := reqOk_iff.1 hr
  unfold settle
  split
  · exact .refl h
  rename_i k hk
  obtain ⟨d, hd, ht⟩ := dealAt_some hk
  rw [getD_of hd]
  split
  · exact .refl h
  split
  · exact .refl h
  split
  · exact .refl h
  rename_i h1 h2 h3
  have hdo := dealOk_iff.1 (h.deals.get hd)
  have hh : held d = true := by simpa using h1
  have hb : 0 < d.buyer := by simpa [held] using hh
  have hl : m.log.length < 40 := by have := (ownFold_some.1 h.fold).1; omega
  have hp := hdo.2.2.2.2.1
  have hcap := entCap_le (rowAt rows d.ticket).face
  have hf : ownFits rows ⟨2, r.ticket, d.buyer, d.price⟩ = true := by
    rw [ownFits_iff]
    refine ⟨ownFold_ok h.fold, entOk_iff.2 ?_, (fitsRow_iff (.inr (.inl rfl))).2 (.inr (.inl ⟨rfl, ?_⟩))⟩ <;> dsimp only
    · omega
    · rw [← ht]
      refine ⟨by omega, ?_, hdo.2.2.2.1, hp.2⟩
      rw [hdo.2.2.1]; omega
  have hs := List.eraseIdx_sublist m.deals k
  have hsum : turnMay m.purses d.seller d.price = true := by
    refine turnMay_in h.mon hdo.2.1 (by omega) ?_
    have h4 := h.sum
    have h5 := heldSum_erase hd
    have h6 := (heldSum_bd (h.deals.sub hs).1).1
    have : heldIn d = d.price := by simp [heldIn, hh]
    omega
  have e : monTurn m.purses d.seller d.price = turned m.purses d.seller d.price := by simp [monTurn, hsum]
  refine ⟨⟨_, ownFold_snoc h.fold hl hf, (h.deals.sub hs).rows fun x hx => ?_⟩, by dsimp only; rw [e]; exact turned_ok hsum, Nat.le_trans hs.length_le h.dlen, rfl, rfl, rfl, ?_⟩
  · have := erase_other h.deals hd x hx
    rw [rowAt_put (ownOk_len (ownFold_ok h.fold)) ⟨hr.2.2.2.1.1, hr.2.2.2.1.2⟩ (dealOk_iff.1 ((h.deals.sub hs).1 x hx)).1.1, if_neg (by dsimp only; omega)]
  · show (monTurn _ _ _).sum + heldSum (m.deals.eraseIdx k) = _
    rw [e, turned_sum hsum, heldSum_erase hd]
    simp only [heldIn, hh, if_true]
    omega
theorem enter_eff {m : Mkt} {rows : List Row} {r : Req} (h : MOk m rows) (hr : reqOk r = true) : Eff m (enter m r (rowAt rows r.ticket) (dealAt m.deals r.ticket)).1 := by
  have hr := reqOk_iff.1 hr
  unfold enter
  split
  · exact .refl h
  split
  · exact .refl h
  split
  · exact .refl h
  rename_i h1 h2 h3
  simp only [not_or, Bool.not_eq_true] at h2
  have hno := dealAt_none (none_of h2.2)
  have hl : m.log.length < 40 := by have := (ownFold_some.1 h.fold).1; omega
  have hf : ownFits rows ⟨3, r.ticket, r.user, 0⟩ = true := by
    rw [ownFits_iff]
    refine ⟨ownFold_ok h.fold, entOk_iff.2 ?_, (fitsRow_iff (.inr (.inr rfl))).2 (.inr (.inr ⟨rfl, by simpa using h1, h2.1⟩))⟩
    dsimp only
    omega
  refine ⟨⟨_, ownFold_snoc h.fold hl hf, h.deals.rows fun d hd => ?_⟩, h.mon, h.dlen, rfl, rfl, rfl, rfl⟩
  rw [rowAt_put (ownOk_len (ownFold_ok h.fold)) ⟨hr.2.2.2.1.1, hr.2.2.2.1.2⟩ (dealOk_iff.1 (h.deals.1 d hd)).1.1, if_neg (hno d hd)]
theorem effect_eff {m : Mkt} {rows : List Row} {r : Req} (h : MOk m rows) (hr : reqOk r = true) : Eff m (effect m r).1 := by
  unfold effect
  rw [mktRows_of h.fold]
  split
  · exact issue_eff h hr ‹_›
  split
  · exact offer_eff h hr ‹_›
  split
  · exact drop_eff h
  split
  · exact fund_eff h hr
  split
  · exact settle_eff h hr
  · exact enter_eff h hr
theorem effect_ans (m : Mkt) (r : Req) : 1 ≤ (effect m r).2 ∧ (effect m r).2 ≤ 6 := by
  have key : ∀ (P : Mkt × Int → Prop) (c : Prop) [Decidable c] (a b : Mkt × Int), P a → P b → P (if c then a else b) := by
    intro P c _ a b ha hb; split <;> assumption
  unfold effect issue offer dropIt fund settle enter
  repeat' (first | (split) | decide)
  all_goals (first | decide | (dsimp only; omega))
theorem numsOk_iff : ∀ {ns ss : List Int}, ns.length = ss.length → (numsOk ns ss = true ↔ ∀ (k : Nat) (n s : Int), ns[k]? = some n → ss[k]? = some s → numOk n s = true)
  | [], [], _ => by simp [numsOk]
  | [], _ :: _, h => by simp at h
  | _ :: _, [], h => by simp at h
  | n :: ns, s :: ss, h => by
    rw [numsOk, Bool.and_eq_true, numsOk_iff (by simpa using h)]
    constructor
    · rintro ⟨h1, h2⟩ k a b ha hb
      cases k with
      | zero => simp at ha hb; subst ha hb; exact h1
      | succ k => exact h2 k a b (by simpa using ha) (by simpa using hb)
    · intro h
      exact ⟨h 0 n s rfl rfl, fun k a b ha hb => h (k + 1) a b (by simpa using ha) (by simpa using hb)⟩
theorem numOk_iff {n s : Int} : numOk n s = true ↔ (0 ≤ n ∧ n ≤ 99999) ∧ (0 ≤ s ∧ s ≤ 6) ∧ (n = 0 ↔ s = 0) := by
  unfold numOk
  simp only [Bool.and_eq_true, inR_iff, and_assoc]
  simp
theorem noted_nums {ns ss : List Int} (hn : ns.length = 5) (hs : ss.length = 5) (h : numsOk ns ss = true) {k : Nat} {n s : Int} (ho : numOk n s = true) : numsOk (ns.set k n) (ss.set k s) = true := by
  rw [numsOk_iff (by rw [hn, hs])] at h
  rw [numsOk_iff (by simp [hn, hs])]
  intro j a b ha hb
  rw [List.getElem?_set] at ha hb
  by_cases hj : k = j
  · rw [if_pos hj] at ha hb
    split at ha
    · split at hb
      · cases ha; cases hb; exact ho
      · cases hb
    · cases ha
  · rw [if_neg hj] at ha hb
    exact h j a b ha hb
theorem Eff.noted {m x : Mkt} {rows : List Row} {r : Req} {a : Int} (h : MOk m rows) (he : Eff m x) (hr : reqOk r = true) (ha : 1 ≤ a ∧ a ≤ 6) : ∃ rows', MOk (noted x r a) rows' := by
  have hr := reqOk_iff.1 hr
  obtain ⟨rows', h1, h2⟩ := he.rows
  have hck := h.clk
  refine ⟨rows', h1, he.mon, he.dlen, by show 0 ≤ x.clock ∧ x.clock ≤ 99999; rw [he.clk]; exact hck, by simp [Sw.noted, he.nums, h.nlen], by simp [Sw.noted, he.said, h.slen], h2, ?_, by show x.purses.sum + heldSum x.deals ≤ _; rw [he.sum]; exact h.sum⟩
  show numsOk (x.nums.set _ _) (x.said.set _ _) = true
  rw [he.nums, he.said]
  exact noted_nums h.nlen h.slen h.nums (numOk_iff.2 ⟨by omega, by omega, by omega⟩)
theorem doIt_ok {m : Mkt} {rows : List Row} {r : Req} (h : MOk m rows) (hr : reqOk r = true) : ∃ rows', MOk (doIt m r).1 rows' := by
  unfold doIt
  split
  · exact ⟨rows, h⟩
  split
  · exact ⟨rows, h⟩
  · exact (effect_eff h hr).noted h hr (effect_ans m r)
theorem doIt_mktOk {m : Mkt} {r : Req} (h : mktOk m = true) (hr : reqOk r = true) : mktOk (doIt m r).1 = true := by
  obtain ⟨rows, h⟩ := mktOk_iff.1 h
  exact mktOk_iff.2 (doIt_ok h hr)
theorem doIt_total {m : Mkt} {rows : List Row} {r : Req} (h : MOk m rows) (hr : reqOk r = true) : total (doIt m r).1 = total m := by
  unfold doIt
  split
  · rfl
  split
  · rfl
  · exact (effect_eff h hr).sum

/-! ### the clock -/
theorem backDeal_ok {clock : Int} {rows : List Row} {d : Deal} (h : dealOk clock rows d = true) : dealOk (clock + 1) rows (backDeal (clock + 1) d) = true := by
  rw [dealOk_iff] at h ⊢
  unfold backDeal
  split
  · exact ⟨h.1, h.2.1, h.2.2.1, h.2.2.2.1, h.2.2.2.2.1, .inl ⟨rfl, rfl⟩⟩
  · rename_i hh
    refine ⟨h.1, h.2.1, h.2.2.1, h.2.2.2.1, h.2.2.2.2.1, ?_⟩
    simp only [held, Bool.and_eq_true, decide_eq_true_eq, not_and] at hh
    rcases h.2.2.2.2.2 with h6 | h6
    · exact .inl h6
    · have := hh (by omega)
      exact .inr ⟨h6.1, h6.2.1, by omega⟩
theorem backDeal_ticket (clock : Int) (d : Deal) : (backDeal clock d).ticket = d.ticket := by unfold backDeal; split <;> rfl
theorem backs {clock ck : Int} {rows : List Row} : ∀ (ds : List Deal) (p : List Int), monOk p = true → (∀ d ∈ ds, dealOk ck rows d = true) → p.sum + heldSum ds ≤ 100000 →
    monOk (ds.foldl (backPurse clock) p) = true ∧ (ds.foldl (backPurse clock) p).sum + heldSum (ds.map (backDeal clock)) = p.sum + heldSum ds
  | [], p, hp, _, _ => ⟨hp, rfl⟩
  | d :: ds, p, hp, hd, hs => by
    have hdo := dealOk_iff.1 (hd d (List.mem_cons_self ..))
    have hb := (heldSum_bd (fun x hx => hd x (List.mem_cons_of_mem _ hx))).1
    have hd' := fun x hx => hd x (List.mem_cons_of_mem d hx)
    have e1 : heldSum (d :: ds) = heldIn d + heldSum ds := by simp [heldSum]
    have e2 : heldSum ((d :: ds).map (backDeal clock)) = heldIn (backDeal clock d) + heldSum (ds.map (backDeal clock)) := by simp [heldSum]
    rw [e1] at hs
    rw [e1, e2, List.foldl_cons]
    unfold backPurse backDeal
    by_cases hc : (held d && decide (d.due < clock)) = true
    · rw [if_pos hc, if_pos hc]
      simp only [Bool.and_eq_true] at hc
      have hi : heldIn d = d.price := by simp [heldIn, hc.1]
      have hb0 : 0 < d.buyer := by simpa [held] using hc.1
      have hm := turnMay_in hp (who := d.buyer) (n := d.price) (by omega) (by omega) (by omega)
      have e : monTurn p d.buyer d.price = turned p d.buyer d.price := by simp [monTurn, hm]
      rw [e]
      have ih := backs (clock := clock) ds (turned p d.buyer d.price) (turned_ok hm) hd' (by rw [turned_sum hm]; omega)
      refine ⟨ih.1, ?_⟩
      have h0 : heldIn { d with buyer := 0, due := 0 } = 0 := by simp [heldIn, held]
      rw [h0]
      have := ih.2
      rw [turned_sum hm] at this
      unfold backPurse at this
      unfold backDeal at this
      omega
    · rw [if_neg hc, if_neg hc]
      have hi := (heldIn_bd (hd d (List.mem_cons_self ..))).1
      have ih := backs (clock := clock) ds p hp hd' (by omega)
      refine ⟨ih.1, ?_⟩
      have := ih.2
      unfold backPurse at this
      unfold backDeal at this
      omega
theorem tick_ok {m : Mkt} {rows : List Row} (h : MOk m rows) (hc : m.clock ≠ 99999) : MOk (tick m) rows := by
  have hb := backs (clock := m.clock + 1) m.deals m.purses h.mon h.deals.1 h.sum
  have hck := h.clk
  refine ⟨h.fold, hb.1, by simpa [tick] using h.dlen, by show 0 ≤ m.clock + 1 ∧ m.clock + 1 ≤ 99999; omega, h.nlen, h.slen, ⟨fun d hd => ?_, ?_⟩, h.nums, ?_⟩
  · simp only [tick, List.mem_map] at hd
    obtain ⟨x, hx, rfl⟩ := hd
    exact backDeal_ok (h.deals.1 x hx)
  · show (m.deals.map _).Pairwise _
    rw [List.pairwise_map]
    refine h.deals.2.imp fun {a b} hab => ?_
    rw [backDeal_ticket, backDeal_ticket]
    exact hab
  · show (m.deals.foldl (backPurse (m.clock + 1)) m.purses).sum + heldSum (m.deals.map (backDeal (m.clock + 1))) ≤ _
    rw [hb.2]
    exact h.sum
theorem tick_total {m : Mkt} {rows : List Row} (h : MOk m rows) : total (tick m) = total m := (backs (clock := m.clock + 1) m.deals m.purses h.mon h.deals.1 h.sum).2
theorem tick_mktOk {m : Mkt} (h : mktOk m = true) (hc : m.clock ≠ 99999) : mktOk (tick m) = true := by
  obtain ⟨rows, h⟩ := mktOk_iff.1 h
  exact mktOk_iff.2 ⟨rows, tick_ok h hc⟩
theorem mktNew_ok {p : List Int} (hp : monOk p = true) (hs : monSum p ≤ 100000) : MOk (mktNew p) rows0 := by
  have e : mktNew p = ⟨[], p, [], 0, [0, 0, 0, 0, 0], [0, 0, 0, 0, 0]⟩ := by simp [mktNew, hp, hs]
  rw [e]
  refine ⟨rfl, hp, by simp, by simp, rfl, rfl, ⟨by simp, by simp⟩, rfl, ?_⟩
  rw [monSum_eq hp] at hs
  simpa [heldSum] using hs
end Go.Proofs.Ytdbnbembjebfhaa.Sw

namespace Go.Proofs.Ytdbnbembjebfhaa.Sw
set_option maxRecDepth 100000
set_option linter.unusedSimpArgs false
set_option linter.unusedVariables false
open Go.RowKit (wrap64)

theorem mix_iff {a : Int} : mixOk a = true ↔ 0 ≤ a ∧ a ≤ 65520 := by simp [mixOk, inR_iff]
theorem pair_mix (a b : Int) : mixOk (pair a b) = true := by
  rw [mix_iff]; unfold pair
  exact ⟨Int.emod_nonneg _ (by omega), by have := Int.emod_lt_of_pos (a * 8191 + b * 127 + a * b + 31) (show (0 : Int) < 65521 by omega); omega⟩
theorem root_mix : ∀ (xs : List Int), xs.all mixOk = true → mixOk (root xs) = true
  | [], _ => by simp [root]; decide
  | [x], h => by simpa [root] using h
  | x :: y :: r, _ => by rw [root]; exact pair_mix _ _
theorem mixLeaf_mix (l : List Int) : mixOk (mixLeaf l) = true := by
  rw [mix_iff]; unfold mixLeaf
  exact ⟨Int.emod_nonneg _ (by omega), by have := Int.emod_lt_of_pos (mixLeafFrom 7 l * 31 + l.length) (show (0 : Int) < 65521 by omega); omega⟩
theorem ownLeaf_mix (t : Int) (r : Row) : mixOk (ownLeaf t r) = true := by
  unfold ownLeaf
  split
  · exact mixLeaf_mix _
  · rfl
theorem leavesFrom_mix : ∀ (rows : List Row) (t : Int), (leavesFrom t rows).all mixOk = true
  | [], _ => rfl
  | r :: rs, t => by simp only [leavesFrom, List.all_cons, ownLeaf_mix, leavesFrom_mix rs, Bool.and_self]
theorem ownLeaves_mix (rows : List Row) : (ownLeaves rows).all mixOk = true := leavesFrom_mix rows 0
theorem entLeaves_mix (es : List Ent) : (es.map entLeaf).all mixOk = true := by
  rw [List.all_map, List.all_eq_true]; exact fun e _ => mixLeaf_mix _
theorem all_take {p : Int → Bool} {xs : List Int} {k : Nat} (h : xs.all p = true) : (xs.take k).all p = true := by
  rw [List.all_eq_true] at *; exact fun x hx => h x (List.mem_of_mem_take hx)
theorem all_drop {p : Int → Bool} {xs : List Int} {k : Nat} (h : xs.all p = true) : (xs.drop k).all p = true := by
  rw [List.all_eq_true] at *; exact fun x hx => h x (List.mem_of_mem_drop hx)
theorem grow_ok : ∀ (n : Nat) (l : List Int) (m : Nat) (known : Bool), l.all mixOk = true → 1 ≤ m → m ≤ l.length → (grow n l m known).all mixOk = true ∧ (grow n l m known).length ≤ l.length
  | 0, l, m, known, _, _, _ => by simp [grow]
  | n + 1, l, m, known, h, h0, h1 => by
    rw [grow]
    split
    · rename_i hm
      split
      · simp
      · simp [root_mix l h]; omega
    · have hs := split_lt (n := l.length) (by omega)
      have hp := split_pos l.length
      split
      · have ih := grow_ok n (l.take (split l.length)) m known (all_take h) h0 (by rw [List.length_take]; omega)
        rw [List.length_take] at ih
        simp only [List.all_append, List.all_cons, List.all_nil, Bool.and_true, Bool.and_eq_true, List.length_append, List.length_singleton]
        exact ⟨⟨ih.1, root_mix _ (all_drop h)⟩, by omega⟩
      · have ih := grow_ok n (l.drop (split l.length)) (m - split l.length) false (all_drop h) (by omega) (by rw [List.length_drop]; omega)
        rw [List.length_drop] at ih
        simp only [List.all_append, List.all_cons, List.all_nil, Bool.and_true, Bool.and_eq_true, List.length_append, List.length_singleton]
        exact ⟨⟨ih.1, root_mix _ (all_take h)⟩, by omega⟩
theorem treOk_iff {l : List Int} : treOk l = true ↔ l.length ≤ 40 ∧ l.all mixOk = true := by simp [treOk]
theorem conProof_ok (l : List Int) (m : Int) : treOk (conProof l m) = true := by
  unfold conProof
  split
  · rename_i h
    simp only [Bool.and_eq_true, inR_iff] at h
    have h1 := treOk_iff.1 h.1
    have := grow_ok l.length l m.toNat true h1.2 (by omega) (by omega)
    exact treOk_iff.2 ⟨by unfold growth; omega, this.1⟩
  · rfl
theorem hedProof_ok (l : List Ent) (m : Int) : treOk (hedProof l m) = true := by
  unfold hedProof
  split
  · exact conProof_ok _ _
  · rfl
theorem hedOk_iff {h : Head} : hedOk h = true ↔ (0 ≤ h.size ∧ h.size ≤ 40) ∧ mixOk h.log = true ∧ mixOk h.own = true := by
  simp [hedOk, inR_iff, and_assoc]
theorem ownRoot_mix (rows : List Row) : mixOk (ownRoot rows) = true := by
  unfold ownRoot
  split
  · exact root_mix _ (ownLeaves_mix _)
  · rfl
theorem hedOf_some {l : List Ent} {h : Head} : hedOf l = some h ↔ ∃ rows, ownFold l = some rows ∧ h = ⟨l.length, root (l.map entLeaf), ownRoot rows⟩ := by
  unfold hedOf
  rw [Option.map_eq_some_iff]
  constructor
  · rintro ⟨r, h1, rfl⟩; exact ⟨r, h1, rfl⟩
  · rintro ⟨r, h1, rfl⟩; exact ⟨r, h1, rfl⟩
theorem hedOf_ok {l : List Ent} {h : Head} (e : hedOf l = some h) : hedOk h = true ∧ h.size = l.length := by
  obtain ⟨rows, h1, rfl⟩ := hedOf_some.1 e
  have := (ownFold_some.1 h1).1
  rw [hedOk_iff]
  exact ⟨⟨by dsimp only; omega, root_mix _ (entLeaves_mix _), ownRoot_mix _⟩, rfl⟩
theorem hedOf_getD_ok (l : List Ent) : hedOk ((hedOf l).getD headZ) = true := by
  cases h : hedOf l with
  | none => decide
  | some x => exact (hedOf_ok h).1

/-! ### gates -/
theorem rises_iff : ∀ (xs : List Int) (p : Int), risesFrom p xs = true ↔ (∀ x ∈ xs, (0 ≤ x ∧ x ≤ 7) ∧ p < x) ∧ xs.Pairwise (· < ·)
  | [], p => by simp [risesFrom]
  | x :: xs, p => by
    rw [risesFrom, Bool.and_eq_true, Bool.and_eq_true, inR_iff, decide_eq_true_eq, rises_iff xs]
    simp only [List.mem_cons, forall_eq_or_imp, List.pairwise_cons]
    constructor
    · rintro ⟨⟨h1, h2⟩, h3, h4⟩
      exact ⟨⟨⟨h1, h2⟩, fun y hy => ⟨(h3 y hy).1, Int.lt_trans h2 (h3 y hy).2⟩⟩, fun y hy => (h3 y hy).2, h4⟩
    · rintro ⟨⟨⟨h1, h2⟩, h3⟩, h4, h5⟩
      exact ⟨⟨h1, h2⟩, fun y hy => ⟨(h3 y hy).1, h4 y hy⟩, h5⟩
theorem gatOk_iff {g : Gate} : gatOk g = true ↔ hedOk g.head = true ∧ (∀ x ∈ g.done, 0 ≤ x ∧ x ≤ 7) ∧ g.done.Pairwise (· < ·) := by
  unfold gatOk
  rw [Bool.and_eq_true, rises_iff]
  constructor
  · rintro ⟨h1, h2, h3⟩; exact ⟨h1, fun x hx => (h2 x hx).1, h3⟩
  · rintro ⟨h1, h2, h3⟩; exact ⟨h1, fun x hx => ⟨h2 x hx, by have := h2 x hx; omega⟩, h3⟩
theorem insert_mem {d x : Int} : ∀ {ds : List Int}, x ∈ insert d ds ↔ x = d ∨ x ∈ ds
  | [] => by simp [insert]
  | y :: ys => by
    rw [insert]
    split
    · simp
    · rw [List.mem_cons, insert_mem, List.mem_cons]
      constructor
      · rintro (h | h | h)
        · exact .inr (.inl h)
        · exact .inl h
        · exact .inr (.inr h)
      · rintro (h | h | h)
        · exact .inr (.inl h)
        · exact .inl h
        · exact .inr (.inr h)
theorem insert_len {d : Int} : ∀ {ds : List Int}, (insert d ds).length = ds.length + 1
  | [] => rfl
  | y :: ys => by
    rw [insert]
    split
    · rfl
    · rw [List.length_cons, insert_len, List.length_cons]
theorem insert_rises {d : Int} : ∀ {ds : List Int}, ds.Pairwise (· < ·) → d ∉ ds → (insert d ds).Pairwise (· < ·)
  | [], _, _ => by simp [insert]
  | y :: ys, h, hn => by
    rw [List.pairwise_cons] at h
    simp only [List.mem_cons, not_or] at hn
    rw [insert]
    split
    · rw [List.pairwise_cons, List.pairwise_cons]
      refine ⟨fun x hx => ?_, h.1, h.2⟩
      rcases List.mem_cons.1 hx with rfl | hx
      · assumption
      · have := h.1 x hx; omega
    · rw [List.pairwise_cons]
      refine ⟨fun x hx => ?_, insert_rises h.2 hn.2⟩
      rcases insert_mem.1 hx with rfl | hx
      · omega
      · exact h.1 x hx
theorem hedFollows_ok {o h : Head} {p : List Int} (e : hedFollows o h p = true) : hedOk o = true ∧ hedOk h = true ∧ o.size ≤ h.size := by
  simp only [hedFollows, Bool.and_eq_true, decide_eq_true_eq] at e
  exact ⟨e.1.1.1.1, e.1.1.1.2, e.1.1.2⟩
theorem gatSync_ok {g : Gate} {h : Head} {p : List Int} (hg : gatOk g = true) : gatOk (gatSync g h p).1 = true := by
  unfold gatSync
  rw [if_pos hg]
  split
  · rename_i hf
    rw [gatOk_iff] at hg ⊢
    exact ⟨(hedFollows_ok hf).2.1, hg.2⟩
  · exact hg
theorem gatMay_facts {g : Gate} {t who : Int} {r : Row} {p : List Int} (h : gatMay g t who r p = true) : (1 ≤ who ∧ who ≤ 5) ∧ who = r.who ∧ r.used = false ∧ t ∉ g.done ∧ (0 ≤ t ∧ t ≤ 7) := by
  simp only [gatMay, ownCheck, Bool.and_eq_true, inR_iff, decide_eq_true_eq, Bool.not_eq_true'] at h
  refine ⟨h.1.1.1.1, h.1.1.1.2, h.1.1.2, ?_, h.2.1⟩
  have := h.1.2
  intro hm
  simp [hm] at this
theorem gatShow_ok {g : Gate} {t who : Int} {r : Row} {p : List Int} (hg : gatOk g = true) : gatOk (gatShow g t who r p).1 = true := by
  unfold gatShow
  rw [if_pos hg]
  split
  · rename_i hf
    have hf := gatMay_facts hf
    rw [gatOk_iff] at hg ⊢
    refine ⟨hg.1, fun x hx => ?_, insert_rises hg.2.2 hf.2.2.2.1⟩
    rcases insert_mem.1 hx with rfl | hx
    · exact hf.2.2.2.2
    · exact hg.2.1 x hx
  · exact hg
theorem gatNew_ok : gatOk gatNew = true := by
  rw [gatOk_iff]
  exact ⟨hedOf_getD_ok [], by simp [gatNew], by simp [gatNew]⟩

/-! ### worlds -/
structure WOk (w : World) : Prop where
  mkt : mktOk w.market = true
  first : monOk w.first = true
  lines : w.lines.length ≤ 300
  glen : w.gates.length = 2
  blen : w.bag.length ≤ 6
  lok : ∀ r ∈ w.lines, lineOk r = true
  gok : ∀ g ∈ w.gates, gatOk g = true
  bok : ∀ x ∈ w.bag, msgOk x = true
theorem wldOk_iff {w : World} : wldOk w = true ↔ WOk w := by
  simp only [wldOk, Bool.and_eq_true, decide_eq_true_eq, List.all_eq_true]
  constructor
  · rintro ⟨⟨⟨⟨⟨⟨⟨h1, h2⟩, h3⟩, h4⟩, h5⟩, h6⟩, h7⟩, h8⟩; exact ⟨h1, h2, h3, h4, h5, h6, h7, h8⟩
  · rintro ⟨h1, h2, h3, h4, h5, h6, h7, h8⟩; exact ⟨⟨⟨⟨⟨⟨⟨h1, h2⟩, h3⟩, h4⟩, h5⟩, h6⟩, h7⟩, h8⟩
theorem gateAt_ok {w : World} (h : WOk w) {k : Int} (hk : 0 ≤ k ∧ k ≤ 1) : gatOk (gateAt w k) = true := by
  unfold gateAt
  have hl := h.glen
  obtain ⟨g, hg⟩ : ∃ g, w.gates[k.toNat]? = some g := ⟨_, List.getElem?_eq_getElem (by omega)⟩
  rw [getD_of hg]
  exact h.gok g (List.mem_of_getElem? hg)
theorem msgAt_ok {w : World} (h : WOk w) {i : Int} (hi : 0 ≤ i ∧ i ≤ (w.bag.length : Int) - 1) : msgOk (msgAt w i) = true := by
  unfold msgAt
  obtain ⟨g, hg⟩ : ∃ g, w.bag[i.toNat]? = some g := ⟨_, List.getElem?_eq_getElem (by omega)⟩
  rw [getD_of hg]
  exact h.bok g (List.mem_of_getElem? hg)
theorem ask_ok {w : World} (h : WOk w) (r : Req) : WOk (ask w r).1 := by
  unfold ask
  split
  · rename_i hr
    simp only [Bool.and_eq_true, decide_eq_true_eq] at hr
    refine ⟨doIt_mktOk h.mkt hr.1, h.first, by simp; omega, h.glen, h.blen, fun x hx => ?_, h.gok, h.bok⟩
    rcases List.mem_append.1 hx with hx | hx
    · exact h.lok x hx
    · obtain rfl := List.mem_singleton.1 hx
      simp [lineOk, hr.1]
  · exact h
theorem tickW_ok {w : World} (h : WOk w) : WOk (tickW w) := by
  unfold tickW
  split
  · rename_i hr
    simp only [Bool.and_eq_true, decide_eq_true_eq] at hr
    refine ⟨tick_mktOk h.mkt hr.1, h.first, by simp; omega, h.glen, h.blen, fun x hx => ?_, h.gok, h.bok⟩
    rcases List.mem_append.1 hx with hx | hx
    · exact h.lok x hx
    · obtain rfl := List.mem_singleton.1 hx
      rfl
  · exact h
theorem foldLines_ok : ∀ (rs : List Req) (m x : Mkt), mktOk m = true → foldLines m rs = some x → mktOk x = true
  | [], m, x, h, e => by simp [foldLines] at e; rw [← e]; exact h
  | r :: rs, m, x, h, e => by
    rw [foldLines] at e
    split at e
    · split at e
      · cases e
      · exact foldLines_ok rs _ x (tick_mktOk h ‹_›) e
    · split at e
      · exact foldLines_ok rs _ x (doIt_mktOk h ‹_›) e
      · cases e
theorem wldFold_ok {first : List Int} {lines : List Req} {x : Mkt} (e : wldFold first lines = some x) : mktOk x = true := by
  unfold wldFold at e
  split at e
  · rename_i h
    simp only [Bool.and_eq_true, decide_eq_true_eq] at h
    exact foldLines_ok _ _ _ (mktOk_iff.2 ⟨_, mktNew_ok h.1.1 h.1.2⟩) e
  · cases e
theorem fall_ok {w : World} (h : WOk w) : WOk (fall w) := by
  refine ⟨?_, h.first, h.lines, h.glen, by simp [fall], h.lok, h.gok, by simp [fall]⟩
  show mktOk ((wldFold w.first w.lines).getD w.market) = true
  cases e : wldFold w.first w.lines with
  | none => exact h.mkt
  | some x => exact wldFold_ok e
theorem send_ok {w : World} (h : WOk w) (k : Int) : WOk (send w k) := by
  unfold send
  split
  · rename_i hr
    simp only [Bool.and_eq_true, decide_eq_true_eq, inR_iff] at hr
    refine ⟨h.mkt, h.first, h.lines, h.glen, by simp; omega, h.lok, h.gok, fun x hx => ?_⟩
    rcases List.mem_append.1 hx with hx | hx
    · exact h.bok x hx
    · obtain rfl := List.mem_singleton.1 hx
      simp only [msgOk, Bool.and_eq_true, inR_iff]
      exact ⟨⟨hr.1, hedOf_getD_ok _⟩, hedProof_ok _ _⟩
  · exact h
theorem lose_ok {w : World} (h : WOk w) (i : Int) : WOk (lose w i) :=
  ⟨h.mkt, h.first, h.lines, h.glen, Nat.le_trans (List.eraseIdx_sublist w.bag i.toNat).length_le h.blen, h.lok, h.gok, fun x hx => h.bok x ((List.eraseIdx_sublist w.bag i.toNat).subset hx)⟩
theorem setGate_ok {w : World} (h : WOk w) {k : Nat} {g : Gate} (hg : gatOk g = true) : WOk { w with gates := w.gates.set k g } := by
  refine ⟨h.mkt, h.first, h.lines, by simpa using h.glen, h.blen, h.lok, fun x hx => ?_, h.bok⟩
  rcases List.mem_or_eq_of_mem_set hx with hx | rfl
  · exact h.gok x hx
  · exact hg
theorem heard_ok {w : World} (h : WOk w) {x : Msg} (hx : msgOk x = true) : WOk (heard w x) := by
  simp only [msgOk, Bool.and_eq_true, inR_iff] at hx
  exact setGate_ok h (gatSync_ok (gateAt_ok h hx.1.1))
theorem hear_ok {w : World} (h : WOk w) {i : Int} (hi : 0 ≤ i ∧ i ≤ (w.bag.length : Int) - 1) : WOk (hear w i) := heard_ok (lose_ok h i) (msgAt_ok h hi)
theorem twice_ok {w : World} (h : WOk w) {i : Int} (hi : 0 ≤ i ∧ i ≤ (w.bag.length : Int) - 1) : WOk (twice w i) := by
  unfold twice
  split
  · refine ⟨h.mkt, h.first, h.lines, h.glen, by simp; omega, h.lok, h.gok, fun x hx => ?_⟩
    rcases List.mem_append.1 hx with hx | hx
    · exact h.bok x hx
    · obtain rfl := List.mem_singleton.1 hx
      exact msgAt_ok h hi
  · exact h
theorem showIt_ok {w : World} (h : WOk w) (k t who : Int) : WOk (showIt w k t who).1 := by
  unfold showIt
  split
  · rename_i hr
    simp only [Bool.and_eq_true, decide_eq_true_eq, inR_iff] at hr
    split
    · exact h
    · split
      · exact setGate_ok h (gatShow_ok (gateAt_ok h hr.1.1))
      · exact h
  · exact h
theorem tellOne_ok {w : World} (h : WOk w) (t : Int) : WOk (tellOne w t) := by
  unfold tellOne
  split
  · exact ask_ok h _
  · exact h
theorem tells_ok : ∀ (ts : List Int) {w : World}, WOk w → WOk (ts.foldl tellOne w)
  | [], _, h => h
  | t :: ts, _, h => tells_ok ts (tellOne_ok h t)
theorem tell_ok {w : World} (h : WOk w) (k : Int) : WOk (tell w k) := by
  unfold tell
  split
  · exact tells_ok _ h
  · exact h
theorem step_ok {w : World} (h : WOk w) (e : Ev) : WOk (step w e).1 := by
  unfold step
  split
  · exact ask_ok h _
  split
  · exact tickW_ok h
  split
  · exact fall_ok h
  split
  · exact send_ok h _
  split
  · dsimp only; split
    · exact hear_ok h (inR_iff.1 ‹_›)
    · exact h
  split
  · dsimp only; split
    · exact lose_ok h _
    · exact h
  split
  · dsimp only; split
    · exact twice_ok h (inR_iff.1 ‹_›)
    · exact h
  split
  · exact showIt_ok h _ _ _
  split
  · exact tell_ok h _
  · exact h
theorem wldNew_ok {p : List Int} (hp : monOk p = true) (hs : monSum p ≤ 100000) : WOk (wldNew p) := by
  have e : wldNew p = ⟨p, mktNew p, [], [gatNew, gatNew], []⟩ := by simp [wldNew, hp, hs]
  rw [e]
  exact ⟨mktOk_iff.2 ⟨_, mktNew_ok hp hs⟩, hp, by simp, rfl, by simp, by simp, by simp [gatNew_ok], by simp⟩
theorem run_ok : ∀ (es : List Ev) {w : World}, WOk w → WOk (runFrom w es)
  | [], _, h => h
  | e :: es, _, h => run_ok es (step_ok h e)
end Go.Proofs.Ytdbnbembjebfhaa.Sw

namespace Go.Proofs.Ytdbnbembjebfhaa
set_option maxRecDepth 100000
set_option linter.unusedSimpArgs false
set_option linter.unusedVariables false
open Go.RowKit Go

def Sw.Deal.enc (d : Sw.Deal) : List Value := [.int .i64 d.ticket, .int .i64 d.seller, .int .i64 d.price, .int .i64 d.buyer, .int .i64 d.due]
def Sw.Req.enc (r : Sw.Req) : List Value := [.int .i64 r.user, .int .i64 r.n, .int .i64 r.kind, .int .i64 r.ticket, .int .i64 r.who, .int .i64 r.price]
def Sw.Ev.enc (e : Sw.Ev) : List Value := [.int .i64 e.kind, .int .i64 e.req.user, .int .i64 e.req.n, .int .i64 e.req.kind, .int .i64 e.req.ticket, .int .i64 e.req.who, .int .i64 e.req.price, .int .i64 e.at_, .int .i64 e.ticket, .int .i64 e.who]
abbrev RDl := Rs Sw.Deal.enc 5
abbrev RQ := Rs Sw.Req.enc 6
abbrev REv := Rs Sw.Ev.enc 10
/-- A gate, a message as their cells hold them. -/
structure GV where
  h : Sw.Head
  A : Option Addr
  c : Nat
  n : Nat
structure XV where
  g : Int
  h : Sw.Head
  A : Option Addr
  c : Nat
  n : Nat
def GV.enc (v : GV) : List Value := [.int .i64 v.h.size, .int .i64 v.h.log, .int .i64 v.h.own, .slice v.A v.n v.c]
def XV.enc (v : XV) : List Value := [.int .i64 v.g, .int .i64 v.h.size, .int .i64 v.h.log, .int .i64 v.h.own, .slice v.A v.n v.c]
/-- Slices of gates, of messages: what each one shows may be read. -/
structure RG (w : World) (lo : Nat) (A : Option Addr) (c n : Nat) (gs : List Sw.Gate) : Prop where
  ex : ∃ vs : List GV, Rs GV.enc 4 w lo A c n vs ∧ n = gs.length ∧ ∀ (k : Nat) (v : GV) (g : Sw.Gate), vs[k]? = some v → gs[k]? = some g → v.h = g.head ∧ RI w lo v.A v.c v.n g.done
structure RX (w : World) (lo : Nat) (A : Option Addr) (c n : Nat) (xs : List Sw.Msg) : Prop where
  ex : ∃ vs : List XV, Rs XV.enc 5 w lo A c n vs ∧ n = xs.length ∧ ∀ (k : Nat) (v : XV) (x : Sw.Msg), vs[k]? = some v → xs[k]? = some x → v.g = x.gate ∧ v.h = x.head ∧ RI w lo v.A v.c v.n x.proof
structure RM (w : World) (lo : Nat) (aL : Option Addr) (aLc aLn : Nat) (aP : Option Addr) (aPc aPn : Nat) (aD : Option Addr) (aDc aDn : Nat) (aN : Option Addr) (aNc aNn : Nat) (aS : Option Addr) (aSc aSn : Nat) (m : Sw.Mkt) : Prop where
  log : RE w lo aL aLc aLn m.log
  purses : RI w lo aP aPc aPn m.purses
  deals : RDl w lo aD aDc aDn m.deals
  nums : RI w lo aN aNc aNn m.nums
  said : RI w lo aS aSc aSn m.said
structure RW (w : World) (lo : Nat) (aF : Option Addr) (aFc aFn : Nat) (aL : Option Addr) (aLc aLn : Nat) (aP : Option Addr) (aPc aPn : Nat) (aD : Option Addr) (aDc aDn : Nat) (aN : Option Addr) (aNc aNn : Nat) (aS : Option Addr) (aSc aSn : Nat) (aI : Option Addr) (aIc aIn : Nat) (aG : Option Addr) (aGc aGn : Nat) (aB : Option Addr) (aBc aBn : Nat) (x : Sw.World) : Prop where
  first : RI w lo aF aFc aFn x.first
  mkt : RM w lo aL aLc aLn aP aPc aPn aD aDc aDn aN aNc aNn aS aSc aSn x.market
  lines : RQ w lo aI aIc aIn x.lines
  gates : RG w lo aG aGc aGn x.gates
  bag : RX w lo aB aBc aBn x.bag

section
variable {w w0 W : World} {lo lo' c n k : Nat} {A : Option Addr}
theorem RG.keep {gs : List Sw.Gate} (h : RG w0 lo A c n gs) (hk : KF lo w0 W) : RG W lo A c n gs := by
  obtain ⟨vs, h1, h2, h3⟩ := h.ex
  exact ⟨vs, h1.keep hk, h2, fun k v g hv hg => ⟨(h3 k v g hv hg).1, (h3 k v g hv hg).2.keep hk⟩⟩
theorem RG.less {gs : List Sw.Gate} (h : RG w0 lo A c n gs) (hl : lo' ≤ lo) : RG w0 lo' A c n gs := by
  obtain ⟨vs, h1, h2, h3⟩ := h.ex
  exact ⟨vs, h1.less hl, h2, fun k v g hv hg => ⟨(h3 k v g hv hg).1, (h3 k v g hv hg).2.less hl⟩⟩
theorem RX.keep {xs : List Sw.Msg} (h : RX w0 lo A c n xs) (hk : KF lo w0 W) : RX W lo A c n xs := by
  obtain ⟨vs, h1, h2, h3⟩ := h.ex
  exact ⟨vs, h1.keep hk, h2, fun k v g hv hg => ⟨(h3 k v g hv hg).1, (h3 k v g hv hg).2.1, (h3 k v g hv hg).2.2.keep hk⟩⟩
theorem RX.less {xs : List Sw.Msg} (h : RX w0 lo A c n xs) (hl : lo' ≤ lo) : RX w0 lo' A c n xs := by
  obtain ⟨vs, h1, h2, h3⟩ := h.ex
  exact ⟨vs, h1.less hl, h2, fun k v g hv hg => ⟨(h3 k v g hv hg).1, (h3 k v g hv hg).2.1, (h3 k v g hv hg).2.2.less hl⟩⟩
theorem RG.at0 {gs : List Sw.Gate} (h : RG w0 lo A c n gs) (hk : KF lo w0 W) : RG W 0 A c n gs := (h.keep hk).less (Nat.zero_le _)
theorem RX.at0 {xs : List Sw.Msg} (h : RX w0 lo A c n xs) (hk : KF lo w0 W) : RX W 0 A c n xs := (h.keep hk).less (Nat.zero_le _)
theorem RM.keep {aL : Option Addr} {aLc aLn : Nat} {aP : Option Addr} {aPc aPn : Nat} {aD : Option Addr} {aDc aDn : Nat} {aN : Option Addr} {aNc aNn : Nat} {aS : Option Addr} {aSc aSn : Nat} {m : Sw.Mkt} (h : RM w0 lo aL aLc aLn aP aPc aPn aD aDc aDn aN aNc aNn aS aSc aSn m) (hk : KF lo w0 W) : RM W lo aL aLc aLn aP aPc aPn aD aDc aDn aN aNc aNn aS aSc aSn m := ⟨h.1.keep hk, h.2.keep hk, h.3.keep hk, h.4.keep hk, h.5.keep hk⟩
theorem RM.less {aL : Option Addr} {aLc aLn : Nat} {aP : Option Addr} {aPc aPn : Nat} {aD : Option Addr} {aDc aDn : Nat} {aN : Option Addr} {aNc aNn : Nat} {aS : Option Addr} {aSc aSn : Nat} {m : Sw.Mkt} (h : RM w0 lo aL aLc aLn aP aPc aPn aD aDc aDn aN aNc aNn aS aSc aSn m) (hl : lo' ≤ lo) : RM w0 lo' aL aLc aLn aP aPc aPn aD aDc aDn aN aNc aNn aS aSc aSn m := ⟨h.1.less hl, h.2.less hl, h.3.less hl, h.4.less hl, h.5.less hl⟩
theorem RM.at0 {aL : Option Addr} {aLc aLn : Nat} {aP : Option Addr} {aPc aPn : Nat} {aD : Option Addr} {aDc aDn : Nat} {aN : Option Addr} {aNc aNn : Nat} {aS : Option Addr} {aSc aSn : Nat} {m : Sw.Mkt} (h : RM w0 lo aL aLc aLn aP aPc aPn aD aDc aDn aN aNc aNn aS aSc aSn m) (hk : KF lo w0 W) : RM W 0 aL aLc aLn aP aPc aPn aD aDc aDn aN aNc aNn aS aSc aSn m := (h.keep hk).less (Nat.zero_le _)
theorem RW.keep {aF : Option Addr} {aFc aFn : Nat} {aL : Option Addr} {aLc aLn : Nat} {aP : Option Addr} {aPc aPn : Nat} {aD : Option Addr} {aDc aDn : Nat} {aN : Option Addr} {aNc aNn : Nat} {aS : Option Addr} {aSc aSn : Nat} {aI : Option Addr} {aIc aIn : Nat} {aG : Option Addr} {aGc aGn : Nat} {aB : Option Addr} {aBc aBn : Nat} {x : Sw.World} (h : RW w0 lo aF aFc aFn aL aLc aLn aP aPc aPn aD aDc aDn aN aNc aNn aS aSc aSn aI aIc aIn aG aGc aGn aB aBc aBn x) (hk : KF lo w0 W) : RW W lo aF aFc aFn aL aLc aLn aP aPc aPn aD aDc aDn aN aNc aNn aS aSc aSn aI aIc aIn aG aGc aGn aB aBc aBn x := ⟨h.1.keep hk, h.2.keep hk, h.3.keep hk, h.4.keep hk, h.5.keep hk⟩
theorem RW.less {aF : Option Addr} {aFc aFn : Nat} {aL : Option Addr} {aLc aLn : Nat} {aP : Option Addr} {aPc aPn : Nat} {aD : Option Addr} {aDc aDn : Nat} {aN : Option Addr} {aNc aNn : Nat} {aS : Option Addr} {aSc aSn : Nat} {aI : Option Addr} {aIc aIn : Nat} {aG : Option Addr} {aGc aGn : Nat} {aB : Option Addr} {aBc aBn : Nat} {x : Sw.World} (h : RW w0 lo aF aFc aFn aL aLc aLn aP aPc aPn aD aDc aDn aN aNc aNn aS aSc aSn aI aIc aIn aG aGc aGn aB aBc aBn x) (hl : lo' ≤ lo) : RW w0 lo' aF aFc aFn aL aLc aLn aP aPc aPn aD aDc aDn aN aNc aNn aS aSc aSn aI aIc aIn aG aGc aGn aB aBc aBn x := ⟨h.1.less hl, h.2.less hl, h.3.less hl, h.4.less hl, h.5.less hl⟩
theorem RW.at0 {aF : Option Addr} {aFc aFn : Nat} {aL : Option Addr} {aLc aLn : Nat} {aP : Option Addr} {aPc aPn : Nat} {aD : Option Addr} {aDc aDn : Nat} {aN : Option Addr} {aNc aNn : Nat} {aS : Option Addr} {aSc aSn : Nat} {aI : Option Addr} {aIc aIn : Nat} {aG : Option Addr} {aGc aGn : Nat} {aB : Option Addr} {aBc aBn : Nat} {x : Sw.World} (h : RW w0 lo aF aFc aFn aL aLc aLn aP aPc aPn aD aDc aDn aN aNc aNn aS aSc aSn aI aIc aIn aG aGc aGn aB aBc aBn x) (hk : KF lo w0 W) : RW W 0 aF aFc aFn aL aLc aLn aP aPc aPn aD aDc aDn aN aNc aNn aS aSc aSn aI aIc aIn aG aGc aGn aB aBc aBn x := (h.keep hk).less (Nat.zero_le _)

theorem at_D {xs : List Sw.Deal} (h : RDl w lo A c n xs) (hk : k < n) :
    ∃ g off x, A = some ⟨g, off, none⟩ ∧ lo ≤ g ∧ g < w.heap.size ∧ xs.drop k = x :: xs.drop (k + 1) ∧ xs[k]? = some x ∧
      w.cell? ⟨g, off + k * 5, none⟩ = some (.int .i64 x.ticket) ∧ w.cell? ⟨g, off + k * 5 + 1, none⟩ = some (.int .i64 x.seller) ∧
      w.cell? ⟨g, off + k * 5 + 2, none⟩ = some (.int .i64 x.price) ∧ w.cell? ⟨g, off + k * 5 + 3, none⟩ = some (.int .i64 x.buyer) ∧ w.cell? ⟨g, off + k * 5 + 4, none⟩ = some (.int .i64 x.due) := by
  obtain ⟨g, off, x, h1, h2, h3, h4, h5, h6⟩ := Rs.at_ h (fun _ => rfl) hk
  exact ⟨g, off, x, h1, h2, h3, h4, h5, by simpa using h6 0 _ (by omega) rfl, h6 1 _ (by omega) rfl, h6 2 _ (by omega) rfl, h6 3 _ (by omega) rfl, h6 4 _ (by omega) rfl⟩
theorem at_Q {xs : List Sw.Req} (h : RQ w lo A c n xs) (hk : k < n) :
    ∃ g off x, A = some ⟨g, off, none⟩ ∧ lo ≤ g ∧ g < w.heap.size ∧ xs.drop k = x :: xs.drop (k + 1) ∧ xs[k]? = some x ∧
      w.cell? ⟨g, off + k * 6, none⟩ = some (.int .i64 x.user) ∧ w.cell? ⟨g, off + k * 6 + 1, none⟩ = some (.int .i64 x.n) ∧
      w.cell? ⟨g, off + k * 6 + 2, none⟩ = some (.int .i64 x.kind) ∧ w.cell? ⟨g, off + k * 6 + 3, none⟩ = some (.int .i64 x.ticket) ∧
      w.cell? ⟨g, off + k * 6 + 4, none⟩ = some (.int .i64 x.who) ∧ w.cell? ⟨g, off + k * 6 + 5, none⟩ = some (.int .i64 x.price) := by
  obtain ⟨g, off, x, h1, h2, h3, h4, h5, h6⟩ := Rs.at_ h (fun _ => rfl) hk
  exact ⟨g, off, x, h1, h2, h3, h4, h5, by simpa using h6 0 _ (by omega) rfl, h6 1 _ (by omega) rfl, h6 2 _ (by omega) rfl, h6 3 _ (by omega) rfl, h6 4 _ (by omega) rfl, h6 5 _ (by omega) rfl⟩
theorem at_Ev {xs : List Sw.Ev} (h : REv w lo A c n xs) (hk : k < n) :
    ∃ g off x, A = some ⟨g, off, none⟩ ∧ lo ≤ g ∧ g < w.heap.size ∧ xs.drop k = x :: xs.drop (k + 1) ∧ xs[k]? = some x ∧
      w.cell? ⟨g, off + k * 10, none⟩ = some (.int .i64 x.kind) ∧ w.cell? ⟨g, off + k * 10 + 1, none⟩ = some (.int .i64 x.req.user) ∧ w.cell? ⟨g, off + k * 10 + 2, none⟩ = some (.int .i64 x.req.n) ∧
      w.cell? ⟨g, off + k * 10 + 3, none⟩ = some (.int .i64 x.req.kind) ∧ w.cell? ⟨g, off + k * 10 + 4, none⟩ = some (.int .i64 x.req.ticket) ∧
      w.cell? ⟨g, off + k * 10 + 5, none⟩ = some (.int .i64 x.req.who) ∧ w.cell? ⟨g, off + k * 10 + 6, none⟩ = some (.int .i64 x.req.price) ∧
      w.cell? ⟨g, off + k * 10 + 7, none⟩ = some (.int .i64 x.at_) ∧ w.cell? ⟨g, off + k * 10 + 8, none⟩ = some (.int .i64 x.ticket) ∧ w.cell? ⟨g, off + k * 10 + 9, none⟩ = some (.int .i64 x.who) := by
  obtain ⟨g, off, x, h1, h2, h3, h4, h5, h6⟩ := Rs.at_ h (fun _ => rfl) hk
  exact ⟨g, off, x, h1, h2, h3, h4, h5, by simpa using h6 0 _ (by omega) rfl, h6 1 _ (by omega) rfl, h6 2 _ (by omega) rfl, h6 3 _ (by omega) rfl, h6 4 _ (by omega) rfl, h6 5 _ (by omega) rfl, h6 6 _ (by omega) rfl, h6 7 _ (by omega) rfl, h6 8 _ (by omega) rfl, h6 9 _ (by omega) rfl⟩
theorem at_G {gs : List Sw.Gate} (h : RG w lo A c n gs) (hk : k < n) :
    ∃ g off x B d m, A = some ⟨g, off, none⟩ ∧ lo ≤ g ∧ g < w.heap.size ∧ gs.drop k = x :: gs.drop (k + 1) ∧ gs[k]? = some x ∧
      w.cell? ⟨g, off + k * 4, none⟩ = some (.int .i64 x.head.size) ∧ w.cell? ⟨g, off + k * 4 + 1, none⟩ = some (.int .i64 x.head.log) ∧
      w.cell? ⟨g, off + k * 4 + 2, none⟩ = some (.int .i64 x.head.own) ∧ w.cell? ⟨g, off + k * 4 + 3, none⟩ = some (.slice B m d) ∧ RI w lo B d m x.done := by
  obtain ⟨vs, h1, h2, h3⟩ := h.ex
  obtain ⟨g, off, v, h4, h5, h6, h7, h8, h9⟩ := Rs.at_ h1 (fun _ => rfl) hk
  have hg : gs[k]? = some gs[k] := List.getElem?_eq_getElem (by omega)
  obtain ⟨e, hr⟩ := h3 k v _ h8 hg
  refine ⟨g, off, gs[k], v.A, v.c, v.n, h4, h5, h6, List.drop_eq_getElem_cons (by omega), hg, ?_, ?_, ?_, h9 3 _ (by omega) rfl, hr⟩
  · rw [← e]; simpa using h9 0 _ (by omega) rfl
  · rw [← e]; exact h9 1 _ (by omega) rfl
  · rw [← e]; exact h9 2 _ (by omega) rfl
theorem at_X {xs : List Sw.Msg} (h : RX w lo A c n xs) (hk : k < n) :
    ∃ g off x B d m, A = some ⟨g, off, none⟩ ∧ lo ≤ g ∧ g < w.heap.size ∧ xs.drop k = x :: xs.drop (k + 1) ∧ xs[k]? = some x ∧
      w.cell? ⟨g, off + k * 5, none⟩ = some (.int .i64 x.gate) ∧ w.cell? ⟨g, off + k * 5 + 1, none⟩ = some (.int .i64 x.head.size) ∧ w.cell? ⟨g, off + k * 5 + 2, none⟩ = some (.int .i64 x.head.log) ∧
      w.cell? ⟨g, off + k * 5 + 3, none⟩ = some (.int .i64 x.head.own) ∧ w.cell? ⟨g, off + k * 5 + 4, none⟩ = some (.slice B m d) ∧ RI w lo B d m x.proof := by
  obtain ⟨vs, h1, h2, h3⟩ := h.ex
  obtain ⟨g, off, v, h4, h5, h6, h7, h8, h9⟩ := Rs.at_ h1 (fun _ => rfl) hk
  have hg : xs[k]? = some xs[k] := List.getElem?_eq_getElem (by omega)
  obtain ⟨e1, e, hr⟩ := h3 k v _ h8 hg
  refine ⟨g, off, xs[k], v.A, v.c, v.n, h4, h5, h6, List.drop_eq_getElem_cons (by omega), hg, ?_, ?_, ?_, ?_, h9 4 _ (by omega) rfl, hr⟩
  · rw [← e1]; simpa using h9 0 _ (by omega) rfl
  · rw [← e]; exact h9 1 _ (by omega) rfl
  · rw [← e]; exact h9 2 _ (by omega) rfl
  · rw [← e]; exact h9 3 _ (by omega) rfl
theorem Rs.big {α : Type} {enc : α → List Value} {sz : Nat} {xs : List α} (h : Rs enc sz w lo A c n xs) : n ≤ 9223372036854775807 := by
  have := h.2.le; have := h.2.cap; unfold maxLen at this; omega
theorem RG.len {gs : List Sw.Gate} (h : RG w lo A c n gs) : n = gs.length ∧ n ≤ 9223372036854775807 := by
  obtain ⟨vs, h1, h2, _⟩ := h.ex
  exact ⟨h2, h1.big⟩
theorem RX.len {xs : List Sw.Msg} (h : RX w lo A c n xs) : n = xs.length ∧ n ≤ 9223372036854775807 := by
  obtain ⟨vs, h1, h2, _⟩ := h.ex
  exact ⟨h2, h1.big⟩
end
end Go.Proofs.Ytdbnbembjebfhaa

