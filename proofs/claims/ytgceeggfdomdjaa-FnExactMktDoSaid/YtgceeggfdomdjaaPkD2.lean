/-
  Texts joined: Plain2, Plain3, Deep, Own2, CopyK, Mon2, Law2, LawTo, LawEq, LawEq2, LawEq3.
-/
import Derived.Test.YtgceeggfdomdjaaPkD1
import Derived.Laws.IdiomCopy
import Derived.ArgAppend
import Derived.Lib.SliceRun
namespace Go.Proofs.Ytgceeggfdomdjaa.Sw
set_option maxRecDepth 100000
set_option linter.unusedSimpArgs false
set_option linter.unusedVariables false
open Go.RowKit (wrap64)

/-! ### deals -/
theorem dealOk_iff {clock : Int} {rows : List Row} {d : Deal} : dealOk clock rows d = true ↔ (0 ≤ d.ticket ∧ d.ticket ≤ 7) ∧ (1 ≤ d.seller ∧ d.seller ≤ 5) ∧ (rowAt rows d.ticket).who = d.seller ∧ (rowAt rows d.ticket).used = false ∧
    (1 ≤ d.price ∧ d.price ≤ entCap (rowAt rows d.ticket).face) ∧ ((d.buyer = 0 ∧ d.due = 0) ∨ ((1 ≤ d.buyer ∧ d.buyer ≤ 5) ∧ d.buyer ≠ d.seller ∧ (clock ≤ d.due ∧ d.due ≤ clock + 5))) := by
  unfold dealOk
  by_cases h : d.buyer = 0
  · rw [if_pos h]
    simp only [Bool.and_eq_true, inR_iff, decide_eq_true_eq, Bool.not_eq_true', and_assoc]
    simp [h]
  · rw [if_neg h]
    simp only [Bool.and_eq_true, inR_iff, decide_eq_true_eq, Bool.not_eq_true', and_assoc]
    simp [h]
theorem entCap_le (f : Int) : entCap f ≤ 60 := by
  unfold entCap
  split
  · have := inR_iff.1 ‹_›; omega
  · omega
def DOk (clock : Int) (rows : List Row) (ds : List Deal) : Prop := (∀ d ∈ ds, dealOk clock rows d = true) ∧ ds.Pairwise (fun a b => a.ticket < b.ticket)
theorem dealsOk_iff {clock : Int} {rows : List Row} : ∀ (ds : List Deal) (p : Int), dealsOk clock rows p ds = true ↔ DOk clock rows ds ∧ ∀ d ∈ ds, p < d.ticket
  | [], p => by simp [dealsOk, DOk]
  | d :: ds, p => by
    rw [dealsOk, Bool.and_eq_true, Bool.and_eq_true, dealsOk_iff ds, decide_eq_true_eq]
    unfold DOk
    simp only [List.mem_cons, forall_eq_or_imp, List.pairwise_cons]
    constructor
    · rintro ⟨⟨h1, h2⟩, ⟨h3, h4⟩, h5⟩
      exact ⟨⟨⟨h1, h3⟩, h5, h4⟩, h2, fun x hx => Int.lt_trans h2 (h5 x hx)⟩
    · rintro ⟨⟨⟨h1, h3⟩, h5, h4⟩, h2, _⟩
      exact ⟨⟨h1, h2⟩, ⟨h3, h4⟩, h5⟩
theorem dealsOk_iff' {clock : Int} {rows : List Row} {ds : List Deal} : dealsOk clock rows (-1) ds = true ↔ DOk clock rows ds := by
  rw [dealsOk_iff]
  exact ⟨fun h => h.1, fun h => ⟨h, fun d hd => by have := (dealOk_iff.1 (h.1 d hd)).1; omega⟩⟩
theorem DOk.get {clock : Int} {rows : List Row} {ds : List Deal} (h : DOk clock rows ds) {k : Nat} {d : Deal} (hk : ds[k]? = some d) : dealOk clock rows d = true := h.1 d (List.mem_of_getElem? hk)
theorem DOk.inj {clock : Int} {rows : List Row} {ds : List Deal} (h : DOk clock rows ds) {i j : Nat} {a b : Deal} (hi : ds[i]? = some a) (hj : ds[j]? = some b) (e : a.ticket = b.ticket) : i = j := by
  have hp := List.pairwise_iff_getElem.1 h.2
  obtain ⟨hi', rfl⟩ := List.getElem?_eq_some_iff.1 hi
  obtain ⟨hj', rfl⟩ := List.getElem?_eq_some_iff.1 hj
  rcases Nat.lt_trichotomy i j with hij | hij | hij
  · have := hp i j hi' hj' hij; omega
  · exact hij
  · have := hp j i hj' hi' hij; omega
theorem DOk.sub {clock : Int} {rows : List Row} {ds es : List Deal} (h : DOk clock rows ds) (hs : es.Sublist ds) : DOk clock rows es :=
  ⟨fun d hd => h.1 d (hs.subset hd), h.2.sublist hs⟩
/-- Rows that stand alike at all deals' tickets. -/
theorem DOk.rows {clock : Int} {rows rows' : List Row} {ds : List Deal} (h : DOk clock rows ds) (hr : ∀ d ∈ ds, rowAt rows' d.ticket = rowAt rows d.ticket) : DOk clock rows' ds :=
  ⟨fun d hd => by have := h.1 d hd; rw [dealOk_iff] at this ⊢; rw [hr d hd]; exact this, h.2⟩
theorem erase_other {clock : Int} {rows : List Row} {ds : List Deal} (h : DOk clock rows ds) {k : Nat} {d : Deal} (hk : ds[k]? = some d) : ∀ x ∈ ds.eraseIdx k, x.ticket ≠ d.ticket := by
  intro x hx e
  rw [List.mem_eraseIdx_iff_getElem?] at hx
  obtain ⟨i, hi, hx⟩ := hx
  exact hi (h.inj hx hk e)
theorem DOk.set {clock : Int} {rows : List Row} {ds : List Deal} (h : DOk clock rows ds) {k : Nat} {d e : Deal} (hk : ds[k]? = some d) (ht : e.ticket = d.ticket) (he : dealOk clock rows e = true) : DOk clock rows (ds.set k e) := by
  refine ⟨fun x hx => ?_, ?_⟩
  · rcases List.mem_or_eq_of_mem_set hx with hx | rfl
    · exact h.1 x hx
    · exact he
  · rw [List.pairwise_iff_getElem]
    obtain ⟨hk', rfl⟩ := List.getElem?_eq_some_iff.1 hk
    intro i j hi hj hij
    have hp := List.pairwise_iff_getElem.1 h.2 i j (by simpa using hi) (by simpa using hj) hij
    rw [List.getElem_set, List.getElem_set]
    split <;> split <;> subst_vars <;> (try rw [ht]) <;> (try exact hp) <;> omega
theorem insertDeal_mem {d x : Deal} : ∀ {ds : List Deal}, x ∈ insertDeal d ds ↔ x = d ∨ x ∈ ds
  | [] => by simp [insertDeal]
  | y :: ys => by
    rw [insertDeal]
    split
    · simp
    · rw [List.mem_cons, insertDeal_mem, List.mem_cons]
      constructor
      · rintro (h | h | h)
        · exact .inr (.inl h)
        · exact .inl h
        · exact .inr (.inr h)
      · rintro (h | h | h)
        · exact .inr (.inl h)
        · exact .inl h
        · exact .inr (.inr h)
theorem insertDeal_len {d : Deal} : ∀ {ds : List Deal}, (insertDeal d ds).length = ds.length + 1
  | [] => rfl
  | y :: ys => by
    rw [insertDeal]
    split
    · rfl
    · rw [List.length_cons, insertDeal_len, List.length_cons]
theorem insertDeal_rises {d : Deal} : ∀ {ds : List Deal}, ds.Pairwise (fun a b => a.ticket < b.ticket) → (∀ x ∈ ds, x.ticket ≠ d.ticket) → (insertDeal d ds).Pairwise (fun a b => a.ticket < b.ticket)
  | [], _, _ => by simp [insertDeal]
  | y :: ys, h, hn => by
    rw [List.pairwise_cons] at h
    have hy := hn y (List.mem_cons_self ..)
    rw [insertDeal]
    split
    · rw [List.pairwise_cons, List.pairwise_cons]
      refine ⟨fun x hx => ?_, h.1, h.2⟩
      rcases List.mem_cons.1 hx with rfl | hx
      · assumption
      · have := h.1 x hx; omega
    · rw [List.pairwise_cons]
      refine ⟨fun x hx => ?_, insertDeal_rises h.2 (fun x hx => hn x (List.mem_cons_of_mem _ hx))⟩
      rcases insertDeal_mem.1 hx with rfl | hx
      · omega
      · exact h.1 x hx
theorem dealAt_some {ds : List Deal} {t : Int} {k : Nat} (h : dealAt ds t = some k) : ∃ d, ds[k]? = some d ∧ d.ticket = t := by
  unfold dealAt at h
  rw [List.findIdx?_eq_some_iff_getElem] at h
  obtain ⟨hk, h1, _⟩ := h
  exact ⟨ds[k], List.getElem?_eq_getElem hk, by simpa using h1⟩
theorem dealAt_none {ds : List Deal} {t : Int} (h : dealAt ds t = none) : ∀ d ∈ ds, d.ticket ≠ t := by
  unfold dealAt at h
  rw [List.findIdx?_eq_none_iff] at h
  intro d hd e
  have := h d hd
  simp [e] at this
theorem getD_of {α : Type} {l : List α} {k : Nat} {x z : α} (h : l[k]? = some x) : l.getD k z = x := by rw [List.getD_eq_getElem?_getD, h]; rfl

/-! ### what is held -/
def heldIn (d : Deal) : Int := if held d then d.price else 0
def heldSum (ds : List Deal) : Int := (ds.map heldIn).sum
theorem heldIn_bd {clock : Int} {rows : List Row} {d : Deal} (h : dealOk clock rows d = true) : 0 ≤ heldIn d ∧ heldIn d ≤ 60 := by
  have := (dealOk_iff.1 h).2.2.2.2.1
  have := entCap_le (rowAt rows d.ticket).face
  unfold heldIn
  split <;> omega
theorem heldSum_bd {clock : Int} {rows : List Row} : ∀ {ds : List Deal}, (∀ d ∈ ds, dealOk clock rows d = true) → 0 ≤ heldSum ds ∧ heldSum ds ≤ 60 * ds.length
  | [], _ => by simp [heldSum]
  | d :: ds, h => by
    have h1 := heldIn_bd (h d (List.mem_cons_self ..))
    have h2 := heldSum_bd (fun x hx => h x (List.mem_cons_of_mem _ hx))
    unfold heldSum at h2 ⊢
    rw [List.map_cons, List.sum_cons, List.length_cons]
    omega
theorem heldFrom_eq {clock : Int} {rows : List Row} : ∀ (ds : List Deal) (s : Int), 0 ≤ s → s + 60 * ds.length ≤ 9223372036854775807 → (∀ d ∈ ds, dealOk clock rows d = true) → heldFrom s ds = s + heldSum ds
  | [], s, _, _, _ => by simp [heldFrom, heldSum]
  | d :: ds, s, h0, h1, h => by
    have hd := heldIn_bd (h d (List.mem_cons_self ..))
    rw [List.length_cons] at h1
    have := heldFrom_eq ds (s + heldIn d) (by omega) (by omega) (fun x hx => h x (List.mem_cons_of_mem _ hx))
    unfold heldFrom at this ⊢
    rw [List.foldl_cons]
    have e : heldStep s d = s + heldIn d := by
      unfold heldStep heldIn
      unfold heldIn at hd
      split
      · rw [if_pos ‹_›] at hd
        rw [wrap64_in (by omega)]
      · omega
    rw [e, this]
    unfold heldSum
    rw [List.map_cons, List.sum_cons]
    omega
theorem heldOf_eq {clock : Int} {rows : List Row} {ds : List Deal} (h : DOk clock rows ds) (h8 : ds.length ≤ 8) : heldOf ds = heldSum ds := by
  rw [heldOf, heldFrom_eq ds 0 (by omega) (by omega) h.1]; omega
theorem heldSum_erase : ∀ {ds : List Deal} {k : Nat} {d : Deal}, ds[k]? = some d → heldSum (ds.eraseIdx k) = heldSum ds - heldIn d
  | [], k, d, h => by simp at h
  | x :: xs, 0, d, h => by
    obtain rfl : x = d := by simpa using h
    unfold heldSum
    simp only [List.eraseIdx_cons_zero, List.map_cons, List.sum_cons]
    omega
  | x :: xs, k + 1, d, h => by
    have := heldSum_erase (ds := xs) (k := k) (d := d) (by simpa using h)
    unfold heldSum at this ⊢
    simp only [List.eraseIdx_cons_succ, List.map_cons, List.sum_cons, this]
    omega
theorem heldSum_set : ∀ {ds : List Deal} {k : Nat} {d e : Deal}, ds[k]? = some d → heldSum (ds.set k e) = heldSum ds - heldIn d + heldIn e
  | [], k, d, e, h => by simp at h
  | x :: xs, 0, d, e, h => by
    obtain rfl : x = d := by simpa using h
    unfold heldSum
    simp only [List.set_cons_zero, List.map_cons, List.sum_cons]
    omega
  | x :: xs, k + 1, d, e, h => by
    have := heldSum_set (ds := xs) (k := k) (d := d) (e := e) (by simpa using h)
    unfold heldSum at this ⊢
    simp only [List.set_cons_succ, List.map_cons, List.sum_cons, this]
    omega
theorem heldSum_insert {d : Deal} : ∀ {ds : List Deal}, heldSum (insertDeal d ds) = heldIn d + heldSum ds
  | [] => by simp [insertDeal, heldSum]
  | x :: xs => by
    have := heldSum_insert (d := d) (ds := xs)
    unfold heldSum at this ⊢
    rw [insertDeal]
    split
    · simp
    · simp only [List.map_cons, List.sum_cons, this]
      omega

/-! ### a market that is ok -/
structure MOk (m : Mkt) (rows : List Row) : Prop where
  fold : ownFold m.log = some rows
  mon : monOk m.purses = true
  dlen : m.deals.length ≤ 8
  clk : 0 ≤ m.clock ∧ m.clock ≤ 99999
  nlen : m.nums.length = 5
  slen : m.said.length = 5
  deals : DOk m.clock rows m.deals
  nums : numsOk m.nums m.said = true
  sum : m.purses.sum + heldSum m.deals ≤ 100000
theorem mktRows_of {m : Mkt} {rows : List Row} (h : ownFold m.log = some rows) : mktRows m = rows := by rw [mktRows, h]; rfl
theorem mktOk_iff {m : Mkt} : mktOk m = true ↔ ∃ rows, MOk m rows := by
  unfold mktOk
  simp only [Bool.and_eq_true, decide_eq_true_eq, inR_iff, dealsOk_iff']
  constructor
  · rintro ⟨⟨⟨⟨⟨⟨⟨⟨h1, h2⟩, h3⟩, h4⟩, h5⟩, h6⟩, h7⟩, h8⟩, h9⟩
    obtain ⟨rows, hr⟩ := Option.isSome_iff_exists.1 h1
    rw [mktRows_of hr] at h7
    refine ⟨rows, hr, h2, h3, h4, h5, h6, h7, h8, ?_⟩
    rw [monSum_eq h2, mktHeld, heldOf_eq h7 h3] at h9
    exact h9
  · rintro ⟨rows, hr, h2, h3, h4, h5, h6, h7, h8, h9⟩
    rw [mktRows_of hr]
    refine ⟨⟨⟨⟨⟨⟨⟨⟨by rw [hr]; rfl, h2⟩, h3⟩, h4⟩, h5⟩, h6⟩, h7⟩, h8⟩, ?_⟩
    rw [monSum_eq h2, mktHeld, heldOf_eq h7 h3]
    exact h9
def total (m : Mkt) : Int := m.purses.sum + heldSum m.deals
theorem MOk.total {m : Mkt} {rows : List Row} (h : MOk m rows) : monSum m.purses + mktHeld m = m.purses.sum + heldSum m.deals := by
  rw [monSum_eq h.mon, mktHeld, heldOf_eq h.deals h.dlen]
theorem reqOk_iff {r : Req} : reqOk r = true ↔ (1 ≤ r.user ∧ r.user ≤ 5) ∧ (1 ≤ r.n ∧ r.n ≤ 99999) ∧ (1 ≤ r.kind ∧ r.kind ≤ 6) ∧ (0 ≤ r.ticket ∧ r.ticket ≤ 7) ∧
    ((r.kind = 1 ∧ (1 ≤ r.who ∧ r.who ≤ 5) ∧ (1 ≤ r.price ∧ r.price ≤ 50)) ∨ (r.kind = 2 ∧ r.who = 0 ∧ (1 ≤ r.price ∧ r.price ≤ 999)) ∨ (r.kind ≠ 1 ∧ r.kind ≠ 2 ∧ r.who = 0 ∧ r.price = 0)) := by
  unfold reqOk
  by_cases h1 : r.kind = 1
  · rw [if_pos h1]; simp only [Bool.and_eq_true, inR_iff, and_assoc]; simp [h1]
  · by_cases h2 : r.kind = 2
    · rw [if_neg h1, if_pos h2]; simp only [Bool.and_eq_true, inR_iff, and_assoc, decide_eq_true_eq]; simp [h2]
    · rw [if_neg h1, if_neg h2]; simp only [Bool.and_eq_true, inR_iff, and_assoc, decide_eq_true_eq]; simp [h1, h2]

/-- What an effect leaves: the market but its numbers is ok; as many numbers; money as it was. -/
structure Eff (m x : Mkt) : Prop where
  rows : ∃ rows, ownFold x.log = some rows ∧ DOk x.clock rows x.deals
  mon : monOk x.purses = true
  dlen : x.deals.length ≤ 8
  clk : x.clock = m.clock
  nums : x.nums = m.nums
  said : x.said = m.said
  sum : x.purses.sum + heldSum x.deals = m.purses.sum + heldSum m.deals
theorem Eff.refl {m : Mkt} {rows : List Row} (h : MOk m rows) : Eff m m := ⟨⟨rows, h.fold, h.deals⟩, h.mon, h.dlen, rfl, rfl, rfl, rfl⟩
theorem rises_len8 {clock : Int} {rows : List Row} {ds : List Deal} (h : DOk clock rows ds) : ds.length ≤ 8 := by
  have key : ∀ (ds : List Deal) (p : Int), ds.Pairwise (fun a b => a.ticket < b.ticket) → (∀ d ∈ ds, p < d.ticket ∧ d.ticket ≤ 7) → -1 ≤ p → p ≤ 7 → (ds.length : Int) ≤ 7 - p := by
    intro ds
    induction ds with
    | nil => intro p _ _ h0 h1; simp; omega
    | cons d ds ih =>
      intro p hp hd h0 h1
      rw [List.pairwise_cons] at hp
      have h2 := hd d (List.mem_cons_self ..)
      have := ih d.ticket hp.2 (fun x hx => ⟨hp.1 x hx, (hd x (List.mem_cons_of_mem _ hx)).2⟩) (by omega) h2.2
      rw [List.length_cons]
      omega
  have := key ds (-1) h.2 (fun d hd => by have := (dealOk_iff.1 (h.1 d hd)).1; omega) (by omega) (by omega)
  omega
theorem issue_eff {m : Mkt} {rows : List Row} {r : Req} (h : MOk m rows) (hr : reqOk r = true) (hk : r.kind = 1) : Eff m (issue m r (rowAt rows r.ticket)).1 := by
  have hr := reqOk_iff.1 hr
  unfold issue
  split
  · exact .refl h
  split
  · exact .refl h
  split
  · exact .refl h
  split
  case isFalse => exact .refl h
  rename_i h1 h2 h3 h4
  rw [moveMay_iff] at h4
  obtain ⟨h4, h5, h6, h7⟩ := h4
  have hl : m.log.length < 40 := by have := (ownFold_some.1 h.fold).1; omega
  have hf : ownFits rows ⟨1, r.ticket, r.who, r.price⟩ = true := by
    rw [ownFits_iff]
    refine ⟨ownFold_ok h.fold, entOk_iff.2 ?_, (fitsRow_iff (.inl rfl)).2 (.inl ⟨rfl, by simpa using h2⟩)⟩
    dsimp only
    omega
  have hno : ∀ d ∈ m.deals, d.ticket ≠ r.ticket := fun d hd e => by
    have := (dealOk_iff.1 (h.deals.1 d hd))
    rw [e] at this
    omega
  refine ⟨⟨_, ownFold_snoc h.fold hl hf, h.deals.rows fun d hd => ?_⟩, turned_ok h7, h.dlen, rfl, rfl, rfl, ?_⟩
  · rw [rowAt_put (ownOk_len (ownFold_ok h.fold)) ⟨hr.2.2.2.1.1, hr.2.2.2.1.2⟩ (dealOk_iff.1 (h.deals.1 d hd)).1.1, if_neg (hno d hd)]
  · show (turned _ _ _).sum + heldSum m.deals = _
    rw [turned_sum h7, turned_sum h6]
    omega
theorem none_of {α : Type} {o : Option α} (h : o.isSome = false) : o = none := by cases o <;> simp_all
theorem offer_eff {m : Mkt} {rows : List Row} {r : Req} (h : MOk m rows) (hr : reqOk r = true) (hk : r.kind = 2) : Eff m (offer m r (rowAt rows r.ticket) (dealAt m.deals r.ticket)).1 := by
  have hr := reqOk_iff.1 hr
  unfold offer
  split
  · exact .refl h
  split
  · exact .refl h
  split
  · exact .refl h
  rename_i h1 h2 h3
  simp only [not_or, Bool.not_eq_true] at h2
  have hno := dealAt_none (none_of h2.1)
  have hd : DOk m.clock rows (insertDeal ⟨r.ticket, r.user, r.price, 0, 0⟩ m.deals) := by
    refine ⟨fun d hd => ?_, insertDeal_rises h.deals.2 hno⟩
    rcases insertDeal_mem.1 hd with rfl | hd
    · rw [dealOk_iff]
      dsimp only
      refine ⟨hr.2.2.2.1, hr.1, by simpa using h1, h2.2, by omega, .inl ⟨rfl, rfl⟩⟩
    · exact h.deals.1 d hd
  refine ⟨⟨rows, h.fold, hd⟩, h.mon, rises_len8 hd, rfl, rfl, rfl, ?_⟩
  show _ + heldSum (insertDeal _ _) = _
  rw [heldSum_insert]
  simp [heldIn, held]
theorem drop_eff {m : Mkt} {rows : List Row} {r : Req} (h : MOk m rows) : Eff m (dropIt m r (rowAt rows r.ticket) (dealAt m.deals r.ticket)).1 := by
  unfold dropIt
  split
  · exact .refl h
  split
  · exact .refl h
  rename_i k hk
  obtain ⟨d, hd, ht⟩ := dealAt_some hk
  rw [getD_of hd]
  split
  · exact .refl h
  rename_i h2
  have hs := List.eraseIdx_sublist m.deals k
  refine ⟨⟨rows, h.fold, h.deals.sub hs⟩, h.mon, Nat.le_trans hs.length_le h.dlen, rfl, rfl, rfl, ?_⟩
  show _ + heldSum (m.deals.eraseIdx k) = _
  rw [heldSum_erase hd]
  simp [heldIn, h2]
theorem fund_eff {m : Mkt} {rows : List Row} {r : Req} (h : MOk m rows) (hr : reqOk r = true) : Eff m (fund m r (dealAt m.deals r.ticket)).1 := by
  have hr := reqOk_iff.1 hr
  unfold fund
  split
  · exact .refl h
  rename_i k hk
  obtain ⟨d, hd, ht⟩ := dealAt_some hk
  rw [getD_of hd]
  split
  · exact .refl h
  split
  · exact .refl h
  split
  case isFalse => exact .refl h
  rename_i h1 h2 h3
  have hdo := dealOk_iff.1 (h.deals.get hd)
  have he : DOk m.clock rows (m.deals.set k { d with buyer := r.user, due := m.clock + 5 }) := by
    refine h.deals.set hd rfl (dealOk_iff.2 ?_)
    dsimp only
    refine ⟨hdo.1, hdo.2.1, hdo.2.2.1, hdo.2.2.2.1, hdo.2.2.2.2.1, .inr ⟨hr.1, fun e => h2 e.symm, by omega⟩⟩
  refine ⟨⟨rows, h.fold, he⟩, turned_ok h3, by simpa using h.dlen, rfl, rfl, rfl, ?_⟩
  show (turned _ _ _).sum + heldSum (m.deals.set k _) = _
  rw [turned_sum h3, heldSum_set hd]
  have hu : heldIn { d with buyer := r.user, due := m.clock + 5 } = d.price := if_pos (by simp [held]; omega)
  have hb : heldIn d = 0 := if_neg h1
  rw [hu, hb]
  omega
theorem settle_eff {m : Mkt} {rows : List Row} {r : Req} (h : MOk m rows) (hr : reqOk r = true) : Eff m (settle m r (dealAt m.deals r.ticket)).1 := by
  have hr := reqOk_iff.1 hr
  unfold settle
  split
  · exact .refl h
  rename_i k hk
  obtain ⟨d, hd, ht⟩ := dealAt_some hk
  rw [getD_of hd]
  split
  · exact .refl h
  split
  · exact .refl h
  split
  · exact .refl h
  rename_i h1 h2 h3
  have hdo := dealOk_iff.1 (h.deals.get hd)
  have hh : held d = true := by simpa using h1
  have hb : 0 < d.buyer := by simpa [held] using hh
  have hl : m.log.length < 40 := by have := (ownFold_some.1 h.fold).1; omega
  have hp := hdo.2.2.2.2.1
  have hcap := entCap_le (rowAt rows d.ticket).face
  have hf : ownFits rows ⟨2, r.ticket, d.buyer, d.price⟩ = true := by
    rw [ownFits_iff]
    refine ⟨ownFold_ok h.fold, entOk_iff.2 ?_, (fitsRow_iff (.inr (.inl rfl))).2 (.inr (.inl ⟨rfl, ?_⟩))⟩ <;> dsimp only
    · omega
    · rw [← ht]
      refine ⟨by omega, ?_, hdo.2.2.2.1, hp.2⟩
      rw [hdo.2.2.1]; omega
  have hs := List.eraseIdx_sublist m.deals k
  have hsum : turnMay m.purses d.seller d.price = true := by
    refine turnMay_in h.mon hdo.2.1 (by omega) ?_
    have h4 := h.sum
    have h5 := heldSum_erase hd
    have h6 := (heldSum_bd (h.deals.sub hs).1).1
    have : heldIn d = d.price := by simp [heldIn, hh]
    omega
  have e : monTurn m.purses d.seller d.price = turned m.purses d.seller d.price := by simp [monTurn, hsum]
  refine ⟨⟨_, ownFold_snoc h.fold hl hf, (h.deals.sub hs).rows fun x hx => ?_⟩, by dsimp only; rw [e]; exact turned_ok hsum, Nat.le_trans hs.length_le h.dlen, rfl, rfl, rfl, ?_⟩
  · have := erase_other h.deals hd x hx
    rw [rowAt_put (ownOk_len (ownFold_ok h.fold)) ⟨hr.2.2.2.1.1, hr.2.2.2.1.2⟩ (dealOk_iff.1 ((h.deals.sub hs).1 x hx)).1.1, if_neg (by dsimp only; omega)]
  · show (monTurn _ _ _).sum + heldSum (m.deals.eraseIdx k) = _
    rw [e, turned_sum hsum, heldSum_erase hd]
    simp only [heldIn, hh, if_true]
    omega
theorem enter_eff {m : Mkt} {rows : List Row} {r : Req} (h : MOk m rows) (hr : reqOk r = true) : Eff m (enter m r (rowAt rows r.ticket) (dealAt m.deals r.ticket)).1 := by
  have hr := reqOk_iff.1 hr
  unfold enter
  split
  · exact .refl h
  split
  · exact .refl h
  split
  · exact .refl h
  rename_i h1 h2 h3
  simp only [not_or, Bool.not_eq_true] at h2
  have hno := dealAt_none (none_of h2.2)
  have hl : m.log.length < 40 := by have := (ownFold_some.1 h.fold).1; omega
  have hf : ownFits rows ⟨3, r.ticket, r.user, 0⟩ = true := by
    rw [ownFits_iff]
    refine ⟨ownFold_ok h.fold, entOk_iff.2 ?_, (fitsRow_iff (.inr (.inr rfl))).2 (.inr (.inr ⟨rfl, by simpa using h1, h2.1⟩))⟩
    dsimp only
    omega
  refine ⟨⟨_, ownFold_snoc h.fold hl hf, h.deals.rows fun d hd => ?_⟩, h.mon, h.dlen, rfl, rfl, rfl, rfl⟩
  rw [rowAt_put (ownOk_len (ownFold_ok h.fold)) ⟨hr.2.2.2.1.1, hr.2.2.2.1.2⟩ (dealOk_iff.1 (h.deals.1 d hd)).1.1, if_neg (hno d hd)]
theorem effect_eff {m : Mkt} {rows : List Row} {r : Req} (h : MOk m rows) (hr : reqOk r = true) : Eff m (effect m r).1 := by
  unfold effect
  rw [mktRows_of h.fold]
  split
  · exact issue_eff h hr ‹_›
  split
  · exact offer_eff h hr ‹_›
  split
  · exact drop_eff h
  split
  · exact fund_eff h hr
  split
  · exact settle_eff h hr
  · exact enter_eff h hr
theorem effect_ans (m : Mkt) (r : Req) : 1 ≤ (effect m r).2 ∧ (effect m r).2 ≤ 6 := by
  have key : ∀ (P : Mkt × Int → Prop) (c : Prop) [Decidable c] (a b : Mkt × Int), P a → P b → P (if c then a else b) := by
    intro P c _ a b ha hb; split <;> assumption
  unfold effect issue offer dropIt fund settle enter
  repeat' (first | (split) | decide)
  all_goals (first | decide | (dsimp only; omega))
theorem numsOk_iff : ∀ {ns ss : List Int}, ns.length = ss.length → (numsOk ns ss = true ↔ ∀ (k : Nat) (n s : Int), ns[k]? = some n → ss[k]? = some s → numOk n s = true)
  | [], [], _ => by simp [numsOk]
  | [], _ :: _, h => by simp at h
  | _ :: _, [], h => by simp at h
  | n :: ns, s :: ss, h => by
    rw [numsOk, Bool.and_eq_true, numsOk_iff (by simpa using h)]
    constructor
    · rintro ⟨h1, h2⟩ k a b ha hb
      cases k with
      | zero => simp at ha hb; subst ha hb; exact h1
      | succ k => exact h2 k a b (by simpa using ha) (by simpa using hb)
    · intro h
      exact ⟨h 0 n s rfl rfl, fun k a b ha hb => h (k + 1) a b (by simpa using ha) (by simpa using hb)⟩
theorem numOk_iff {n s : Int} : numOk n s = true ↔ (0 ≤ n ∧ n ≤ 99999) ∧ (0 ≤ s ∧ s ≤ 6) ∧ (n = 0 ↔ s = 0) := by
  unfold numOk
  simp only [Bool.and_eq_true, inR_iff, and_assoc]
  simp
theorem noted_nums {ns ss : List Int} (hn : ns.length = 5) (hs : ss.length = 5) (h : numsOk ns ss = true) {k : Nat} {n s : Int} (ho : numOk n s = true) : numsOk (ns.set k n) (ss.set k s) = true := by
  rw [numsOk_iff (by rw [hn, hs])] at h
  rw [numsOk_iff (by simp [hn, hs])]
  intro j a b ha hb
  rw [List.getElem?_set] at ha hb
  by_cases hj : k = j
  · rw [if_pos hj] at ha hb
    split at ha
    · split at hb
      · cases ha; cases hb; exact ho
      · cases hb
    · cases ha
  · rw [if_neg hj] at ha hb
    exact h j a b ha hb
theorem Eff.noted {m x : Mkt} {rows : List Row} {r : Req} {a : Int} (h : MOk m rows) (he : Eff m x) (hr : reqOk r = true) (ha : 1 ≤ a ∧ a ≤ 6) : ∃ rows', MOk (noted x r a) rows' := by
  have hr := reqOk_iff.1 hr
  obtain ⟨rows', h1, h2⟩ := he.rows
  have hck := h.clk
  refine ⟨rows', h1, he.mon, he.dlen, by show 0 ≤ x.clock ∧ x.clock ≤ 99999; rw [he.clk]; exact hck, by simp [Sw.noted, he.nums, h.nlen], by simp [Sw.noted, he.said, h.slen], h2, ?_, by show x.purses.sum + heldSum x.deals ≤ _; rw [he.sum]; exact h.sum⟩
  show numsOk (x.nums.set _ _) (x.said.set _ _) = true
  rw [he.nums, he.said]
  exact noted_nums h.nlen h.slen h.nums (numOk_iff.2 ⟨by omega, by omega, by omega⟩)
theorem doIt_ok {m : Mkt} {rows : List Row} {r : Req} (h : MOk m rows) (hr : reqOk r = true) : ∃ rows', MOk (doIt m r).1 rows' := by
  unfold doIt
  split
  · exact ⟨rows, h⟩
  split
  · exact ⟨rows, h⟩
  · exact (effect_eff h hr).noted h hr (effect_ans m r)
theorem doIt_mktOk {m : Mkt} {r : Req} (h : mktOk m = true) (hr : reqOk r = true) : mktOk (doIt m r).1 = true := by
  obtain ⟨rows, h⟩ := mktOk_iff.1 h
  exact mktOk_iff.2 (doIt_ok h hr)
theorem doIt_total {m : Mkt} {rows : List Row} {r : Req} (h : MOk m rows) (hr : reqOk r = true) : total (doIt m r).1 = total m := by
  unfold doIt
  split
  · rfl
  split
  · rfl
  · exact (effect_eff h hr).sum

/-! ### the clock -/
theorem backDeal_ok {clock : Int} {rows : List Row} {d : Deal} (h : dealOk clock rows d = true) : dealOk (clock + 1) rows (backDeal (clock + 1) d) = true := by
  rw [dealOk_iff] at h ⊢
  unfold backDeal
  split
  · exact ⟨h.1, h.2.1, h.2.2.1, h.2.2.2.1, h.2.2.2.2.1, .inl ⟨rfl, rfl⟩⟩
  · rename_i hh
    refine ⟨h.1, h.2.1, h.2.2.1, h.2.2.2.1, h.2.2.2.2.1, ?_⟩
    simp only [held, Bool.and_eq_true, decide_eq_true_eq, not_and] at hh
    rcases h.2.2.2.2.2 with h6 | h6
    · exact .inl h6
    · have := hh (by omega)
      exact .inr ⟨h6.1, h6.2.1, by omega⟩
theorem backDeal_ticket (clock : Int) (d : Deal) : (backDeal clock d).ticket = d.ticket := by unfold backDeal; split <;> rfl
theorem backs {clock ck : Int} {rows : List Row} : ∀ (ds : List Deal) (p : List Int), monOk p = true → (∀ d ∈ ds, dealOk ck rows d = true) → p.sum + heldSum ds ≤ 100000 →
    monOk (ds.foldl (backPurse clock) p) = true ∧ (ds.foldl (backPurse clock) p).sum + heldSum (ds.map (backDeal clock)) = p.sum + heldSum ds
  | [], p, hp, _, _ => ⟨hp, rfl⟩
  | d :: ds, p, hp, hd, hs => by
    have hdo := dealOk_iff.1 (hd d (List.mem_cons_self ..))
    have hb := (heldSum_bd (fun x hx => hd x (List.mem_cons_of_mem _ hx))).1
    have hd' := fun x hx => hd x (List.mem_cons_of_mem d hx)
    have e1 : heldSum (d :: ds) = heldIn d + heldSum ds := by simp [heldSum]
    have e2 : heldSum ((d :: ds).map (backDeal clock)) = heldIn (backDeal clock d) + heldSum (ds.map (backDeal clock)) := by simp [heldSum]
    rw [e1] at hs
    rw [e1, e2, List.foldl_cons]
    unfold backPurse backDeal
    by_cases hc : (held d && decide (d.due < clock)) = true
    · rw [if_pos hc, if_pos hc]
      simp only [Bool.and_eq_true] at hc
      have hi : heldIn d = d.price := by simp [heldIn, hc.1]
      have hb0 : 0 < d.buyer := by simpa [held] using hc.1
      have hm := turnMay_in hp (who := d.buyer) (n := d.price) (by omega) (by omega) (by omega)
      have e : monTurn p d.buyer d.price = turned p d.buyer d.price := by simp [monTurn, hm]
      rw [e]
      have ih := backs (clock := clock) ds (turned p d.buyer d.price) (turned_ok hm) hd' (by rw [turned_sum hm]; omega)
      refine ⟨ih.1, ?_⟩
      have h0 : heldIn { d with buyer := 0, due := 0 } = 0 := by simp [heldIn, held]
      rw [h0]
      have := ih.2
      rw [turned_sum hm] at this
      unfold backPurse at this
      unfold backDeal at this
      omega
    · rw [if_neg hc, if_neg hc]
      have hi := (heldIn_bd (hd d (List.mem_cons_self ..))).1
      have ih := backs (clock := clock) ds p hp hd' (by omega)
      refine ⟨ih.1, ?_⟩
      have := ih.2
      unfold backPurse at this
      unfold backDeal at this
      omega
theorem tick_ok {m : Mkt} {rows : List Row} (h : MOk m rows) (hc : m.clock ≠ 99999) : MOk (tick m) rows := by
  have hb := backs (clock := m.clock + 1) m.deals m.purses h.mon h.deals.1 h.sum
  have hck := h.clk
  refine ⟨h.fold, hb.1, by simpa [tick] using h.dlen, by show 0 ≤ m.clock + 1 ∧ m.clock + 1 ≤ 99999; omega, h.nlen, h.slen, ⟨fun d hd => ?_, ?_⟩, h.nums, ?_⟩
  · simp only [tick, List.mem_map] at hd
    obtain ⟨x, hx, rfl⟩ := hd
    exact backDeal_ok (h.deals.1 x hx)
  · show (m.deals.map _).Pairwise _
    rw [List.pairwise_map]
    refine h.deals.2.imp fun {a b} hab => ?_
    rw [backDeal_ticket, backDeal_ticket]
    exact hab
  · show (m.deals.foldl (backPurse (m.clock + 1)) m.purses).sum + heldSum (m.deals.map (backDeal (m.clock + 1))) ≤ _
    rw [hb.2]
    exact h.sum
theorem tick_total {m : Mkt} {rows : List Row} (h : MOk m rows) : total (tick m) = total m := (backs (clock := m.clock + 1) m.deals m.purses h.mon h.deals.1 h.sum).2
theorem tick_mktOk {m : Mkt} (h : mktOk m = true) (hc : m.clock ≠ 99999) : mktOk (tick m) = true := by
  obtain ⟨rows, h⟩ := mktOk_iff.1 h
  exact mktOk_iff.2 ⟨rows, tick_ok h hc⟩
theorem mktNew_ok {p : List Int} (hp : monOk p = true) (hs : monSum p ≤ 100000) : MOk (mktNew p) rows0 := by
  have e : mktNew p = ⟨[], p, [], 0, [0, 0, 0, 0, 0], [0, 0, 0, 0, 0]⟩ := by simp [mktNew, hp, hs]
  rw [e]
  refine ⟨rfl, hp, by simp, by simp, rfl, rfl, ⟨by simp, by simp⟩, rfl, ?_⟩
  rw [monSum_eq hp] at hs
  simpa [heldSum] using hs
end Go.Proofs.Ytgceeggfdomdjaa.Sw

namespace Go.Proofs.Ytgceeggfdomdjaa.Sw
set_option maxRecDepth 100000
set_option linter.unusedSimpArgs false
set_option linter.unusedVariables false
open Go.RowKit (wrap64)

theorem mix_iff {a : Int} : mixOk a = true ↔ 0 ≤ a ∧ a ≤ 65520 := by simp [mixOk, inR_iff]
theorem pair_mix (a b : Int) : mixOk (pair a b) = true := by
  rw [mix_iff]; unfold pair
  exact ⟨Int.emod_nonneg _ (by omega), by have := Int.emod_lt_of_pos (a * 8191 + b * 127 + a * b + 31) (show (0 : Int) < 65521 by omega); omega⟩
theorem root_mix : ∀ (xs : List Int), xs.all mixOk = true → mixOk (root xs) = true
  | [], _ => by simp [root]; decide
  | [x], h => by simpa [root] using h
  | x :: y :: r, _ => by rw [root]; exact pair_mix _ _
theorem mixLeaf_mix (l : List Int) : mixOk (mixLeaf l) = true := by
  rw [mix_iff]; unfold mixLeaf
  exact ⟨Int.emod_nonneg _ (by omega), by have := Int.emod_lt_of_pos (mixLeafFrom 7 l * 31 + l.length) (show (0 : Int) < 65521 by omega); omega⟩
theorem ownLeaf_mix (t : Int) (r : Row) : mixOk (ownLeaf t r) = true := by
  unfold ownLeaf
  split
  · exact mixLeaf_mix _
  · rfl
theorem leavesFrom_mix : ∀ (rows : List Row) (t : Int), (leavesFrom t rows).all mixOk = true
  | [], _ => rfl
  | r :: rs, t => by simp only [leavesFrom, List.all_cons, ownLeaf_mix, leavesFrom_mix rs, Bool.and_self]
theorem ownLeaves_mix (rows : List Row) : (ownLeaves rows).all mixOk = true := leavesFrom_mix rows 0
theorem entLeaves_mix (es : List Ent) : (es.map entLeaf).all mixOk = true := by
  rw [List.all_map, List.all_eq_true]; exact fun e _ => mixLeaf_mix _
theorem all_take {p : Int → Bool} {xs : List Int} {k : Nat} (h : xs.all p = true) : (xs.take k).all p = true := by
  rw [List.all_eq_true] at *; exact fun x hx => h x (List.mem_of_mem_take hx)
theorem all_drop {p : Int → Bool} {xs : List Int} {k : Nat} (h : xs.all p = true) : (xs.drop k).all p = true := by
  rw [List.all_eq_true] at *; exact fun x hx => h x (List.mem_of_mem_drop hx)
theorem grow_ok : ∀ (n : Nat) (l : List Int) (m : Nat) (known : Bool), l.all mixOk = true → 1 ≤ m → m ≤ l.length → (grow n l m known).all mixOk = true ∧ (grow n l m known).length ≤ l.length
  | 0, l, m, known, _, _, _ => by simp [grow]
  | n + 1, l, m, known, h, h0, h1 => by
    rw [grow]
    split
    · rename_i hm
      split
      · simp
      · simp [root_mix l h]; omega
    · have hs := split_lt (n := l.length) (by omega)
      have hp := split_pos l.length
      split
      · have ih := grow_ok n (l.take (split l.length)) m known (all_take h) h0 (by rw [List.length_take]; omega)
        rw [List.length_take] at ih
        simp only [List.all_append, List.all_cons, List.all_nil, Bool.and_true, Bool.and_eq_true, List.length_append, List.length_singleton]
        exact ⟨⟨ih.1, root_mix _ (all_drop h)⟩, by omega⟩
      · have ih := grow_ok n (l.drop (split l.length)) (m - split l.length) false (all_drop h) (by omega) (by rw [List.length_drop]; omega)
        rw [List.length_drop] at ih
        simp only [List.all_append, List.all_cons, List.all_nil, Bool.and_true, Bool.and_eq_true, List.length_append, List.length_singleton]
        exact ⟨⟨ih.1, root_mix _ (all_take h)⟩, by omega⟩
theorem treOk_iff {l : List Int} : treOk l = true ↔ l.length ≤ 40 ∧ l.all mixOk = true := by simp [treOk]
theorem conProof_ok (l : List Int) (m : Int) : treOk (conProof l m) = true := by
  unfold conProof
  split
  · rename_i h
    simp only [Bool.and_eq_true, inR_iff] at h
    have h1 := treOk_iff.1 h.1
    have := grow_ok l.length l m.toNat true h1.2 (by omega) (by omega)
    exact treOk_iff.2 ⟨by unfold growth; omega, this.1⟩
  · rfl
theorem hedProof_ok (l : List Ent) (m : Int) : treOk (hedProof l m) = true := by
  unfold hedProof
  split
  · exact conProof_ok _ _
  · rfl
theorem hedOk_iff {h : Head} : hedOk h = true ↔ (0 ≤ h.size ∧ h.size ≤ 40) ∧ mixOk h.log = true ∧ mixOk h.own = true := by
  simp [hedOk, inR_iff, and_assoc]
theorem ownRoot_mix (rows : List Row) : mixOk (ownRoot rows) = true := by
  unfold ownRoot
  split
  · exact root_mix _ (ownLeaves_mix _)
  · rfl
theorem hedOf_some {l : List Ent} {h : Head} : hedOf l = some h ↔ ∃ rows, ownFold l = some rows ∧ h = ⟨l.length, root (l.map entLeaf), ownRoot rows⟩ := by
  unfold hedOf
  rw [Option.map_eq_some_iff]
  constructor
  · rintro ⟨r, h1, rfl⟩; exact ⟨r, h1, rfl⟩
  · rintro ⟨r, h1, rfl⟩; exact ⟨r, h1, rfl⟩
theorem hedOf_ok {l : List Ent} {h : Head} (e : hedOf l = some h) : hedOk h = true ∧ h.size = l.length := by
  obtain ⟨rows, h1, rfl⟩ := hedOf_some.1 e
  have := (ownFold_some.1 h1).1
  rw [hedOk_iff]
  exact ⟨⟨by dsimp only; omega, root_mix _ (entLeaves_mix _), ownRoot_mix _⟩, rfl⟩
theorem hedOf_getD_ok (l : List Ent) : hedOk ((hedOf l).getD headZ) = true := by
  cases h : hedOf l with
  | none => decide
  | some x => exact (hedOf_ok h).1

/-! ### gates -/
theorem rises_iff : ∀ (xs : List Int) (p : Int), risesFrom p xs = true ↔ (∀ x ∈ xs, (0 ≤ x ∧ x ≤ 7) ∧ p < x) ∧ xs.Pairwise (· < ·)
  | [], p => by simp [risesFrom]
  | x :: xs, p => by
    rw [risesFrom, Bool.and_eq_true, Bool.and_eq_true, inR_iff, decide_eq_true_eq, rises_iff xs]
    simp only [List.mem_cons, forall_eq_or_imp, List.pairwise_cons]
    constructor
    · rintro ⟨⟨h1, h2⟩, h3, h4⟩
      exact ⟨⟨⟨h1, h2⟩, fun y hy => ⟨(h3 y hy).1, Int.lt_trans h2 (h3 y hy).2⟩⟩, fun y hy => (h3 y hy).2, h4⟩
    · rintro ⟨⟨⟨h1, h2⟩, h3⟩, h4, h5⟩
      exact ⟨⟨h1, h2⟩, fun y hy => ⟨(h3 y hy).1, h4 y hy⟩, h5⟩
theorem gatOk_iff {g : Gate} : gatOk g = true ↔ hedOk g.head = true ∧ (∀ x ∈ g.done, 0 ≤ x ∧ x ≤ 7) ∧ g.done.Pairwise (· < ·) := by
  unfold gatOk
  rw [Bool.and_eq_true, rises_iff]
  constructor
  · rintro ⟨h1, h2, h3⟩; exact ⟨h1, fun x hx => (h2 x hx).1, h3⟩
  · rintro ⟨h1, h2, h3⟩; exact ⟨h1, fun x hx => ⟨h2 x hx, by have := h2 x hx; omega⟩, h3⟩
theorem insert_mem {d x : Int} : ∀ {ds : List Int}, x ∈ insert d ds ↔ x = d ∨ x ∈ ds
  | [] => by simp [insert]
  | y :: ys => by
    rw [insert]
    split
    · simp
    · rw [List.mem_cons, insert_mem, List.mem_cons]
      constructor
      · rintro (h | h | h)
        · exact .inr (.inl h)
        · exact .inl h
        · exact .inr (.inr h)
      · rintro (h | h | h)
        · exact .inr (.inl h)
        · exact .inl h
        · exact .inr (.inr h)
theorem insert_len {d : Int} : ∀ {ds : List Int}, (insert d ds).length = ds.length + 1
  | [] => rfl
  | y :: ys => by
    rw [insert]
    split
    · rfl
    · rw [List.length_cons, insert_len, List.length_cons]
theorem insert_rises {d : Int} : ∀ {ds : List Int}, ds.Pairwise (· < ·) → d ∉ ds → (insert d ds).Pairwise (· < ·)
  | [], _, _ => by simp [insert]
  | y :: ys, h, hn => by
    rw [List.pairwise_cons] at h
    simp only [List.mem_cons, not_or] at hn
    rw [insert]
    split
    · rw [List.pairwise_cons, List.pairwise_cons]
      refine ⟨fun x hx => ?_, h.1, h.2⟩
      rcases List.mem_cons.1 hx with rfl | hx
      · assumption
      · have := h.1 x hx; omega
    · rw [List.pairwise_cons]
      refine ⟨fun x hx => ?_, insert_rises h.2 hn.2⟩
      rcases insert_mem.1 hx with rfl | hx
      · omega
      · exact h.1 x hx
theorem hedFollows_ok {o h : Head} {p : List Int} (e : hedFollows o h p = true) : hedOk o = true ∧ hedOk h = true ∧ o.size ≤ h.size := by
  simp only [hedFollows, Bool.and_eq_true, decide_eq_true_eq] at e
  exact ⟨e.1.1.1.1, e.1.1.1.2, e.1.1.2⟩
theorem gatSync_ok {g : Gate} {h : Head} {p : List Int} (hg : gatOk g = true) : gatOk (gatSync g h p).1 = true := by
  unfold gatSync
  rw [if_pos hg]
  split
  · rename_i hf
    rw [gatOk_iff] at hg ⊢
    exact ⟨(hedFollows_ok hf).2.1, hg.2⟩
  · exact hg
theorem gatMay_facts {g : Gate} {t who : Int} {r : Row} {p : List Int} (h : gatMay g t who r p = true) : (1 ≤ who ∧ who ≤ 5) ∧ who = r.who ∧ r.used = false ∧ t ∉ g.done ∧ (0 ≤ t ∧ t ≤ 7) := by
  simp only [gatMay, ownCheck, Bool.and_eq_true, inR_iff, decide_eq_true_eq, Bool.not_eq_true'] at h
  refine ⟨h.1.1.1.1, h.1.1.1.2, h.1.1.2, ?_, h.2.1⟩
  have := h.1.2
  intro hm
  simp [hm] at this
theorem gatShow_ok {g : Gate} {t who : Int} {r : Row} {p : List Int} (hg : gatOk g = true) : gatOk (gatShow g t who r p).1 = true := by
  unfold gatShow
  rw [if_pos hg]
  split
  · rename_i hf
    have hf := gatMay_facts hf
    rw [gatOk_iff] at hg ⊢
    refine ⟨hg.1, fun x hx => ?_, insert_rises hg.2.2 hf.2.2.2.1⟩
    rcases insert_mem.1 hx with rfl | hx
    · exact hf.2.2.2.2
    · exact hg.2.1 x hx
  · exact hg
theorem gatNew_ok : gatOk gatNew = true := by
  rw [gatOk_iff]
  exact ⟨hedOf_getD_ok [], by simp [gatNew], by simp [gatNew]⟩

/-! ### worlds -/
structure WOk (w : World) : Prop where
  mkt : mktOk w.market = true
  first : monOk w.first = true
  lines : w.lines.length ≤ 300
  glen : w.gates.length = 2
  blen : w.bag.length ≤ 6
  lok : ∀ r ∈ w.lines, lineOk r = true
  gok : ∀ g ∈ w.gates, gatOk g = true
  bok : ∀ x ∈ w.bag, msgOk x = true
theorem wldOk_iff {w : World} : wldOk w = true ↔ WOk w := by
  simp only [wldOk, Bool.and_eq_true, decide_eq_true_eq, List.all_eq_true]
  constructor
  · rintro ⟨⟨⟨⟨⟨⟨⟨h1, h2⟩, h3⟩, h4⟩, h5⟩, h6⟩, h7⟩, h8⟩; exact ⟨h1, h2, h3, h4, h5, h6, h7, h8⟩
  · rintro ⟨h1, h2, h3, h4, h5, h6, h7, h8⟩; exact ⟨⟨⟨⟨⟨⟨⟨h1, h2⟩, h3⟩, h4⟩, h5⟩, h6⟩, h7⟩, h8⟩
theorem gateAt_ok {w : World} (h : WOk w) {k : Int} (hk : 0 ≤ k ∧ k ≤ 1) : gatOk (gateAt w k) = true := by
  unfold gateAt
  have hl := h.glen
  obtain ⟨g, hg⟩ : ∃ g, w.gates[k.toNat]? = some g := ⟨_, List.getElem?_eq_getElem (by omega)⟩
  rw [getD_of hg]
  exact h.gok g (List.mem_of_getElem? hg)
theorem msgAt_ok {w : World} (h : WOk w) {i : Int} (hi : 0 ≤ i ∧ i ≤ (w.bag.length : Int) - 1) : msgOk (msgAt w i) = true := by
  unfold msgAt
  obtain ⟨g, hg⟩ : ∃ g, w.bag[i.toNat]? = some g := ⟨_, List.getElem?_eq_getElem (by omega)⟩
  rw [getD_of hg]
  exact h.bok g (List.mem_of_getElem? hg)
theorem ask_ok {w : World} (h : WOk w) (r : Req) : WOk (ask w r).1 := by
  unfold ask
  split
  · rename_i hr
    simp only [Bool.and_eq_true, decide_eq_true_eq] at hr
    refine ⟨doIt_mktOk h.mkt hr.1, h.first, by simp; omega, h.glen, h.blen, fun x hx => ?_, h.gok, h.bok⟩
    rcases List.mem_append.1 hx with hx | hx
    · exact h.lok x hx
    · obtain rfl := List.mem_singleton.1 hx
      simp [lineOk, hr.1]
  · exact h
theorem tickW_ok {w : World} (h : WOk w) : WOk (tickW w) := by
  unfold tickW
  split
  · rename_i hr
    simp only [Bool.and_eq_true, decide_eq_true_eq] at hr
    refine ⟨tick_mktOk h.mkt hr.1, h.first, by simp; omega, h.glen, h.blen, fun x hx => ?_, h.gok, h.bok⟩
    rcases List.mem_append.1 hx with hx | hx
    · exact h.lok x hx
    · obtain rfl := List.mem_singleton.1 hx
      rfl
  · exact h
theorem foldLines_ok : ∀ (rs : List Req) (m x : Mkt), mktOk m = true → foldLines m rs = some x → mktOk x = true
  | [], m, x, h, e => by simp [foldLines] at e; rw [← e]; exact h
  | r :: rs, m, x, h, e => by
    rw [foldLines] at e
    split at e
    · split at e
      · cases e
      · exact foldLines_ok rs _ x (tick_mktOk h ‹_›) e
    · split at e
      · exact foldLines_ok rs _ x (doIt_mktOk h ‹_›) e
      · cases e
theorem wldFold_ok {first : List Int} {lines : List Req} {x : Mkt} (e : wldFold first lines = some x) : mktOk x = true := by
  unfold wldFold at e
  split at e
  · rename_i h
    simp only [Bool.and_eq_true, decide_eq_true_eq] at h
    exact foldLines_ok _ _ _ (mktOk_iff.2 ⟨_, mktNew_ok h.1.1 h.1.2⟩) e
  · cases e
theorem fall_ok {w : World} (h : WOk w) : WOk (fall w) := by
  refine ⟨?_, h.first, h.lines, h.glen, by simp [fall], h.lok, h.gok, by simp [fall]⟩
  show mktOk ((wldFold w.first w.lines).getD w.market) = true
  cases e : wldFold w.first w.lines with
  | none => exact h.mkt
  | some x => exact wldFold_ok e
theorem send_ok {w : World} (h : WOk w) (k : Int) : WOk (send w k) := by
  unfold send
  split
  · rename_i hr
    simp only [Bool.and_eq_true, decide_eq_true_eq, inR_iff] at hr
    refine ⟨h.mkt, h.first, h.lines, h.glen, by simp; omega, h.lok, h.gok, fun x hx => ?_⟩
    rcases List.mem_append.1 hx with hx | hx
    · exact h.bok x hx
    · obtain rfl := List.mem_singleton.1 hx
      simp only [msgOk, Bool.and_eq_true, inR_iff]
      exact ⟨⟨hr.1, hedOf_getD_ok _⟩, hedProof_ok _ _⟩
  · exact h
theorem lose_ok {w : World} (h : WOk w) (i : Int) : WOk (lose w i) :=
  ⟨h.mkt, h.first, h.lines, h.glen, Nat.le_trans (List.eraseIdx_sublist w.bag i.toNat).length_le h.blen, h.lok, h.gok, fun x hx => h.bok x ((List.eraseIdx_sublist w.bag i.toNat).subset hx)⟩
theorem setGate_ok {w : World} (h : WOk w) {k : Nat} {g : Gate} (hg : gatOk g = true) : WOk { w with gates := w.gates.set k g } := by
  refine ⟨h.mkt, h.first, h.lines, by simpa using h.glen, h.blen, h.lok, fun x hx => ?_, h.bok⟩
  rcases List.mem_or_eq_of_mem_set hx with hx | rfl
  · exact h.gok x hx
  · exact hg
theorem heard_ok {w : World} (h : WOk w) {x : Msg} (hx : msgOk x = true) : WOk (heard w x) := by
  simp only [msgOk, Bool.and_eq_true, inR_iff] at hx
  exact setGate_ok h (gatSync_ok (gateAt_ok h hx.1.1))
theorem hear_ok {w : World} (h : WOk w) {i : Int} (hi : 0 ≤ i ∧ i ≤ (w.bag.length : Int) - 1) : WOk (hear w i) := heard_ok (lose_ok h i) (msgAt_ok h hi)
theorem twice_ok {w : World} (h : WOk w) {i : Int} (hi : 0 ≤ i ∧ i ≤ (w.bag.length : Int) - 1) : WOk (twice w i) := by
  unfold twice
  split
  · refine ⟨h.mkt, h.first, h.lines, h.glen, by simp; omega, h.lok, h.gok, fun x hx => ?_⟩
    rcases List.mem_append.1 hx with hx | hx
    · exact h.bok x hx
    · obtain rfl := List.mem_singleton.1 hx
      exact msgAt_ok h hi
  · exact h
theorem showIt_ok {w : World} (h : WOk w) (k t who : Int) : WOk (showIt w k t who).1 := by
  unfold showIt
  split
  · rename_i hr
    simp only [Bool.and_eq_true, decide_eq_true_eq, inR_iff] at hr
    split
    · exact h
    · split
      · exact setGate_ok h (gatShow_ok (gateAt_ok h hr.1.1))
      · exact h
  · exact h
theorem tellOne_ok {w : World} (h : WOk w) (t : Int) : WOk (tellOne w t) := by
  unfold tellOne
  split
  · exact ask_ok h _
  · exact h
theorem tells_ok : ∀ (ts : List Int) {w : World}, WOk w → WOk (ts.foldl tellOne w)
  | [], _, h => h
  | t :: ts, _, h => tells_ok ts (tellOne_ok h t)
theorem tell_ok {w : World} (h : WOk w) (k : Int) : WOk (tell w k) := by
  unfold tell
  split
  · exact tells_ok _ h
  · exact h
theorem step_ok {w : World} (h : WOk w) (e : Ev) : WOk (step w e).1 := by
  unfold step
  split
  · exact ask_ok h _
  split
  · exact tickW_ok h
  split
  · exact fall_ok h
  split
  · exact send_ok h _
  split
  · dsimp only; split
    · exact hear_ok h (inR_iff.1 ‹_›)
    · exact h
  split
  · dsimp only; split
    · exact lose_ok h _
    · exact h
  split
  · dsimp only; split
    · exact twice_ok h (inR_iff.1 ‹_›)
    · exact h
  split
  · exact showIt_ok h _ _ _
  split
  · exact tell_ok h _
  · exact h
theorem wldNew_ok {p : List Int} (hp : monOk p = true) (hs : monSum p ≤ 100000) : WOk (wldNew p) := by
  have e : wldNew p = ⟨p, mktNew p, [], [gatNew, gatNew], []⟩ := by simp [wldNew, hp, hs]
  rw [e]
  exact ⟨mktOk_iff.2 ⟨_, mktNew_ok hp hs⟩, hp, by simp, rfl, by simp, by simp, by simp [gatNew_ok], by simp⟩
theorem run_ok : ∀ (es : List Ev) {w : World}, WOk w → WOk (runFrom w es)
  | [], _, h => h
  | e :: es, _, h => run_ok es (step_ok h e)
end Go.Proofs.Ytgceeggfdomdjaa.Sw

namespace Go.Proofs.Ytgceeggfdomdjaa
set_option maxRecDepth 100000
set_option linter.unusedSimpArgs false
set_option linter.unusedVariables false
open Go.RowKit Go

def Sw.Deal.enc (d : Sw.Deal) : List Value := [.int .i64 d.ticket, .int .i64 d.seller, .int .i64 d.price, .int .i64 d.buyer, .int .i64 d.due]
def Sw.Req.enc (r : Sw.Req) : List Value := [.int .i64 r.user, .int .i64 r.n, .int .i64 r.kind, .int .i64 r.ticket, .int .i64 r.who, .int .i64 r.price]
def Sw.Ev.enc (e : Sw.Ev) : List Value := [.int .i64 e.kind, .int .i64 e.req.user, .int .i64 e.req.n, .int .i64 e.req.kind, .int .i64 e.req.ticket, .int .i64 e.req.who, .int .i64 e.req.price, .int .i64 e.at_, .int .i64 e.ticket, .int .i64 e.who]
abbrev RDl := Rs Sw.Deal.enc 5
abbrev RQ := Rs Sw.Req.enc 6
abbrev REv := Rs Sw.Ev.enc 10
/-- A gate, a message as their cells hold them. -/
structure GV where
  h : Sw.Head
  A : Option Addr
  c : Nat
  n : Nat
structure XV where
  g : Int
  h : Sw.Head
  A : Option Addr
  c : Nat
  n : Nat
def GV.enc (v : GV) : List Value := [.int .i64 v.h.size, .int .i64 v.h.log, .int .i64 v.h.own, .slice v.A v.n v.c]
def XV.enc (v : XV) : List Value := [.int .i64 v.g, .int .i64 v.h.size, .int .i64 v.h.log, .int .i64 v.h.own, .slice v.A v.n v.c]
/-- Slices of gates, of messages: what each one shows may be read. -/
structure RG (w : World) (lo : Nat) (A : Option Addr) (c n : Nat) (gs : List Sw.Gate) : Prop where
  ex : ∃ vs : List GV, Rs GV.enc 4 w lo A c n vs ∧ n = gs.length ∧ ∀ (k : Nat) (v : GV) (g : Sw.Gate), vs[k]? = some v → gs[k]? = some g → v.h = g.head ∧ RI w lo v.A v.c v.n g.done
structure RX (w : World) (lo : Nat) (A : Option Addr) (c n : Nat) (xs : List Sw.Msg) : Prop where
  ex : ∃ vs : List XV, Rs XV.enc 5 w lo A c n vs ∧ n = xs.length ∧ ∀ (k : Nat) (v : XV) (x : Sw.Msg), vs[k]? = some v → xs[k]? = some x → v.g = x.gate ∧ v.h = x.head ∧ RI w lo v.A v.c v.n x.proof
structure RM (w : World) (lo : Nat) (aL : Option Addr) (aLc aLn : Nat) (aP : Option Addr) (aPc aPn : Nat) (aD : Option Addr) (aDc aDn : Nat) (aN : Option Addr) (aNc aNn : Nat) (aS : Option Addr) (aSc aSn : Nat) (m : Sw.Mkt) : Prop where
  log : RE w lo aL aLc aLn m.log
  purses : RI w lo aP aPc aPn m.purses
  deals : RDl w lo aD aDc aDn m.deals
  nums : RI w lo aN aNc aNn m.nums
  said : RI w lo aS aSc aSn m.said
structure RW (w : World) (lo : Nat) (aF : Option Addr) (aFc aFn : Nat) (aL : Option Addr) (aLc aLn : Nat) (aP : Option Addr) (aPc aPn : Nat) (aD : Option Addr) (aDc aDn : Nat) (aN : Option Addr) (aNc aNn : Nat) (aS : Option Addr) (aSc aSn : Nat) (aI : Option Addr) (aIc aIn : Nat) (aG : Option Addr) (aGc aGn : Nat) (aB : Option Addr) (aBc aBn : Nat) (x : Sw.World) : Prop where
  first : RI w lo aF aFc aFn x.first
  mkt : RM w lo aL aLc aLn aP aPc aPn aD aDc aDn aN aNc aNn aS aSc aSn x.market
  lines : RQ w lo aI aIc aIn x.lines
  gates : RG w lo aG aGc aGn x.gates
  bag : RX w lo aB aBc aBn x.bag

section
variable {w w0 W : World} {lo lo' c n k : Nat} {A : Option Addr}
theorem RG.keep {gs : List Sw.Gate} (h : RG w0 lo A c n gs) (hk : KF lo w0 W) : RG W lo A c n gs := by
  obtain ⟨vs, h1, h2, h3⟩ := h.ex
  exact ⟨vs, h1.keep hk, h2, fun k v g hv hg => ⟨(h3 k v g hv hg).1, (h3 k v g hv hg).2.keep hk⟩⟩
theorem RG.less {gs : List Sw.Gate} (h : RG w0 lo A c n gs) (hl : lo' ≤ lo) : RG w0 lo' A c n gs := by
  obtain ⟨vs, h1, h2, h3⟩ := h.ex
  exact ⟨vs, h1.less hl, h2, fun k v g hv hg => ⟨(h3 k v g hv hg).1, (h3 k v g hv hg).2.less hl⟩⟩
theorem RX.keep {xs : List Sw.Msg} (h : RX w0 lo A c n xs) (hk : KF lo w0 W) : RX W lo A c n xs := by
  obtain ⟨vs, h1, h2, h3⟩ := h.ex
  exact ⟨vs, h1.keep hk, h2, fun k v g hv hg => ⟨(h3 k v g hv hg).1, (h3 k v g hv hg).2.1, (h3 k v g hv hg).2.2.keep hk⟩⟩
theorem RX.less {xs : List Sw.Msg} (h : RX w0 lo A c n xs) (hl : lo' ≤ lo) : RX w0 lo' A c n xs := by
  obtain ⟨vs, h1, h2, h3⟩ := h.ex
  exact ⟨vs, h1.less hl, h2, fun k v g hv hg => ⟨(h3 k v g hv hg).1, (h3 k v g hv hg).2.1, (h3 k v g hv hg).2.2.less hl⟩⟩
theorem RG.at0 {gs : List Sw.Gate} (h : RG w0 lo A c n gs) (hk : KF lo w0 W) : RG W 0 A c n gs := (h.keep hk).less (Nat.zero_le _)
theorem RX.at0 {xs : List Sw.Msg} (h : RX w0 lo A c n xs) (hk : KF lo w0 W) : RX W 0 A c n xs := (h.keep hk).less (Nat.zero_le _)
theorem RM.keep {aL : Option Addr} {aLc aLn : Nat} {aP : Option Addr} {aPc aPn : Nat} {aD : Option Addr} {aDc aDn : Nat} {aN : Option Addr} {aNc aNn : Nat} {aS : Option Addr} {aSc aSn : Nat} {m : Sw.Mkt} (h : RM w0 lo aL aLc aLn aP aPc aPn aD aDc aDn aN aNc aNn aS aSc aSn m) (hk : KF lo w0 W) : RM W lo aL aLc aLn aP aPc aPn aD aDc aDn aN aNc aNn aS aSc aSn m := ⟨h.1.keep hk, h.2.keep hk, h.3.keep hk, h.4.keep hk, h.5.keep hk⟩
theorem RM.less {aL : Option Addr} {aLc aLn : Nat} {aP : Option Addr} {aPc aPn : Nat} {aD : Option Addr} {aDc aDn : Nat} {aN : Option Addr} {aNc aNn : Nat} {aS : Option Addr} {aSc aSn : Nat} {m : Sw.Mkt} (h : RM w0 lo aL aLc aLn aP aPc aPn aD aDc aDn aN aNc aNn aS aSc aSn m) (hl : lo' ≤ lo) : RM w0 lo' aL aLc aLn aP aPc aPn aD aDc aDn aN aNc aNn aS aSc aSn m := ⟨h.1.less hl, h.2.less hl, h.3.less hl, h.4.less hl, h.5.less hl⟩
theorem RM.at0 {aL : Option Addr} {aLc aLn : Nat} {aP : Option Addr} {aPc aPn : Nat} {aD : Option Addr} {aDc aDn : Nat} {aN : Option Addr} {aNc aNn : Nat} {aS : Option Addr} {aSc aSn : Nat} {m : Sw.Mkt} (h : RM w0 lo aL aLc aLn aP aPc aPn aD aDc aDn aN aNc aNn aS aSc aSn m) (hk : KF lo w0 W) : RM W 0 aL aLc aLn aP aPc aPn aD aDc aDn aN aNc aNn aS aSc aSn m := (h.keep hk).less (Nat.zero_le _)
theorem RW.keep {aF : Option Addr} {aFc aFn : Nat} {aL : Option Addr} {aLc aLn : Nat} {aP : Option Addr} {aPc aPn : Nat} {aD : Option Addr} {aDc aDn : Nat} {aN : Option Addr} {aNc aNn : Nat} {aS : Option Addr} {aSc aSn : Nat} {aI : Option Addr} {aIc aIn : Nat} {aG : Option Addr} {aGc aGn : Nat} {aB : Option Addr} {aBc aBn : Nat} {x : Sw.World} (h : RW w0 lo aF aFc aFn aL aLc aLn aP aPc aPn aD aDc aDn aN aNc aNn aS aSc aSn aI aIc aIn aG aGc aGn aB aBc aBn x) (hk : KF lo w0 W) : RW W lo aF aFc aFn aL aLc aLn aP aPc aPn aD aDc aDn aN aNc aNn aS aSc aSn aI aIc aIn aG aGc aGn aB aBc aBn x := ⟨h.1.keep hk, h.2.keep hk, h.3.keep hk, h.4.keep hk, h.5.keep hk⟩
theorem RW.less {aF : Option Addr} {aFc aFn : Nat} {aL : Option Addr} {aLc aLn : Nat} {aP : Option Addr} {aPc aPn : Nat} {aD : Option Addr} {aDc aDn : Nat} {aN : Option Addr} {aNc aNn : Nat} {aS : Option Addr} {aSc aSn : Nat} {aI : Option Addr} {aIc aIn : Nat} {aG : Option Addr} {aGc aGn : Nat} {aB : Option Addr} {aBc aBn : Nat} {x : Sw.World} (h : RW w0 lo aF aFc aFn aL aLc aLn aP aPc aPn aD aDc aDn aN aNc aNn aS aSc aSn aI aIc aIn aG aGc aGn aB aBc aBn x) (hl : lo' ≤ lo) : RW w0 lo' aF aFc aFn aL aLc aLn aP aPc aPn aD aDc aDn aN aNc aNn aS aSc aSn aI aIc aIn aG aGc aGn aB aBc aBn x := ⟨h.1.less hl, h.2.less hl, h.3.less hl, h.4.less hl, h.5.less hl⟩
theorem RW.at0 {aF : Option Addr} {aFc aFn : Nat} {aL : Option Addr} {aLc aLn : Nat} {aP : Option Addr} {aPc aPn : Nat} {aD : Option Addr} {aDc aDn : Nat} {aN : Option Addr} {aNc aNn : Nat} {aS : Option Addr} {aSc aSn : Nat} {aI : Option Addr} {aIc aIn : Nat} {aG : Option Addr} {aGc aGn : Nat} {aB : Option Addr} {aBc aBn : Nat} {x : Sw.World} (h : RW w0 lo aF aFc aFn aL aLc aLn aP aPc aPn aD aDc aDn aN aNc aNn aS aSc aSn aI aIc aIn aG aGc aGn aB aBc aBn x) (hk : KF lo w0 W) : RW W 0 aF aFc aFn aL aLc aLn aP aPc aPn aD aDc aDn aN aNc aNn aS aSc aSn aI aIc aIn aG aGc aGn aB aBc aBn x := (h.keep hk).less (Nat.zero_le _)

theorem at_D {xs : List Sw.Deal} (h : RDl w lo A c n xs) (hk : k < n) :
    ∃ g off x, A = some ⟨g, off, none⟩ ∧ lo ≤ g ∧ g < w.heap.size ∧ xs.drop k = x :: xs.drop (k + 1) ∧ xs[k]? = some x ∧
      w.cell? ⟨g, off + k * 5, none⟩ = some (.int .i64 x.ticket) ∧ w.cell? ⟨g, off + k * 5 + 1, none⟩ = some (.int .i64 x.seller) ∧
      w.cell? ⟨g, off + k * 5 + 2, none⟩ = some (.int .i64 x.price) ∧ w.cell? ⟨g, off + k * 5 + 3, none⟩ = some (.int .i64 x.buyer) ∧ w.cell? ⟨g, off + k * 5 + 4, none⟩ = some (.int .i64 x.due) := by
  obtain ⟨g, off, x, h1, h2, h3, h4, h5, h6⟩ := Rs.at_ h (fun _ => rfl) hk
  exact ⟨g, off, x, h1, h2, h3, h4, h5, by simpa using h6 0 _ (by omega) rfl, h6 1 _ (by omega) rfl, h6 2 _ (by omega) rfl, h6 3 _ (by omega) rfl, h6 4 _ (by omega) rfl⟩
theorem at_Q {xs : List Sw.Req} (h : RQ w lo A c n xs) (hk : k < n) :
    ∃ g off x, A = some ⟨g, off, none⟩ ∧ lo ≤ g ∧ g < w.heap.size ∧ xs.drop k = x :: xs.drop (k + 1) ∧ xs[k]? = some x ∧
      w.cell? ⟨g, off + k * 6, none⟩ = some (.int .i64 x.user) ∧ w.cell? ⟨g, off + k * 6 + 1, none⟩ = some (.int .i64 x.n) ∧
      w.cell? ⟨g, off + k * 6 + 2, none⟩ = some (.int .i64 x.kind) ∧ w.cell? ⟨g, off + k * 6 + 3, none⟩ = some (.int .i64 x.ticket) ∧
      w.cell? ⟨g, off + k * 6 + 4, none⟩ = some (.int .i64 x.who) ∧ w.cell? ⟨g, off + k * 6 + 5, none⟩ = some (.int .i64 x.price) := by
  obtain ⟨g, off, x, h1, h2, h3, h4, h5, h6⟩ := Rs.at_ h (fun _ => rfl) hk
  exact ⟨g, off, x, h1, h2, h3, h4, h5, by simpa using h6 0 _ (by omega) rfl, h6 1 _ (by omega) rfl, h6 2 _ (by omega) rfl, h6 3 _ (by omega) rfl, h6 4 _ (by omega) rfl, h6 5 _ (by omega) rfl⟩
theorem at_Ev {xs : List Sw.Ev} (h : REv w lo A c n xs) (hk : k < n) :
    ∃ g off x, A = some ⟨g, off, none⟩ ∧ lo ≤ g ∧ g < w.heap.size ∧ xs.drop k = x :: xs.drop (k + 1) ∧ xs[k]? = some x ∧
      w.cell? ⟨g, off + k * 10, none⟩ = some (.int .i64 x.kind) ∧ w.cell? ⟨g, off + k * 10 + 1, none⟩ = some (.int .i64 x.req.user) ∧ w.cell? ⟨g, off + k * 10 + 2, none⟩ = some (.int .i64 x.req.n) ∧
      w.cell? ⟨g, off + k * 10 + 3, none⟩ = some (.int .i64 x.req.kind) ∧ w.cell? ⟨g, off + k * 10 + 4, none⟩ = some (.int .i64 x.req.ticket) ∧
      w.cell? ⟨g, off + k * 10 + 5, none⟩ = some (.int .i64 x.req.who) ∧ w.cell? ⟨g, off + k * 10 + 6, none⟩ = some (.int .i64 x.req.price) ∧
      w.cell? ⟨g, off + k * 10 + 7, none⟩ = some (.int .i64 x.at_) ∧ w.cell? ⟨g, off + k * 10 + 8, none⟩ = some (.int .i64 x.ticket) ∧ w.cell? ⟨g, off + k * 10 + 9, none⟩ = some (.int .i64 x.who) := by
  obtain ⟨g, off, x, h1, h2, h3, h4, h5, h6⟩ := Rs.at_ h (fun _ => rfl) hk
  exact ⟨g, off, x, h1, h2, h3, h4, h5, by simpa using h6 0 _ (by omega) rfl, h6 1 _ (by omega) rfl, h6 2 _ (by omega) rfl, h6 3 _ (by omega) rfl, h6 4 _ (by omega) rfl, h6 5 _ (by omega) rfl, h6 6 _ (by omega) rfl, h6 7 _ (by omega) rfl, h6 8 _ (by omega) rfl, h6 9 _ (by omega) rfl⟩
theorem at_G {gs : List Sw.Gate} (h : RG w lo A c n gs) (hk : k < n) :
    ∃ g off x B d m, A = some ⟨g, off, none⟩ ∧ lo ≤ g ∧ g < w.heap.size ∧ gs.drop k = x :: gs.drop (k + 1) ∧ gs[k]? = some x ∧
      w.cell? ⟨g, off + k * 4, none⟩ = some (.int .i64 x.head.size) ∧ w.cell? ⟨g, off + k * 4 + 1, none⟩ = some (.int .i64 x.head.log) ∧
      w.cell? ⟨g, off + k * 4 + 2, none⟩ = some (.int .i64 x.head.own) ∧ w.cell? ⟨g, off + k * 4 + 3, none⟩ = some (.slice B m d) ∧ RI w lo B d m x.done := by
  obtain ⟨vs, h1, h2, h3⟩ := h.ex
  obtain ⟨g, off, v, h4, h5, h6, h7, h8, h9⟩ := Rs.at_ h1 (fun _ => rfl) hk
  have hg : gs[k]? = some gs[k] := List.getElem?_eq_getElem (by omega)
  obtain ⟨e, hr⟩ := h3 k v _ h8 hg
  refine ⟨g, off, gs[k], v.A, v.c, v.n, h4, h5, h6, List.drop_eq_getElem_cons (by omega), hg, ?_, ?_, ?_, h9 3 _ (by omega) rfl, hr⟩
  · rw [← e]; simpa using h9 0 _ (by omega) rfl
  · rw [← e]; exact h9 1 _ (by omega) rfl
  · rw [← e]; exact h9 2 _ (by omega) rfl
theorem at_X {xs : List Sw.Msg} (h : RX w lo A c n xs) (hk : k < n) :
    ∃ g off x B d m, A = some ⟨g, off, none⟩ ∧ lo ≤ g ∧ g < w.heap.size ∧ xs.drop k = x :: xs.drop (k + 1) ∧ xs[k]? = some x ∧
      w.cell? ⟨g, off + k * 5, none⟩ = some (.int .i64 x.gate) ∧ w.cell? ⟨g, off + k * 5 + 1, none⟩ = some (.int .i64 x.head.size) ∧ w.cell? ⟨g, off + k * 5 + 2, none⟩ = some (.int .i64 x.head.log) ∧
      w.cell? ⟨g, off + k * 5 + 3, none⟩ = some (.int .i64 x.head.own) ∧ w.cell? ⟨g, off + k * 5 + 4, none⟩ = some (.slice B m d) ∧ RI w lo B d m x.proof := by
  obtain ⟨vs, h1, h2, h3⟩ := h.ex
  obtain ⟨g, off, v, h4, h5, h6, h7, h8, h9⟩ := Rs.at_ h1 (fun _ => rfl) hk
  have hg : xs[k]? = some xs[k] := List.getElem?_eq_getElem (by omega)
  obtain ⟨e1, e, hr⟩ := h3 k v _ h8 hg
  refine ⟨g, off, xs[k], v.A, v.c, v.n, h4, h5, h6, List.drop_eq_getElem_cons (by omega), hg, ?_, ?_, ?_, ?_, h9 4 _ (by omega) rfl, hr⟩
  · rw [← e1]; simpa using h9 0 _ (by omega) rfl
  · rw [← e]; exact h9 1 _ (by omega) rfl
  · rw [← e]; exact h9 2 _ (by omega) rfl
  · rw [← e]; exact h9 3 _ (by omega) rfl
theorem Rs.big {α : Type} {enc : α → List Value} {sz : Nat} {xs : List α} (h : Rs enc sz w lo A c n xs) : n ≤ 9223372036854775807 := by
  have := h.2.le; have := h.2.cap; unfold maxLen at this; omega
theorem RG.len {gs : List Sw.Gate} (h : RG w lo A c n gs) : n = gs.length ∧ n ≤ 9223372036854775807 := by
  obtain ⟨vs, h1, h2, _⟩ := h.ex
  exact ⟨h2, h1.big⟩
theorem RX.len {xs : List Sw.Msg} (h : RX w lo A c n xs) : n = xs.length ∧ n ≤ 9223372036854775807 := by
  obtain ⟨vs, h1, h2, _⟩ := h.ex
  exact ⟨h2, h1.big⟩
end
end Go.Proofs.Ytgceeggfdomdjaa

namespace Go.Proofs.Ytgceeggfdomdjaa
set_option maxRecDepth 100000
set_option linter.unusedSimpArgs false
set_option linter.unusedVariables false
open Go.RowKit Go

/-! ### what the tables say -/
theorem el_D : ElemOk Try.prog 51 73 5 40 := .mk' (z := .agg #[.int .i64 0, .int .i64 0, .int .i64 0, .int .i64 0, .int .i64 0]) Try.underlying51 (by kernel_rfl) rfl (by omega)
theorem el_Q : ElemOk Try.prog 54 121 6 48 := .mk' (z := .agg #[.int .i64 0, .int .i64 0, .int .i64 0, .int .i64 0, .int .i64 0, .int .i64 0]) Try.underlying54 (by kernel_rfl) rfl (by omega)
theorem el_G : ElemOk Try.prog 55 27 4 48 := .mk' (z := .agg #[.int .i64 0, .int .i64 0, .int .i64 0, .slice none 0 0]) Try.underlying55 (by kernel_rfl) rfl (by omega)
theorem el_X : ElemOk Try.prog 56 123 5 56 := .mk' (z := .agg #[.int .i64 0, .int .i64 0, .int .i64 0, .int .i64 0, .slice none 0 0]) Try.underlying56 (by kernel_rfl) rfl (by omega)
theorem one_D (x : Sw.Deal) : ∀ u ∈ x.enc, u.oneCell' = true := by simp [Sw.Deal.enc, Value.oneCell']
theorem one_Q (x : Sw.Req) : ∀ u ∈ x.enc, u.oneCell' = true := by simp [Sw.Req.enc, Value.oneCell']
theorem one_G (x : GV) : ∀ u ∈ x.enc, u.oneCell' = true := by simp [GV.enc, Value.oneCell']
theorem one_X (x : XV) : ∀ u ∈ x.enc, u.oneCell' = true := by simp [XV.enc, Value.oneCell']
abbrev OwD := Ow Sw.Deal.enc 5 73
abbrev OwQ := Ow Sw.Req.enc 6 121
abbrev OwGV := Ow GV.enc 4 27
abbrev OwXV := Ow XV.enc 5 123
theorem zero_law {P : Program} {e : TypeId} {z : Value} {cs : Array Value} (h : (P.info? e).map (·.zero) = some (some z)) (hz : z.cells = cs) : ∀ i z', P.info? e = some i → i.zero = some z' → z'.cells = cs := by
  intro i z' hi hz'
  rw [hi] at h
  simp only [Option.map_some, Option.some.injEq] at h
  rw [hz'] at h
  cases h
  exact hz
def Sw.entZ : Sw.Ent := ⟨0, 0, 0, 0⟩
def GV.zero : GV := ⟨Sw.headZ, none, 0, 0⟩
def XV.zero : XV := ⟨0, Sw.headZ, none, 0, 0⟩
theorem z_E : ∀ i z, Try.prog.info? 134 = some i → i.zero = some z → z.cells = (Sw.entZ.enc).toArray := zero_law (z := .agg #[.int .i64 0, .int .i64 0, .int .i64 0, .int .i64 0]) (by kernel_rfl) rfl
theorem z_D : ∀ i z, Try.prog.info? 73 = some i → i.zero = some z → z.cells = (Sw.dealZ.enc).toArray := zero_law (z := .agg #[.int .i64 0, .int .i64 0, .int .i64 0, .int .i64 0, .int .i64 0]) (by kernel_rfl) rfl
theorem z_Q : ∀ i z, Try.prog.info? 121 = some i → i.zero = some z → z.cells = (Sw.reqZ.enc).toArray := zero_law (z := .agg #[.int .i64 0, .int .i64 0, .int .i64 0, .int .i64 0, .int .i64 0, .int .i64 0]) (by kernel_rfl) rfl
theorem z_G : ∀ i z, Try.prog.info? 27 = some i → i.zero = some z → z.cells = (GV.zero.enc).toArray := zero_law (z := .agg #[.int .i64 0, .int .i64 0, .int .i64 0, .slice none 0 0]) (by kernel_rfl) rfl
theorem z_X : ∀ i z, Try.prog.info? 123 = some i → i.zero = some z → z.cells = (XV.zero.enc).toArray := zero_law (z := .agg #[.int .i64 0, .int .i64 0, .int .i64 0, .int .i64 0, .slice none 0 0]) (by kernel_rfl) rfl

/-! ### a whole element written -/
def setMany : List Value → Nat → List Value → List Value
  | cs, _, [] => cs
  | cs, i, v :: vs => setMany (cs.set i v) (i + 1) vs
/-- One cell behind the other is written. -/
def setCells : World → Nat → Nat → List Value → World
  | w, _, _, [] => w
  | w, g, i, v :: vs => setCells (w.setCell ⟨g, i, none⟩ v) g (i + 1) vs
theorem setMany_eq : ∀ (vs cs : List Value) (i : Nat), i + vs.length ≤ cs.length → setMany cs i vs = cs.take i ++ vs ++ cs.drop (i + vs.length)
  | [], cs, i, h => by simp [setMany]
  | v :: vs, cs, i, h => by
    rw [List.length_cons] at h
    rw [setMany, setMany_eq vs (cs.set i v) (i + 1) (by rw [List.length_set]; omega), List.take_add_one, List.getElem?_set]
    rw [if_pos rfl, if_pos (by omega), List.take_set_of_le (Nat.le_refl _), List.drop_set_of_lt (by omega), List.length_cons]
    simp only [Option.toList_some, List.append_assoc, List.singleton_append]
    rw [show i + 1 + vs.length = i + (vs.length + 1) from by omega]
section
variable {α : Type} {enc : α → List Value} {sz : Nat} {e : TypeId} {w w' : World} {lo lo' c n : Nat} {A : Option Addr} {xs : List α}
theorem flat_len (hsz : ∀ x, (enc x).length = sz) : ∀ xs : List α, (xs.flatMap enc).length = xs.length * sz := by
  intro xs
  induction xs with
  | nil => simp
  | cons x xs ih => simp only [List.flatMap_cons, List.length_append, hsz, ih, List.length_cons, Nat.succ_mul]; omega
theorem flat_split' (hsz : ∀ x, (enc x).length = sz) (P : List α) (x y : α) (Q : List α) :
    ((P ++ x :: Q).set P.length y).flatMap enc = ((P ++ x :: Q).flatMap enc).take (P.length * sz) ++ enc y ++ ((P ++ x :: Q).flatMap enc).drop (P.length * sz + sz) := by
  have hf : (P.flatMap enc).length = P.length * sz := flat_len hsz P
  rw [List.set_append_right _ _ (Nat.le_refl _), Nat.sub_self, List.set_cons_zero]
  simp only [List.flatMap_append, List.flatMap_cons]
  rw [List.take_append_of_le_length (by omega), List.take_of_length_le (by omega), List.drop_append, List.drop_of_length_le (by omega), hf, List.nil_append]
  rw [show P.length * sz + sz - P.length * sz = sz from by omega, List.drop_append, hsz, Nat.sub_self, List.drop_zero, List.drop_of_length_le (by rw [hsz]; omega), List.nil_append, List.append_assoc]
theorem flat_split (hsz : ∀ x, (enc x).length = sz) (xs : List α) {k : Nat} (hk : k < xs.length) (y : α) : (xs.set k y).flatMap enc = (xs.flatMap enc).take (k * sz) ++ enc y ++ (xs.flatMap enc).drop (k * sz + sz) := by
  have e : xs.take k ++ xs[k] :: xs.drop (k + 1) = xs := by rw [← List.drop_eq_getElem_cons hk, List.take_append_drop]
  have hl : (xs.take k).length = k := by rw [List.length_take]; omega
  have := flat_split' hsz (xs.take k) xs[k] y (xs.drop (k + 1))
  rw [e, hl] at this
  exact this
/-- One cell of an owned block is written. -/
theorem ownsRow_set {cs : List Value} {g i m : Nat} {u : Value} (h : w.ownsRow lo e sz (.slice (some ⟨g, 0, none⟩) n c) m cs) (hi : i < cs.length) :
    (w.setCell ⟨g, i, none⟩ u).ownsRow lo e sz (.slice (some ⟨g, 0, none⟩) n c) m (cs.set i u) := by
  refine ⟨by rw [List.length_set]; exact h.1, ?_⟩
  rcases h.2 with ⟨hv, h0⟩ | ⟨g', cap, cur, hv, hb, hh, hn, hm, hs, ht⟩
  · injection hv with h1; cases h1
  · injection hv with h1 h2 h3
    injection h1 with h1; injection h1 with h1
    subst h1 h2 h3
    refine .inr ⟨g, c, cur.setIfInBounds i u, rfl, hb, ?_, hn, hm, by simpa using hs, ?_⟩
    · simp [World.setCell, Array.getElem?_modify, hh]
    · rw [Array.toList_setIfInBounds, List.take_set, ht]
theorem ownsRow_sets : ∀ (vs cs : List Value) (w : World) {g i m : Nat}, w.ownsRow lo e sz (.slice (some ⟨g, 0, none⟩) n c) m cs → i + vs.length ≤ cs.length →
    (setCells w g i vs).ownsRow lo e sz (.slice (some ⟨g, 0, none⟩) n c) m (setMany cs i vs)
  | [], cs, w, g, i, m, h, _ => h
  | v :: vs, cs, w, g, i, m, h, hi => by
    rw [List.length_cons] at hi
    exact ownsRow_sets vs (cs.set i v) _ (ownsRow_set h (by omega)) (by rw [List.length_set]; omega)
theorem Ow.put (h : Ow enc sz e w lo A c n xs) (hsz : ∀ x, (enc x).length = sz) {g k : Nat} (y : α) (hA : A = some ⟨g, 0, none⟩) (hk : k < n) : Ow enc sz e (setCells w g (k * sz) (enc y)) lo A c n (xs.set k y) := by
  subst hA
  have hk' : k < xs.length := by rw [← h.1]; exact hk
  have hle : k * sz + (enc y).length ≤ (xs.flatMap enc).length := by
    rw [hsz, flat_len hsz]
    calc k * sz + sz = (k + 1) * sz := (Nat.succ_mul k sz).symm
      _ ≤ xs.length * sz := Nat.mul_le_mul_right _ hk'
  have := ownsRow_sets (enc y) (xs.flatMap enc) w h.2 hle
  rw [setMany_eq _ _ _ hle, hsz, ← flat_split hsz xs hk' y] at this
  exact ⟨by rw [List.length_set]; exact h.1, this⟩
end

/-- An owned block is whole. -/
theorem Ow.lb {α : Type} {enc : α → List Value} {sz : Nat} {e : TypeId} {w : World} {lo c n g : Nat} {A : Option Addr} {xs : List α} (h : Ow enc sz e w lo A c n xs) (hA : A = some ⟨g, 0, none⟩) : Lb w g (c * sz) := by
  rcases h.form with ⟨h1, _⟩ | ⟨g', cur, h1, h2, h3, h4, h5, h6, h7, h8⟩
  · rw [h1] at hA; cases hA
  · rw [h1] at hA; cases hA; exact ⟨cur, e, h4, h7⟩

/-! ### marks on blocks -/
structure OwT {α : Type} (enc : α → List Value) (sz : Nat) (e : TypeId) (τ : Nat → Nat) (t : Nat) (w : World) (lo : Nat) (A : Option Addr) (c n : Nat) (xs : List α) : Prop where
  ow : Ow enc sz e w lo A c n xs
  tag : ∀ a, A = some a → τ a.block = t
/-- Blocks from lo on with the mark t are as they were. -/
structure KT (τ : Nat → Nat) (t lo : Nat) (w w' : World) : Prop where
  size : w.heap.size ≤ w'.heap.size
  block : ∀ b, lo ≤ b → b < w.heap.size → τ b = t → w'.heap[b]? = w.heap[b]?
theorem KT.refl (τ : Nat → Nat) (t lo : Nat) (w : World) : KT τ t lo w w := ⟨Nat.le_refl _, fun _ _ _ _ => rfl⟩
theorem KT.of {τ : Nat → Nat} {t lo : Nat} {w w' : World} (h : KF lo w w') : KT τ t lo w w' := ⟨h.size, fun b h1 h2 _ => h.block b h1 h2⟩
section
variable {τ : Nat → Nat} {t lo : Nat} {a w w' : World}
theorem KT.alloc {o : Obj} (h : KT τ t lo a w) : KT τ t lo a (w.alloc o) :=
  ⟨by simp; have := h.size; omega, fun i hl hi ht => (Below.heap_alloc _ _ _ (Nat.lt_of_lt_of_le hi h.size)).trans (h.block i hl hi ht)⟩
theorem KT.drew (h : KT τ t lo a w) : KT τ t lo a w.drew := ⟨h.size, h.block⟩
theorem KT.drewN {n : Nat} (h : KT τ t lo a w) : KT τ t lo a (w.drewN n) := ⟨h.size, h.block⟩
theorem KT.setCell {p : Addr} {u : Value} (h : KT τ t lo a w) (hp : a.heap.size ≤ p.block ∨ τ p.block ≠ t) : KT τ t lo a (w.setCell p u) :=
  ⟨by simpa [World.setCell] using h.size, fun i hl hi ht => (Below.heap_setCell _ _ _ _ (by rintro rfl; rcases hp with hp | hp <;> first | omega | exact hp ht)).trans (h.block i hl hi ht)⟩
theorem KT.ch {S : Nat → Prop} (hb : Ch S w w') (h : KT τ t lo a w) (hS : ∀ i, S i → a.heap.size ≤ i ∨ τ i ≠ t) : KT τ t lo a w' :=
  ⟨Nat.le_trans h.size hb.size, fun i hl hi ht => (hb.block i (Nat.lt_of_lt_of_le hi h.size) (fun hs => by rcases hS i hs with h1 | h1 <;> first | omega | exact h1 ht)).trans (h.block i hl hi ht)⟩
theorem KT.ex (hb : Ex w w') (h : KT τ t lo a w) : KT τ t lo a w' := h.ch hb (fun _ h => h.elim)
end
/-- τ up to n, τ' from there on. -/
def glue (τ : Nat → Nat) (n : Nat) (τ' : Nat → Nat) : Nat → Nat := fun b => if b < n then τ b else τ' b
section
variable {α : Type} {enc : α → List Value} {sz : Nat} {e : TypeId} {τ τ' : Nat → Nat} {t : Nat} {w w' : World} {lo lo' c n : Nat} {A : Option Addr} {xs : List α}
theorem OwT.keep (h : OwT enc sz e τ t w lo A c n xs) (hk : KT τ t lo w w') : OwT enc sz e τ t w' lo A c n xs :=
  ⟨h.ow.keep_ fun a ha => hk.block _ (h.ow.blk ha).1 (h.ow.blk ha).2 (h.tag a ha), h.tag⟩
theorem OwT.less (h : OwT enc sz e τ t w lo A c n xs) (hl : lo' ≤ lo) : OwT enc sz e τ t w lo' A c n xs := ⟨h.ow.less hl, h.tag⟩
theorem OwT.retag (h : OwT enc sz e τ t w lo A c n xs) (ht : ∀ b, b < w.heap.size → τ' b = τ b) : OwT enc sz e τ' t w lo A c n xs :=
  ⟨h.ow, fun a ha => (ht _ (h.ow.blk ha).2).trans (h.tag a ha)⟩
theorem OwT.fresh (h : Ow enc sz e w lo A c n xs) (ht : ∀ b, lo ≤ b → b < w.heap.size → τ b = t) : OwT enc sz e τ t w lo A c n xs :=
  ⟨h, fun a ha => ht _ (h.blk ha).1 (h.blk ha).2⟩
theorem OwT.nil (τ : Nat → Nat) (t : Nat) (w : World) (lo : Nat) : OwT enc sz e τ t w lo none 0 0 [] := ⟨Ow.nil w lo, fun _ h => by cases h⟩
theorem OwT.glueL {k : Nat} (h : OwT enc sz e τ t w lo A c n xs) (hk : w.heap.size ≤ k) : OwT enc sz e (glue τ k τ') t w lo A c n xs := h.retag fun b hb => if_pos (by omega)
theorem OwT.glueR {k : Nat} (h : OwT enc sz e τ t w lo A c n xs) (hk : k ≤ lo) : OwT enc sz e (glue τ' k τ) t w lo A c n xs :=
  ⟨h.ow, fun a ha => by have := (h.ow.blk ha).1; unfold glue; rw [if_neg (by omega)]; exact h.tag a ha⟩
theorem OwT.rs (h : OwT enc sz e τ t w lo A c n xs) : Rs enc sz w lo A c n xs := h.ow.rs
end
abbrev OwTE := OwT Sw.Ent.enc 4 134
abbrev OwTI := OwT encI 1 3
abbrev OwTD := OwT Sw.Deal.enc 5 73
abbrev OwTQ := OwT Sw.Req.enc 6 121
abbrev OwTG := OwT GV.enc 4 27
abbrev OwTX := OwT XV.enc 5 123

/-- A market, gates, messages, a world of the call's own: marks 1 to 9; the gates' and the messages' own slices by fd, fp. -/
structure OwM (τ : Nat → Nat) (w : World) (lo : Nat) (aL : Option Addr) (aLc aLn : Nat) (aP : Option Addr) (aPc aPn : Nat) (aD : Option Addr) (aDc aDn : Nat) (aN : Option Addr) (aNc aNn : Nat) (aS : Option Addr) (aSc aSn : Nat) (m : Sw.Mkt) : Prop where
  log : OwTE τ 1 w lo aL aLc aLn m.log
  purses : OwTI τ 2 w lo aP aPc aPn m.purses
  deals : OwTD τ 3 w lo aD aDc aDn m.deals
  nums : OwTI τ 4 w lo aN aNc aNn m.nums
  said : OwTI τ 5 w lo aS aSc aSn m.said
structure OwG (fd : Nat → Nat) (τ : Nat → Nat) (w : World) (lo : Nat) (A : Option Addr) (c n : Nat) (gs : List Sw.Gate) : Prop where
  ex : ∃ vs : List GV, OwTG τ 8 w lo A c n vs ∧ n = gs.length ∧ ∀ (k : Nat) (v : GV) (g : Sw.Gate), vs[k]? = some v → gs[k]? = some g → v.h = g.head ∧ OwTI τ (fd k) w lo v.A v.c v.n g.done
structure OwX (fp : Nat → Nat) (τ : Nat → Nat) (w : World) (lo : Nat) (A : Option Addr) (c n : Nat) (xs : List Sw.Msg) : Prop where
  ex : ∃ vs : List XV, OwTX τ 9 w lo A c n vs ∧ n = xs.length ∧ ∀ (k : Nat) (v : XV) (x : Sw.Msg), vs[k]? = some v → xs[k]? = some x → v.g = x.gate ∧ v.h = x.head ∧ OwTI τ (fp k) w lo v.A v.c v.n x.proof
structure OwW (fd fp : Nat → Nat) (τ : Nat → Nat) (w : World) (lo : Nat) (aF : Option Addr) (aFc aFn : Nat) (aL : Option Addr) (aLc aLn : Nat) (aP : Option Addr) (aPc aPn : Nat) (aD : Option Addr) (aDc aDn : Nat) (aN : Option Addr) (aNc aNn : Nat) (aS : Option Addr) (aSc aSn : Nat) (aI : Option Addr) (aIc aIn : Nat) (aG : Option Addr) (aGc aGn : Nat) (aB : Option Addr) (aBc aBn : Nat) (x : Sw.World) : Prop where
  first : OwTI τ 6 w lo aF aFc aFn x.first
  mkt : OwM τ w lo aL aLc aLn aP aPc aPn aD aDc aDn aN aNc aNn aS aSc aSn x.market
  lines : OwTQ τ 7 w lo aI aIc aIn x.lines
  gates : OwG fd τ w lo aG aGc aGn x.gates
  bag : OwX fp τ w lo aB aBc aBn x.bag
/-- The gates', the messages' own slices: each with a mark of its own; all with one. -/
def fdS (k : Nat) : Nat := 20 + 2 * k
def fpS (k : Nat) : Nat := 21 + 2 * k
def fdL (_ : Nat) : Nat := 10
def fpL (_ : Nat) : Nat := 11
section
variable {fd fp τ τ' : Nat → Nat} {w w' : World} {lo lo' c n k : Nat} {A : Option Addr}
theorem OwM.rm {aL : Option Addr} {aLc aLn : Nat} {aP : Option Addr} {aPc aPn : Nat} {aD : Option Addr} {aDc aDn : Nat} {aN : Option Addr} {aNc aNn : Nat} {aS : Option Addr} {aSc aSn : Nat} {m : Sw.Mkt} (h : OwM τ w lo aL aLc aLn aP aPc aPn aD aDc aDn aN aNc aNn aS aSc aSn m) : RM w lo aL aLc aLn aP aPc aPn aD aDc aDn aN aNc aNn aS aSc aSn m := ⟨h.1.rs, h.2.rs, h.3.rs, h.4.rs, h.5.rs⟩
theorem OwG.rg {gs : List Sw.Gate} (h : OwG fd τ w lo A c n gs) : RG w lo A c n gs := by
  obtain ⟨vs, h1, h2, h3⟩ := h.ex
  exact ⟨vs, h1.rs, h2, fun k v g hv hg => ⟨(h3 k v g hv hg).1, (h3 k v g hv hg).2.rs⟩⟩
theorem OwX.rx {xs : List Sw.Msg} (h : OwX fp τ w lo A c n xs) : RX w lo A c n xs := by
  obtain ⟨vs, h1, h2, h3⟩ := h.ex
  exact ⟨vs, h1.rs, h2, fun k v g hv hg => ⟨(h3 k v g hv hg).1, (h3 k v g hv hg).2.1, (h3 k v g hv hg).2.2.rs⟩⟩
theorem OwW.rw_ {aF : Option Addr} {aFc aFn : Nat} {aL : Option Addr} {aLc aLn : Nat} {aP : Option Addr} {aPc aPn : Nat} {aD : Option Addr} {aDc aDn : Nat} {aN : Option Addr} {aNc aNn : Nat} {aS : Option Addr} {aSc aSn : Nat} {aI : Option Addr} {aIc aIn : Nat} {aG : Option Addr} {aGc aGn : Nat} {aB : Option Addr} {aBc aBn : Nat} {x : Sw.World} (h : OwW fd fp τ w lo aF aFc aFn aL aLc aLn aP aPc aPn aD aDc aDn aN aNc aNn aS aSc aSn aI aIc aIn aG aGc aGn aB aBc aBn x) : RW w lo aF aFc aFn aL aLc aLn aP aPc aPn aD aDc aDn aN aNc aNn aS aSc aSn aI aIc aIn aG aGc aGn aB aBc aBn x := ⟨h.1.rs, h.2.rm, h.3.rs, h.4.rg, h.5.rx⟩
theorem OwM.keep {aL : Option Addr} {aLc aLn : Nat} {aP : Option Addr} {aPc aPn : Nat} {aD : Option Addr} {aDc aDn : Nat} {aN : Option Addr} {aNc aNn : Nat} {aS : Option Addr} {aSc aSn : Nat} {m : Sw.Mkt} (h : OwM τ w lo aL aLc aLn aP aPc aPn aD aDc aDn aN aNc aNn aS aSc aSn m) (hk : ∀ t, 1 ≤ t → t ≤ 5 → KT τ t lo w w') : OwM τ w' lo aL aLc aLn aP aPc aPn aD aDc aDn aN aNc aNn aS aSc aSn m :=
  ⟨h.1.keep (hk _ (by omega) (by omega)), h.2.keep (hk _ (by omega) (by omega)), h.3.keep (hk _ (by omega) (by omega)), h.4.keep (hk _ (by omega) (by omega)), h.5.keep (hk _ (by omega) (by omega))⟩
theorem OwM.less {aL : Option Addr} {aLc aLn : Nat} {aP : Option Addr} {aPc aPn : Nat} {aD : Option Addr} {aDc aDn : Nat} {aN : Option Addr} {aNc aNn : Nat} {aS : Option Addr} {aSc aSn : Nat} {m : Sw.Mkt} (h : OwM τ w lo aL aLc aLn aP aPc aPn aD aDc aDn aN aNc aNn aS aSc aSn m) (hl : lo' ≤ lo) : OwM τ w lo' aL aLc aLn aP aPc aPn aD aDc aDn aN aNc aNn aS aSc aSn m := ⟨h.1.less hl, h.2.less hl, h.3.less hl, h.4.less hl, h.5.less hl⟩
theorem OwM.retag {aL : Option Addr} {aLc aLn : Nat} {aP : Option Addr} {aPc aPn : Nat} {aD : Option Addr} {aDc aDn : Nat} {aN : Option Addr} {aNc aNn : Nat} {aS : Option Addr} {aSc aSn : Nat} {m : Sw.Mkt} (h : OwM τ w lo aL aLc aLn aP aPc aPn aD aDc aDn aN aNc aNn aS aSc aSn m) (ht : ∀ b, b < w.heap.size → τ' b = τ b) : OwM τ' w lo aL aLc aLn aP aPc aPn aD aDc aDn aN aNc aNn aS aSc aSn m := ⟨h.1.retag ht, h.2.retag ht, h.3.retag ht, h.4.retag ht, h.5.retag ht⟩
theorem OwM.glueR {aL : Option Addr} {aLc aLn : Nat} {aP : Option Addr} {aPc aPn : Nat} {aD : Option Addr} {aDc aDn : Nat} {aN : Option Addr} {aNc aNn : Nat} {aS : Option Addr} {aSc aSn : Nat} {m : Sw.Mkt} (h : OwM τ w lo aL aLc aLn aP aPc aPn aD aDc aDn aN aNc aNn aS aSc aSn m) (hk : k ≤ lo) : OwM (glue τ' k τ) w lo aL aLc aLn aP aPc aPn aD aDc aDn aN aNc aNn aS aSc aSn m := ⟨h.1.glueR hk, h.2.glueR hk, h.3.glueR hk, h.4.glueR hk, h.5.glueR hk⟩
theorem OwG.keep {gs : List Sw.Gate} (h : OwG fd τ w lo A c n gs) (h8 : KT τ 8 lo w w') (hk : ∀ k, KT τ (fd k) lo w w') : OwG fd τ w' lo A c n gs := by
  obtain ⟨vs, h1, h2, h3⟩ := h.ex
  exact ⟨vs, h1.keep h8, h2, fun k v g hv hg => ⟨(h3 k v g hv hg).1, (h3 k v g hv hg).2.keep (hk k)⟩⟩
theorem OwG.less {gs : List Sw.Gate} (h : OwG fd τ w lo A c n gs) (hl : lo' ≤ lo) : OwG fd τ w lo' A c n gs := by
  obtain ⟨vs, h1, h2, h3⟩ := h.ex
  exact ⟨vs, h1.less hl, h2, fun k v g hv hg => ⟨(h3 k v g hv hg).1, (h3 k v g hv hg).2.less hl⟩⟩
theorem OwG.retag {gs : List Sw.Gate} (h : OwG fd τ w lo A c n gs) (ht : ∀ b, b < w.heap.size → τ' b = τ b) : OwG fd τ' w lo A c n gs := by
  obtain ⟨vs, h1, h2, h3⟩ := h.ex
  exact ⟨vs, h1.retag ht, h2, fun k v g hv hg => ⟨(h3 k v g hv hg).1, (h3 k v g hv hg).2.retag ht⟩⟩
theorem OwG.glueR {gs : List Sw.Gate} (h : OwG fd τ w lo A c n gs) (hk : k ≤ lo) : OwG fd (glue τ' k τ) w lo A c n gs := by
  obtain ⟨vs, h1, h2, h3⟩ := h.ex
  exact ⟨vs, h1.glueR hk, h2, fun k v g hv hg => ⟨(h3 k v g hv hg).1, (h3 k v g hv hg).2.glueR hk⟩⟩
theorem OwX.keep {xs : List Sw.Msg} (h : OwX fp τ w lo A c n xs) (h9 : KT τ 9 lo w w') (hk : ∀ k, KT τ (fp k) lo w w') : OwX fp τ w' lo A c n xs := by
  obtain ⟨vs, h1, h2, h3⟩ := h.ex
  exact ⟨vs, h1.keep h9, h2, fun k v g hv hg => ⟨(h3 k v g hv hg).1, (h3 k v g hv hg).2.1, (h3 k v g hv hg).2.2.keep (hk k)⟩⟩
theorem OwX.less {xs : List Sw.Msg} (h : OwX fp τ w lo A c n xs) (hl : lo' ≤ lo) : OwX fp τ w lo' A c n xs := by
  obtain ⟨vs, h1, h2, h3⟩ := h.ex
  exact ⟨vs, h1.less hl, h2, fun k v g hv hg => ⟨(h3 k v g hv hg).1, (h3 k v g hv hg).2.1, (h3 k v g hv hg).2.2.less hl⟩⟩
theorem OwX.retag {xs : List Sw.Msg} (h : OwX fp τ w lo A c n xs) (ht : ∀ b, b < w.heap.size → τ' b = τ b) : OwX fp τ' w lo A c n xs := by
  obtain ⟨vs, h1, h2, h3⟩ := h.ex
  exact ⟨vs, h1.retag ht, h2, fun k v g hv hg => ⟨(h3 k v g hv hg).1, (h3 k v g hv hg).2.1, (h3 k v g hv hg).2.2.retag ht⟩⟩
theorem OwX.glueR {xs : List Sw.Msg} (h : OwX fp τ w lo A c n xs) (hk : k ≤ lo) : OwX fp (glue τ' k τ) w lo A c n xs := by
  obtain ⟨vs, h1, h2, h3⟩ := h.ex
  exact ⟨vs, h1.glueR hk, h2, fun k v g hv hg => ⟨(h3 k v g hv hg).1, (h3 k v g hv hg).2.1, (h3 k v g hv hg).2.2.glueR hk⟩⟩
theorem OwW.less {aF : Option Addr} {aFc aFn : Nat} {aL : Option Addr} {aLc aLn : Nat} {aP : Option Addr} {aPc aPn : Nat} {aD : Option Addr} {aDc aDn : Nat} {aN : Option Addr} {aNc aNn : Nat} {aS : Option Addr} {aSc aSn : Nat} {aI : Option Addr} {aIc aIn : Nat} {aG : Option Addr} {aGc aGn : Nat} {aB : Option Addr} {aBc aBn : Nat} {x : Sw.World} (h : OwW fd fp τ w lo aF aFc aFn aL aLc aLn aP aPc aPn aD aDc aDn aN aNc aNn aS aSc aSn aI aIc aIn aG aGc aGn aB aBc aBn x) (hl : lo' ≤ lo) : OwW fd fp τ w lo' aF aFc aFn aL aLc aLn aP aPc aPn aD aDc aDn aN aNc aNn aS aSc aSn aI aIc aIn aG aGc aGn aB aBc aBn x := ⟨h.1.less hl, h.2.less hl, h.3.less hl, h.4.less hl, h.5.less hl⟩
theorem OwW.retag {aF : Option Addr} {aFc aFn : Nat} {aL : Option Addr} {aLc aLn : Nat} {aP : Option Addr} {aPc aPn : Nat} {aD : Option Addr} {aDc aDn : Nat} {aN : Option Addr} {aNc aNn : Nat} {aS : Option Addr} {aSc aSn : Nat} {aI : Option Addr} {aIc aIn : Nat} {aG : Option Addr} {aGc aGn : Nat} {aB : Option Addr} {aBc aBn : Nat} {x : Sw.World} (h : OwW fd fp τ w lo aF aFc aFn aL aLc aLn aP aPc aPn aD aDc aDn aN aNc aNn aS aSc aSn aI aIc aIn aG aGc aGn aB aBc aBn x) (ht : ∀ b, b < w.heap.size → τ' b = τ b) : OwW fd fp τ' w lo aF aFc aFn aL aLc aLn aP aPc aPn aD aDc aDn aN aNc aNn aS aSc aSn aI aIc aIn aG aGc aGn aB aBc aBn x := ⟨h.1.retag ht, h.2.retag ht, h.3.retag ht, h.4.retag ht, h.5.retag ht⟩
/-- Of a world each of whose slices has a mark of its own: the same with one mark for all gates' slices, and one for all messages'. -/
theorem OwW.loose {aF : Option Addr} {aFc aFn : Nat} {aL : Option Addr} {aLc aLn : Nat} {aP : Option Addr} {aPc aPn : Nat} {aD : Option Addr} {aDc aDn : Nat} {aN : Option Addr} {aNc aNn : Nat} {aS : Option Addr} {aSc aSn : Nat} {aI : Option Addr} {aIc aIn : Nat} {aG : Option Addr} {aGc aGn : Nat} {aB : Option Addr} {aBc aBn : Nat} {x : Sw.World} (h : OwW fdS fpS τ w lo aF aFc aFn aL aLc aLn aP aPc aPn aD aDc aDn aN aNc aNn aS aSc aSn aI aIc aIn aG aGc aGn aB aBc aBn x) : OwW fdL fpL (fun b => if 20 ≤ τ b then 10 + τ b % 2 else τ b) w lo aF aFc aFn aL aLc aLn aP aPc aPn aD aDc aDn aN aNc aNn aS aSc aSn aI aIc aIn aG aGc aGn aB aBc aBn x := by
  have key : ∀ {α : Type} {enc : α → List Value} {sz : Nat} {e : TypeId} {t : Nat} {A : Option Addr} {c n : Nat} {xs : List α}, OwT enc sz e τ t w lo A c n xs → OwT enc sz e (fun b => if 20 ≤ τ b then 10 + τ b % 2 else τ b) (if 20 ≤ t then 10 + t % 2 else t) w lo A c n xs :=
    fun h => ⟨h.ow, fun a ha => by simp only [h.tag a ha]⟩
  refine ⟨key h.1, ⟨key h.2.1, key h.2.2, key h.2.3, key h.2.4, key h.2.5⟩, key h.3, ?_, ?_⟩
  · obtain ⟨vs, h1, h2, h3⟩ := h.gates.ex
    refine ⟨vs, key h1, h2, fun k v g hv hg => ⟨(h3 k v g hv hg).1, ?_⟩⟩
    have := key (h3 k v g hv hg).2
    rw [if_pos (by unfold fdS; omega), show 10 + fdS k % 2 = fdL k from by unfold fdS fdL; omega] at this
    exact this
  · obtain ⟨vs, h1, h2, h3⟩ := h.bag.ex
    refine ⟨vs, key h1, h2, fun k v g hv hg => ⟨(h3 k v g hv hg).1, (h3 k v g hv hg).2.1, ?_⟩⟩
    have := key (h3 k v g hv hg).2.2
    rw [if_pos (by unfold fpS; omega), show 10 + fpS k % 2 = fpL k from by unfold fpS fpL; omega] at this
    exact this
end
end Go.Proofs.Ytgceeggfdomdjaa

namespace Go.Proofs.Ytgceeggfdomdjaa
set_option maxRecDepth 100000
set_option linter.unusedSimpArgs false
set_option linter.unusedVariables false
open Go.RowKit Go

/-- copy: all is read first. -/
theorem run_copy_cellsK {P : Program} (w : World) (dT sT ty elem : TypeId) (sz b o dLen dCap : Nat) (a : Addr) (sLen sCap : Nat) (cs : List Value)
    (hu : P.underlying dT = some (.slice elem)) (hs : (P.info? elem).map (·.size) = some sz) (hn : cs.length = Nat.min sLen dLen * sz)
    (hsrc : ∀ j v, cs[j]? = some v → w.cell? (a.add j) = some v) (hc : ∀ j, j < cs.length → (w.cell? ⟨b, o + j, none⟩).isSome = true) (hf : ∀ j, j < cs.length → w.frozen? ⟨b, o + j, none⟩ = false) (h1 : ∀ v ∈ cs, v.oneCell' = true) :
    (Builtin.copy_ #[dT, sT] ty #[.slice (some ⟨b, o, none⟩) dLen dCap, .slice (some a) sLen sCap]).run P w = .ok (goInt (Nat.min sLen dLen)) (w.setCells b o cs) := by
  have hl := run_loadCells_list (P := P) w a cs hsrc
  have hst := run_storeCells_cells (P := P) b o cs 0 w (by simpa using hc) (by simpa using hf) h1
  cases hq : P.info? elem with
  | none => simp [hq] at hs
  | some i =>
    have hi : i.size = sz := by simpa [hq] using hs
    simp [Builtin.copy_, run_underlying hu, Builtin.lenOf, Builtin.firstCells, sizeOf, typeInfo, hq, hi, ← hn, hl, hst]
/-- clear: the elements hold zero values. -/
theorem run_clear_cellsK {P : Program} (w : World) (t e ty : TypeId) (z : Value) (zs : List Value) (ht : P.underlying t = some (.slice e)) (hv : ∀ w, (zeroValue e).run P w = .ok z w) (b o n c : Nat) (hn : 0 < n) (hzc : (Builtin.zeroCells z.cells n).toList = zs) (h1 : ∀ v ∈ zs, v.oneCell' = true)
    (hc : ∀ j, j < zs.length → (w.cell? ⟨b, o + j, none⟩).isSome = true) (hf : ∀ j, j < zs.length → w.frozen? ⟨b, o + j, none⟩ = false) :
    (Builtin.clear_ #[t] ty #[.slice (some ⟨b, o, none⟩) n c]).run P w = .ok (.tuple #[]) (w.setCells b o zs) := by
  have hst := run_storeCells_cells (P := P) b o zs 0 w (by simpa using hc) (by simpa using hf) h1
  simp only [Nat.add_zero] at hst
  obtain ⟨m, rfl⟩ : ∃ m, n = m + 1 := ⟨n - 1, by omega⟩
  simp [Builtin.clear_, run_underlying ht, hv, hzc, hst]

/-- A block some of whose cells are set. -/
theorem heap_setCells_same {e : TypeId} {fz : Nat × Nat} {g : Nat} : ∀ (vs : List Value) (o : Nat) (w : World) (cur : Array Value), w.heap[g]? = some (.cells cur e fz) → o + vs.length ≤ cur.size →
    ∃ cur', (w.setCells g o vs).heap[g]? = some (.cells cur' e fz) ∧ cur'.size = cur.size ∧ cur'.toList = cur.toList.take o ++ vs ++ cur.toList.drop (o + vs.length)
  | [], o, w, cur, h, hl => ⟨cur, h, rfl, by simp⟩
  | v :: r, o, w, cur, h, hl => by
    simp only [List.length_cons] at hl
    have h1 : (w.setCell ⟨g, o, none⟩ v).heap[g]? = some (.cells (cur.setIfInBounds o v) e fz) := by simp [World.setCell, Array.getElem?_modify, h]
    obtain ⟨c2, h2, h3, h4⟩ := heap_setCells_same r (o + 1) _ _ h1 (by simp; omega)
    refine ⟨c2, h2, by simpa using h3, ?_⟩
    rw [h4, Array.toList_setIfInBounds]
    have ho : o < cur.toList.length := by simp; omega
    rw [List.drop_set_of_lt (by omega), List.take_set, List.take_add_one, List.getElem?_eq_getElem ho, List.set_append_right _ _ (by simp; omega)]
    simp [Nat.min_eq_left (Nat.le_of_lt (by simpa using ho)), Nat.add_assoc, Nat.add_comm 1]
theorem size_setCells (g : Nat) : ∀ (vs : List Value) (o : Nat) (w : World), (w.setCells g o vs).heap.size = w.heap.size
  | [], _, _ => rfl
  | v :: r, o, w => by rw [World.setCells, size_setCells g r]; simp [World.setCell]
theorem heap_setCells_ne {g i : Nat} (h : i ≠ g) : ∀ (vs : List Value) (o : Nat) (w : World), (w.setCells g o vs).heap[i]? = w.heap[i]?
  | [], _, _ => rfl
  | v :: r, o, w => by rw [World.setCells, heap_setCells_ne h r]; exact Below.heap_setCell _ _ _ _ h
theorem Ch.setCells {S : Nat → Prop} {a : World} {g : Nat} (hg : S g ∨ a.heap.size ≤ g) : ∀ (vs : List Value) (o : Nat) (w : World), Ch S a w → Ch S a (w.setCells g o vs)
  | [], _, _, h => h
  | v :: r, o, w, h => by rw [World.setCells]; exact Ch.setCells hg r (o + 1) _ (cS h hg v)
/-- The cells of an owned slice written over: it is another list. -/
theorem Ow.over {α : Type} {enc : α → List Value} {sz : Nat} {e : TypeId} {w : World} {lo c n m o g : Nat} {xs ys : List α} {vs : List Value} (h : Ow enc sz e w lo (some ⟨g, 0, none⟩) c n xs) (hm : m ≤ c) (hl : o + vs.length ≤ c * sz) (hy : m = ys.length)
    (he : ∀ cur : List Value, cur.length = c * sz → cur.take (n * sz) = xs.flatMap enc → (cur.take o ++ vs ++ cur.drop (o + vs.length)).take (m * sz) = ys.flatMap enc) (hyl : (ys.flatMap enc).length = m * sz) :
    Ow enc sz e (w.setCells g o vs) lo (some ⟨g, 0, none⟩) c m ys := by
  rcases h.form with ⟨hA, _⟩ | ⟨g', cur, hA, hlo, hlt, hh, hn, hc, hs, ht⟩
  · cases hA
  · cases hA
    obtain ⟨cur', h1, h2, h3⟩ := heap_setCells_same vs o w cur hh (by omega)
    exact ⟨hy, hyl, .inr ⟨g, c, cur', rfl, hlo, h1, hm, hc, by omega, by rw [h3]; exact he cur.toList (by simpa using hs) ht⟩⟩
/-- All of its block's cells are there, and none is frozen. -/
theorem Ow.there {α : Type} {enc : α → List Value} {sz : Nat} {e : TypeId} {w : World} {lo c n g : Nat} {xs : List α} (h : Ow enc sz e w lo (some ⟨g, 0, none⟩) c n xs) : (∀ j, j < c * sz → (w.cell? ⟨g, j, none⟩).isSome = true) ∧ (∀ j, w.frozen? ⟨g, j, none⟩ = false) := by
  rcases h.form with ⟨hA, _⟩ | ⟨g', cur, hA, hlo, hlt, hh, hn, hc, hs, ht⟩
  · cases hA
  · cases hA
    exact ⟨fun j hj => by simp [World.cell?, hh, show j < cur.size by omega], fun j => by simp [World.frozen?, hh]⟩
/-- A shorter front of an owned slice. -/
theorem Ow.front {α : Type} {enc : α → List Value} {sz : Nat} {e : TypeId} {w : World} {lo c n k : Nat} {A : Option Addr} {xs : List α} (h : Ow enc sz e w lo A c n xs) (hsz : ∀ x, (enc x).length = sz) (hk : k ≤ n) : Ow enc sz e w lo A c k (xs.take k) := by
  have hlen : ∀ l : List α, (l.flatMap enc).length = l.length * sz := by
    intro l
    induction l with
    | nil => simp
    | cons x l ih => simp only [List.flatMap_cons, List.length_append, hsz, ih, List.length_cons, Nat.succ_mul]; omega
  have hkl : (xs.take k).length = k := by rw [List.length_take, ← h.1]; omega
  have hcut : ∀ (l : List α) (k : Nat), (l.flatMap enc).take (k * sz) = (l.take k).flatMap enc := by
    intro l
    induction l with
    | nil => intro k; simp
    | cons x l ih =>
      intro k
      cases k with
      | zero => simp
      | succ k =>
        rw [List.take_succ_cons, List.flatMap_cons, List.flatMap_cons, List.take_append, hsz, Nat.succ_mul, List.take_of_length_le (by rw [hsz]; omega), Nat.add_sub_cancel, ih]
  refine ⟨hkl.symm, by rw [hlen, hkl], ?_⟩
  rcases h.2.2 with ⟨hv, h0⟩ | ⟨g, cap, cur, hv, hb, hh, hn, hm, hs, ht⟩
  · injection hv with h1 h2 h3
    subst h1 h3
    obtain rfl : k = 0 := by omega
    exact .inl ⟨rfl, rfl⟩
  · injection hv with h1 h2 h3
    subst h1 h3
    refine .inr ⟨g, c, cur, rfl, hb, hh, by omega, hm, hs, ?_⟩
    rw [← hcut, ← ht, List.take_take, Nat.min_eq_left (Nat.mul_le_mul_right _ hk)]
theorem flat_take {α : Type} {enc : α → List Value} {sz : Nat} (hsz : ∀ x, (enc x).length = sz) : ∀ (l : List α) (k : Nat), (l.flatMap enc).take (k * sz) = (l.take k).flatMap enc
  | [], k => by simp
  | x :: l, 0 => by simp
  | x :: l, k + 1 => by
    rw [List.take_succ_cons, List.flatMap_cons, List.flatMap_cons, List.take_append, hsz, Nat.succ_mul, List.take_of_length_le (by rw [hsz]; omega), Nat.add_sub_cancel, flat_take hsz l k]
theorem flat_drop {α : Type} {enc : α → List Value} {sz : Nat} (hsz : ∀ x, (enc x).length = sz) : ∀ (l : List α) (k : Nat), (l.flatMap enc).drop (k * sz) = (l.drop k).flatMap enc
  | [], k => by simp
  | x :: l, 0 => by simp
  | x :: l, k + 1 => by
    rw [List.drop_succ_cons, List.flatMap_cons, List.drop_append, hsz, Nat.succ_mul, List.drop_of_length_le (by rw [hsz]; omega), Nat.add_sub_cancel, flat_drop hsz l k, List.nil_append]
/-- An append where there is room: in place. -/
theorem wp_appR {P : Program} {w : World} {o : Oper} {a : Act} {Kx : Act → World → Prop} {Q : Exit → Act → World → Prop} {α : Type} {enc : α → List Value} {sz bytes : Nat} {t e : TypeId} {s x : Operand}
    {lo lo2 c n m d g : Nat} {ad : Addr} {xs ys : List α}
    (hel : ElemOk P t e sz bytes) (h1 : ∀ x, ∀ u ∈ enc x, u.oneCell' = true) (hsz : ∀ x, (enc x).length = sz)
    (ho : o.op = .call { callee := .builtin .append, args := #[s, x], argTypes := #[t, t] }) (hs : a.eval s = .slice (some ⟨g, 0, none⟩) n c) (hx : a.eval x = .slice (some ad) m d)
    (hown : Ow enc sz e w lo (some ⟨g, 0, none⟩) c n xs) (hnew : Rs enc sz w lo2 (some ad) d m ys) (hroom : n + m ≤ c)
    (K : ∀ w', Ow enc sz e w' lo (some ⟨g, 0, none⟩) c (n + m) (xs ++ ys) → Ch (· = g) w w' → Kx (a.put o.dst (.slice (some ⟨g, 0, none⟩) (n + m) c)) w') :
    o.wp P a w Kx Q := by
  obtain ⟨i, z, hi, hz, hsz', hby, hzs⟩ := hel.info
  have hmem : ∀ u ∈ ys.flatMap enc, u.oneCell' = true := by
    intro u hu
    obtain ⟨y, _, hy⟩ := List.mem_flatMap.1 hu
    exact h1 y u hy
  have hlen : (ys.flatMap enc).length = m * sz := hnew.2.len
  have e1 : (n + m) * sz = n * sz + m * sz := Nat.add_mul ..
  have e2 : (n + m) * sz ≤ c * sz := Nat.mul_le_mul_right _ hroom
  have hth := hown.there
  have hrun := run_append_room_cells (P := P) (w := w) t o.type e i hel.sl hi g 0 n c ad m d (ys.flatMap enc) (by rw [hsz', hlen])
    (fun j u hu => by
      have hm : 0 < m := by
        have h1 := (List.getElem?_eq_some_iff.1 hu).1
        rw [hlen] at h1
        rcases Nat.eq_zero_or_pos m with h0 | h0
        · subst h0; simp at h1
        · exact h0
      obtain ⟨h1', _, _, h4⟩ := hnew.2.cells _ rfl hm
      obtain ⟨g, off, spot⟩ := ad
      dsimp only at h1' h4
      subst h1'
      rw [Addr.add_lit]; exact h4 j u hu) hmem hroom (fun j hj => by rw [hsz', Nat.zero_add]; exact hth.1 _ (by omega)) (fun j hj => hth.2 _)
  rw [hsz', Nat.zero_add] at hrun
  have hyl : ((xs ++ ys).flatMap enc).length = (n + m) * sz := by rw [List.flatMap_append, List.length_append, hown.2.1, hlen, e1]
  have hov := hown.over (m := n + m) (ys := xs ++ ys) (vs := ys.flatMap enc) (o := n * sz) hroom (by omega) (by rw [List.length_append, hown.1, hnew.1]) (fun cur hc ht => by
    have hl : (cur.take (n * sz)).length = n * sz := by rw [List.length_take, hc]; omega
    rw [ht, List.flatMap_append, List.take_append_of_le_length (by rw [List.length_append, hown.2.1, hlen]; omega), List.take_of_length_le (by rw [List.length_append, hown.2.1, hlen]; omega)]) hyl
  unfold Oper.wp execOp
  simp only [ho, resolve, invoke, builtin, Sem.run_bind, Sem.run_pure, Result.andThen_ok, List.map_toArray, List.map_cons, List.map_nil, hs, hx, hrun]
  exact K _ hov (Ch.setCells (S := (· = g)) (.inl rfl) _ _ _ (Ch.refl _ _))
theorem step_appR {P : Program} {w : World} {ops : Array Oper} {o : Oper} {a : Act} {Kx : Act → World → Prop} {Q : Exit → Act → World → Prop} {E : Prop} {α : Type} {enc : α → List Value} {sz bytes : Nat} {t e : TypeId} {s x : Operand}
    {lo lo2 c n m d g : Nat} {ad : Addr} {xs ys : List α}
    (hel : ElemOk P t e sz bytes) (h1 : ∀ x, ∀ u ∈ enc x, u.oneCell' = true) (hsz : ∀ x, (enc x).length = sz) (hgd : o.guard = none)
    (ho : o.op = .call { callee := .builtin .append, args := #[s, x], argTypes := #[t, t] }) (hs : a.eval s = .slice (some ⟨g, 0, none⟩) n c) (hx : a.eval x = .slice (some ad) m d)
    (hown : Ow enc sz e w lo (some ⟨g, 0, none⟩) c n xs) (hnew : Rs enc sz w lo2 (some ad) d m ys) (hroom : n + m ≤ c)
    (K : ∀ w', Ow enc sz e w' lo (some ⟨g, 0, none⟩) c (n + m) (xs ++ ys) → Ch (· = g) w w' → Kx (a.put o.dst (.slice (some ⟨g, 0, none⟩) (n + m) c)) w') :
    if Region.wanted o (yielded ops a.tmps) = true then o.wp P a w Kx Q else E := by
  rw [if_pos (by simp [Region.wanted, hgd])]
  exact wp_appR hel h1 hsz ho hs hx hown hnew hroom K
/-- copy, clear, append: where their run is known. -/
theorem wp_copyK {P : Program} {w : World} {o : Oper} {a : Act} {Kx : Act → World → Prop} {Q : Exit → Act → World → Prop} {d s : Operand} {t t' : TypeId} {v u v' : Value} {w' : World}
    (ho : o.op = .call { callee := .builtin .copy, args := #[d, s], argTypes := #[t, t'] }) (hd : a.eval d = v) (hs : a.eval s = u) (hr : (Builtin.copy_ #[t, t'] o.type #[v, u]).run P w = .ok v' w') (K : Kx (a.put o.dst v') w') : o.wp P a w Kx Q := by
  unfold Oper.wp execOp
  simp only [ho, resolve, invoke, builtin, Sem.run_bind, Sem.run_pure, Result.andThen_ok, List.map_toArray, List.map_cons, List.map_nil, hd, hs, hr]
  exact K
theorem wpList_copyK {P : Program} {w : World} {ops : Array Oper} {rest : List Oper} {o : Oper} {a : Act} {Q : Exit → Act → World → Prop} {d s : Operand} {t t' : TypeId} {v u v' : Value} {w' : World} (hgd : o.guard = none)
    (ho : o.op = .call { callee := .builtin .copy, args := #[d, s], argTypes := #[t, t'] }) (hd : a.eval d = v) (hs : a.eval s = u) (hr : (Builtin.copy_ #[t, t'] o.type #[v, u]).run P w = .ok v' w') (K : wpList P ops Q rest (a.put o.dst v') w') : wpList P ops Q (o :: rest) a w :=
  wpList_plain hgd fun _ hK => wp_copyK ho hd hs hr (hK _ _ K)
theorem step_copyK {P : Program} {w : World} {ops : Array Oper} {o : Oper} {a : Act} {Kx : Act → World → Prop} {Q : Exit → Act → World → Prop} {E : Prop} {d s : Operand} {t t' : TypeId} {v u v' : Value} {w' : World} (hgd : o.guard = none)
    (ho : o.op = .call { callee := .builtin .copy, args := #[d, s], argTypes := #[t, t'] }) (hd : a.eval d = v) (hs : a.eval s = u) (hr : (Builtin.copy_ #[t, t'] o.type #[v, u]).run P w = .ok v' w') (K : Kx (a.put o.dst v') w') :
    if Region.wanted o (yielded ops a.tmps) = true then o.wp P a w Kx Q else E := by
  rw [if_pos (by simp [Region.wanted, hgd])]
  exact wp_copyK ho hd hs hr K
theorem wpList_clearK {P : Program} {w : World} {ops : Array Oper} {rest : List Oper} {o : Oper} {a : Act} {Q : Exit → Act → World → Prop} {s : Operand} {t : TypeId} {u v' : Value} {w' : World} (hgd : o.guard = none)
    (ho : o.op = .call { callee := .builtin .clear, args := #[s], argTypes := #[t] }) (hs : a.eval s = u) (hr : (Builtin.clear_ #[t] o.type #[u]).run P w = .ok v' w') (K : wpList P ops Q rest (a.put o.dst v') w') : wpList P ops Q (o :: rest) a w :=
  wpList_plain hgd fun _ hK => by
    unfold Oper.wp execOp
    simp only [ho, resolve, invoke, builtin, Sem.run_bind, Sem.run_pure, Result.andThen_ok, List.map_toArray, List.map_cons, List.map_nil, hs, hr]
    exact hK _ _ K
end Go.Proofs.Ytgceeggfdomdjaa

namespace Go.Proofs.Ytgceeggfdomdjaa
set_option maxRecDepth 100000
set_option linter.unusedSimpArgs false
set_option linter.unusedVariables false
open Go.RowKit Go
set_option maxHeartbeats 400000

theorem sMonOk_c (A : Option Addr) (c n : Nat) (xs : List Int) (w : World) (hxs : RI w 0 A c n xs) : Calls Try.prog 106 #[.slice A n c] w fun E w' => E = .returned (.bool (Sw.monOk xs)) ∧ w = w' := by
  have hl := Lib.hid hxs.1
  have hbig := Rs.big hxs
  by_cases hn : n = 5
  · subst hn
    go_enter Try.func106, Try.ntmps106
    go_wp2
    go_loop [3] (fun i => ∃ k : Nat, k ≤ 5 ∧ i = .int .i64 k ∧ xs.all (fun n => Sw.inR n 0 100000) = (xs.drop k).all (fun n => Sw.inR n 0 100000)) (fun i => 5 - (intOf i).toNat)
    case atStart => exact ⟨0, Nat.zero_le _, rfl, rfl⟩
    case round =>
      obtain ⟨k, hk, rfl, hrel⟩ := hrel
      by_cases hlt : k < 5
      · obtain ⟨g, off, y, rfl, hg0, hg, hd, hy, hc⟩ := at_I hxs hlt
        rw [hd] at hrel
        clear hd hy
        have Hrel := Lib.hid hrel; clear hrel
        cases hp : Sw.inR y 0 100000 with
        | true =>
          go_wp2_with (first | (go_at_call 78; refine (l1In_c _ _ _ _).mono ?_; rintro E w' ⟨rfl, rfl⟩))
          go_round
          case rel => exact ⟨k + 1, by omega, by go_num, by rw [Hrel.out, List.all_cons, hp, Bool.true_and]⟩
          case measure => simp [intOf]; omega
        | false =>
          go_wp2_with (first | (go_at_call 78; refine (l1In_c _ _ _ _).mono ?_; rintro E w' ⟨rfl, rfl⟩))
          go_ret
          exact ⟨ret_b (by rw [Sw.monOk, Hrel.out, List.all_cons, hp]; simp), rfl⟩
      · have Hrel := Lib.hid hrel; clear hrel
        go_wp2
        go_ret
        refine ⟨ret_b ?_, rfl⟩
        rw [Sw.monOk, Hrel.out, List.drop_of_length_le (by have := hl.out; omega), ← hl.out]
        rfl
  · have hb : decide (n = 5) = false := by simp [hn]
    go_enter Try.func106, Try.ntmps106
    go_wp2
    go_ret
    refine ⟨ret_b ?_, rfl⟩
    rw [Sw.monOk, ← hl.out, hb]
    rfl

theorem monTurn_y {xs : List Int} {who v : Int} (h : Sw.turnMay xs who v = true) : Sw.monTurn xs who v = Sw.turned xs who v := by simp [Sw.monTurn, h]
theorem monTurn_n {xs : List Int} {who v : Int} (h : Sw.turnMay xs who v = false) : Sw.monTurn xs who v = xs := by simp [Sw.monTurn, h]
theorem monOk_len {xs : List Int} (h : Sw.monOk xs = true) : xs.length = 5 := (Sw.monOk_iff.1 h).1
theorem purse_at {xs : List Int} {k : Nat} {y : Int} (h : xs[k]? = some y) : Sw.purse xs (k + 1) = y := by
  unfold Sw.purse
  rw [show ((k : Int) + 1 - 1).toNat = k from by omega, List.getD_eq_getElem?_getD, h]
  rfl

theorem sMonTurn_c (A : Option Addr) (c n : Nat) (xs : List Int) (who v : Int) (w : World) (hxs : RI w 0 A c n xs) (hn : n ≤ 4194304) : Calls Try.prog 159 #[.slice A n c, .int .i64 who, .int .i64 v] w fun E w' => ∃ A' c', E = .returned (.tuple #[.slice A' n c', .bool (Sw.turnMay xs who v)]) ∧ OwI w' w.heap.size A' c' n (Sw.monTurn xs who v) ∧ Ex w w' := by
  cases g1 : Sw.monOk xs
  case false =>
    have e : Sw.turnMay xs who v = false := by simp [Sw.turnMay, g1]
    rw [e, monTurn_n e]; clear e
    go_enter Try.func159, Try.ntmps159
    go_wp2_with (first | (at_builtin; apply wpList_app (lo := w.heap.size) el_I one_I rfl rfl rfl rfl; (first | assumption | exact Ow.nil _ _ | (apply Ow.keep; assumption; exact kf_) | (refine Ow.new [] (by (first | rfl | (simp only [zA, zC, zD, zN]; done) | omega)) rfl rfl (fun _ => rfl) (by exact sz_) (by omega))); (first | ((first | (apply Rs.at0; assumption) | (apply Ow.rs0; assumption)); exact kf_)); omega; exact sz_; intro A1 c1 w2 ho1 hch1 hat1 hex1 hlow1; have hb := hex1 (fun _ => False) w (by exact ext_) (by exact sz_); have hz := hch1.size; (try simp only [zA, zC, zD, zN] at hz); obtain ⟨hc, hf⟩ := low_rules hlow1; clear hlow1 hex1) | (go_at_call 106; apply Calls.mono; apply sMonOk_c; ((first | (apply Rs.at0; assumption) | (apply Ow.rs0; assumption)); exact kf_); rintro E w' ⟨rfl, rfl⟩))
    go_ret2
    exact ⟨A1, c1, by simp, by simpa using ho1, ext_⟩
  have h5 := monOk_len g1
  have hn5 : n = 5 := by rw [hxs.1, h5]
  subst hn5
  clear h5
  cases g2 : Sw.inR who 1 5
  case false =>
    have e : Sw.turnMay xs who v = false := by simp [Sw.turnMay, g2]
    rw [e, monTurn_n e]; clear e
    go_enter Try.func159, Try.ntmps159
    go_wp2_with (first | (at_builtin; apply wpList_app (lo := w.heap.size) el_I one_I rfl rfl rfl rfl; (first | assumption | exact Ow.nil _ _ | (apply Ow.keep; assumption; exact kf_) | (refine Ow.new [] (by (first | rfl | (simp only [zA, zC, zD, zN]; done) | omega)) rfl rfl (fun _ => rfl) (by exact sz_) (by omega))); (first | ((first | (apply Rs.at0; assumption) | (apply Ow.rs0; assumption)); exact kf_)); omega; exact sz_; intro A1 c1 w2 ho1 hch1 hat1 hex1 hlow1; have hb := hex1 (fun _ => False) w (by exact ext_) (by exact sz_); have hz := hch1.size; (try simp only [zA, zC, zD, zN] at hz); obtain ⟨hc, hf⟩ := low_rules hlow1; clear hlow1 hex1) | (go_at_call 106; apply Calls.mono; apply sMonOk_c; ((first | (apply Rs.at0; assumption) | (apply Ow.rs0; assumption)); exact kf_); rintro E w' ⟨rfl, rfl⟩) | (go_at_call 78; refine (l1In_c _ _ _ _).mono ?_; rintro E w' ⟨rfl, rfl⟩))
    go_ret2
    exact ⟨A1, c1, by simp, by simpa using ho1, ext_⟩
  cases g3 : Sw.inR v (-100000) 100000
  case false =>
    have e : Sw.turnMay xs who v = false := by simp [Sw.turnMay, g3]
    rw [e, monTurn_n e]; clear e
    go_enter Try.func159, Try.ntmps159
    go_wp2_with (first | (at_builtin; apply wpList_app (lo := w.heap.size) el_I one_I rfl rfl rfl rfl; (first | assumption | exact Ow.nil _ _ | (apply Ow.keep; assumption; exact kf_) | (refine Ow.new [] (by (first | rfl | (simp only [zA, zC, zD, zN]; done) | omega)) rfl rfl (fun _ => rfl) (by exact sz_) (by omega))); (first | ((first | (apply Rs.at0; assumption) | (apply Ow.rs0; assumption)); exact kf_)); omega; exact sz_; intro A1 c1 w2 ho1 hch1 hat1 hex1 hlow1; have hb := hex1 (fun _ => False) w (by exact ext_) (by exact sz_); have hz := hch1.size; (try simp only [zA, zC, zD, zN] at hz); obtain ⟨hc, hf⟩ := low_rules hlow1; clear hlow1 hex1) | (go_at_call 106; apply Calls.mono; apply sMonOk_c; ((first | (apply Rs.at0; assumption) | (apply Ow.rs0; assumption)); exact kf_); rintro E w' ⟨rfl, rfl⟩) | (go_at_call 78; refine (l1In_c _ _ _ _).mono ?_; rintro E w' ⟨rfl, rfl⟩))
    go_ret2
    exact ⟨A1, c1, by simp, by simpa using ho1, ext_⟩
  have hw := Sw.inR_iff.1 g2
  have hv := Sw.inR_iff.1 g3
  obtain ⟨k, rfl⟩ : ∃ k : Nat, who = k + 1 := ⟨(who - 1).toNat, by omega⟩
  have hk : k < 5 := by omega
  obtain ⟨g, off, y, rfl, hg0, hg, hd, hy, hc0⟩ := at_I hxs hk
  have hyb : 0 ≤ y ∧ y ≤ 100000 := (Sw.monOk_iff.1 g1).2 y (List.mem_of_getElem? hy)
  have hpu := purse_at hy
  have Hpu := Lib.hid hpu
  have Hy := Lib.hid hy
  clear hd hy hpu
  obtain ⟨y0, y1⟩ := hyb
  obtain ⟨v0, v1⟩ := hv
  clear hw
  have t2 : IntKind.i64.wrap ((k : Int) + 1 - 1) = k := by rw [IntWalk.i64_in _ (by omega)]; omega
  cases g4 : Sw.inR (y + v) 0 100000
  case false =>
    have e : Sw.turnMay xs (k + 1) v = false := by simp [Sw.turnMay, Hpu.out, g4]
    rw [e, monTurn_n e]; clear e
    go_enter Try.func159, Try.ntmps159
    go_wp2_with (first | (at_builtin; apply wpList_app (lo := w.heap.size) el_I one_I rfl rfl rfl rfl; (first | assumption | exact Ow.nil _ _ | (apply Ow.keep; assumption; exact kf_) | (refine Ow.new [] (by (first | rfl | (simp only [zA, zC, zD, zN]; done) | omega)) rfl rfl (fun _ => rfl) (by exact sz_) (by omega))); (first | ((first | (apply Rs.at0; assumption) | (apply Ow.rs0; assumption)); exact kf_)); omega; exact sz_; intro A1 c1 w2 ho1 hch1 hat1 hex1 hlow1; have hb := hex1 (fun _ => False) w (by exact ext_) (by exact sz_); have hz := hch1.size; (try simp only [zA, zC, zD, zN] at hz); obtain ⟨hc, hf⟩ := low_rules hlow1; clear hlow1 hex1) | (go_at_call 106; apply Calls.mono; apply sMonOk_c; ((first | (apply Rs.at0; assumption) | (apply Ow.rs0; assumption)); exact kf_); rintro E w' ⟨rfl, rfl⟩) | (go_at_call 78; refine (l1In_c _ _ _ _).mono ?_; rintro E w' ⟨rfl, rfl⟩))
    go_ret2
    exact ⟨A1, c1, by simp, by simpa using ho1, ext_⟩
  have e : Sw.turnMay xs (k + 1) v = true := by simp [Sw.turnMay, g1, g2, g3, Hpu.out, g4]
  rw [e, monTurn_y e]; clear e
  go_enter Try.func159, Try.ntmps159
  go_wp2_with (first | (at_builtin; apply wpList_app (lo := w.heap.size) el_I one_I rfl rfl rfl rfl; (first | assumption | exact Ow.nil _ _ | (apply Ow.keep; assumption; exact kf_) | (refine Ow.new [] (by (first | rfl | (simp only [zA, zC, zD, zN]; done) | omega)) rfl rfl (fun _ => rfl) (by exact sz_) (by omega))); (first | ((first | (apply Rs.at0; assumption) | (apply Ow.rs0; assumption)); exact kf_)); omega; exact sz_; intro A1 c1 w2 ho1 hch1 hat1 hex1 hlow1; have hb := hex1 (fun _ => False) w (by exact ext_) (by exact sz_); have hz := hch1.size; (try simp only [zA, zC, zD, zN] at hz); obtain ⟨hc, hf⟩ := low_rules hlow1; clear hlow1 hex1))
  simp only [Nat.zero_add, List.nil_append] at ho1
  apply Calls.mono; apply sMonOk_c; (first | assumption | ((first | (apply Rs.at0; assumption) | (apply Ow.rs0; assumption)); exact kf_) | omega); rintro E w3 ⟨rfl, rfl⟩
  obtain ⟨g', x', hA, hlo, hlt, hx, hcx, hfz⟩ := at_OI ho1 hk
  obtain rfl : x' = y := by have := Hy.out; rw [hx] at this; exact Option.some.inj this
  subst hA
  clear hx
  go_wp2_with (first | (go_at_call 78; refine (l1In_c _ _ _ _).mono ?_; rintro E w' ⟨rfl, rfl⟩))
  go_ret2
  refine ⟨_, _, rfl, ?_, ext_⟩
  have r := OI_set ho1 rfl Hy.out (x' + v)
  rw [Sw.turned, Hpu.out, show ((k : Int) + 1 - 1).toNat = k from by omega]
  exact r

theorem sMonMove_c (A : Option Addr) (c n : Nat) (xs : List Int) (a b v : Int) (w : World) (hxs : RI w 0 A c n xs) (hn : n ≤ 4194304) : Calls Try.prog 207 #[.slice A n c, .int .i64 a, .int .i64 b, .int .i64 v] w fun E w' => ∃ A' c', E = .returned (.tuple #[.slice A' n c', .bool (Sw.moveMay xs a b v)]) ∧ OwI w' w.heap.size A' c' n (Sw.monMove xs a b v) ∧ Ex w w' := by
  cases g1 : Sw.inR v 0 100000
  case false =>
    have e : Sw.moveMay xs a b v = false := by simp [Sw.moveMay, g1]
    have e2 : Sw.monMove xs a b v = xs := by simp [Sw.monMove, e]
    rw [e, e2]; clear e e2
    go_enter Try.func207, Try.ntmps207
    go_wp2_with (first | (at_builtin; apply wpList_app (lo := w.heap.size) el_I one_I rfl rfl rfl rfl; (first | assumption | exact Ow.nil _ _ | (apply Ow.keep; assumption; exact kf_) | (refine Ow.new [] (by (first | rfl | (simp only [zA, zC, zD, zN]; done) | omega)) rfl rfl (fun _ => rfl) (by exact sz_) (by omega))); (first | ((first | (apply Rs.at0; assumption) | (apply Ow.rs0; assumption)); exact kf_)); omega; exact sz_; intro A1 c1 w2 ho1 hch1 hat1 hex1 hlow1; have hb := hex1 (fun _ => False) w (by exact ext_) (by exact sz_); have hz := hch1.size; (try simp only [zA, zC, zD, zN] at hz); obtain ⟨hc, hf⟩ := low_rules hlow1; clear hlow1 hex1) | (go_at_call 78; refine (l1In_c _ _ _ _).mono ?_; rintro E w' ⟨rfl, rfl⟩))
    go_ret2
    exact ⟨A1, c1, by simp, by simpa using ho1, ext_⟩
  have hv := Sw.inR_iff.1 g1
  obtain ⟨v0, v1⟩ := hv
  by_cases g2 : a = b
  case pos =>
    have hab : (a == b) = true := by simp [g2]
    have e : Sw.moveMay xs a b v = false := by simp [Sw.moveMay, g2]
    have e2 : Sw.monMove xs a b v = xs := by simp [Sw.monMove, e]
    rw [e, e2]; clear e e2 g2
    go_enter Try.func207, Try.ntmps207
    go_wp2_with (first | (at_builtin; apply wpList_app (lo := w.heap.size) el_I one_I rfl rfl rfl rfl; (first | assumption | exact Ow.nil _ _ | (apply Ow.keep; assumption; exact kf_) | (refine Ow.new [] (by (first | rfl | (simp only [zA, zC, zD, zN]; done) | omega)) rfl rfl (fun _ => rfl) (by exact sz_) (by omega))); (first | ((first | (apply Rs.at0; assumption) | (apply Ow.rs0; assumption)); exact kf_)); omega; exact sz_; intro A1 c1 w2 ho1 hch1 hat1 hex1 hlow1; have hb := hex1 (fun _ => False) w (by exact ext_) (by exact sz_); have hz := hch1.size; (try simp only [zA, zC, zD, zN] at hz); obtain ⟨hc, hf⟩ := low_rules hlow1; clear hlow1 hex1) | (go_at_call 78; refine (l1In_c _ _ _ _).mono ?_; rintro E w' ⟨rfl, rfl⟩))
    go_ret2
    exact ⟨A1, c1, by simp, by simpa using ho1, ext_⟩
  have hab : (a == b) = false := by simp [g2]
  cases g3 : Sw.turnMay xs a (-v)
  case false =>
    have e : Sw.moveMay xs a b v = false := by simp [Sw.moveMay, g3]
    have e2 : Sw.monMove xs a b v = xs := by simp [Sw.monMove, e]
    rw [e, e2]; clear e e2 g2
    go_enter Try.func207, Try.ntmps207
    go_wp2_with (first | (at_builtin; apply wpList_app (lo := w.heap.size) el_I one_I rfl rfl rfl rfl; (first | assumption | exact Ow.nil _ _ | (apply Ow.keep; assumption; exact kf_) | (refine Ow.new [] (by (first | rfl | (simp only [zA, zC, zD, zN]; done) | omega)) rfl rfl (fun _ => rfl) (by exact sz_) (by omega))); (first | ((first | (apply Rs.at0; assumption) | (apply Ow.rs0; assumption)); exact kf_)); omega; exact sz_; intro A1 c1 w2 ho1 hch1 hat1 hex1 hlow1; have hb := hex1 (fun _ => False) w (by exact ext_) (by exact sz_); have hz := hch1.size; (try simp only [zA, zC, zD, zN] at hz); obtain ⟨hc, hf⟩ := low_rules hlow1; clear hlow1 hex1) | (go_at_call 78; refine (l1In_c _ _ _ _).mono ?_; rintro E w' ⟨rfl, rfl⟩) | (go_at_call 159; apply Calls.mono; apply sMonTurn_c; (first | assumption | ((first | (apply Rs.at0; assumption) | (apply Ow.rs0; assumption)); exact kf_) | omega); omega; rintro E w3 ⟨A3, c3, rfl, ho3, hb3⟩; have hst := Ex.rules hb3 rfl; obtain ⟨hc3, hf3, hz3⟩ := hst))
    go_ret2
    exact ⟨A1, c1, by simp, (by simpa using ho1.less (by omega)), ext_⟩
  have e3 := monTurn_y g3
  have E3 := Lib.hid e3; clear e3
  cases g4 : Sw.turnMay (Sw.turned xs a (-v)) b v
  case false =>
    have e : Sw.moveMay xs a b v = false := by simp [Sw.moveMay, g4]
    have e2 : Sw.monMove xs a b v = xs := by simp [Sw.monMove, e]
    rw [e, e2]; clear e e2 g2
    go_enter Try.func207, Try.ntmps207
    go_wp2_with (first | (at_builtin; apply wpList_app (lo := w.heap.size) el_I one_I rfl rfl rfl rfl; (first | assumption | exact Ow.nil _ _ | (apply Ow.keep; assumption; exact kf_) | (refine Ow.new [] (by (first | rfl | (simp only [zA, zC, zD, zN]; done) | omega)) rfl rfl (fun _ => rfl) (by exact sz_) (by omega))); (first | ((first | (apply Rs.at0; assumption) | (apply Ow.rs0; assumption)); exact kf_)); omega; exact sz_; intro A1 c1 w2 ho1 hch1 hat1 hex1 hlow1; have hb := hex1 (fun _ => False) w (by exact ext_) (by exact sz_); have hz := hch1.size; (try simp only [zA, zC, zD, zN] at hz); obtain ⟨hc, hf⟩ := low_rules hlow1; clear hlow1 hex1) | (go_at_call 78; refine (l1In_c _ _ _ _).mono ?_; rintro E w' ⟨rfl, rfl⟩) | (go_at_call 159; apply Calls.mono; apply (sMonTurn_c (xs := Sw.turned xs a (-v))); (first | assumption | ((first | (apply Rs.at0; assumption) | (apply Ow.rs0; assumption)); exact kf_) | omega); omega; rintro E w4 ⟨A4, c4, rfl, ho4, hb4⟩; have hst := Ex.rules hb4 rfl; obtain ⟨hc4, hf4, hz4⟩ := hst) | (go_at_call 159; apply Calls.mono; apply (sMonTurn_c (xs := xs)); (first | assumption | ((first | (apply Rs.at0; assumption) | (apply Ow.rs0; assumption)); exact kf_) | omega); omega; rintro E w3 ⟨A3, c3, rfl, ho3, hb3⟩; rw [E3.out] at ho3; have hst := Ex.rules hb3 rfl; obtain ⟨hc3, hf3, hz3⟩ := hst))
    go_ret2
    exact ⟨A1, c1, by simp, (by simpa using ho1.less (by omega)), ext_⟩
  have e : Sw.moveMay xs a b v = true := by simp [Sw.moveMay, g1, g2, g3, g4]
  have e2 : Sw.monMove xs a b v = Sw.turned (Sw.turned xs a (-v)) b v := by simp [Sw.monMove, e]
  have e4 := monTurn_y g4
  have E4 := Lib.hid e4; clear e4
  rw [e, e2]; clear e e2 g2
  go_enter Try.func207, Try.ntmps207
  go_wp2_with (first | (go_at_call 78; refine (l1In_c _ _ _ _).mono ?_; rintro E w' ⟨rfl, rfl⟩) | (go_at_call 159; apply Calls.mono; apply (sMonTurn_c (xs := Sw.turned xs a (-v))); (first | assumption | ((first | (apply Rs.at0; assumption) | (apply Ow.rs0; assumption)); exact kf_) | omega); omega; rintro E w4 ⟨A4, c4, rfl, ho4, hb4⟩; rw [E4.out] at ho4; have hst := Ex.rules hb4 rfl; obtain ⟨hc4, hf4, hz4⟩ := hst) | (go_at_call 159; apply Calls.mono; apply (sMonTurn_c (xs := xs)); (first | assumption | ((first | (apply Rs.at0; assumption) | (apply Ow.rs0; assumption)); exact kf_) | omega); omega; rintro E w3 ⟨A3, c3, rfl, ho3, hb3⟩; rw [E3.out] at ho3; have hst := Ex.rules hb3 rfl; obtain ⟨hc3, hf3, hz3⟩ := hst))
  go_ret2
  exact ⟨A4, c4, rfl, ho4.less (by omega), ext_⟩
end Go.Proofs.Ytgceeggfdomdjaa

namespace Go.Proofs.Ytgceeggfdomdjaa
set_option maxRecDepth 100000
set_option linter.unusedSimpArgs false
set_option linter.unusedVariables false
open Go.RowKit Go
set_option maxHeartbeats 400000

theorem eqIntS_c (A : Option Addr) (c n : Nat) (xs : List Int) (B : Option Addr) (d m : Nat) (ys : List Int) (w : World) (hxs : RI w 0 A c n xs) (hys : RI w 0 B d m ys) : Calls Try.prog 120 #[.slice A n c, .slice B m d] w fun E w' => E = .returned (.bool (decide (xs = ys))) ∧ Ex w w' := by
  have hl := Lib.hid hxs.1
  have hl' := Lib.hid hys.1
  have hbig : n ≤ 9223372036854775807 := by have := hxs.2.le; have := hxs.2.cap; unfold maxLen at this; omega
  by_cases hnm : n = m
  case neg =>
    have hb : ((n : Int) == m) = false := by simp; omega
    have e : decide (xs = ys) = false := by
      rw [decide_eq_false_iff_not]; rintro rfl
      have := hl.out; have := hl'.out; omega
    rw [e]; clear e
    go_enter Try.func120, Try.ntmps120
    go_wp2_with fail
    go_ret
    exact ⟨rfl, ext_⟩
  subst hnm
  go_enter Try.func120, Try.ntmps120
  go_wp2_with fail
  go_loopw [5] (fun i wr => ∃ k : Nat, k ≤ n ∧ i = .int .i64 k ∧ Ex w wr ∧ decide (xs = ys) = decide (xs.drop k = ys.drop k)) (fun i _ => n - (intOf i).toNat)
  case atStart => exact ⟨0, Nat.zero_le _, rfl, Ch.refl _ _, rfl⟩
  case round =>
    obtain ⟨k, hk, rfl, hb2, hrel⟩ := hrel
    have hst := Ex.rules hb2 rfl
    obtain ⟨hc2, hf2, hz2⟩ := hst
    by_cases hlt : k < n
    · obtain ⟨g, off, y, rfl, hg0, hg, hd, hy, hcy⟩ := at_I hxs hlt
      obtain ⟨g', off', z, rfl, hg0', hg', hd', hz', hcz⟩ := at_I hys hlt
      have t1 : (0 : Int) ≤ (k : Int) := by omega
      have t2 : (k : Int) < (n : Int) := by omega
      rw [hd, hd'] at hrel
      have Hrel := Lib.hid hrel
      clear hrel hd hd' hy hz'
      by_cases hyz : y = z
      · subst hyz
        go_wp2_with fail
        go_quiet ((first | fail))
        go_wp2
        go_roundw
        case rel => exact ⟨k + 1, by omega, by go_num, ext_, by rw [Hrel.out]; simp⟩
        case measure => simp [intOf]; omega
      · go_wp2_with fail
        go_quiet ((first | fail))
        go_wp2
        go_ret
        exact ⟨ret_b (by rw [Hrel.out]; simp [hyz]), ext_⟩
    · have Hrel := Lib.hid hrel; clear hrel
      go_wp2_with fail
      go_ret
      refine ⟨ret_b ?_, ext_⟩
      rw [Hrel.out, List.drop_of_length_le (by have := hl.out; omega), List.drop_of_length_le (by have := hl'.out; omega)]
      simp

end Go.Proofs.Ytgceeggfdomdjaa

namespace Go.Proofs.Ytgceeggfdomdjaa
set_option maxRecDepth 100000
set_option linter.unusedSimpArgs false
set_option linter.unusedVariables false
open Go.RowKit Go
set_option maxHeartbeats 400000

section
variable {w : World} {lo c n k : Nat} {A : Option Addr}
theorem at_OE {xs : List Sw.Ent} (h : OwE w lo A c n xs) (hk : k < n) :
    ∃ g x, A = some ⟨g, 0, none⟩ ∧ lo ≤ g ∧ g < w.heap.size ∧ xs[k]? = some x ∧ w.cell? ⟨g, k * 4, none⟩ = some (.int .i64 x.kind) ∧ w.cell? ⟨g, k * 4 + 1, none⟩ = some (.int .i64 x.ticket) ∧
      w.cell? ⟨g, k * 4 + 2, none⟩ = some (.int .i64 x.who) ∧ w.cell? ⟨g, k * 4 + 3, none⟩ = some (.int .i64 x.price) ∧ (∀ i, w.frozen? ⟨g, i, none⟩ = false) := by
  obtain ⟨g, x, h1, h2, h3, h4, h5, h6⟩ := Ow.at_ h (fun _ => rfl) hk
  exact ⟨g, x, h1, h2, h3, h4, by simpa using h5 0 _ (by omega) rfl, h5 1 _ (by omega) rfl, h5 2 _ (by omega) rfl, h5 3 _ (by omega) rfl, h6⟩
theorem at_OD {xs : List Sw.Deal} (h : OwD w lo A c n xs) (hk : k < n) :
    ∃ g x, A = some ⟨g, 0, none⟩ ∧ lo ≤ g ∧ g < w.heap.size ∧ xs[k]? = some x ∧ w.cell? ⟨g, k * 5, none⟩ = some (.int .i64 x.ticket) ∧ w.cell? ⟨g, k * 5 + 1, none⟩ = some (.int .i64 x.seller) ∧
      w.cell? ⟨g, k * 5 + 2, none⟩ = some (.int .i64 x.price) ∧ w.cell? ⟨g, k * 5 + 3, none⟩ = some (.int .i64 x.buyer) ∧ w.cell? ⟨g, k * 5 + 4, none⟩ = some (.int .i64 x.due) ∧ (∀ i, w.frozen? ⟨g, i, none⟩ = false) := by
  obtain ⟨g, x, h1, h2, h3, h4, h5, h6⟩ := Ow.at_ h (fun _ => rfl) hk
  exact ⟨g, x, h1, h2, h3, h4, by simpa using h5 0 _ (by omega) rfl, h5 1 _ (by omega) rfl, h5 2 _ (by omega) rfl, h5 3 _ (by omega) rfl, h5 4 _ (by omega) rfl, h6⟩
theorem at_OQ {xs : List Sw.Req} (h : OwQ w lo A c n xs) (hk : k < n) :
    ∃ g x, A = some ⟨g, 0, none⟩ ∧ lo ≤ g ∧ g < w.heap.size ∧ xs[k]? = some x ∧ w.cell? ⟨g, k * 6, none⟩ = some (.int .i64 x.user) ∧ w.cell? ⟨g, k * 6 + 1, none⟩ = some (.int .i64 x.n) ∧
      w.cell? ⟨g, k * 6 + 2, none⟩ = some (.int .i64 x.kind) ∧ w.cell? ⟨g, k * 6 + 3, none⟩ = some (.int .i64 x.ticket) ∧ w.cell? ⟨g, k * 6 + 4, none⟩ = some (.int .i64 x.who) ∧ w.cell? ⟨g, k * 6 + 5, none⟩ = some (.int .i64 x.price) ∧ (∀ i, w.frozen? ⟨g, i, none⟩ = false) := by
  obtain ⟨g, x, h1, h2, h3, h4, h5, h6⟩ := Ow.at_ h (fun _ => rfl) hk
  exact ⟨g, x, h1, h2, h3, h4, by simpa using h5 0 _ (by omega) rfl, h5 1 _ (by omega) rfl, h5 2 _ (by omega) rfl, h5 3 _ (by omega) rfl, h5 4 _ (by omega) rfl, h5 5 _ (by omega) rfl, h6⟩
theorem at_OGV {xs : List GV} (h : OwGV w lo A c n xs) (hk : k < n) :
    ∃ g x, A = some ⟨g, 0, none⟩ ∧ lo ≤ g ∧ g < w.heap.size ∧ xs[k]? = some x ∧ w.cell? ⟨g, k * 4, none⟩ = some (.int .i64 x.h.size) ∧ w.cell? ⟨g, k * 4 + 1, none⟩ = some (.int .i64 x.h.log) ∧
      w.cell? ⟨g, k * 4 + 2, none⟩ = some (.int .i64 x.h.own) ∧ w.cell? ⟨g, k * 4 + 3, none⟩ = some (.slice x.A x.n x.c) ∧ (∀ i, w.frozen? ⟨g, i, none⟩ = false) := by
  obtain ⟨g, x, h1, h2, h3, h4, h5, h6⟩ := Ow.at_ h (fun _ => rfl) hk
  exact ⟨g, x, h1, h2, h3, h4, by simpa using h5 0 _ (by omega) rfl, h5 1 _ (by omega) rfl, h5 2 _ (by omega) rfl, h5 3 _ (by omega) rfl, h6⟩
theorem at_OXV {xs : List XV} (h : OwXV w lo A c n xs) (hk : k < n) :
    ∃ g x, A = some ⟨g, 0, none⟩ ∧ lo ≤ g ∧ g < w.heap.size ∧ xs[k]? = some x ∧ w.cell? ⟨g, k * 5, none⟩ = some (.int .i64 x.g) ∧ w.cell? ⟨g, k * 5 + 1, none⟩ = some (.int .i64 x.h.size) ∧ w.cell? ⟨g, k * 5 + 2, none⟩ = some (.int .i64 x.h.log) ∧
      w.cell? ⟨g, k * 5 + 3, none⟩ = some (.int .i64 x.h.own) ∧ w.cell? ⟨g, k * 5 + 4, none⟩ = some (.slice x.A x.n x.c) ∧ (∀ i, w.frozen? ⟨g, i, none⟩ = false) := by
  obtain ⟨g, x, h1, h2, h3, h4, h5, h6⟩ := Ow.at_ h (fun _ => rfl) hk
  exact ⟨g, x, h1, h2, h3, h4, by simpa using h5 0 _ (by omega) rfl, h5 1 _ (by omega) rfl, h5 2 _ (by omega) rfl, h5 3 _ (by omega) rfl, h5 4 _ (by omega) rfl, h6⟩
end

theorem toEntEntry_c (t : Sw.Ent) (w : World) : Calls Try.prog 161 #[.agg #[.int .i64 t.kind, .int .i64 t.ticket, .int .i64 t.who, .int .i64 t.price]] w fun E w' => E = .returned (.agg #[.int .i64 t.kind, .int .i64 t.ticket, .int .i64 t.who, .int .i64 t.price]) ∧ Ex w w' := by
  go_enter Try.func161, Try.ntmps161
  go_wp2_with fail
  refine bodyPost_ret (v := .agg #[.int .i64 t.kind, .int .i64 t.ticket, .int .i64 t.who, .int .i64 t.price]) (by simp [results, Try.results161, go_sem, *]) rfl ?_
  exact ⟨rfl, ext_⟩
theorem toMktDeal_c (t : Sw.Deal) (w : World) : Calls Try.prog 162 #[.agg #[.int .i64 t.ticket, .int .i64 t.seller, .int .i64 t.price, .int .i64 t.buyer, .int .i64 t.due]] w fun E w' => E = .returned (.agg #[.int .i64 t.ticket, .int .i64 t.seller, .int .i64 t.price, .int .i64 t.buyer, .int .i64 t.due]) ∧ Ex w w' := by
  go_enter Try.func162, Try.ntmps162
  go_wp2_with fail
  refine bodyPost_ret (v := .agg #[.int .i64 t.ticket, .int .i64 t.seller, .int .i64 t.price, .int .i64 t.buyer, .int .i64 t.due]) (by simp [results, Try.results162, go_sem, *]) rfl ?_
  exact ⟨rfl, ext_⟩
theorem toMktReq_c (t : Sw.Req) (w : World) : Calls Try.prog 51 #[.agg #[.int .i64 t.user, .int .i64 t.n, .int .i64 t.kind, .int .i64 t.ticket, .int .i64 t.who, .int .i64 t.price]] w fun E w' => E = .returned (.agg #[.int .i64 t.user, .int .i64 t.n, .int .i64 t.kind, .int .i64 t.ticket, .int .i64 t.who, .int .i64 t.price]) ∧ Ex w w' := by
  go_enter Try.func51, Try.ntmps51
  go_wp2_with fail
  refine bodyPost_ret (v := .agg #[.int .i64 t.user, .int .i64 t.n, .int .i64 t.kind, .int .i64 t.ticket, .int .i64 t.who, .int .i64 t.price]) (by simp [results, Try.results51, go_sem, *]) rfl ?_
  exact ⟨rfl, ext_⟩
theorem toEntEntryS_c (A : Option Addr) (c n : Nat) (xs : List Sw.Ent) (w : World) (hxs : RE w 0 A c n xs) (hn : n ≤ 1048576) : Calls Try.prog 115 #[.slice A n c] w fun E w' => ∃ g, E = .returned (.slice (some ⟨g, 0, none⟩) n n) ∧ OwE w' w.heap.size (some ⟨g, 0, none⟩) n n xs ∧ w.heap.size ≤ g ∧ g < w'.heap.size ∧ Ex w w' := by

  have hl := Lib.hid hxs.1
  go_enter Try.func115, Try.ntmps115
  go_wp2_with (at_make; apply wpList_mk (lo := w.heap.size) el_E Sw.entZ z_E rfl rfl rfl rfl rfl; omega; (unfold maxLen; omega); exact sz_; intro wm hom hbm hzm; have hst := xr hbm; (try simp only [zA, zC, zD, zN] at hst); obtain ⟨hcm, hfm, hzm2⟩ := hst)
  go_loopw [4] (fun i wr => ∃ k : Nat, k ≤ n ∧ i = .int .i64 k ∧ Ex w wr ∧ OwE wr w.heap.size (some ⟨w.heap.size, 0, none⟩) n n (xs.take k ++ List.replicate (n - k) Sw.entZ)) (fun i _ => n - (intOf i).toNat)
  case atStart => exact ⟨0, Nat.zero_le _, rfl, by assumption, by simpa using hom⟩
  case round =>
    obtain ⟨k, hk, rfl, hb2, hrel⟩ := hrel
    have hst := Ex.rules hb2 rfl
    obtain ⟨hc2, hf2, hz2⟩ := hst
    by_cases hlt : k < n
    · obtain ⟨g, off, y, rfl, hg0, hg, hd, hy, hca0, hca1, hca2, hca3⟩ := at_E hxs hlt
      obtain ⟨g', x', hA', hg0', hg', hx', hcb0, hcb1, hcb2, hcb3, hfr⟩ := at_OE hrel hlt
      cases hA'
      have Ho := Lib.hid hrel
      have Hy := Lib.hid hy
      clear hrel hd hy hx'
      go_wp2_with (go_at_call 161; refine (toEntEntry_c _ _).mono ?_; rintro E w1 ⟨rfl, hb⟩; have hst := xr hb; (try simp only [zA, zC, zD, zN] at hst); obtain ⟨hc, hf, hz⟩ := hst)
      go_roundw
      case rel =>
        refine ⟨k + 1, by omega, by go_num, (by exact ext_), ?_⟩
        have key := fun W (h : OwE W w.heap.size (some ⟨w.heap.size, 0, none⟩) n n (xs.take k ++ List.replicate (n - k) Sw.entZ)) => Ow.put h (fun _ => rfl) y rfl hlt
        rw [take_set_step hl.out hlt Hy.out] at key
        exact key _ (Ow.keep Ho.out (by (exact kf_)))
      case measure => simp [intOf]; omega
    · have Hrel := Lib.hid hrel; clear hrel
      go_wp2_with fail
      go_ret
      have := Hrel.out
      obtain rfl : k = n := by omega
      rw [Nat.sub_self, List.take_of_length_le (by have := hl.out; omega)] at this
      exact ⟨_, rfl, by simpa using this, Nat.le_refl _, (this.blk rfl).2, (by exact ext_)⟩

theorem toMktDealS_c (A : Option Addr) (c n : Nat) (xs : List Sw.Deal) (w : World) (hxs : RDl w 0 A c n xs) (hn : n ≤ 1048576) : Calls Try.prog 117 #[.slice A n c] w fun E w' => ∃ g, E = .returned (.slice (some ⟨g, 0, none⟩) n n) ∧ OwD w' w.heap.size (some ⟨g, 0, none⟩) n n xs ∧ w.heap.size ≤ g ∧ g < w'.heap.size ∧ Ex w w' := by

  have hl := Lib.hid hxs.1
  go_enter Try.func117, Try.ntmps117
  go_wp2_with (at_make; apply wpList_mk (lo := w.heap.size) el_D Sw.dealZ z_D rfl rfl rfl rfl rfl; omega; (unfold maxLen; omega); exact sz_; intro wm hom hbm hzm; have hst := xr hbm; (try simp only [zA, zC, zD, zN] at hst); obtain ⟨hcm, hfm, hzm2⟩ := hst)
  go_loopw [4] (fun i wr => ∃ k : Nat, k ≤ n ∧ i = .int .i64 k ∧ Ex w wr ∧ OwD wr w.heap.size (some ⟨w.heap.size, 0, none⟩) n n (xs.take k ++ List.replicate (n - k) Sw.dealZ)) (fun i _ => n - (intOf i).toNat)
  case atStart => exact ⟨0, Nat.zero_le _, rfl, by assumption, by simpa using hom⟩
  case round =>
    obtain ⟨k, hk, rfl, hb2, hrel⟩ := hrel
    have hst := Ex.rules hb2 rfl
    obtain ⟨hc2, hf2, hz2⟩ := hst
    by_cases hlt : k < n
    · obtain ⟨g, off, y, rfl, hg0, hg, hd, hy, hca0, hca1, hca2, hca3, hca4⟩ := at_D hxs hlt
      obtain ⟨g', x', hA', hg0', hg', hx', hcb0, hcb1, hcb2, hcb3, hcb4, hfr⟩ := at_OD hrel hlt
      cases hA'
      have Ho := Lib.hid hrel
      have Hy := Lib.hid hy
      clear hrel hd hy hx'
      go_wp2_with (go_at_call 162; refine (toMktDeal_c _ _).mono ?_; rintro E w1 ⟨rfl, hb⟩; have hst := xr hb; (try simp only [zA, zC, zD, zN] at hst); obtain ⟨hc, hf, hz⟩ := hst)
      go_roundw
      case rel =>
        refine ⟨k + 1, by omega, by go_num, (by exact ext_), ?_⟩
        have key := fun W (h : OwD W w.heap.size (some ⟨w.heap.size, 0, none⟩) n n (xs.take k ++ List.replicate (n - k) Sw.dealZ)) => Ow.put h (fun _ => rfl) y rfl hlt
        rw [take_set_step hl.out hlt Hy.out] at key
        exact key _ (Ow.keep Ho.out (by (exact kf_)))
      case measure => simp [intOf]; omega
    · have Hrel := Lib.hid hrel; clear hrel
      go_wp2_with fail
      go_ret
      have := Hrel.out
      obtain rfl : k = n := by omega
      rw [Nat.sub_self, List.take_of_length_le (by have := hl.out; omega)] at this
      exact ⟨_, rfl, by simpa using this, Nat.le_refl _, (this.blk rfl).2, (by exact ext_)⟩

end Go.Proofs.Ytgceeggfdomdjaa

namespace Go.Proofs.Ytgceeggfdomdjaa
set_option maxRecDepth 100000
set_option linter.unusedSimpArgs false
set_option linter.unusedVariables false
open Go.RowKit Go
set_option maxHeartbeats 400000

theorem ent_ext {a b : Sw.Ent} : a = b ↔ a.kind = b.kind ∧ a.ticket = b.ticket ∧ a.who = b.who ∧ a.price = b.price := by cases a; cases b; simp
theorem row_ext {a b : Sw.Row} : a = b ↔ a.who = b.who ∧ a.face = b.face ∧ a.used = b.used := by cases a; cases b; simp
theorem deal_ext {a b : Sw.Deal} : a = b ↔ a.ticket = b.ticket ∧ a.seller = b.seller ∧ a.price = b.price ∧ a.buyer = b.buyer ∧ a.due = b.due := by cases a; cases b; simp
theorem req_ext {a b : Sw.Req} : a = b ↔ a.user = b.user ∧ a.n = b.n ∧ a.kind = b.kind ∧ a.ticket = b.ticket ∧ a.who = b.who ∧ a.price = b.price := by cases a; cases b; simp

/-! ### sizes -/
def szOf (l n : Int) : Int := if l - n < 0 then -1 else l - n
theorem szEntEntryS_c (A : Option Addr) (c n : Nat) (xs : List Sw.Ent) (l : Int) (w : World) (hxs : RE w 0 A c n xs) (h0 : 0 ≤ l) (h1 : l ≤ 1048576) : Calls Try.prog 111 #[.slice A n c, .int .i64 l] w fun E w' => E = .returned (.int .i64 (if l - n < 0 then -1 else l - n)) ∧ w = w' := by

  have hm := Rs.big hxs
  have hw : IntKind.i64.wrap (l - n) = l - n := by rw [IntWalk.i64_in _ (by omega)]
  by_cases hn : l - n < 0
  · go_enter Try.func111, Try.ntmps111
    go_wp2
    go_ret
    exact ⟨ret_i (by simp [hn]), rfl⟩
  · go_enter Try.func111, Try.ntmps111
    go_wp2
    go_ret
    exact ⟨ret_i (by simp [hn]), rfl⟩

theorem szMktDealS_c (A : Option Addr) (c n : Nat) (xs : List Sw.Deal) (l : Int) (w : World) (hxs : RDl w 0 A c n xs) (h0 : 0 ≤ l) (h1 : l ≤ 1048576) : Calls Try.prog 113 #[.slice A n c, .int .i64 l] w fun E w' => E = .returned (.int .i64 (if l - n < 0 then -1 else l - n)) ∧ w = w' := by

  have hm := Rs.big hxs
  have hw : IntKind.i64.wrap (l - n) = l - n := by rw [IntWalk.i64_in _ (by omega)]
  by_cases hn : l - n < 0
  · go_enter Try.func113, Try.ntmps113
    go_wp2
    go_ret
    exact ⟨ret_i (by simp [hn]), rfl⟩
  · go_enter Try.func113, Try.ntmps113
    go_wp2
    go_ret
    exact ⟨ret_i (by simp [hn]), rfl⟩

/-! ### equality -/
theorem eqEntEntry_c (t u : Sw.Ent) (w : World) : Calls Try.prog 164 #[.agg #[.int .i64 t.kind, .int .i64 t.ticket, .int .i64 t.who, .int .i64 t.price], .agg #[.int .i64 u.kind, .int .i64 u.ticket, .int .i64 u.who, .int .i64 u.price]] w fun E w' => E = .returned (.bool (decide (t = u))) ∧ Ex w w' := by
  go_enter Try.func164, Try.ntmps164
  go_wp2_with fail
  all_goals (go_ret; refine ⟨ret_b ?_, ext_⟩; go_tidy; simp only [ent_ext])
  all_goals (first | (simp [*]; done) | (simp_all; done))
theorem eqMktDeal_c (t u : Sw.Deal) (w : World) : Calls Try.prog 165 #[.agg #[.int .i64 t.ticket, .int .i64 t.seller, .int .i64 t.price, .int .i64 t.buyer, .int .i64 t.due], .agg #[.int .i64 u.ticket, .int .i64 u.seller, .int .i64 u.price, .int .i64 u.buyer, .int .i64 u.due]] w fun E w' => E = .returned (.bool (decide (t = u))) ∧ Ex w w' := by
  go_enter Try.func165, Try.ntmps165
  go_wp2_with fail
  all_goals (go_ret; refine ⟨ret_b ?_, ext_⟩; go_tidy; simp only [deal_ext])
  all_goals (first | (simp [*]; done) | (simp_all; done))
theorem eqEntEntryS_c (A : Option Addr) (c n : Nat) (xs : List Sw.Ent) (B : Option Addr) (d m : Nat) (ys : List Sw.Ent) (w : World) (hxs : RE w 0 A c n xs) (hys : RE w 0 B d m ys) : Calls Try.prog 119 #[.slice A n c, .slice B m d] w fun E w' => E = .returned (.bool (decide (xs = ys))) ∧ Ex w w' := by

  have hl := Lib.hid hxs.1
  have hl' := Lib.hid hys.1
  have hbig := Rs.big hxs
  by_cases hnm : n = m
  case neg =>
    have hb : ((n : Int) == m) = false := by simp; omega
    have e : decide (xs = ys) = false := by
      rw [decide_eq_false_iff_not]; rintro rfl
      have := hl.out; have := hl'.out; omega
    rw [e]; clear e
    go_enter Try.func119, Try.ntmps119
    go_wp2_with fail
    go_ret
    exact ⟨rfl, (by exact ext_)⟩
  subst hnm
  go_enter Try.func119, Try.ntmps119
  go_wp2_with fail
  go_loopw [5] (fun i wr => ∃ k : Nat, k ≤ n ∧ i = .int .i64 k ∧ Ex w wr ∧ decide (xs = ys) = decide (xs.drop k = ys.drop k)) (fun i _ => n - (intOf i).toNat)
  case atStart => exact ⟨0, Nat.zero_le _, rfl, Ch.refl _ _, rfl⟩
  case round =>
    obtain ⟨k, hk, rfl, hb2, hrel⟩ := hrel
    have hst := Ex.rules hb2 rfl
    obtain ⟨hc2, hf2, hz2⟩ := hst
    by_cases hlt : k < n
    · obtain ⟨g, off, y, rfl, hg0, hg, hd, hy, hca0, hca1, hca2, hca3⟩ := at_E hxs hlt
      obtain ⟨g', off', z, rfl, hg0', hg', hd', hz', hcb0, hcb1, hcb2, hcb3⟩ := at_E hys hlt
      have t1 : (0 : Int) ≤ (k : Int) := by omega
      have t2 : (k : Int) < (n : Int) := by omega
      rw [hd, hd'] at hrel
      have Hrel := Lib.hid hrel
      clear hrel hd hd' hy hz'
      cases hyz : decide (y = z) with
      | true =>
        go_wp2_with fail
        (refine wp_name ?_; intro W0 hb0; have hst := xr hb0; (try simp only [zA, zC, zD, zN] at hst); obtain ⟨hc0, hf0, hz0⟩ := hst; go_region_held3 (fun w' => Held W0 w') ((first | with_reducible assumption | with_reducible exact Held.start _ | with_reducible exact Held.of (by assumption) | with_reducible exact Held.ex (by assumption) (by assumption) | ((repeat (first | with_reducible refine Held.set ?_ (by simp only [zA, zC, zD, zN]; omega) | with_reducible refine Held.alloc ?_ _ | with_reducible refine Held.drew ?_)); (first | with_reducible assumption | with_reducible exact Held.refl _ | with_reducible exact Held.of (by assumption) | with_reducible exact Held.ex (by assumption) (by assumption))) | exact Held.of (by exact ext_))) ((first | (go_at_call 164; refine (eqEntEntry_c _ _ _).mono ?_; rintro E w1 ⟨rfl, hb⟩; have hst := xr hb; (try simp only [zA, zC, zD, zN] at hst); obtain ⟨hc, hf, hz⟩ := hst))); all_goals (have hb := And.right (by assumption : Held W0 _); have hst := xr hb; (try simp only [zA, zC, zD, zN] at hst); obtain ⟨hc, hf, hz⟩ := hst))
        all_goals go_wp2
        all_goals go_roundw
        case rel => exact ⟨k + 1, by omega, by go_num, (by exact ext_), by rw [Hrel.out]; simp [of_decide_eq_true hyz]⟩
        case measure => simp [intOf]; omega
      | false =>
        go_wp2_with fail
        (refine wp_name ?_; intro W0 hb0; have hst := xr hb0; (try simp only [zA, zC, zD, zN] at hst); obtain ⟨hc0, hf0, hz0⟩ := hst; go_region_held3 (fun w' => Held W0 w') ((first | with_reducible assumption | with_reducible exact Held.start _ | with_reducible exact Held.of (by assumption) | with_reducible exact Held.ex (by assumption) (by assumption) | ((repeat (first | with_reducible refine Held.set ?_ (by simp only [zA, zC, zD, zN]; omega) | with_reducible refine Held.alloc ?_ _ | with_reducible refine Held.drew ?_)); (first | with_reducible assumption | with_reducible exact Held.refl _ | with_reducible exact Held.of (by assumption) | with_reducible exact Held.ex (by assumption) (by assumption))) | exact Held.of (by exact ext_))) ((first | (go_at_call 164; refine (eqEntEntry_c _ _ _).mono ?_; rintro E w1 ⟨rfl, hb⟩; have hst := xr hb; (try simp only [zA, zC, zD, zN] at hst); obtain ⟨hc, hf, hz⟩ := hst))); all_goals (have hb := And.right (by assumption : Held W0 _); have hst := xr hb; (try simp only [zA, zC, zD, zN] at hst); obtain ⟨hc, hf, hz⟩ := hst))
        all_goals go_wp2
        all_goals go_ret
        all_goals exact ⟨ret_b (by rw [Hrel.out]; simp [of_decide_eq_false hyz]), (by exact ext_)⟩
    · have Hrel := Lib.hid hrel; clear hrel
      go_wp2_with fail
      go_ret
      refine ⟨ret_b ?_, (by exact ext_)⟩
      rw [Hrel.out, List.drop_of_length_le (by have := hl.out; omega), List.drop_of_length_le (by have := hl'.out; omega)]
      simp

theorem eqMktDealS_c (A : Option Addr) (c n : Nat) (xs : List Sw.Deal) (B : Option Addr) (d m : Nat) (ys : List Sw.Deal) (w : World) (hxs : RDl w 0 A c n xs) (hys : RDl w 0 B d m ys) : Calls Try.prog 121 #[.slice A n c, .slice B m d] w fun E w' => E = .returned (.bool (decide (xs = ys))) ∧ Ex w w' := by

  have hl := Lib.hid hxs.1
  have hl' := Lib.hid hys.1
  have hbig := Rs.big hxs
  by_cases hnm : n = m
  case neg =>
    have hb : ((n : Int) == m) = false := by simp; omega
    have e : decide (xs = ys) = false := by
      rw [decide_eq_false_iff_not]; rintro rfl
      have := hl.out; have := hl'.out; omega
    rw [e]; clear e
    go_enter Try.func121, Try.ntmps121
    go_wp2_with fail
    go_ret
    exact ⟨rfl, (by exact ext_)⟩
  subst hnm
  go_enter Try.func121, Try.ntmps121
  go_wp2_with fail
  go_loopw [5] (fun i wr => ∃ k : Nat, k ≤ n ∧ i = .int .i64 k ∧ Ex w wr ∧ decide (xs = ys) = decide (xs.drop k = ys.drop k)) (fun i _ => n - (intOf i).toNat)
  case atStart => exact ⟨0, Nat.zero_le _, rfl, Ch.refl _ _, rfl⟩
  case round =>
    obtain ⟨k, hk, rfl, hb2, hrel⟩ := hrel
    have hst := Ex.rules hb2 rfl
    obtain ⟨hc2, hf2, hz2⟩ := hst
    by_cases hlt : k < n
    · obtain ⟨g, off, y, rfl, hg0, hg, hd, hy, hca0, hca1, hca2, hca3, hca4⟩ := at_D hxs hlt
      obtain ⟨g', off', z, rfl, hg0', hg', hd', hz', hcb0, hcb1, hcb2, hcb3, hcb4⟩ := at_D hys hlt
      have t1 : (0 : Int) ≤ (k : Int) := by omega
      have t2 : (k : Int) < (n : Int) := by omega
      rw [hd, hd'] at hrel
      have Hrel := Lib.hid hrel
      clear hrel hd hd' hy hz'
      cases hyz : decide (y = z) with
      | true =>
        go_wp2_with fail
        (refine wp_name ?_; intro W0 hb0; have hst := xr hb0; (try simp only [zA, zC, zD, zN] at hst); obtain ⟨hc0, hf0, hz0⟩ := hst; go_region_held3 (fun w' => Held W0 w') ((first | with_reducible assumption | with_reducible exact Held.start _ | with_reducible exact Held.of (by assumption) | with_reducible exact Held.ex (by assumption) (by assumption) | ((repeat (first | with_reducible refine Held.set ?_ (by simp only [zA, zC, zD, zN]; omega) | with_reducible refine Held.alloc ?_ _ | with_reducible refine Held.drew ?_)); (first | with_reducible assumption | with_reducible exact Held.refl _ | with_reducible exact Held.of (by assumption) | with_reducible exact Held.ex (by assumption) (by assumption))) | exact Held.of (by exact ext_))) ((first | (go_at_call 165; refine (eqMktDeal_c _ _ _).mono ?_; rintro E w1 ⟨rfl, hb⟩; have hst := xr hb; (try simp only [zA, zC, zD, zN] at hst); obtain ⟨hc, hf, hz⟩ := hst))); all_goals (have hb := And.right (by assumption : Held W0 _); have hst := xr hb; (try simp only [zA, zC, zD, zN] at hst); obtain ⟨hc, hf, hz⟩ := hst))
        all_goals go_wp2
        all_goals go_roundw
        case rel => exact ⟨k + 1, by omega, by go_num, (by exact ext_), by rw [Hrel.out]; simp [of_decide_eq_true hyz]⟩
        case measure => simp [intOf]; omega
      | false =>
        go_wp2_with fail
        (refine wp_name ?_; intro W0 hb0; have hst := xr hb0; (try simp only [zA, zC, zD, zN] at hst); obtain ⟨hc0, hf0, hz0⟩ := hst; go_region_held3 (fun w' => Held W0 w') ((first | with_reducible assumption | with_reducible exact Held.start _ | with_reducible exact Held.of (by assumption) | with_reducible exact Held.ex (by assumption) (by assumption) | ((repeat (first | with_reducible refine Held.set ?_ (by simp only [zA, zC, zD, zN]; omega) | with_reducible refine Held.alloc ?_ _ | with_reducible refine Held.drew ?_)); (first | with_reducible assumption | with_reducible exact Held.refl _ | with_reducible exact Held.of (by assumption) | with_reducible exact Held.ex (by assumption) (by assumption))) | exact Held.of (by exact ext_))) ((first | (go_at_call 165; refine (eqMktDeal_c _ _ _).mono ?_; rintro E w1 ⟨rfl, hb⟩; have hst := xr hb; (try simp only [zA, zC, zD, zN] at hst); obtain ⟨hc, hf, hz⟩ := hst))); all_goals (have hb := And.right (by assumption : Held W0 _); have hst := xr hb; (try simp only [zA, zC, zD, zN] at hst); obtain ⟨hc, hf, hz⟩ := hst))
        all_goals go_wp2
        all_goals go_ret
        all_goals exact ⟨ret_b (by rw [Hrel.out]; simp [of_decide_eq_false hyz]), (by exact ext_)⟩
    · have Hrel := Lib.hid hrel; clear hrel
      go_wp2_with fail
      go_ret
      refine ⟨ret_b ?_, (by exact ext_)⟩
      rw [Hrel.out, List.drop_of_length_le (by have := hl.out; omega), List.drop_of_length_le (by have := hl'.out; omega)]
      simp

end Go.Proofs.Ytgceeggfdomdjaa

namespace Go.Proofs.Ytgceeggfdomdjaa
set_option maxRecDepth 100000
set_option linter.unusedSimpArgs false
set_option linter.unusedVariables false
open Go.RowKit Go
set_option maxHeartbeats 400000

/-! ### sizes: what fits, and what does not -/
theorem szIntS_y (A : Option Addr) (c n : Nat) (xs : List Int) (l : Int) (w : World) (hxs : RI w 0 A c n xs) (h1 : l ≤ 1048576) (hle : (n : Int) ≤ l) : Calls Try.prog 112 #[.slice A n c, .int .i64 l] w fun E w' => E = .returned (.int .i64 (l - n)) ∧ w = w' :=
  (szIntS_c A c n xs l w hxs (by omega) h1).mono fun E w' ⟨h, k⟩ => ⟨by rw [h, if_neg (by omega)], k⟩
theorem szIntS_n (A : Option Addr) (c n : Nat) (xs : List Int) (l : Int) (w : World) (hxs : RI w 0 A c n xs) (h0 : 0 ≤ l) (h1 : l ≤ 1048576) (hle : l < n) : Calls Try.prog 112 #[.slice A n c, .int .i64 l] w fun E w' => E = .returned (.int .i64 (-1)) ∧ w = w' :=
  (szIntS_c A c n xs l w hxs (by omega) h1).mono fun E w' ⟨h, k⟩ => ⟨by rw [h, if_pos (by omega)], k⟩
theorem szEnt_y (A : Option Addr) (c n : Nat) (xs : List Sw.Ent) (l : Int) (w : World) (hxs : RE w 0 A c n xs) (h1 : l ≤ 1048576) (hle : (n : Int) ≤ l) : Calls Try.prog 111 #[.slice A n c, .int .i64 l] w fun E w' => E = .returned (.int .i64 (l - n)) ∧ w = w' :=
  (szEntEntryS_c A c n xs l w hxs (by omega) h1).mono fun E w' ⟨h, k⟩ => ⟨by rw [h, if_neg (by omega)], k⟩
theorem szEnt_n (A : Option Addr) (c n : Nat) (xs : List Sw.Ent) (l : Int) (w : World) (hxs : RE w 0 A c n xs) (h0 : 0 ≤ l) (h1 : l ≤ 1048576) (hle : l < n) : Calls Try.prog 111 #[.slice A n c, .int .i64 l] w fun E w' => E = .returned (.int .i64 (-1)) ∧ w = w' :=
  (szEntEntryS_c A c n xs l w hxs (by omega) h1).mono fun E w' ⟨h, k⟩ => ⟨by rw [h, if_pos (by omega)], k⟩
theorem szDeal_y (A : Option Addr) (c n : Nat) (xs : List Sw.Deal) (l : Int) (w : World) (hxs : RDl w 0 A c n xs) (h1 : l ≤ 1048576) (hle : (n : Int) ≤ l) : Calls Try.prog 113 #[.slice A n c, .int .i64 l] w fun E w' => E = .returned (.int .i64 (l - n)) ∧ w = w' :=
  (szMktDealS_c A c n xs l w hxs (by omega) h1).mono fun E w' ⟨h, k⟩ => ⟨by rw [h, if_neg (by omega)], k⟩
theorem szDeal_n (A : Option Addr) (c n : Nat) (xs : List Sw.Deal) (l : Int) (w : World) (hxs : RDl w 0 A c n xs) (h0 : 0 ≤ l) (h1 : l ≤ 1048576) (hle : l < n) : Calls Try.prog 113 #[.slice A n c, .int .i64 l] w fun E w' => E = .returned (.int .i64 (-1)) ∧ w = w' :=
  (szMktDealS_c A c n xs l w hxs (by omega) h1).mono fun E w' ⟨h, k⟩ => ⟨by rw [h, if_pos (by omega)], k⟩
theorem szMkt_y (aL : Option Addr) (aLc aLn : Nat) (aP : Option Addr) (aPc aPn : Nat) (aD : Option Addr) (aDc aDn : Nat) (aN : Option Addr) (aNc aNn : Nat) (aS : Option Addr) (aSc aSn : Nat) (m : Sw.Mkt) (l : Int) (w : World) (hm : RM w 0 aL aLc aLn aP aPc aPn aD aDc aDn aN aNc aNn aS aSc aSn m) (h1 : l ≤ 1048576) (hle : (aLn : Int) + aPn + aDn + aNn + aSn ≤ l) : Calls Try.prog 48 #[.agg #[.slice aL aLn aLc, .slice aP aPn aPc, .slice aD aDn aDc, .int .i64 m.clock, .slice aN aNn aNc, .slice aS aSn aSc], .int .i64 l] w fun E w' => E = .returned (.int .i64 (l - (aLn + aPn + aDn + aNn + aSn))) ∧ Ex w w' := by
  obtain ⟨m1, m2, m3, m4, m5⟩ := hm
  go_enter Try.func48, Try.ntmps48
  go_wp2_with (first | (go_at_call 111; apply Calls.mono; apply szEnt_y; ((first | (apply Rs.at0; assumption) | (apply Ow.rs0; assumption)); exact kf_); (first | assumption | omega); (first | assumption | omega); rintro E w' ⟨rfl, rfl⟩) | (go_at_call 112; apply Calls.mono; apply szIntS_y; ((first | (apply Rs.at0; assumption) | (apply Ow.rs0; assumption)); exact kf_); (first | assumption | omega); (first | assumption | omega); rintro E w' ⟨rfl, rfl⟩) | (go_at_call 113; apply Calls.mono; apply szDeal_y; ((first | (apply Rs.at0; assumption) | (apply Ow.rs0; assumption)); exact kf_); (first | assumption | omega); (first | assumption | omega); rintro E w' ⟨rfl, rfl⟩))
  all_goals (go_ret; exact ⟨ret_i (by omega), ext_⟩)
theorem szMkt_n (aL : Option Addr) (aLc aLn : Nat) (aP : Option Addr) (aPc aPn : Nat) (aD : Option Addr) (aDc aDn : Nat) (aN : Option Addr) (aNc aNn : Nat) (aS : Option Addr) (aSc aSn : Nat) (m : Sw.Mkt) (l : Int) (w : World) (hm : RM w 0 aL aLc aLn aP aPc aPn aD aDc aDn aN aNc aNn aS aSc aSn m) (h0 : 0 ≤ l) (h1 : l ≤ 1048576) (hle : l < aLn + aPn + aDn + aNn + aSn) : Calls Try.prog 48 #[.agg #[.slice aL aLn aLc, .slice aP aPn aPc, .slice aD aDn aDc, .int .i64 m.clock, .slice aN aNn aNc, .slice aS aSn aSc], .int .i64 l] w fun E w' => E = .returned (.int .i64 (-1)) ∧ Ex w w' := by
  obtain ⟨m1, m2, m3, m4, m5⟩ := hm
  rcases (show l < aLn ∨ (aLn ≤ l ∧ l < aLn + aPn) ∨ (aLn + aPn ≤ l ∧ l < aLn + aPn + aDn) ∨ (aLn + aPn + aDn ≤ l ∧ l < aLn + aPn + aDn + aNn) ∨ (aLn + aPn + aDn + aNn ≤ l) by omega) with h2 | ⟨h2, h3⟩ | ⟨h2, h3⟩ | ⟨h2, h3⟩ | h2
  all_goals
    go_enter Try.func48, Try.ntmps48
    go_wp2_with (first | (go_at_call 111; apply Calls.mono; apply szEnt_y; ((first | (apply Rs.at0; assumption) | (apply Ow.rs0; assumption)); exact kf_); (first | assumption | omega); (first | assumption | omega); rintro E w' ⟨rfl, rfl⟩) | (go_at_call 111; apply Calls.mono; apply szEnt_n; ((first | (apply Rs.at0; assumption) | (apply Ow.rs0; assumption)); exact kf_); (first | assumption | omega); (first | assumption | omega); (first | assumption | omega); rintro E w' ⟨rfl, rfl⟩) | (go_at_call 112; apply Calls.mono; apply szIntS_y; ((first | (apply Rs.at0; assumption) | (apply Ow.rs0; assumption)); exact kf_); (first | assumption | omega); (first | assumption | omega); rintro E w' ⟨rfl, rfl⟩) | (go_at_call 112; apply Calls.mono; apply szIntS_n; ((first | (apply Rs.at0; assumption) | (apply Ow.rs0; assumption)); exact kf_); (first | assumption | omega); (first | assumption | omega); (first | assumption | omega); rintro E w' ⟨rfl, rfl⟩) | (go_at_call 113; apply Calls.mono; apply szDeal_y; ((first | (apply Rs.at0; assumption) | (apply Ow.rs0; assumption)); exact kf_); (first | assumption | omega); (first | assumption | omega); rintro E w' ⟨rfl, rfl⟩) | (go_at_call 113; apply Calls.mono; apply szDeal_n; ((first | (apply Rs.at0; assumption) | (apply Ow.rs0; assumption)); exact kf_); (first | assumption | omega); (first | assumption | omega); (first | assumption | omega); rintro E w' ⟨rfl, rfl⟩))
    all_goals (go_ret; exact ⟨rfl, ext_⟩)
/-- How many numbers gates, messages hold in their own slices. -/
def dsz (gs : List Sw.Gate) : Nat := (gs.map (·.done.length)).sum
def psz (xs : List Sw.Msg) : Nat := (xs.map (·.proof.length)).sum
theorem dsz_cons (g : Sw.Gate) (gs : List Sw.Gate) : dsz (g :: gs) = g.done.length + dsz gs := by simp [dsz]
theorem psz_cons (g : Sw.Msg) (gs : List Sw.Msg) : psz (g :: gs) = g.proof.length + psz gs := by simp [psz]
end Go.Proofs.Ytgceeggfdomdjaa

namespace Go.Proofs.Ytgceeggfdomdjaa
set_option maxRecDepth 100000
set_option linter.unusedSimpArgs false
set_option linter.unusedVariables false
open Go.RowKit Go
set_option maxHeartbeats 400000

theorem mkt_ext {a b : Sw.Mkt} : a = b ↔ a.log = b.log ∧ a.purses = b.purses ∧ a.deals = b.deals ∧ a.clock = b.clock ∧ a.nums = b.nums ∧ a.said = b.said := by cases a; cases b; simp
theorem gate_ext {a b : Sw.Gate} : a = b ↔ a.head = b.head ∧ a.done = b.done := by cases a; cases b; simp
theorem msg_ext {a b : Sw.Msg} : a = b ↔ a.gate = b.gate ∧ a.head = b.head ∧ a.proof = b.proof := by cases a; cases b; simp
theorem world_ext {a b : Sw.World} : a = b ↔ a.first = b.first ∧ a.market = b.market ∧ a.lines = b.lines ∧ a.gates = b.gates ∧ a.bag = b.bag := by cases a; cases b; simp
theorem gate_dec (y z : Sw.Gate) : decide (y = z) = (decide (y.head = z.head) && decide (y.done = z.done)) := by rw [Bool.eq_iff_iff]; simp [gate_ext]
theorem msg_dec (y z : Sw.Msg) : decide (y = z) = (decide (y.gate = z.gate) && (decide (y.head = z.head) && decide (y.proof = z.proof))) := by rw [Bool.eq_iff_iff]; simp [msg_ext]

theorem eqMktHouse_c (aL : Option Addr) (aLc aLn : Nat) (aP : Option Addr) (aPc aPn : Nat) (aD : Option Addr) (aDc aDn : Nat) (aN : Option Addr) (aNc aNn : Nat) (aS : Option Addr) (aSc aSn : Nat) (x : Sw.Mkt) (bL : Option Addr) (bLc bLn : Nat) (bP : Option Addr) (bPc bPn : Nat) (bD : Option Addr) (bDc bDn : Nat) (bN : Option Addr) (bNc bNn : Nat) (bS : Option Addr) (bSc bSn : Nat) (y : Sw.Mkt) (w : World) (hx : RM w 0 aL aLc aLn aP aPc aPn aD aDc aDn aN aNc aNn aS aSc aSn x) (hy : RM w 0 bL bLc bLn bP bPc bPn bD bDc bDn bN bNc bNn bS bSc bSn y) : Calls Try.prog 53 #[.agg #[.slice aL aLn aLc, .slice aP aPn aPc, .slice aD aDn aDc, .int .i64 x.clock, .slice aN aNn aNc, .slice aS aSn aSc], .agg #[.slice bL bLn bLc, .slice bP bPn bPc, .slice bD bDn bDc, .int .i64 y.clock, .slice bN bNn bNc, .slice bS bSn bSc]] w fun E w' => E = .returned (.bool (decide (x = y))) ∧ Ex w w' := by
  obtain ⟨x1, x2, x3, x4, x5⟩ := hx
  obtain ⟨y1, y2, y3, y4, y5⟩ := hy
  go_enter Try.func53, Try.ntmps53
  go_wp2_with (first | (go_at_call 119; apply Calls.mono; apply eqEntEntryS_c; ((first | (apply Rs.at0; assumption) | (apply Ow.rs0; assumption)); exact kf_); ((first | (apply Rs.at0; assumption) | (apply Ow.rs0; assumption)); exact kf_); rintro E w1 ⟨rfl, hb⟩; have hst := xr hb; (try simp only [zA, zC, zD, zN] at hst); obtain ⟨hc, hf, hz⟩ := hst) | (go_at_call 120; apply Calls.mono; apply eqIntS_c; ((first | (apply Rs.at0; assumption) | (apply Ow.rs0; assumption)); exact kf_); ((first | (apply Rs.at0; assumption) | (apply Ow.rs0; assumption)); exact kf_); rintro E w1 ⟨rfl, hb⟩; have hst := xr hb; (try simp only [zA, zC, zD, zN] at hst); obtain ⟨hc, hf, hz⟩ := hst) | (go_at_call 121; apply Calls.mono; apply eqMktDealS_c; ((first | (apply Rs.at0; assumption) | (apply Ow.rs0; assumption)); exact kf_); ((first | (apply Rs.at0; assumption) | (apply Ow.rs0; assumption)); exact kf_); rintro E w1 ⟨rfl, hb⟩; have hst := xr hb; (try simp only [zA, zC, zD, zN] at hst); obtain ⟨hc, hf, hz⟩ := hst))
  all_goals (go_ret; refine ⟨ret_b ?_, ext_⟩; go_tidy; simp only [mkt_ext])
  all_goals (first | (simp [*]; done) | (simp_all; done))
end Go.Proofs.Ytgceeggfdomdjaa

