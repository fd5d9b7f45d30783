/- Texts joined: Plain2. -/
import Derived.Test.YtnnoiagommiapaaGreatPy3
set_option maxRecDepth 100000
set_option linter.unusedSimpArgs false
set_option linter.unusedVariables false
namespace Go.Proofs.YtnnoiagommiapaaGreat.Sw
open Go.RowKit (wrap64)
theorem dealOk_iff {clock : Int} {rows : List Row} {d : Deal} : dealOk clock rows d = true ↔ (0 ≤ d.ticket ∧ d.ticket ≤ 7) ∧ (1 ≤ d.seller ∧ d.seller ≤ 5) ∧ (rowAt rows d.ticket).who = d.seller ∧ (rowAt rows d.ticket).used = false ∧
   (1 ≤ d.price ∧ d.price ≤ entCap (rowAt rows d.ticket).face) ∧ ((d.buyer = 0 ∧ d.due = 0) ∨ ((1 ≤ d.buyer ∧ d.buyer ≤ 5) ∧ d.buyer ≠ d.seller ∧ (clock ≤ d.due ∧ d.due ≤ clock + 5))) := by
 unfold dealOk
 by_cases h : d.buyer = 0
 · rw [if_pos h]
   simp only [Bool.and_eq_true, inR_iff, decide_eq_true_eq, Bool.not_eq_true', and_assoc]
   simp [h]
 · rw [if_neg h]
   simp only [Bool.and_eq_true, inR_iff, decide_eq_true_eq, Bool.not_eq_true', and_assoc]
   simp [h]
theorem entCap_le (f : Int) : entCap f ≤ 60 := by
 unfold entCap
 split
 · have := inR_iff.1 ‹_›; omega
 · omega
def DOk (clock : Int) (rows : List Row) (ds : List Deal) : Prop := (∀ d ∈ ds, dealOk clock rows d = true) ∧ ds.Pairwise (fun a b => a.ticket < b.ticket)
theorem dealsOk_iff {clock : Int} {rows : List Row} : ∀ (ds : List Deal) (p : Int), dealsOk clock rows p ds = true ↔ DOk clock rows ds ∧ ∀ d ∈ ds, p < d.ticket
 | [], p => by simp [dealsOk, DOk]
 | d :: ds, p => by
   rw [dealsOk, Bool.and_eq_true, Bool.and_eq_true, dealsOk_iff ds, decide_eq_true_eq]
   unfold DOk
   simp only [List.mem_cons, forall_eq_or_imp, List.pairwise_cons]
   constructor
   · rintro ⟨⟨h1, h2⟩, ⟨h3, h4⟩, h5⟩
     exact ⟨⟨⟨h1, h3⟩, h5, h4⟩, h2, fun x hx => Int.lt_trans h2 (h5 x hx)⟩
   · rintro ⟨⟨⟨h1, h3⟩, h5, h4⟩, h2, _⟩
     exact ⟨⟨h1, h2⟩, ⟨h3, h4⟩, h5⟩
theorem dealsOk_iff' {clock : Int} {rows : List Row} {ds : List Deal} : dealsOk clock rows (-1) ds = true ↔ DOk clock rows ds := by
 rw [dealsOk_iff]
 exact ⟨fun h => h.1, fun h => ⟨h, fun d hd => by have := (dealOk_iff.1 (h.1 d hd)).1; omega⟩⟩
theorem DOk.get {clock : Int} {rows : List Row} {ds : List Deal} (h : DOk clock rows ds) {k : Nat} {d : Deal} (hk : ds[k]? = some d) : dealOk clock rows d = true := h.1 d (List.mem_of_getElem? hk)
theorem DOk.inj {clock : Int} {rows : List Row} {ds : List Deal} (h : DOk clock rows ds) {i j : Nat} {a b : Deal} (hi : ds[i]? = some a) (hj : ds[j]? = some b) (e : a.ticket = b.ticket) : i = j := by
 have hp := List.pairwise_iff_getElem.1 h.2
 obtain ⟨hi', rfl⟩ := List.getElem?_eq_some_iff.1 hi
 obtain ⟨hj', rfl⟩ := List.getElem?_eq_some_iff.1 hj
 rcases Nat.lt_trichotomy i j with hij | hij | hij
 · have := hp i j hi' hj' hij; omega
 · exact hij
 · have := hp j i hj' hi' hij; omega
theorem DOk.sub {clock : Int} {rows : List Row} {ds es : List Deal} (h : DOk clock rows ds) (hs : es.Sublist ds) : DOk clock rows es :=
 ⟨fun d hd => h.1 d (hs.subset hd), h.2.sublist hs⟩
theorem DOk.rows {clock : Int} {rows rows' : List Row} {ds : List Deal} (h : DOk clock rows ds) (hr : ∀ d ∈ ds, rowAt rows' d.ticket = rowAt rows d.ticket) : DOk clock rows' ds :=
 ⟨fun d hd => by have := h.1 d hd; rw [dealOk_iff] at this ⊢; rw [hr d hd]; exact this, h.2⟩
theorem erase_other {clock : Int} {rows : List Row} {ds : List Deal} (h : DOk clock rows ds) {k : Nat} {d : Deal} (hk : ds[k]? = some d) : ∀ x ∈ ds.eraseIdx k, x.ticket ≠ d.ticket := by
 intro x hx e
 rw [List.mem_eraseIdx_iff_getElem?] at hx
 obtain ⟨i, hi, hx⟩ := hx
 exact hi (h.inj hx hk e)
theorem DOk.set {clock : Int} {rows : List Row} {ds : List Deal} (h : DOk clock rows ds) {k : Nat} {d e : Deal} (hk : ds[k]? = some d) (ht : e.ticket = d.ticket) (he : dealOk clock rows e = true) : DOk clock rows (ds.set k e) := by
 refine ⟨fun x hx => ?_, ?_⟩
 · rcases List.mem_or_eq_of_mem_set hx with hx | rfl
   · exact h.1 x hx
   · exact he
 · rw [List.pairwise_iff_getElem]
   obtain ⟨hk', rfl⟩ := List.getElem?_eq_some_iff.1 hk
   intro i j hi hj hij
   have hp := List.pairwise_iff_getElem.1 h.2 i j (by simpa using hi) (by simpa using hj) hij
   rw [List.getElem_set, List.getElem_set]
   split <;> split <;> subst_vars <;> (try rw [ht]) <;> (try exact hp) <;> omega
theorem insertDeal_mem {d x : Deal} : ∀ {ds : List Deal}, x ∈ insertDeal d ds ↔ x = d ∨ x ∈ ds
 | [] => by simp [insertDeal]
 | y :: ys => by
   rw [insertDeal]
   split
   · simp
   · rw [List.mem_cons, insertDeal_mem, List.mem_cons]
     constructor
     · rintro (h | h | h)
       · exact .inr (.inl h)
       · exact .inl h
       · exact .inr (.inr h)
     · rintro (h | h | h)
       · exact .inr (.inl h)
       · exact .inl h
       · exact .inr (.inr h)
theorem insertDeal_rises {d : Deal} : ∀ {ds : List Deal}, ds.Pairwise (fun a b => a.ticket < b.ticket) → (∀ x ∈ ds, x.ticket ≠ d.ticket) → (insertDeal d ds).Pairwise (fun a b => a.ticket < b.ticket)
 | [], _, _ => by simp [insertDeal]
 | y :: ys, h, hn => by
   rw [List.pairwise_cons] at h
   have hy := hn y (List.mem_cons_self ..)
   rw [insertDeal]
   split
   · rw [List.pairwise_cons, List.pairwise_cons]
     refine ⟨fun x hx => ?_, h.1, h.2⟩
     rcases List.mem_cons.1 hx with rfl | hx
     · assumption
     · have := h.1 x hx; omega
   · rw [List.pairwise_cons]
     refine ⟨fun x hx => ?_, insertDeal_rises h.2 (fun x hx => hn x (List.mem_cons_of_mem _ hx))⟩
     rcases insertDeal_mem.1 hx with rfl | hx
     · omega
     · exact h.1 x hx
theorem dealAt_some {ds : List Deal} {t : Int} {k : Nat} (h : dealAt ds t = some k) : ∃ d, ds[k]? = some d ∧ d.ticket = t := by
 unfold dealAt at h
 rw [List.findIdx?_eq_some_iff_getElem] at h
 obtain ⟨hk, h1, _⟩ := h
 exact ⟨ds[k], List.getElem?_eq_getElem hk, by simpa using h1⟩
theorem dealAt_none {ds : List Deal} {t : Int} (h : dealAt ds t = none) : ∀ d ∈ ds, d.ticket ≠ t := by
 unfold dealAt at h
 rw [List.findIdx?_eq_none_iff] at h
 intro d hd e
 have := h d hd
 simp [e] at this
theorem getD_of {α : Type} {l : List α} {k : Nat} {x z : α} (h : l[k]? = some x) : l.getD k z = x := by rw [List.getD_eq_getElem?_getD, h]; rfl
def heldIn (d : Deal) : Int := if held d then d.price else 0
def heldSum (ds : List Deal) : Int := (ds.map heldIn).sum
theorem heldIn_bd {clock : Int} {rows : List Row} {d : Deal} (h : dealOk clock rows d = true) : 0 ≤ heldIn d ∧ heldIn d ≤ 60 := by
 have := (dealOk_iff.1 h).2.2.2.2.1
 have := entCap_le (rowAt rows d.ticket).face
 unfold heldIn
 split <;> omega
theorem heldSum_bd {clock : Int} {rows : List Row} : ∀ {ds : List Deal}, (∀ d ∈ ds, dealOk clock rows d = true) → 0 ≤ heldSum ds ∧ heldSum ds ≤ 60 * ds.length
 | [], _ => by simp [heldSum]
 | d :: ds, h => by
   have h1 := heldIn_bd (h d (List.mem_cons_self ..))
   have h2 := heldSum_bd (fun x hx => h x (List.mem_cons_of_mem _ hx))
   unfold heldSum at h2 ⊢
   rw [List.map_cons, List.sum_cons, List.length_cons]
   omega
theorem heldFrom_eq {clock : Int} {rows : List Row} : ∀ (ds : List Deal) (s : Int), 0 ≤ s → s + 60 * ds.length ≤ 9223372036854775807 → (∀ d ∈ ds, dealOk clock rows d = true) → heldFrom s ds = s + heldSum ds
 | [], s, _, _, _ => by simp [heldFrom, heldSum]
 | d :: ds, s, h0, h1, h => by
   have hd := heldIn_bd (h d (List.mem_cons_self ..))
   rw [List.length_cons] at h1
   have := heldFrom_eq ds (s + heldIn d) (by omega) (by omega) (fun x hx => h x (List.mem_cons_of_mem _ hx))
   unfold heldFrom at this ⊢
   rw [List.foldl_cons]
   have e : heldStep s d = s + heldIn d := by
     unfold heldStep heldIn
     unfold heldIn at hd
     split
     · rw [if_pos ‹_›] at hd
       rw [wrap64_in (by omega)]
     · omega
   rw [e, this]
   unfold heldSum
   rw [List.map_cons, List.sum_cons]
   omega
theorem heldOf_eq {clock : Int} {rows : List Row} {ds : List Deal} (h : DOk clock rows ds) (h8 : ds.length ≤ 8) : heldOf ds = heldSum ds := by
 rw [heldOf, heldFrom_eq ds 0 (by omega) (by omega) h.1]; omega
theorem heldSum_erase : ∀ {ds : List Deal} {k : Nat} {d : Deal}, ds[k]? = some d → heldSum (ds.eraseIdx k) = heldSum ds - heldIn d
 | [], k, d, h => by simp at h
 | x :: xs, 0, d, h => by
   obtain rfl : x = d := by simpa using h
   unfold heldSum
   simp only [List.eraseIdx_cons_zero, List.map_cons, List.sum_cons]
   omega
 | x :: xs, k + 1, d, h => by
   have := heldSum_erase (ds := xs) (k := k) (d := d) (by simpa using h)
   unfold heldSum at this ⊢
   simp only [List.eraseIdx_cons_succ, List.map_cons, List.sum_cons, this]
   omega
theorem heldSum_set : ∀ {ds : List Deal} {k : Nat} {d e : Deal}, ds[k]? = some d → heldSum (ds.set k e) = heldSum ds - heldIn d + heldIn e
 | [], k, d, e, h => by simp at h
 | x :: xs, 0, d, e, h => by
   obtain rfl : x = d := by simpa using h
   unfold heldSum
   simp only [List.set_cons_zero, List.map_cons, List.sum_cons]
   omega
 | x :: xs, k + 1, d, e, h => by
   have := heldSum_set (ds := xs) (k := k) (d := d) (e := e) (by simpa using h)
   unfold heldSum at this ⊢
   simp only [List.set_cons_succ, List.map_cons, List.sum_cons, this]
   omega
theorem heldSum_insert {d : Deal} : ∀ {ds : List Deal}, heldSum (insertDeal d ds) = heldIn d + heldSum ds
 | [] => by simp [insertDeal, heldSum]
 | x :: xs => by
   have := heldSum_insert (d := d) (ds := xs)
   unfold heldSum at this ⊢
   rw [insertDeal]
   split
   · simp
   · simp only [List.map_cons, List.sum_cons, this]
     omega
structure MOk (m : Mkt) (rows : List Row) : Prop where
 fold : ownFold m.log = some rows
 mon : monOk m.purses = true
 dlen : m.deals.length ≤ 8
 clk : 0 ≤ m.clock ∧ m.clock ≤ 99999
 nlen : m.nums.length = 5
 slen : m.said.length = 5
 deals : DOk m.clock rows m.deals
 nums : numsOk m.nums m.said = true
 sum : m.purses.sum + heldSum m.deals ≤ 100000
theorem mktRows_of {m : Mkt} {rows : List Row} (h : ownFold m.log = some rows) : mktRows m = rows := by rw [mktRows, h]; rfl
theorem mktOk_iff {m : Mkt} : mktOk m = true ↔ ∃ rows, MOk m rows := by
 unfold mktOk
 simp only [Bool.and_eq_true, decide_eq_true_eq, inR_iff, dealsOk_iff']
 constructor
 · rintro ⟨⟨⟨⟨⟨⟨⟨⟨h1, h2⟩, h3⟩, h4⟩, h5⟩, h6⟩, h7⟩, h8⟩, h9⟩
   obtain ⟨rows, hr⟩ := Option.isSome_iff_exists.1 h1
   rw [mktRows_of hr] at h7
   refine ⟨rows, hr, h2, h3, h4, h5, h6, h7, h8, ?_⟩
   rw [monSum_eq h2, mktHeld, heldOf_eq h7 h3] at h9
   exact h9
 · rintro ⟨rows, hr, h2, h3, h4, h5, h6, h7, h8, h9⟩
   rw [mktRows_of hr]
   refine ⟨⟨⟨⟨⟨⟨⟨⟨by rw [hr]; rfl, h2⟩, h3⟩, h4⟩, h5⟩, h6⟩, h7⟩, h8⟩, ?_⟩
   rw [monSum_eq h2, mktHeld, heldOf_eq h7 h3]
   exact h9
def total (m : Mkt) : Int := m.purses.sum + heldSum m.deals
theorem MOk.total {m : Mkt} {rows : List Row} (h : MOk m rows) : monSum m.purses + mktHeld m = m.purses.sum + heldSum m.deals := by
 rw [monSum_eq h.mon, mktHeld, heldOf_eq h.deals h.dlen]
theorem reqOk_iff {r : Req} : reqOk r = true ↔ (1 ≤ r.user ∧ r.user ≤ 5) ∧ (1 ≤ r.n ∧ r.n ≤ 99999) ∧ (1 ≤ r.kind ∧ r.kind ≤ 6) ∧ (0 ≤ r.ticket ∧ r.ticket ≤ 7) ∧
   ((r.kind = 1 ∧ (1 ≤ r.who ∧ r.who ≤ 5) ∧ (1 ≤ r.price ∧ r.price ≤ 50)) ∨ (r.kind = 2 ∧ r.who = 0 ∧ (1 ≤ r.price ∧ r.price ≤ 999)) ∨ (r.kind ≠ 1 ∧ r.kind ≠ 2 ∧ r.who = 0 ∧ r.price = 0)) := by
 unfold reqOk
 by_cases h1 : r.kind = 1
 · rw [if_pos h1]; simp only [Bool.and_eq_true, inR_iff, and_assoc]; simp [h1]
 · by_cases h2 : r.kind = 2
   · rw [if_neg h1, if_pos h2]; simp only [Bool.and_eq_true, inR_iff, and_assoc, decide_eq_true_eq]; simp [h2]
   · rw [if_neg h1, if_neg h2]; simp only [Bool.and_eq_true, inR_iff, and_assoc, decide_eq_true_eq]; simp [h1, h2]
structure Eff (m x : Mkt) : Prop where
 rows : ∃ rows, ownFold x.log = some rows ∧ DOk x.clock rows x.deals
 mon : monOk x.purses = true
 dlen : x.deals.length ≤ 8
 clk : x.clock = m.clock
 nums : x.nums = m.nums
 said : x.said = m.said
 sum : x.purses.sum + heldSum x.deals = m.purses.sum + heldSum m.deals
theorem Eff.refl {m : Mkt} {rows : List Row} (h : MOk m rows) : Eff m m := ⟨⟨rows, h.fold, h.deals⟩, h.mon, h.dlen, rfl, rfl, rfl, rfl⟩
theorem rises_len8 {clock : Int} {rows : List Row} {ds : List Deal} (h : DOk clock rows ds) : ds.length ≤ 8 := by
 have key : ∀ (ds : List Deal) (p : Int), ds.Pairwise (fun a b => a.ticket < b.ticket) → (∀ d ∈ ds, p < d.ticket ∧ d.ticket ≤ 7) → -1 ≤ p → p ≤ 7 → (ds.length : Int) ≤ 7 - p := by
   intro ds
   induction ds with
   | nil => intro p _ _ h0 h1; simp; omega
   | cons d ds ih =>
     intro p hp hd h0 h1
     rw [List.pairwise_cons] at hp
     have h2 := hd d (List.mem_cons_self ..)
     have := ih d.ticket hp.2 (fun x hx => ⟨hp.1 x hx, (hd x (List.mem_cons_of_mem _ hx)).2⟩) (by omega) h2.2
     rw [List.length_cons]
     omega
 have := key ds (-1) h.2 (fun d hd => by have := (dealOk_iff.1 (h.1 d hd)).1; omega) (by omega) (by omega)
 omega
theorem issue_eff {m : Mkt} {rows : List Row} {r : Req} (h : MOk m rows) (hr : reqOk r = true) (hk : r.kind = 1) : Eff m (issue m r (rowAt rows r.ticket)).1 := by
 have hr := reqOk_iff.1 hr
 unfold issue
 split
 · exact .refl h
 split
 · exact .refl h
 split
 · exact .refl h
 split
 case isFalse => exact .refl h
 rename_i h1 h2 h3 h4
 rw [moveMay_iff] at h4
 obtain ⟨h4, h5, h6, h7⟩ := h4
 have hl : m.log.length < 40 := by have := (ownFold_some.1 h.fold).1; omega
 have hf : ownFits rows ⟨1, r.ticket, r.who, r.price⟩ = true := by
   rw [ownFits_iff]
   refine ⟨ownFold_ok h.fold, entOk_iff.2 ?_, (fitsRow_iff (.inl rfl)).2 (.inl ⟨rfl, by simpa using h2⟩)⟩
   dsimp only
   omega
 have hno : ∀ d ∈ m.deals, d.ticket ≠ r.ticket := fun d hd e => by
   have := (dealOk_iff.1 (h.deals.1 d hd))
   rw [e] at this
   omega
 refine ⟨⟨_, ownFold_snoc h.fold hl hf, h.deals.rows fun d hd => ?_⟩, turned_ok h7, h.dlen, rfl, rfl, rfl, ?_⟩
 · rw [rowAt_put (ownOk_len (ownFold_ok h.fold)) ⟨hr.2.2.2.1.1, hr.2.2.2.1.2⟩ (dealOk_iff.1 (h.deals.1 d hd)).1.1, if_neg (hno d hd)]
 · show (turned _ _ _).sum + heldSum m.deals = _
   rw [turned_sum h7, turned_sum h6]
   omega
theorem none_of {α : Type} {o : Option α} (h : o.isSome = false) : o = none := by cases o <;> simp_all
theorem offer_eff {m : Mkt} {rows : List Row} {r : Req} (h : MOk m rows) (hr : reqOk r = true) (hk : r.kind = 2) : Eff m (offer m r (rowAt rows r.ticket) (dealAt m.deals r.ticket)).1 := by
 have hr := reqOk_iff.1 hr
 unfold offer
 split
 · exact .refl h
 split
 · exact .refl h
 split
 · exact .refl h
 rename_i h1 h2 h3
 simp only [not_or, Bool.not_eq_true] at h2
 have hno := dealAt_none (none_of h2.1)
 have hd : DOk m.clock rows (insertDeal ⟨r.ticket, r.user, r.price, 0, 0⟩ m.deals) := by
   refine ⟨fun d hd => ?_, insertDeal_rises h.deals.2 hno⟩
   rcases insertDeal_mem.1 hd with rfl | hd
   · rw [dealOk_iff]
     dsimp only
     refine ⟨hr.2.2.2.1, hr.1, by simpa using h1, h2.2, by omega, .inl ⟨rfl, rfl⟩⟩
   · exact h.deals.1 d hd
 refine ⟨⟨rows, h.fold, hd⟩, h.mon, rises_len8 hd, rfl, rfl, rfl, ?_⟩
 show _ + heldSum (insertDeal _ _) = _
 rw [heldSum_insert]
 simp [heldIn, held]
theorem drop_eff {m : Mkt} {rows : List Row} {r : Req} (h : MOk m rows) : Eff m (dropIt m r (rowAt rows r.ticket) (dealAt m.deals r.ticket)).1 := by
 unfold dropIt
 split
 · exact .refl h
 split
 · exact .refl h
 rename_i k hk
 obtain ⟨d, hd, ht⟩ := dealAt_some hk
 rw [getD_of hd]
 split
 · exact .refl h
 rename_i h2
 have hs := List.eraseIdx_sublist m.deals k
 refine ⟨⟨rows, h.fold, h.deals.sub hs⟩, h.mon, Nat.le_trans hs.length_le h.dlen, rfl, rfl, rfl, ?_⟩
 show _ + heldSum (m.deals.eraseIdx k) = _
 rw [heldSum_erase hd]
 simp [heldIn, h2]
theorem fund_eff {m : Mkt} {rows : List Row} {r : Req} (h : MOk m rows) (hr : reqOk r = true) : Eff m (fund m r (dealAt m.deals r.ticket)).1 := by
 have hr := reqOk_iff.1 hr
 unfold fund
 split
 · exact .refl h
 rename_i k hk
 obtain ⟨d, hd, ht⟩ := dealAt_some hk
 rw [getD_of hd]
 split
 · exact .refl h
 split
 · exact .refl h
 split
 case isFalse => exact .refl h
 rename_i h1 h2 h3
 have hdo := dealOk_iff.1 (h.deals.get hd)
 have he : DOk m.clock rows (m.deals.set k { d with buyer := r.user, due := m.clock + 5 }) := by
   refine h.deals.set hd rfl (dealOk_iff.2 ?_)
   dsimp only
   refine ⟨hdo.1, hdo.2.1, hdo.2.2.1, hdo.2.2.2.1, hdo.2.2.2.2.1, .inr ⟨hr.1, fun e => h2 e.symm, by omega⟩⟩
 refine ⟨⟨rows, h.fold, he⟩, turned_ok h3, by simpa using h.dlen, rfl, rfl, rfl, ?_⟩
 show (turned _ _ _).sum + heldSum (m.deals.set k _) = _
 rw [turned_sum h3, heldSum_set hd]
 have hu : heldIn { d with buyer := r.user, due := m.clock + 5 } = d.price := if_pos (by simp [held]; omega)
 have hb : heldIn d = 0 := if_neg h1
 rw [hu, hb]
 omega
theorem settle_eff {m : Mkt} {rows : List Row} {r : Req} (h : MOk m rows) (hr : reqOk r = true) : Eff m (settle m r (dealAt m.deals r.ticket)).1 := by
 have hr := reqOk_iff.1 hr
 unfold settle
 split
 · exact .refl h
 rename_i k hk
 obtain ⟨d, hd, ht⟩ := dealAt_some hk
 rw [getD_of hd]
 split
 · exact .refl h
 split
 · exact .refl h
 split
 · exact .refl h
 rename_i h1 h2 h3
 have hdo := dealOk_iff.1 (h.deals.get hd)
 have hh : held d = true := by simpa using h1
 have hb : 0 < d.buyer := by simpa [held] using hh
 have hl : m.log.length < 40 := by have := (ownFold_some.1 h.fold).1; omega
 have hp := hdo.2.2.2.2.1
 have hcap := entCap_le (rowAt rows d.ticket).face
 have hf : ownFits rows ⟨2, r.ticket, d.buyer, d.price⟩ = true := by
   rw [ownFits_iff]
   refine ⟨ownFold_ok h.fold, entOk_iff.2 ?_, (fitsRow_iff (.inr (.inl rfl))).2 (.inr (.inl ⟨rfl, ?_⟩))⟩ <;> dsimp only
   · omega
   · rw [← ht]
     refine ⟨by omega, ?_, hdo.2.2.2.1, hp.2⟩
     rw [hdo.2.2.1]; omega
 have hs := List.eraseIdx_sublist m.deals k
 have hsum : turnMay m.purses d.seller d.price = true := by
   refine turnMay_in h.mon hdo.2.1 (by omega) ?_
   have h4 := h.sum
   have h5 := heldSum_erase hd
   have h6 := (heldSum_bd (h.deals.sub hs).1).1
   have : heldIn d = d.price := by simp [heldIn, hh]
   omega
 have e : monTurn m.purses d.seller d.price = turned m.purses d.seller d.price := by simp [monTurn, hsum]
 refine ⟨⟨_, ownFold_snoc h.fold hl hf, (h.deals.sub hs).rows fun x hx => ?_⟩, by dsimp only; rw [e]; exact turned_ok hsum, Nat.le_trans hs.length_le h.dlen, rfl, rfl, rfl, ?_⟩
 · have := erase_other h.deals hd x hx
   rw [rowAt_put (ownOk_len (ownFold_ok h.fold)) ⟨hr.2.2.2.1.1, hr.2.2.2.1.2⟩ (dealOk_iff.1 ((h.deals.sub hs).1 x hx)).1.1, if_neg (by dsimp only; omega)]
 · show (monTurn _ _ _).sum + heldSum (m.deals.eraseIdx k) = _
   rw [e, turned_sum hsum, heldSum_erase hd]
   simp only [heldIn, hh, if_true]
   omega
theorem enter_eff {m : Mkt} {rows : List Row} {r : Req} (h : MOk m rows) (hr : reqOk r = true) : Eff m (enter m r (rowAt rows r.ticket) (dealAt m.deals r.ticket)).1 := by
 have hr := reqOk_iff.1 hr
 unfold enter
 split
 · exact .refl h
 split
 · exact .refl h
 split
 · exact .refl h
 rename_i h1 h2 h3
 simp only [not_or, Bool.not_eq_true] at h2
 have hno := dealAt_none (none_of h2.2)
 have hl : m.log.length < 40 := by have := (ownFold_some.1 h.fold).1; omega
 have hf : ownFits rows ⟨3, r.ticket, r.user, 0⟩ = true := by
   rw [ownFits_iff]
   refine ⟨ownFold_ok h.fold, entOk_iff.2 ?_, (fitsRow_iff (.inr (.inr rfl))).2 (.inr (.inr ⟨rfl, by simpa using h1, h2.1⟩))⟩
   dsimp only
   omega
 refine ⟨⟨_, ownFold_snoc h.fold hl hf, h.deals.rows fun d hd => ?_⟩, h.mon, h.dlen, rfl, rfl, rfl, rfl⟩
 rw [rowAt_put (ownOk_len (ownFold_ok h.fold)) ⟨hr.2.2.2.1.1, hr.2.2.2.1.2⟩ (dealOk_iff.1 (h.deals.1 d hd)).1.1, if_neg (hno d hd)]
theorem effect_eff {m : Mkt} {rows : List Row} {r : Req} (h : MOk m rows) (hr : reqOk r = true) : Eff m (effect m r).1 := by
 unfold effect
 rw [mktRows_of h.fold]
 split
 · exact issue_eff h hr ‹_›
 split
 · exact offer_eff h hr ‹_›
 split
 · exact drop_eff h
 split
 · exact fund_eff h hr
 split
 · exact settle_eff h hr
 · exact enter_eff h hr
theorem effect_ans (m : Mkt) (r : Req) : 1 ≤ (effect m r).2 ∧ (effect m r).2 ≤ 6 := by
 have key : ∀ (P : Mkt × Int → Prop) (c : Prop) [Decidable c] (a b : Mkt × Int), P a → P b → P (if c then a else b) := by
   intro P c _ a b ha hb; split <;> assumption
 unfold effect issue offer dropIt fund settle enter
 repeat' (first | (split) | decide)
 all_goals (first | decide | (dsimp only; omega))
theorem numsOk_iff : ∀ {ns ss : List Int}, ns.length = ss.length → (numsOk ns ss = true ↔ ∀ (k : Nat) (n s : Int), ns[k]? = some n → ss[k]? = some s → numOk n s = true)
 | [], [], _ => by simp [numsOk]
 | [], _ :: _, h => by simp at h
 | _ :: _, [], h => by simp at h
 | n :: ns, s :: ss, h => by
   rw [numsOk, Bool.and_eq_true, numsOk_iff (by simpa using h)]
   constructor
   · rintro ⟨h1, h2⟩ k a b ha hb
     cases k with
     | zero => simp at ha hb; subst ha hb; exact h1
     | succ k => exact h2 k a b (by simpa using ha) (by simpa using hb)
   · intro h
     exact ⟨h 0 n s rfl rfl, fun k a b ha hb => h (k + 1) a b (by simpa using ha) (by simpa using hb)⟩
theorem numOk_iff {n s : Int} : numOk n s = true ↔ (0 ≤ n ∧ n ≤ 99999) ∧ (0 ≤ s ∧ s ≤ 6) ∧ (n = 0 ↔ s = 0) := by
 unfold numOk
 simp only [Bool.and_eq_true, inR_iff, and_assoc]
 simp
theorem noted_nums {ns ss : List Int} (hn : ns.length = 5) (hs : ss.length = 5) (h : numsOk ns ss = true) {k : Nat} {n s : Int} (ho : numOk n s = true) : numsOk (ns.set k n) (ss.set k s) = true := by
 rw [numsOk_iff (by rw [hn, hs])] at h
 rw [numsOk_iff (by simp [hn, hs])]
 intro j a b ha hb
 rw [List.getElem?_set] at ha hb
 by_cases hj : k = j
 · rw [if_pos hj] at ha hb
   split at ha
   · split at hb
     · cases ha; cases hb; exact ho
     · cases hb
   · cases ha
 · rw [if_neg hj] at ha hb
   exact h j a b ha hb
theorem Eff.noted {m x : Mkt} {rows : List Row} {r : Req} {a : Int} (h : MOk m rows) (he : Eff m x) (hr : reqOk r = true) (ha : 1 ≤ a ∧ a ≤ 6) : ∃ rows', MOk (noted x r a) rows' := by
 have hr := reqOk_iff.1 hr
 obtain ⟨rows', h1, h2⟩ := he.rows
 have hck := h.clk
 refine ⟨rows', h1, he.mon, he.dlen, by show 0 ≤ x.clock ∧ x.clock ≤ 99999; rw [he.clk]; exact hck, by simp [Sw.noted, he.nums, h.nlen], by simp [Sw.noted, he.said, h.slen], h2, ?_, by show x.purses.sum + heldSum x.deals ≤ _; rw [he.sum]; exact h.sum⟩
 show numsOk (x.nums.set _ _) (x.said.set _ _) = true
 rw [he.nums, he.said]
 exact noted_nums h.nlen h.slen h.nums (numOk_iff.2 ⟨by omega, by omega, by omega⟩)
theorem doIt_ok {m : Mkt} {rows : List Row} {r : Req} (h : MOk m rows) (hr : reqOk r = true) : ∃ rows', MOk (doIt m r).1 rows' := by
 unfold doIt
 split
 · exact ⟨rows, h⟩
 split
 · exact ⟨rows, h⟩
 · exact (effect_eff h hr).noted h hr (effect_ans m r)
theorem doIt_mktOk {m : Mkt} {r : Req} (h : mktOk m = true) (hr : reqOk r = true) : mktOk (doIt m r).1 = true := by
 obtain ⟨rows, h⟩ := mktOk_iff.1 h
 exact mktOk_iff.2 (doIt_ok h hr)
theorem backDeal_ok {clock : Int} {rows : List Row} {d : Deal} (h : dealOk clock rows d = true) : dealOk (clock + 1) rows (backDeal (clock + 1) d) = true := by
 rw [dealOk_iff] at h ⊢
 unfold backDeal
 split
 · exact ⟨h.1, h.2.1, h.2.2.1, h.2.2.2.1, h.2.2.2.2.1, .inl ⟨rfl, rfl⟩⟩
 · rename_i hh
   refine ⟨h.1, h.2.1, h.2.2.1, h.2.2.2.1, h.2.2.2.2.1, ?_⟩
   simp only [held, Bool.and_eq_true, decide_eq_true_eq, not_and] at hh
   rcases h.2.2.2.2.2 with h6 | h6
   · exact .inl h6
   · have := hh (by omega)
     exact .inr ⟨h6.1, h6.2.1, by omega⟩
theorem backDeal_ticket (clock : Int) (d : Deal) : (backDeal clock d).ticket = d.ticket := by unfold backDeal; split <;> rfl
theorem backs {clock ck : Int} {rows : List Row} : ∀ (ds : List Deal) (p : List Int), monOk p = true → (∀ d ∈ ds, dealOk ck rows d = true) → p.sum + heldSum ds ≤ 100000 →
   monOk (ds.foldl (backPurse clock) p) = true ∧ (ds.foldl (backPurse clock) p).sum + heldSum (ds.map (backDeal clock)) = p.sum + heldSum ds
 | [], p, hp, _, _ => ⟨hp, rfl⟩
 | d :: ds, p, hp, hd, hs => by
   have hdo := dealOk_iff.1 (hd d (List.mem_cons_self ..))
   have hb := (heldSum_bd (fun x hx => hd x (List.mem_cons_of_mem _ hx))).1
   have hd' := fun x hx => hd x (List.mem_cons_of_mem d hx)
   have e1 : heldSum (d :: ds) = heldIn d + heldSum ds := by simp [heldSum]
   have e2 : heldSum ((d :: ds).map (backDeal clock)) = heldIn (backDeal clock d) + heldSum (ds.map (backDeal clock)) := by simp [heldSum]
   rw [e1] at hs
   rw [e1, e2, List.foldl_cons]
   unfold backPurse backDeal
   by_cases hc : (held d && decide (d.due < clock)) = true
   · rw [if_pos hc, if_pos hc]
     simp only [Bool.and_eq_true] at hc
     have hi : heldIn d = d.price := by simp [heldIn, hc.1]
     have hb0 : 0 < d.buyer := by simpa [held] using hc.1
     have hm := turnMay_in hp (who := d.buyer) (n := d.price) (by omega) (by omega) (by omega)
     have e : monTurn p d.buyer d.price = turned p d.buyer d.price := by simp [monTurn, hm]
     rw [e]
     have ih := backs (clock := clock) ds (turned p d.buyer d.price) (turned_ok hm) hd' (by rw [turned_sum hm]; omega)
     refine ⟨ih.1, ?_⟩
     have h0 : heldIn { d with buyer := 0, due := 0 } = 0 := by simp [heldIn, held]
     rw [h0]
     have := ih.2
     rw [turned_sum hm] at this
     unfold backPurse at this
     unfold backDeal at this
     omega
   · rw [if_neg hc, if_neg hc]
     have hi := (heldIn_bd (hd d (List.mem_cons_self ..))).1
     have ih := backs (clock := clock) ds p hp hd' (by omega)
     refine ⟨ih.1, ?_⟩
     have := ih.2
     unfold backPurse at this
     unfold backDeal at this
     omega
theorem tick_ok {m : Mkt} {rows : List Row} (h : MOk m rows) (hc : m.clock ≠ 99999) : MOk (tick m) rows := by
 have hb := backs (clock := m.clock + 1) m.deals m.purses h.mon h.deals.1 h.sum
 have hck := h.clk
 refine ⟨h.fold, hb.1, by simpa [tick] using h.dlen, by show 0 ≤ m.clock + 1 ∧ m.clock + 1 ≤ 99999; omega, h.nlen, h.slen, ⟨fun d hd => ?_, ?_⟩, h.nums, ?_⟩
 · simp only [tick, List.mem_map] at hd
   obtain ⟨x, hx, rfl⟩ := hd
   exact backDeal_ok (h.deals.1 x hx)
 · show (m.deals.map _).Pairwise _
   rw [List.pairwise_map]
   refine h.deals.2.imp fun {a b} hab => ?_
   rw [backDeal_ticket, backDeal_ticket]
   exact hab
 · show (m.deals.foldl (backPurse (m.clock + 1)) m.purses).sum + heldSum (m.deals.map (backDeal (m.clock + 1))) ≤ _
   rw [hb.2]
   exact h.sum
theorem tick_mktOk {m : Mkt} (h : mktOk m = true) (hc : m.clock ≠ 99999) : mktOk (tick m) = true := by
 obtain ⟨rows, h⟩ := mktOk_iff.1 h
 exact mktOk_iff.2 ⟨rows, tick_ok h hc⟩
theorem mktNew_ok {p : List Int} (hp : monOk p = true) (hs : monSum p ≤ 100000) : MOk (mktNew p) rows0 := by
 have e : mktNew p = ⟨[], p, [], 0, [0, 0, 0, 0, 0], [0, 0, 0, 0, 0]⟩ := by simp [mktNew, hp, hs]
 rw [e]
 refine ⟨rfl, hp, by simp, by simp, rfl, rfl, ⟨by simp, by simp⟩, rfl, ?_⟩
 rw [monSum_eq hp] at hs
 simpa [heldSum] using hs
end Go.Proofs.YtnnoiagommiapaaGreat.Sw
