/-
  Texts joined: Plain6, Plain7.
-/
import Derived.Test.YtdcjadgflenejaaPk16
namespace Go.Proofs.Ytdcjadgflenejaa.Sw
set_option maxRecDepth 100000
set_option linter.unusedSimpArgs false
set_option linter.unusedVariables false
open Go.RowKit (wrap64)

theorem root_parts {xs : List Int} (h : 2 ≤ xs.length) : root xs = pair (root (xs.take (split xs.length))) (root (xs.drop (split xs.length))) := by
  match xs, h with
  | x :: y :: r, _ => rw [root]; rfl
theorem split_mid {m n : Nat} (h1 : split n < m) (h2 : m ≤ n) (h3 : 2 ≤ n) : split m = split n := by
  unfold split at *
  have e : (m - 1).log2 = (n - 1).log2 := by
    have hn := (Nat.log2_eq_iff (n := n - 1) (k := (n - 1).log2) (by omega)).1 rfl
    exact (Nat.log2_eq_iff (by omega)).2 ⟨by omega, by omega⟩
  rw [e]
theorem grow_shows : ∀ (n : Nat) (l : List Int) (m : Nat) (old : Int) (known : Bool), 1 ≤ m → m ≤ l.length → l.length ≤ n → (known = true → old = root (l.take m)) →
    grR m l.length old (grow n l m known).reverse known = some (root (l.take m), root l)
  | 0, l, m, old, known, h1, h2, h3, _ => by omega
  | n + 1, l, m, old, known, h1, h2, h3, ho => by
    rw [grow]
    by_cases hm : m = l.length
    · rw [if_pos hm]
      have ht : l.take m = l := List.take_of_length_le (by omega)
      rw [ht] at ho ⊢
      cases known with
      | true => simp [grR, hm, ho rfl]
      | false => simp [grR, hm]
    · rw [if_neg hm]
      have h2' : 2 ≤ l.length := by omega
      have hs := split_lt h2'
      have hp := split_pos l.length
      have hr := root_parts h2'
      by_cases hk : m ≤ split l.length
      · rw [if_pos hk, List.reverse_append, List.reverse_singleton, List.singleton_append, grR, if_neg hm, if_pos hk]
        have hl : (l.take (split l.length)).length = split l.length := by rw [List.length_take]; omega
        have ht : (l.take (split l.length)).take m = l.take m := by rw [List.take_take, Nat.min_eq_left hk]
        have ih := grow_shows n (l.take (split l.length)) m old known h1 (by omega) (by omega) (by rw [ht]; exact ho)
        rw [hl, ht] at ih
        rw [ih, hr]
        rfl
      · rw [if_neg hk, List.reverse_append, List.reverse_singleton, List.singleton_append, grR, if_neg hm, if_neg hk]
        have hl : (l.drop (split l.length)).length = l.length - split l.length := List.length_drop ..
        have ih := grow_shows n (l.drop (split l.length)) (m - split l.length) old false (by omega) (by omega) (by omega) (by simp)
        rw [hl] at ih
        rw [ih, hr]
        have hlm : (l.take m).length = m := by rw [List.length_take]; omega
        have hrm := root_parts (xs := l.take m) (by omega)
        rw [hlm, split_mid (by omega) h2 h2', List.take_take, Nat.min_eq_left (by omega), List.drop_take] at hrm
        rw [hrm]
        rfl
theorem con_shows {l : List Int} {m : Nat} (h : treOk l = true) (h1 : 1 ≤ m) (h2 : m ≤ l.length) : conCheck m (root (l.take m)) l.length (root l) (conProof l m) = true := by
  have hl := treOk_iff.1 h
  have hp := conProof_ok l m
  have hc : conProof l m = growth l m true := by
    unfold conProof
    rw [if_pos (by simp only [Bool.and_eq_true, inR_iff]; exact ⟨h, by omega⟩)]
    rfl
  have hs := grow_shows l.length l m (root (l.take m)) true h1 h2 (Nat.le_refl _) (fun _ => rfl)
  unfold conCheck
  rw [Bool.and_eq_true, Bool.and_eq_true, Bool.and_eq_true, Bool.and_eq_true, Bool.and_eq_true, inR_iff, inR_iff]
  refine ⟨⟨⟨⟨⟨by omega, by omega⟩, root_mix _ (all_take hl.2)⟩, root_mix _ hl.2⟩, hp⟩, ?_⟩
  rw [hc]
  show (grR (m : Int).toNat (l.length : Int).toNat _ (grow l.length l m true).reverse true == _) = true
  rw [Int.toNat_natCast, Int.toNat_natCast, hs]
  simp
theorem head_shape {log : List Ent} {h : Head} (e : hedOf log = some h) : h.size = log.length ∧ h.log = root (log.map entLeaf) := by
  obtain ⟨rows, _, rfl⟩ := hedOf_some.1 e
  exact ⟨rfl, rfl⟩
/-- The head of all entries is shown to follow that of the first so many. -/
theorem follows {log : List Ent} {h x : Head} (ho : Of log h) (e : hedOf log = some x) : hedFollows h x (hedProof log h.size) = true := by
  obtain ⟨hs, hh⟩ := hedAt_some.1 ho
  have ok1 := hedOf_ok hh
  have ok2 := hedOf_ok e
  have sh1 := head_shape hh
  have sh2 := head_shape e
  have h40 : log.length ≤ 40 := by
    obtain ⟨rows, hr, _⟩ := hedOf_some.1 e
    exact (ownFold_some.1 hr).1
  unfold hedFollows
  rw [ok1.1, ok2.1]
  have hle : h.size ≤ x.size := by omega
  have heq : (decide (h.size ≠ x.size) || decide (h = x)) = true := by
    by_cases hx : h.size = x.size
    · rw [List.take_of_length_le (by omega)] at hh
      rw [hh] at e
      simp [Option.some.inj e]
    · simp [hx]
  rw [heq, decide_eq_true hle]
  simp only [Bool.and_self, Bool.true_and]
  have hp : hedProof log h.size = conProof (log.map entLeaf) h.size := by simp [hedProof, h40]
  rw [hp]
  by_cases h0 : h.size = 0
  · rw [if_pos h0, h0]
    have : inR (0 : Int) 1 ((log.map entLeaf).length) = false := by simp [inR]
    have e0 : conProof (log.map entLeaf) 0 = [] := by unfold conProof; rw [this, Bool.and_false]; rfl
    rw [e0]; rfl
  · rw [if_neg h0]
    have hto : treOk (log.map entLeaf) = true := treOk_iff.2 ⟨by simpa using h40, entLeaves_mix log⟩
    have hc := con_shows (l := log.map entLeaf) (m := h.size.toNat) hto (by omega) (by rw [List.length_map]; omega)
    rw [← List.map_take, List.length_map] at hc
    rw [sh1.2, sh2.2, sh2.1]
    have e1 : ((h.size.toNat : Nat) : Int) = h.size := by omega
    rw [e1] at hc
    exact hc

/-! ### what is there can be shown -/
theorem incl_len : ∀ (n : Nat) (l : List Int) (i : Nat), i < l.length → (incl n l i).length ≤ l.length - 1
  | 0, l, i, h => by simp [incl]
  | n + 1, l, i, h => by
    rw [incl]
    split
    · simp
    · have hs := split_lt (n := l.length) (by omega)
      have hp := split_pos l.length
      split
      · have := incl_len n (l.take (split l.length)) i (by rw [List.length_take]; omega)
        rw [List.length_take] at this
        simp only [List.length_append, List.length_singleton]
        omega
      · have := incl_len n (l.drop (split l.length)) (i - split l.length) (by rw [List.length_drop]; omega)
        rw [List.length_drop] at this
        simp only [List.length_append, List.length_singleton]
        omega
theorem incl_mix : ∀ (n : Nat) (l : List Int) (i : Nat), l.all mixOk = true → (incl n l i).all mixOk = true
  | 0, l, i, h => by simp [incl]
  | n + 1, l, i, h => by
    rw [incl]
    split
    · rfl
    · split
      · simp [incl_mix n _ i (all_take h), root_mix _ (all_drop h)]
      · simp [incl_mix n _ _ (all_drop h), root_mix _ (all_take h)]
theorem incl_shows : ∀ (n : Nat) (l : List Int) (i : Nat) (x : Int), l[i]? = some x → l.length ≤ n → upR l.length i x (incl n l i).reverse = (root l, true)
  | 0, l, i, x, h, hn => by have := (List.getElem?_eq_some_iff.1 h).1; omega
  | n + 1, l, i, x, h, hn => by
    have hi := (List.getElem?_eq_some_iff.1 h).1
    rw [incl]
    by_cases h1 : l.length ≤ 1
    · rw [if_pos h1]
      match l, h, hi, h1 with
      | [y], h, hi, h1 =>
        have : i = 0 := by simpa using hi
        subst this
        have : y = x := by simpa using h
        subst this
        simp [upR, root]
    · rw [if_neg h1]
      have hs := split_lt (n := l.length) (by omega)
      have hp := split_pos l.length
      have hr := root_parts (xs := l) (by omega)
      by_cases hk : i < split l.length
      · rw [if_pos hk, List.reverse_append, List.reverse_singleton, List.singleton_append, upR, if_neg h1, if_pos hk]
        have hl : (l.take (split l.length)).length = split l.length := by rw [List.length_take]; omega
        have ih := incl_shows n (l.take (split l.length)) i x (by rw [List.getElem?_take, if_pos hk]; exact h) (by omega)
        rw [hl] at ih
        rw [ih, hr]
      · rw [if_neg hk, List.reverse_append, List.reverse_singleton, List.singleton_append, upR, if_neg h1, if_neg hk]
        have hl : (l.drop (split l.length)).length = l.length - split l.length := List.length_drop ..
        have ih := incl_shows n (l.drop (split l.length)) (i - split l.length) x (by rw [List.getElem?_drop, show split l.length + (i - split l.length) = i from by omega]; exact h) (by omega)
        rw [hl] at ih
        rw [ih, hr]
theorem leavesFrom_get : ∀ (rows : List Row) (t : Int) (k : Nat) (r : Row), rows[k]? = some r → (leavesFrom t rows)[k]? = some (ownLeaf (t + k) r)
  | [], t, k, r, h => by simp at h
  | x :: xs, t, 0, r, h => by
    simp at h
    subst h
    simp [leavesFrom]
  | x :: xs, t, k + 1, r, h => by
    have := leavesFrom_get xs (t + 1) k r (by simpa using h)
    rw [leavesFrom, List.getElem?_cons_succ, this]
    congr 2
    omega
theorem leavesFrom_len : ∀ (rows : List Row) (t : Int), (leavesFrom t rows).length = rows.length
  | [], _ => rfl
  | r :: rs, t => by simp [leavesFrom, leavesFrom_len rs]
theorem ownLeaves_len (rows : List Row) : (ownLeaves rows).length = rows.length := leavesFrom_len rows 0
theorem rowAt_get {rows : List Row} (h : ownOk rows = true) {t : Int} (ht : 0 ≤ t ∧ t ≤ 7) : rows[t.toNat]? = some (rowAt rows t) := by
  have h8 := ownOk_len h
  obtain ⟨r, hr⟩ : ∃ r, rows[t.toNat]? = some r := ⟨_, List.getElem?_eq_getElem (by omega)⟩
  rw [rowAt, getD_of hr]
  exact hr
/-- How a ticket stands is shown under the root of all rows. -/
theorem own_shows {rows : List Row} (h : ownOk rows = true) {t : Int} (ht : 0 ≤ t ∧ t ≤ 7) : ownCheck (ownRoot rows) t (rowAt rows t) (ownProof rows t) = true := by
  have h8 := ownOk_len h
  have hit : inR t 0 7 = true := inR_iff.2 ht
  have hg := leavesFrom_get rows 0 t.toNat _ (rowAt_get h ht)
  rw [show (0 : Int) + (t.toNat : Nat) = t from by omega] at hg
  have hl := ownLeaves_len rows
  have hs := incl_shows (ownLeaves rows).length (ownLeaves rows) t.toNat _ hg (Nat.le_refl _)
  have hp : ownProof rows t = inclusion (ownLeaves rows) t.toNat := by simp [ownProof, h, hit]
  have hr : ownRoot rows = root (ownLeaves rows) := by simp [ownRoot, h]
  unfold ownCheck treCheck
  rw [hit, Bool.true_and, hp, hr]
  have htp : treOk (inclusion (ownLeaves rows) t.toNat) = true := by
    have hm := incl_mix (ownLeaves rows).length (ownLeaves rows) t.toNat (ownLeaves_mix rows)
    have hn := incl_len (ownLeaves rows).length (ownLeaves rows) t.toNat (by omega)
    exact treOk_iff.2 ⟨by unfold inclusion; omega, hm⟩
  have hu : up 8 t.toNat (ownLeaf t (rowAt rows t)) (inclusion (ownLeaves rows) t.toNat) = (root (ownLeaves rows), true) := by
    unfold up inclusion
    rw [hl, h8] at hs
    rw [hl, h8]
    exact hs
  unfold treUp
  rw [if_pos (by
    simp only [Bool.and_eq_true, inR_iff]
    refine ⟨⟨⟨⟨by omega, by omega⟩, ownLeaf_mix _ _⟩, htp⟩, ?_⟩
    show (up 8 t.toNat _ _).2 = true
    rw [hu])]
  show (some (up 8 t.toNat _ _).1 == _) = true
  rw [hu]
  simp
end Go.Proofs.Ytdcjadgflenejaa.Sw

namespace Go.Proofs.Ytdcjadgflenejaa.Sw
set_option maxRecDepth 100000
set_option linter.unusedSimpArgs false
set_option linter.unusedVariables false
open Go.RowKit (wrap64)

/-- What came of a request. -/
inductive Did (m : Mkt) (rows : List Row) (r : Req) : Mkt → Int → Prop
  | again : r.n = lastOf m.nums r.user → Did m rows r m (lastOf m.said r.user)
  | old : r.n < lastOf m.nums r.user → Did m rows r m 7
  | no (a : Int) : lastOf m.nums r.user < r.n → 2 ≤ a → a ≤ 6 → Did m rows r (noted m r a) a
  | yes (x : Mkt) : lastOf m.nums r.user < r.n → DoneBy m rows r x → Eff m x → Did m rows r (noted x r 1) 1
theorem did {m : Mkt} {rows : List Row} {r : Req} (h : MOk m rows) (hr : reqOk r = true) : Did m rows r (doIt m r).1 (doIt m r).2 := by
  unfold doIt
  split
  · exact .again ‹_›
  split
  · exact .old ‹_›
  · have ha := effect_ans m r
    have he := effect_eff h hr
    show Did m rows r (noted (effect m r).1 r (effect m r).2) (effect m r).2
    rcases effect_done h hr with ⟨h1, h2⟩ | ⟨h1, h2⟩
    · rw [h2]
      exact .no _ (by omega) (by omega) (by omega)
    · rw [h1]
      exact .yes _ (by omega) h2 he
theorem lastOf_noted {m x : Mkt} {r : Req} {a : Int} {rows : List Row} (h : MOk m rows) (hr : reqOk r = true) (hn : x.nums = m.nums) (hs : x.said = m.said) :
    lastOf (noted x r a).nums r.user = r.n ∧ lastOf (noted x r a).said r.user = a := by
  have hr := reqOk_iff.1 hr
  constructor
  · show lastOf (x.nums.set _ _) _ = _
    rw [lastOf_set (by rw [hn, h.nlen]) hr.1 hr.1.1, if_pos rfl]
  · show lastOf (x.said.set _ _) _ = _
    rw [lastOf_set (by rw [hs, h.slen]) hr.1 hr.1.1, if_pos rfl]

/-! ### deals by their tickets -/
theorem dealOf_iff {clock : Int} {rows : List Row} {ds : List Deal} (h : DOk clock rows ds) {t : Int} {d : Deal} : dealOf ds t = some d ↔ d ∈ ds ∧ d.ticket = t := by
  unfold dealOf
  constructor
  · intro e
    exact ⟨List.mem_of_find?_eq_some e, by have := List.find?_some e; simpa using this⟩
  · rintro ⟨h1, h2⟩
    cases e : ds.find? (fun d => decide (d.ticket = t)) with
    | none =>
      have := List.find?_eq_none.1 e d h1
      simp [h2] at this
    | some d' =>
      have h3 := List.mem_of_find?_eq_some e
      have h4 : d'.ticket = t := by have := List.find?_some e; simpa using this
      obtain ⟨i, hi, rfl⟩ := List.getElem_of_mem h1
      obtain ⟨j, hj, rfl⟩ := List.getElem_of_mem h3
      have := h.inj (List.getElem?_eq_getElem hi) (List.getElem?_eq_getElem hj) (by rw [h2, h4])
      subst this
      rfl
theorem dealOf_none {ds : List Deal} {t : Int} : dealOf ds t = none ↔ ∀ d ∈ ds, d.ticket ≠ t := by
  unfold dealOf
  rw [List.find?_eq_none]
  simp
theorem dealOf_same {c c' : Int} {rows rows' : List Row} {ds es : List Deal} (h : DOk c rows ds) (k : DOk c' rows' es) {t : Int} (he : ∀ d, d.ticket = t → (d ∈ ds ↔ d ∈ es)) : dealOf ds t = dealOf es t := by
  cases e : dealOf ds t with
  | none =>
    symm
    rw [dealOf_none] at e ⊢
    intro d hd ht
    exact e d ((he d ht).2 hd) ht
  | some d =>
    symm
    rw [dealOf_iff h] at e
    rw [dealOf_iff k]
    exact ⟨(he d e.2).1 e.1, e.2⟩
theorem dealOf_at {clock : Int} {rows : List Row} {ds : List Deal} (h : DOk clock rows ds) {k : Nat} {d : Deal} (hk : ds[k]? = some d) : dealOf ds d.ticket = some d := (dealOf_iff h).2 ⟨List.mem_of_getElem? hk, rfl⟩
theorem erase_mem {ds : List Deal} {k : Nat} {d x : Deal} (hk : ds[k]? = some d) (hx : x.ticket ≠ d.ticket) : x ∈ ds.eraseIdx k ↔ x ∈ ds := by
  rw [List.mem_eraseIdx_iff_getElem?]
  constructor
  · rintro ⟨i, _, hi⟩
    exact List.mem_of_getElem? hi
  · intro h
    obtain ⟨i, hi⟩ := List.getElem?_of_mem h
    refine ⟨i, ?_, hi⟩
    rintro rfl
    rw [hk] at hi
    exact hx (by rw [Option.some.inj hi])
theorem set_mem {ds : List Deal} {k : Nat} {d e x : Deal} (hk : ds[k]? = some d) (h1 : x.ticket ≠ d.ticket) (h2 : x.ticket ≠ e.ticket) : x ∈ ds.set k e ↔ x ∈ ds := by
  have hk' := (List.getElem?_eq_some_iff.1 hk).1
  constructor
  · intro h
    rcases List.mem_or_eq_of_mem_set h with h | rfl
    · exact h
    · exact absurd rfl h2
  · intro h
    obtain ⟨i, hi⟩ := List.getElem?_of_mem h
    have hne : k ≠ i := by
      rintro rfl
      rw [hk] at hi
      exact h1 (by rw [Option.some.inj hi])
    exact List.mem_of_getElem? (i := i) (by rw [List.getElem?_set, if_neg hne]; exact hi)

/-! ### what a request leaves apart -/
/-- Rows behind what was done. -/
theorem DoneBy.fold {m x : Mkt} {rows : List Row} {r : Req} (h : MOk m rows) (hr : reqOk r = true) (d : DoneBy m rows r x) :
    ∃ rows', ownFold x.log = some rows' ∧ ∀ t, 0 ≤ t → t ≠ r.ticket → rowAt rows' t = rowAt rows t := by
  have hr := reqOk_iff.1 hr
  have ho := ownFold_ok h.fold
  have put : ∀ (e : Ent), e.ticket = r.ticket → ownFits rows e = true → m.log.length < 40 → ∃ rows', ownFold (m.log ++ [e]) = some rows' ∧ ∀ t, 0 ≤ t → t ≠ r.ticket → rowAt rows' t = rowAt rows t := by
    intro e he hf hl
    refine ⟨_, ownFold_snoc h.fold hl hf, fun t h0 ht => ?_⟩
    rw [rowAt_put (ownOk_len ho) (by rw [he]; exact hr.2.2.2.1) h0, if_neg (by rw [he]; exact ht)]
  cases d with
  | issue k1 h1 h2 h3 hl h4 =>
    refine put ⟨1, r.ticket, r.who, r.price⟩ rfl (ownFits_iff.2 ⟨ho, entOk_iff.2 ?_, (fitsRow_iff (.inl rfl)).2 (.inl ⟨rfl, h3⟩)⟩) hl
    dsimp only
    omega
  | offer => exact ⟨rows, h.fold, fun _ _ _ => rfl⟩
  | drop => exact ⟨rows, h.fold, fun _ _ _ => rfl⟩
  | fund => exact ⟨rows, h.fold, fun _ _ _ => rfl⟩
  | settle k d k5 hk hd ht hh hs hl hm =>
    have hdo := dealOk_iff.1 (h.deals.get hd)
    have hcap := entCap_le (rowAt rows d.ticket).face
    have hb : 0 < d.buyer := by simpa [held] using hh
    refine put ⟨2, r.ticket, d.buyer, d.price⟩ rfl (ownFits_iff.2 ⟨ho, entOk_iff.2 ?_, (fitsRow_iff (.inr (.inl rfl))).2 (.inr (.inl ⟨rfl, ?_⟩))⟩) hl <;> dsimp only
    · omega
    · rw [← ht]
      refine ⟨by omega, ?_, hdo.2.2.2.1, hdo.2.2.2.2.1.2⟩
      rw [hdo.2.2.1]; omega
  | enter k6 h1 h2 h3 hl =>
    refine put ⟨3, r.ticket, r.user, 0⟩ rfl (ownFits_iff.2 ⟨ho, entOk_iff.2 ?_, (fitsRow_iff (.inr (.inr rfl))).2 (.inr (.inr ⟨rfl, h1, h2⟩))⟩) hl
    dsimp only
    omega
/-- Behind what was done all other tickets are offered as they were. -/
theorem DoneBy.apart {m x : Mkt} {rows : List Row} {r : Req} (h : MOk m rows) (d : DoneBy m rows r x) (e : Eff m x) {t : Int} (ht : t ≠ r.ticket) : dealOf m.deals t = dealOf x.deals t := by
  obtain ⟨rows', _, hx⟩ := e.rows
  refine dealOf_same h.deals hx fun y hy => ?_
  cases d with
  | issue => exact Iff.rfl
  | offer =>
    rw [insertDeal_mem]
    constructor
    · exact .inr
    · rintro (rfl | h)
      · exact absurd hy.symm ht
      · exact h
  | drop k d k3 h1 hk hd hdt => exact (erase_mem hd (by rw [hdt, hy]; exact ht)).symm
  | fund k d k4 hk hd hdt => exact (set_mem hd (by rw [hdt, hy]; exact ht) (by dsimp only; rw [hdt, hy]; exact ht)).symm
  | settle k d k5 hk hd hdt => exact (erase_mem hd (by rw [hdt, hy]; exact ht)).symm
  | enter => exact Iff.rfl

/-! ### the clock -/
theorem back_idle {clock : Int} : ∀ (ds : List Deal) (p : List Int), (∀ d ∈ ds, (held d && decide (d.due < clock)) = false) → ds.foldl (backPurse clock) p = p ∧ ds.map (backDeal clock) = ds
  | [], p, _ => ⟨rfl, rfl⟩
  | d :: ds, p, h => by
    have h1 := h d (List.mem_cons_self ..)
    have h2 := back_idle ds p (fun x hx => h x (List.mem_cons_of_mem _ hx))
    rw [List.foldl_cons, List.map_cons]
    have e1 : backPurse clock p d = p := by unfold backPurse; rw [if_neg (by rw [h1]; simp)]
    have e2 : backDeal clock d = d := by unfold backDeal; rw [if_neg (by rw [h1]; simp)]
    rw [e1, e2, h2.1, h2.2]
    exact ⟨rfl, rfl⟩
/-- So many ticks, one behind the other; none, if the clock ends before. -/
def ticks : Nat → Mkt → Option Mkt
  | 0, m => some m
  | n + 1, m => if m.clock = 99999 then none else ticks n (tick m)
theorem tick_held {m : Mkt} {d : Deal} (hd : d ∈ (tick m).deals) (hh : held d = true) : d ∈ m.deals := by
  simp only [tick, List.mem_map] at hd
  obtain ⟨x, hx, rfl⟩ := hd
  unfold backDeal at hh ⊢
  split at hh
  · simp [held] at hh
  · rename_i hc
    rw [if_neg hc]
    exact hx
theorem ticks_ok : ∀ (n : Nat) (m x : Mkt) (rows : List Row), MOk m rows → ticks n m = some x → MOk x rows ∧ x.clock = m.clock + n ∧ total x = total m ∧ x.log = m.log ∧ ∀ d ∈ x.deals, held d = true → d ∈ m.deals
  | 0, m, x, rows, h, e => by
    obtain rfl : m = x := by simpa [ticks] using e
    exact ⟨h, by omega, rfl, rfl, fun d hd _ => hd⟩
  | n + 1, m, x, rows, h, e => by
    rw [ticks] at e
    split at e
    · cases e
    · rename_i hc
      obtain ⟨h1, h2, h3, h4, h5⟩ := ticks_ok n (tick m) x rows (tick_ok h hc) e
      have hck : (tick m).clock = m.clock + 1 := rfl
      rw [hck] at h2
      exact ⟨h1, by omega, by rw [h3, tick_total h], h4, fun d hd hh => tick_held (h5 d hd hh) hh⟩
/-- Behind six ticks nothing is held, and purses have what was. -/
theorem ends {m x : Mkt} {rows : List Row} (h : MOk m rows) (e : ticks 6 m = some x) : mktHeld x = 0 ∧ monSum x.purses = monSum m.purses + mktHeld m := by
  obtain ⟨h1, h2, h3, h4, h5⟩ := ticks_ok 6 m x rows h e
  have hno : ∀ d ∈ x.deals, heldIn d = 0 := by
    intro d hd
    unfold heldIn
    split
    · rename_i hh
      have ha := dealOk_iff.1 (h1.deals.1 d hd)
      have hb := dealOk_iff.1 (h.deals.1 d (h5 d hd hh))
      have hc : 0 < d.buyer := by simpa [held] using hh
      omega
    · rfl
  have h0 : heldSum x.deals = 0 := by
    unfold heldSum
    have key : ∀ ds : List Deal, (∀ d ∈ ds, heldIn d = 0) → (ds.map heldIn).sum = 0 := by
      intro ds
      induction ds with
      | nil => intro _; rfl
      | cons d ds ih =>
        intro hd
        rw [List.map_cons, List.sum_cons, hd d (List.mem_cons_self ..), ih (fun x hx => hd x (List.mem_cons_of_mem _ hx))]
        rfl
    exact key _ hno
  have ht := h.total
  have hs := monSum_eq h1.mon
  unfold total at h3
  refine ⟨by rw [mktHeld, heldOf_eq h1.deals h1.dlen, h0], ?_⟩
  rw [ht, hs]
  omega
end Go.Proofs.Ytdcjadgflenejaa.Sw

