/-
  Texts joined: Plain3.
-/
import Derived.Test.YtdcjadgflenejaaPk7
namespace Go.Proofs.Ytdcjadgflenejaa.Sw
set_option maxRecDepth 100000
set_option linter.unusedSimpArgs false
set_option linter.unusedVariables false
open Go.RowKit (wrap64)

theorem mix_iff {a : Int} : mixOk a = true ↔ 0 ≤ a ∧ a ≤ 65520 := by simp [mixOk, inR_iff]
theorem pair_mix (a b : Int) : mixOk (pair a b) = true := by
  rw [mix_iff]; unfold pair
  exact ⟨Int.emod_nonneg _ (by omega), by have := Int.emod_lt_of_pos (a * 8191 + b * 127 + a * b + 31) (show (0 : Int) < 65521 by omega); omega⟩
theorem root_mix : ∀ (xs : List Int), xs.all mixOk = true → mixOk (root xs) = true
  | [], _ => by simp [root]; decide
  | [x], h => by simpa [root] using h
  | x :: y :: r, _ => by rw [root]; exact pair_mix _ _
theorem mixLeaf_mix (l : List Int) : mixOk (mixLeaf l) = true := by
  rw [mix_iff]; unfold mixLeaf
  exact ⟨Int.emod_nonneg _ (by omega), by have := Int.emod_lt_of_pos (mixLeafFrom 7 l * 31 + l.length) (show (0 : Int) < 65521 by omega); omega⟩
theorem ownLeaf_mix (t : Int) (r : Row) : mixOk (ownLeaf t r) = true := by
  unfold ownLeaf
  split
  · exact mixLeaf_mix _
  · rfl
theorem leavesFrom_mix : ∀ (rows : List Row) (t : Int), (leavesFrom t rows).all mixOk = true
  | [], _ => rfl
  | r :: rs, t => by simp only [leavesFrom, List.all_cons, ownLeaf_mix, leavesFrom_mix rs, Bool.and_self]
theorem ownLeaves_mix (rows : List Row) : (ownLeaves rows).all mixOk = true := leavesFrom_mix rows 0
theorem entLeaves_mix (es : List Ent) : (es.map entLeaf).all mixOk = true := by
  rw [List.all_map, List.all_eq_true]; exact fun e _ => mixLeaf_mix _
theorem all_take {p : Int → Bool} {xs : List Int} {k : Nat} (h : xs.all p = true) : (xs.take k).all p = true := by
  rw [List.all_eq_true] at *; exact fun x hx => h x (List.mem_of_mem_take hx)
theorem all_drop {p : Int → Bool} {xs : List Int} {k : Nat} (h : xs.all p = true) : (xs.drop k).all p = true := by
  rw [List.all_eq_true] at *; exact fun x hx => h x (List.mem_of_mem_drop hx)
theorem grow_ok : ∀ (n : Nat) (l : List Int) (m : Nat) (known : Bool), l.all mixOk = true → 1 ≤ m → m ≤ l.length → (grow n l m known).all mixOk = true ∧ (grow n l m known).length ≤ l.length
  | 0, l, m, known, _, _, _ => by simp [grow]
  | n + 1, l, m, known, h, h0, h1 => by
    rw [grow]
    split
    · rename_i hm
      split
      · simp
      · simp [root_mix l h]; omega
    · have hs := split_lt (n := l.length) (by omega)
      have hp := split_pos l.length
      split
      · have ih := grow_ok n (l.take (split l.length)) m known (all_take h) h0 (by rw [List.length_take]; omega)
        rw [List.length_take] at ih
        simp only [List.all_append, List.all_cons, List.all_nil, Bool.and_true, Bool.and_eq_true, List.length_append, List.length_singleton]
        exact ⟨⟨ih.1, root_mix _ (all_drop h)⟩, by omega⟩
      · have ih := grow_ok n (l.drop (split l.length)) (m - split l.length) false (all_drop h) (by omega) (by rw [List.length_drop]; omega)
        rw [List.length_drop] at ih
        simp only [List.all_append, List.all_cons, List.all_nil, Bool.and_true, Bool.and_eq_true, List.length_append, List.length_singleton]
        exact ⟨⟨ih.1, root_mix _ (all_take h)⟩, by omega⟩
theorem treOk_iff {l : List Int} : treOk l = true ↔ l.length ≤ 40 ∧ l.all mixOk = true := by simp [treOk]
theorem conProof_ok (l : List Int) (m : Int) : treOk (conProof l m) = true := by
  unfold conProof
  split
  · rename_i h
    simp only [Bool.and_eq_true, inR_iff] at h
    have h1 := treOk_iff.1 h.1
    have := grow_ok l.length l m.toNat true h1.2 (by omega) (by omega)
    exact treOk_iff.2 ⟨by unfold growth; omega, this.1⟩
  · rfl
theorem hedProof_ok (l : List Ent) (m : Int) : treOk (hedProof l m) = true := by
  unfold hedProof
  split
  · exact conProof_ok _ _
  · rfl
theorem hedOk_iff {h : Head} : hedOk h = true ↔ (0 ≤ h.size ∧ h.size ≤ 40) ∧ mixOk h.log = true ∧ mixOk h.own = true := by
  simp [hedOk, inR_iff, and_assoc]
theorem ownRoot_mix (rows : List Row) : mixOk (ownRoot rows) = true := by
  unfold ownRoot
  split
  · exact root_mix _ (ownLeaves_mix _)
  · rfl
theorem hedOf_some {l : List Ent} {h : Head} : hedOf l = some h ↔ ∃ rows, ownFold l = some rows ∧ h = ⟨l.length, root (l.map entLeaf), ownRoot rows⟩ := by
  unfold hedOf
  rw [Option.map_eq_some_iff]
  constructor
  · rintro ⟨r, h1, rfl⟩; exact ⟨r, h1, rfl⟩
  · rintro ⟨r, h1, rfl⟩; exact ⟨r, h1, rfl⟩
theorem hedOf_ok {l : List Ent} {h : Head} (e : hedOf l = some h) : hedOk h = true ∧ h.size = l.length := by
  obtain ⟨rows, h1, rfl⟩ := hedOf_some.1 e
  have := (ownFold_some.1 h1).1
  rw [hedOk_iff]
  exact ⟨⟨by dsimp only; omega, root_mix _ (entLeaves_mix _), ownRoot_mix _⟩, rfl⟩
theorem hedOf_getD_ok (l : List Ent) : hedOk ((hedOf l).getD headZ) = true := by
  cases h : hedOf l with
  | none => decide
  | some x => exact (hedOf_ok h).1

/-! ### gates -/
theorem rises_iff : ∀ (xs : List Int) (p : Int), risesFrom p xs = true ↔ (∀ x ∈ xs, (0 ≤ x ∧ x ≤ 7) ∧ p < x) ∧ xs.Pairwise (· < ·)
  | [], p => by simp [risesFrom]
  | x :: xs, p => by
    rw [risesFrom, Bool.and_eq_true, Bool.and_eq_true, inR_iff, decide_eq_true_eq, rises_iff xs]
    simp only [List.mem_cons, forall_eq_or_imp, List.pairwise_cons]
    constructor
    · rintro ⟨⟨h1, h2⟩, h3, h4⟩
      exact ⟨⟨⟨h1, h2⟩, fun y hy => ⟨(h3 y hy).1, Int.lt_trans h2 (h3 y hy).2⟩⟩, fun y hy => (h3 y hy).2, h4⟩
    · rintro ⟨⟨⟨h1, h2⟩, h3⟩, h4, h5⟩
      exact ⟨⟨h1, h2⟩, fun y hy => ⟨(h3 y hy).1, h4 y hy⟩, h5⟩
theorem gatOk_iff {g : Gate} : gatOk g = true ↔ hedOk g.head = true ∧ (∀ x ∈ g.done, 0 ≤ x ∧ x ≤ 7) ∧ g.done.Pairwise (· < ·) := by
  unfold gatOk
  rw [Bool.and_eq_true, rises_iff]
  constructor
  · rintro ⟨h1, h2, h3⟩; exact ⟨h1, fun x hx => (h2 x hx).1, h3⟩
  · rintro ⟨h1, h2, h3⟩; exact ⟨h1, fun x hx => ⟨h2 x hx, by have := h2 x hx; omega⟩, h3⟩
theorem insert_mem {d x : Int} : ∀ {ds : List Int}, x ∈ insert d ds ↔ x = d ∨ x ∈ ds
  | [] => by simp [insert]
  | y :: ys => by
    rw [insert]
    split
    · simp
    · rw [List.mem_cons, insert_mem, List.mem_cons]
      constructor
      · rintro (h | h | h)
        · exact .inr (.inl h)
        · exact .inl h
        · exact .inr (.inr h)
      · rintro (h | h | h)
        · exact .inr (.inl h)
        · exact .inl h
        · exact .inr (.inr h)
theorem insert_len {d : Int} : ∀ {ds : List Int}, (insert d ds).length = ds.length + 1
  | [] => rfl
  | y :: ys => by
    rw [insert]
    split
    · rfl
    · rw [List.length_cons, insert_len, List.length_cons]
theorem insert_rises {d : Int} : ∀ {ds : List Int}, ds.Pairwise (· < ·) → d ∉ ds → (insert d ds).Pairwise (· < ·)
  | [], _, _ => by simp [insert]
  | y :: ys, h, hn => by
    rw [List.pairwise_cons] at h
    simp only [List.mem_cons, not_or] at hn
    rw [insert]
    split
    · rw [List.pairwise_cons, List.pairwise_cons]
      refine ⟨fun x hx => ?_, h.1, h.2⟩
      rcases List.mem_cons.1 hx with rfl | hx
      · assumption
      · have := h.1 x hx; omega
    · rw [List.pairwise_cons]
      refine ⟨fun x hx => ?_, insert_rises h.2 hn.2⟩
      rcases insert_mem.1 hx with rfl | hx
      · omega
      · exact h.1 x hx
theorem hedFollows_ok {o h : Head} {p : List Int} (e : hedFollows o h p = true) : hedOk o = true ∧ hedOk h = true ∧ o.size ≤ h.size := by
  simp only [hedFollows, Bool.and_eq_true, decide_eq_true_eq] at e
  exact ⟨e.1.1.1.1, e.1.1.1.2, e.1.1.2⟩
theorem gatSync_ok {g : Gate} {h : Head} {p : List Int} (hg : gatOk g = true) : gatOk (gatSync g h p).1 = true := by
  unfold gatSync
  rw [if_pos hg]
  split
  · rename_i hf
    rw [gatOk_iff] at hg ⊢
    exact ⟨(hedFollows_ok hf).2.1, hg.2⟩
  · exact hg
theorem gatMay_facts {g : Gate} {t who : Int} {r : Row} {p : List Int} (h : gatMay g t who r p = true) : (1 ≤ who ∧ who ≤ 5) ∧ who = r.who ∧ r.used = false ∧ t ∉ g.done ∧ (0 ≤ t ∧ t ≤ 7) := by
  simp only [gatMay, ownCheck, Bool.and_eq_true, inR_iff, decide_eq_true_eq, Bool.not_eq_true'] at h
  refine ⟨h.1.1.1.1, h.1.1.1.2, h.1.1.2, ?_, h.2.1⟩
  have := h.1.2
  intro hm
  simp [hm] at this
theorem gatShow_ok {g : Gate} {t who : Int} {r : Row} {p : List Int} (hg : gatOk g = true) : gatOk (gatShow g t who r p).1 = true := by
  unfold gatShow
  rw [if_pos hg]
  split
  · rename_i hf
    have hf := gatMay_facts hf
    rw [gatOk_iff] at hg ⊢
    refine ⟨hg.1, fun x hx => ?_, insert_rises hg.2.2 hf.2.2.2.1⟩
    rcases insert_mem.1 hx with rfl | hx
    · exact hf.2.2.2.2
    · exact hg.2.1 x hx
  · exact hg
theorem gatNew_ok : gatOk gatNew = true := by
  rw [gatOk_iff]
  exact ⟨hedOf_getD_ok [], by simp [gatNew], by simp [gatNew]⟩

/-! ### worlds -/
structure WOk (w : World) : Prop where
  mkt : mktOk w.market = true
  first : monOk w.first = true
  lines : w.lines.length ≤ 300
  glen : w.gates.length = 2
  blen : w.bag.length ≤ 6
  lok : ∀ r ∈ w.lines, lineOk r = true
  gok : ∀ g ∈ w.gates, gatOk g = true
  bok : ∀ x ∈ w.bag, msgOk x = true
theorem wldOk_iff {w : World} : wldOk w = true ↔ WOk w := by
  simp only [wldOk, Bool.and_eq_true, decide_eq_true_eq, List.all_eq_true]
  constructor
  · rintro ⟨⟨⟨⟨⟨⟨⟨h1, h2⟩, h3⟩, h4⟩, h5⟩, h6⟩, h7⟩, h8⟩; exact ⟨h1, h2, h3, h4, h5, h6, h7, h8⟩
  · rintro ⟨h1, h2, h3, h4, h5, h6, h7, h8⟩; exact ⟨⟨⟨⟨⟨⟨⟨h1, h2⟩, h3⟩, h4⟩, h5⟩, h6⟩, h7⟩, h8⟩
theorem gateAt_ok {w : World} (h : WOk w) {k : Int} (hk : 0 ≤ k ∧ k ≤ 1) : gatOk (gateAt w k) = true := by
  unfold gateAt
  have hl := h.glen
  obtain ⟨g, hg⟩ : ∃ g, w.gates[k.toNat]? = some g := ⟨_, List.getElem?_eq_getElem (by omega)⟩
  rw [getD_of hg]
  exact h.gok g (List.mem_of_getElem? hg)
theorem msgAt_ok {w : World} (h : WOk w) {i : Int} (hi : 0 ≤ i ∧ i ≤ (w.bag.length : Int) - 1) : msgOk (msgAt w i) = true := by
  unfold msgAt
  obtain ⟨g, hg⟩ : ∃ g, w.bag[i.toNat]? = some g := ⟨_, List.getElem?_eq_getElem (by omega)⟩
  rw [getD_of hg]
  exact h.bok g (List.mem_of_getElem? hg)
theorem ask_ok {w : World} (h : WOk w) (r : Req) : WOk (ask w r).1 := by
  unfold ask
  split
  · rename_i hr
    simp only [Bool.and_eq_true, decide_eq_true_eq] at hr
    refine ⟨doIt_mktOk h.mkt hr.1, h.first, by simp; omega, h.glen, h.blen, fun x hx => ?_, h.gok, h.bok⟩
    rcases List.mem_append.1 hx with hx | hx
    · exact h.lok x hx
    · obtain rfl := List.mem_singleton.1 hx
      simp [lineOk, hr.1]
  · exact h
theorem tickW_ok {w : World} (h : WOk w) : WOk (tickW w) := by
  unfold tickW
  split
  · rename_i hr
    simp only [Bool.and_eq_true, decide_eq_true_eq] at hr
    refine ⟨tick_mktOk h.mkt hr.1, h.first, by simp; omega, h.glen, h.blen, fun x hx => ?_, h.gok, h.bok⟩
    rcases List.mem_append.1 hx with hx | hx
    · exact h.lok x hx
    · obtain rfl := List.mem_singleton.1 hx
      rfl
  · exact h
theorem foldLines_ok : ∀ (rs : List Req) (m x : Mkt), mktOk m = true → foldLines m rs = some x → mktOk x = true
  | [], m, x, h, e => by simp [foldLines] at e; rw [← e]; exact h
  | r :: rs, m, x, h, e => by
    rw [foldLines] at e
    split at e
    · split at e
      · cases e
      · exact foldLines_ok rs _ x (tick_mktOk h ‹_›) e
    · split at e
      · exact foldLines_ok rs _ x (doIt_mktOk h ‹_›) e
      · cases e
theorem wldFold_ok {first : List Int} {lines : List Req} {x : Mkt} (e : wldFold first lines = some x) : mktOk x = true := by
  unfold wldFold at e
  split at e
  · rename_i h
    simp only [Bool.and_eq_true, decide_eq_true_eq] at h
    exact foldLines_ok _ _ _ (mktOk_iff.2 ⟨_, mktNew_ok h.1.1 h.1.2⟩) e
  · cases e
theorem fall_ok {w : World} (h : WOk w) : WOk (fall w) := by
  refine ⟨?_, h.first, h.lines, h.glen, by simp [fall], h.lok, h.gok, by simp [fall]⟩
  show mktOk ((wldFold w.first w.lines).getD w.market) = true
  cases e : wldFold w.first w.lines with
  | none => exact h.mkt
  | some x => exact wldFold_ok e
theorem send_ok {w : World} (h : WOk w) (k : Int) : WOk (send w k) := by
  unfold send
  split
  · rename_i hr
    simp only [Bool.and_eq_true, decide_eq_true_eq, inR_iff] at hr
    refine ⟨h.mkt, h.first, h.lines, h.glen, by simp; omega, h.lok, h.gok, fun x hx => ?_⟩
    rcases List.mem_append.1 hx with hx | hx
    · exact h.bok x hx
    · obtain rfl := List.mem_singleton.1 hx
      simp only [msgOk, Bool.and_eq_true, inR_iff]
      exact ⟨⟨hr.1, hedOf_getD_ok _⟩, hedProof_ok _ _⟩
  · exact h
theorem lose_ok {w : World} (h : WOk w) (i : Int) : WOk (lose w i) :=
  ⟨h.mkt, h.first, h.lines, h.glen, Nat.le_trans (List.eraseIdx_sublist w.bag i.toNat).length_le h.blen, h.lok, h.gok, fun x hx => h.bok x ((List.eraseIdx_sublist w.bag i.toNat).subset hx)⟩
theorem setGate_ok {w : World} (h : WOk w) {k : Nat} {g : Gate} (hg : gatOk g = true) : WOk { w with gates := w.gates.set k g } := by
  refine ⟨h.mkt, h.first, h.lines, by simpa using h.glen, h.blen, h.lok, fun x hx => ?_, h.bok⟩
  rcases List.mem_or_eq_of_mem_set hx with hx | rfl
  · exact h.gok x hx
  · exact hg
theorem heard_ok {w : World} (h : WOk w) {x : Msg} (hx : msgOk x = true) : WOk (heard w x) := by
  simp only [msgOk, Bool.and_eq_true, inR_iff] at hx
  exact setGate_ok h (gatSync_ok (gateAt_ok h hx.1.1))
theorem hear_ok {w : World} (h : WOk w) {i : Int} (hi : 0 ≤ i ∧ i ≤ (w.bag.length : Int) - 1) : WOk (hear w i) := heard_ok (lose_ok h i) (msgAt_ok h hi)
theorem twice_ok {w : World} (h : WOk w) {i : Int} (hi : 0 ≤ i ∧ i ≤ (w.bag.length : Int) - 1) : WOk (twice w i) := by
  unfold twice
  split
  · refine ⟨h.mkt, h.first, h.lines, h.glen, by simp; omega, h.lok, h.gok, fun x hx => ?_⟩
    rcases List.mem_append.1 hx with hx | hx
    · exact h.bok x hx
    · obtain rfl := List.mem_singleton.1 hx
      exact msgAt_ok h hi
  · exact h
theorem showIt_ok {w : World} (h : WOk w) (k t who : Int) : WOk (showIt w k t who).1 := by
  unfold showIt
  split
  · rename_i hr
    simp only [Bool.and_eq_true, decide_eq_true_eq, inR_iff] at hr
    split
    · exact h
    · split
      · exact setGate_ok h (gatShow_ok (gateAt_ok h hr.1.1))
      · exact h
  · exact h
theorem tellOne_ok {w : World} (h : WOk w) (t : Int) : WOk (tellOne w t) := by
  unfold tellOne
  split
  · exact ask_ok h _
  · exact h
theorem tells_ok : ∀ (ts : List Int) {w : World}, WOk w → WOk (ts.foldl tellOne w)
  | [], _, h => h
  | t :: ts, _, h => tells_ok ts (tellOne_ok h t)
theorem tell_ok {w : World} (h : WOk w) (k : Int) : WOk (tell w k) := by
  unfold tell
  split
  · exact tells_ok _ h
  · exact h
theorem step_ok {w : World} (h : WOk w) (e : Ev) : WOk (step w e).1 := by
  unfold step
  split
  · exact ask_ok h _
  split
  · exact tickW_ok h
  split
  · exact fall_ok h
  split
  · exact send_ok h _
  split
  · dsimp only; split
    · exact hear_ok h (inR_iff.1 ‹_›)
    · exact h
  split
  · dsimp only; split
    · exact lose_ok h _
    · exact h
  split
  · dsimp only; split
    · exact twice_ok h (inR_iff.1 ‹_›)
    · exact h
  split
  · exact showIt_ok h _ _ _
  split
  · exact tell_ok h _
  · exact h
theorem wldNew_ok {p : List Int} (hp : monOk p = true) (hs : monSum p ≤ 100000) : WOk (wldNew p) := by
  have e : wldNew p = ⟨p, mktNew p, [], [gatNew, gatNew], []⟩ := by simp [wldNew, hp, hs]
  rw [e]
  exact ⟨mktOk_iff.2 ⟨_, mktNew_ok hp hs⟩, hp, by simp, rfl, by simp, by simp, by simp [gatNew_ok], by simp⟩
theorem run_ok : ∀ (es : List Ev) {w : World}, WOk w → WOk (runFrom w es)
  | [], _, h => h
  | e :: es, _, h => run_ok es (step_ok h e)
end Go.Proofs.Ytdcjadgflenejaa.Sw

