/-
  Texts joined: Plain3, Deep, Draw1, DrawE, Own, Seat, RowsW, Rows2, Heads, Law1, Own2, Draw2, Mon2, Law2, LawTo, LawEq, LawEq2.
-/
import Derived.Test.YtimpagcanengoaaPk1
import Derived.Laws.BitsAllLaws
import Derived.Deep.DeepCutAuto
import Derived.Maps.AppendAt
import Derived.OwnWalk
import Derived.Test.YtimpagcanengoaaProg
namespace Go.Proofs.Ytimpagcanengoaa.Sw
set_option maxRecDepth 100000
set_option linter.unusedSimpArgs false
set_option linter.unusedVariables false
open Go.RowKit (wrap64)

theorem mix_iff {a : Int} : mixOk a = true ↔ 0 ≤ a ∧ a ≤ 65520 := by simp [mixOk, inR_iff]
theorem pair_mix (a b : Int) : mixOk (pair a b) = true := by
  rw [mix_iff]; unfold pair
  exact ⟨Int.emod_nonneg _ (by omega), by have := Int.emod_lt_of_pos (a * 8191 + b * 127 + a * b + 31) (show (0 : Int) < 65521 by omega); omega⟩
theorem root_mix : ∀ (xs : List Int), xs.all mixOk = true → mixOk (root xs) = true
  | [], _ => by simp [root]; decide
  | [x], h => by simpa [root] using h
  | x :: y :: r, _ => by rw [root]; exact pair_mix _ _
theorem mixLeaf_mix (l : List Int) : mixOk (mixLeaf l) = true := by
  rw [mix_iff]; unfold mixLeaf
  exact ⟨Int.emod_nonneg _ (by omega), by have := Int.emod_lt_of_pos (mixLeafFrom 7 l * 31 + l.length) (show (0 : Int) < 65521 by omega); omega⟩
theorem ownLeaf_mix (t : Int) (r : Row) : mixOk (ownLeaf t r) = true := by
  unfold ownLeaf
  split
  · exact mixLeaf_mix _
  · rfl
theorem leavesFrom_mix : ∀ (rows : List Row) (t : Int), (leavesFrom t rows).all mixOk = true
  | [], _ => rfl
  | r :: rs, t => by simp only [leavesFrom, List.all_cons, ownLeaf_mix, leavesFrom_mix rs, Bool.and_self]
theorem ownLeaves_mix (rows : List Row) : (ownLeaves rows).all mixOk = true := leavesFrom_mix rows 0
theorem entLeaves_mix (es : List Ent) : (es.map entLeaf).all mixOk = true := by
  rw [List.all_map, List.all_eq_true]; exact fun e _ => mixLeaf_mix _
theorem all_take {p : Int → Bool} {xs : List Int} {k : Nat} (h : xs.all p = true) : (xs.take k).all p = true := by
  rw [List.all_eq_true] at *; exact fun x hx => h x (List.mem_of_mem_take hx)
theorem all_drop {p : Int → Bool} {xs : List Int} {k : Nat} (h : xs.all p = true) : (xs.drop k).all p = true := by
  rw [List.all_eq_true] at *; exact fun x hx => h x (List.mem_of_mem_drop hx)
theorem grow_ok : ∀ (n : Nat) (l : List Int) (m : Nat) (known : Bool), l.all mixOk = true → 1 ≤ m → m ≤ l.length → (grow n l m known).all mixOk = true ∧ (grow n l m known).length ≤ l.length
  | 0, l, m, known, _, _, _ => by simp [grow]
  | n + 1, l, m, known, h, h0, h1 => by
    rw [grow]
    split
    · rename_i hm
      split
      · simp
      · simp [root_mix l h]; omega
    · have hs := split_lt (n := l.length) (by omega)
      have hp := split_pos l.length
      split
      · have ih := grow_ok n (l.take (split l.length)) m known (all_take h) h0 (by rw [List.length_take]; omega)
        rw [List.length_take] at ih
        simp only [List.all_append, List.all_cons, List.all_nil, Bool.and_true, Bool.and_eq_true, List.length_append, List.length_singleton]
        exact ⟨⟨ih.1, root_mix _ (all_drop h)⟩, by omega⟩
      · have ih := grow_ok n (l.drop (split l.length)) (m - split l.length) false (all_drop h) (by omega) (by rw [List.length_drop]; omega)
        rw [List.length_drop] at ih
        simp only [List.all_append, List.all_cons, List.all_nil, Bool.and_true, Bool.and_eq_true, List.length_append, List.length_singleton]
        exact ⟨⟨ih.1, root_mix _ (all_take h)⟩, by omega⟩
theorem treOk_iff {l : List Int} : treOk l = true ↔ l.length ≤ 40 ∧ l.all mixOk = true := by simp [treOk]
theorem conProof_ok (l : List Int) (m : Int) : treOk (conProof l m) = true := by
  unfold conProof
  split
  · rename_i h
    simp only [Bool.and_eq_true, inR_iff] at h
    have h1 := treOk_iff.1 h.1
    have := grow_ok l.length l m.toNat true h1.2 (by omega) (by omega)
    exact treOk_iff.2 ⟨by unfold growth; omega, this.1⟩
  · rfl
theorem hedProof_ok (l : List Ent) (m : Int) : treOk (hedProof l m) = true := by
  unfold hedProof
  split
  · exact conProof_ok _ _
  · rfl
theorem hedOk_iff {h : Head} : hedOk h = true ↔ (0 ≤ h.size ∧ h.size ≤ 40) ∧ mixOk h.log = true ∧ mixOk h.own = true := by
  simp [hedOk, inR_iff, and_assoc]
theorem ownRoot_mix (rows : List Row) : mixOk (ownRoot rows) = true := by
  unfold ownRoot
  split
  · exact root_mix _ (ownLeaves_mix _)
  · rfl
theorem hedOf_some {l : List Ent} {h : Head} : hedOf l = some h ↔ ∃ rows, ownFold l = some rows ∧ h = ⟨l.length, root (l.map entLeaf), ownRoot rows⟩ := by
  unfold hedOf
  rw [Option.map_eq_some_iff]
  constructor
  · rintro ⟨r, h1, rfl⟩; exact ⟨r, h1, rfl⟩
  · rintro ⟨r, h1, rfl⟩; exact ⟨r, h1, rfl⟩
theorem hedOf_ok {l : List Ent} {h : Head} (e : hedOf l = some h) : hedOk h = true ∧ h.size = l.length := by
  obtain ⟨rows, h1, rfl⟩ := hedOf_some.1 e
  have := (ownFold_some.1 h1).1
  rw [hedOk_iff]
  exact ⟨⟨by dsimp only; omega, root_mix _ (entLeaves_mix _), ownRoot_mix _⟩, rfl⟩
theorem hedOf_getD_ok (l : List Ent) : hedOk ((hedOf l).getD headZ) = true := by
  cases h : hedOf l with
  | none => decide
  | some x => exact (hedOf_ok h).1

/-! ### gates -/
theorem rises_iff : ∀ (xs : List Int) (p : Int), risesFrom p xs = true ↔ (∀ x ∈ xs, (0 ≤ x ∧ x ≤ 7) ∧ p < x) ∧ xs.Pairwise (· < ·)
  | [], p => by simp [risesFrom]
  | x :: xs, p => by
    rw [risesFrom, Bool.and_eq_true, Bool.and_eq_true, inR_iff, decide_eq_true_eq, rises_iff xs]
    simp only [List.mem_cons, forall_eq_or_imp, List.pairwise_cons]
    constructor
    · rintro ⟨⟨h1, h2⟩, h3, h4⟩
      exact ⟨⟨⟨h1, h2⟩, fun y hy => ⟨(h3 y hy).1, Int.lt_trans h2 (h3 y hy).2⟩⟩, fun y hy => (h3 y hy).2, h4⟩
    · rintro ⟨⟨⟨h1, h2⟩, h3⟩, h4, h5⟩
      exact ⟨⟨h1, h2⟩, fun y hy => ⟨(h3 y hy).1, h4 y hy⟩, h5⟩
theorem gatOk_iff {g : Gate} : gatOk g = true ↔ hedOk g.head = true ∧ (∀ x ∈ g.done, 0 ≤ x ∧ x ≤ 7) ∧ g.done.Pairwise (· < ·) := by
  unfold gatOk
  rw [Bool.and_eq_true, rises_iff]
  constructor
  · rintro ⟨h1, h2, h3⟩; exact ⟨h1, fun x hx => (h2 x hx).1, h3⟩
  · rintro ⟨h1, h2, h3⟩; exact ⟨h1, fun x hx => ⟨h2 x hx, by have := h2 x hx; omega⟩, h3⟩
theorem insert_mem {d x : Int} : ∀ {ds : List Int}, x ∈ insert d ds ↔ x = d ∨ x ∈ ds
  | [] => by simp [insert]
  | y :: ys => by
    rw [insert]
    split
    · simp
    · rw [List.mem_cons, insert_mem, List.mem_cons]
      constructor
      · rintro (h | h | h)
        · exact .inr (.inl h)
        · exact .inl h
        · exact .inr (.inr h)
      · rintro (h | h | h)
        · exact .inr (.inl h)
        · exact .inl h
        · exact .inr (.inr h)
theorem insert_len {d : Int} : ∀ {ds : List Int}, (insert d ds).length = ds.length + 1
  | [] => rfl
  | y :: ys => by
    rw [insert]
    split
    · rfl
    · rw [List.length_cons, insert_len, List.length_cons]
theorem insert_rises {d : Int} : ∀ {ds : List Int}, ds.Pairwise (· < ·) → d ∉ ds → (insert d ds).Pairwise (· < ·)
  | [], _, _ => by simp [insert]
  | y :: ys, h, hn => by
    rw [List.pairwise_cons] at h
    simp only [List.mem_cons, not_or] at hn
    rw [insert]
    split
    · rw [List.pairwise_cons, List.pairwise_cons]
      refine ⟨fun x hx => ?_, h.1, h.2⟩
      rcases List.mem_cons.1 hx with rfl | hx
      · assumption
      · have := h.1 x hx; omega
    · rw [List.pairwise_cons]
      refine ⟨fun x hx => ?_, insert_rises h.2 hn.2⟩
      rcases insert_mem.1 hx with rfl | hx
      · omega
      · exact h.1 x hx
theorem hedFollows_ok {o h : Head} {p : List Int} (e : hedFollows o h p = true) : hedOk o = true ∧ hedOk h = true ∧ o.size ≤ h.size := by
  simp only [hedFollows, Bool.and_eq_true, decide_eq_true_eq] at e
  exact ⟨e.1.1.1.1, e.1.1.1.2, e.1.1.2⟩
theorem gatSync_ok {g : Gate} {h : Head} {p : List Int} (hg : gatOk g = true) : gatOk (gatSync g h p).1 = true := by
  unfold gatSync
  rw [if_pos hg]
  split
  · rename_i hf
    rw [gatOk_iff] at hg ⊢
    exact ⟨(hedFollows_ok hf).2.1, hg.2⟩
  · exact hg
theorem gatMay_facts {g : Gate} {t who : Int} {r : Row} {p : List Int} (h : gatMay g t who r p = true) : (1 ≤ who ∧ who ≤ 5) ∧ who = r.who ∧ r.used = false ∧ t ∉ g.done ∧ (0 ≤ t ∧ t ≤ 7) := by
  simp only [gatMay, ownCheck, Bool.and_eq_true, inR_iff, decide_eq_true_eq, Bool.not_eq_true'] at h
  refine ⟨h.1.1.1.1, h.1.1.1.2, h.1.1.2, ?_, h.2.1⟩
  have := h.1.2
  intro hm
  simp [hm] at this
theorem gatShow_ok {g : Gate} {t who : Int} {r : Row} {p : List Int} (hg : gatOk g = true) : gatOk (gatShow g t who r p).1 = true := by
  unfold gatShow
  rw [if_pos hg]
  split
  · rename_i hf
    have hf := gatMay_facts hf
    rw [gatOk_iff] at hg ⊢
    refine ⟨hg.1, fun x hx => ?_, insert_rises hg.2.2 hf.2.2.2.1⟩
    rcases insert_mem.1 hx with rfl | hx
    · exact hf.2.2.2.2
    · exact hg.2.1 x hx
  · exact hg
theorem gatNew_ok : gatOk gatNew = true := by
  rw [gatOk_iff]
  exact ⟨hedOf_getD_ok [], by simp [gatNew], by simp [gatNew]⟩

/-! ### worlds -/
structure WOk (w : World) : Prop where
  mkt : mktOk w.market = true
  first : monOk w.first = true
  lines : w.lines.length ≤ 300
  glen : w.gates.length = 2
  blen : w.bag.length ≤ 6
  lok : ∀ r ∈ w.lines, lineOk r = true
  gok : ∀ g ∈ w.gates, gatOk g = true
  bok : ∀ x ∈ w.bag, msgOk x = true
theorem wldOk_iff {w : World} : wldOk w = true ↔ WOk w := by
  simp only [wldOk, Bool.and_eq_true, decide_eq_true_eq, List.all_eq_true]
  constructor
  · rintro ⟨⟨⟨⟨⟨⟨⟨h1, h2⟩, h3⟩, h4⟩, h5⟩, h6⟩, h7⟩, h8⟩; exact ⟨h1, h2, h3, h4, h5, h6, h7, h8⟩
  · rintro ⟨h1, h2, h3, h4, h5, h6, h7, h8⟩; exact ⟨⟨⟨⟨⟨⟨⟨h1, h2⟩, h3⟩, h4⟩, h5⟩, h6⟩, h7⟩, h8⟩
theorem gateAt_ok {w : World} (h : WOk w) {k : Int} (hk : 0 ≤ k ∧ k ≤ 1) : gatOk (gateAt w k) = true := by
  unfold gateAt
  have hl := h.glen
  obtain ⟨g, hg⟩ : ∃ g, w.gates[k.toNat]? = some g := ⟨_, List.getElem?_eq_getElem (by omega)⟩
  rw [getD_of hg]
  exact h.gok g (List.mem_of_getElem? hg)
theorem msgAt_ok {w : World} (h : WOk w) {i : Int} (hi : 0 ≤ i ∧ i ≤ (w.bag.length : Int) - 1) : msgOk (msgAt w i) = true := by
  unfold msgAt
  obtain ⟨g, hg⟩ : ∃ g, w.bag[i.toNat]? = some g := ⟨_, List.getElem?_eq_getElem (by omega)⟩
  rw [getD_of hg]
  exact h.bok g (List.mem_of_getElem? hg)
theorem ask_ok {w : World} (h : WOk w) (r : Req) : WOk (ask w r).1 := by
  unfold ask
  split
  · rename_i hr
    simp only [Bool.and_eq_true, decide_eq_true_eq] at hr
    refine ⟨doIt_mktOk h.mkt hr.1, h.first, by simp; omega, h.glen, h.blen, fun x hx => ?_, h.gok, h.bok⟩
    rcases List.mem_append.1 hx with hx | hx
    · exact h.lok x hx
    · obtain rfl := List.mem_singleton.1 hx
      simp [lineOk, hr.1]
  · exact h
theorem tickW_ok {w : World} (h : WOk w) : WOk (tickW w) := by
  unfold tickW
  split
  · rename_i hr
    simp only [Bool.and_eq_true, decide_eq_true_eq] at hr
    refine ⟨tick_mktOk h.mkt hr.1, h.first, by simp; omega, h.glen, h.blen, fun x hx => ?_, h.gok, h.bok⟩
    rcases List.mem_append.1 hx with hx | hx
    · exact h.lok x hx
    · obtain rfl := List.mem_singleton.1 hx
      rfl
  · exact h
theorem foldLines_ok : ∀ (rs : List Req) (m x : Mkt), mktOk m = true → foldLines m rs = some x → mktOk x = true
  | [], m, x, h, e => by simp [foldLines] at e; rw [← e]; exact h
  | r :: rs, m, x, h, e => by
    rw [foldLines] at e
    split at e
    · split at e
      · cases e
      · exact foldLines_ok rs _ x (tick_mktOk h ‹_›) e
    · split at e
      · exact foldLines_ok rs _ x (doIt_mktOk h ‹_›) e
      · cases e
theorem wldFold_ok {first : List Int} {lines : List Req} {x : Mkt} (e : wldFold first lines = some x) : mktOk x = true := by
  unfold wldFold at e
  split at e
  · rename_i h
    simp only [Bool.and_eq_true, decide_eq_true_eq] at h
    exact foldLines_ok _ _ _ (mktOk_iff.2 ⟨_, mktNew_ok h.1.1 h.1.2⟩) e
  · cases e
theorem fall_ok {w : World} (h : WOk w) : WOk (fall w) := by
  refine ⟨?_, h.first, h.lines, h.glen, by simp [fall], h.lok, h.gok, by simp [fall]⟩
  show mktOk ((wldFold w.first w.lines).getD w.market) = true
  cases e : wldFold w.first w.lines with
  | none => exact h.mkt
  | some x => exact wldFold_ok e
theorem send_ok {w : World} (h : WOk w) (k : Int) : WOk (send w k) := by
  unfold send
  split
  · rename_i hr
    simp only [Bool.and_eq_true, decide_eq_true_eq, inR_iff] at hr
    refine ⟨h.mkt, h.first, h.lines, h.glen, by simp; omega, h.lok, h.gok, fun x hx => ?_⟩
    rcases List.mem_append.1 hx with hx | hx
    · exact h.bok x hx
    · obtain rfl := List.mem_singleton.1 hx
      simp only [msgOk, Bool.and_eq_true, inR_iff]
      exact ⟨⟨hr.1, hedOf_getD_ok _⟩, hedProof_ok _ _⟩
  · exact h
theorem lose_ok {w : World} (h : WOk w) (i : Int) : WOk (lose w i) :=
  ⟨h.mkt, h.first, h.lines, h.glen, Nat.le_trans (List.eraseIdx_sublist w.bag i.toNat).length_le h.blen, h.lok, h.gok, fun x hx => h.bok x ((List.eraseIdx_sublist w.bag i.toNat).subset hx)⟩
theorem setGate_ok {w : World} (h : WOk w) {k : Nat} {g : Gate} (hg : gatOk g = true) : WOk { w with gates := w.gates.set k g } := by
  refine ⟨h.mkt, h.first, h.lines, by simpa using h.glen, h.blen, h.lok, fun x hx => ?_, h.bok⟩
  rcases List.mem_or_eq_of_mem_set hx with hx | rfl
  · exact h.gok x hx
  · exact hg
theorem heard_ok {w : World} (h : WOk w) {x : Msg} (hx : msgOk x = true) : WOk (heard w x) := by
  simp only [msgOk, Bool.and_eq_true, inR_iff] at hx
  exact setGate_ok h (gatSync_ok (gateAt_ok h hx.1.1))
theorem hear_ok {w : World} (h : WOk w) {i : Int} (hi : 0 ≤ i ∧ i ≤ (w.bag.length : Int) - 1) : WOk (hear w i) := heard_ok (lose_ok h i) (msgAt_ok h hi)
theorem twice_ok {w : World} (h : WOk w) {i : Int} (hi : 0 ≤ i ∧ i ≤ (w.bag.length : Int) - 1) : WOk (twice w i) := by
  unfold twice
  split
  · refine ⟨h.mkt, h.first, h.lines, h.glen, by simp; omega, h.lok, h.gok, fun x hx => ?_⟩
    rcases List.mem_append.1 hx with hx | hx
    · exact h.bok x hx
    · obtain rfl := List.mem_singleton.1 hx
      exact msgAt_ok h hi
  · exact h
theorem showIt_ok {w : World} (h : WOk w) (k t who : Int) : WOk (showIt w k t who).1 := by
  unfold showIt
  split
  · rename_i hr
    simp only [Bool.and_eq_true, decide_eq_true_eq, inR_iff] at hr
    split
    · exact h
    · split
      · exact setGate_ok h (gatShow_ok (gateAt_ok h hr.1.1))
      · exact h
  · exact h
theorem tellOne_ok {w : World} (h : WOk w) (t : Int) : WOk (tellOne w t) := by
  unfold tellOne
  split
  · exact ask_ok h _
  · exact h
theorem tells_ok : ∀ (ts : List Int) {w : World}, WOk w → WOk (ts.foldl tellOne w)
  | [], _, h => h
  | t :: ts, _, h => tells_ok ts (tellOne_ok h t)
theorem tell_ok {w : World} (h : WOk w) (k : Int) : WOk (tell w k) := by
  unfold tell
  split
  · exact tells_ok _ h
  · exact h
theorem step_ok {w : World} (h : WOk w) (e : Ev) : WOk (step w e).1 := by
  unfold step
  split
  · exact ask_ok h _
  split
  · exact tickW_ok h
  split
  · exact fall_ok h
  split
  · exact send_ok h _
  split
  · dsimp only; split
    · exact hear_ok h (inR_iff.1 ‹_›)
    · exact h
  split
  · dsimp only; split
    · exact lose_ok h _
    · exact h
  split
  · dsimp only; split
    · exact twice_ok h (inR_iff.1 ‹_›)
    · exact h
  split
  · exact showIt_ok h _ _ _
  split
  · exact tell_ok h _
  · exact h
theorem wldNew_ok {p : List Int} (hp : monOk p = true) (hs : monSum p ≤ 100000) : WOk (wldNew p) := by
  have e : wldNew p = ⟨p, mktNew p, [], [gatNew, gatNew], []⟩ := by simp [wldNew, hp, hs]
  rw [e]
  exact ⟨mktOk_iff.2 ⟨_, mktNew_ok hp hs⟩, hp, by simp, rfl, by simp, by simp, by simp [gatNew_ok], by simp⟩
theorem run_ok : ∀ (es : List Ev) {w : World}, WOk w → WOk (runFrom w es)
  | [], _, h => h
  | e :: es, _, h => run_ok es (step_ok h e)
end Go.Proofs.Ytimpagcanengoaa.Sw

namespace Go.Proofs.Ytimpagcanengoaa
set_option maxRecDepth 100000
set_option linter.unusedSimpArgs false
set_option linter.unusedVariables false
open Go.RowKit Go

def Sw.Deal.enc (d : Sw.Deal) : List Value := [.int .i64 d.ticket, .int .i64 d.seller, .int .i64 d.price, .int .i64 d.buyer, .int .i64 d.due]
def Sw.Req.enc (r : Sw.Req) : List Value := [.int .i64 r.user, .int .i64 r.n, .int .i64 r.kind, .int .i64 r.ticket, .int .i64 r.who, .int .i64 r.price]
def Sw.Ev.enc (e : Sw.Ev) : List Value := [.int .i64 e.kind, .int .i64 e.req.user, .int .i64 e.req.n, .int .i64 e.req.kind, .int .i64 e.req.ticket, .int .i64 e.req.who, .int .i64 e.req.price, .int .i64 e.at_, .int .i64 e.ticket, .int .i64 e.who]
abbrev RDl := Rs Sw.Deal.enc 5
abbrev RQ := Rs Sw.Req.enc 6
abbrev REv := Rs Sw.Ev.enc 10
/-- A gate, a message as their cells hold them. -/
structure GV where
  h : Sw.Head
  A : Option Addr
  c : Nat
  n : Nat
structure XV where
  g : Int
  h : Sw.Head
  A : Option Addr
  c : Nat
  n : Nat
def GV.enc (v : GV) : List Value := [.int .i64 v.h.size, .int .i64 v.h.log, .int .i64 v.h.own, .slice v.A v.n v.c]
def XV.enc (v : XV) : List Value := [.int .i64 v.g, .int .i64 v.h.size, .int .i64 v.h.log, .int .i64 v.h.own, .slice v.A v.n v.c]
/-- Slices of gates, of messages: what each one shows may be read. -/
structure RG (w : World) (lo : Nat) (A : Option Addr) (c n : Nat) (gs : List Sw.Gate) : Prop where
  ex : ∃ vs : List GV, Rs GV.enc 4 w lo A c n vs ∧ n = gs.length ∧ ∀ (k : Nat) (v : GV) (g : Sw.Gate), vs[k]? = some v → gs[k]? = some g → v.h = g.head ∧ RI w lo v.A v.c v.n g.done
structure RX (w : World) (lo : Nat) (A : Option Addr) (c n : Nat) (xs : List Sw.Msg) : Prop where
  ex : ∃ vs : List XV, Rs XV.enc 5 w lo A c n vs ∧ n = xs.length ∧ ∀ (k : Nat) (v : XV) (x : Sw.Msg), vs[k]? = some v → xs[k]? = some x → v.g = x.gate ∧ v.h = x.head ∧ RI w lo v.A v.c v.n x.proof
structure RM (w : World) (lo : Nat) (aL : Option Addr) (aLc aLn : Nat) (aP : Option Addr) (aPc aPn : Nat) (aD : Option Addr) (aDc aDn : Nat) (aN : Option Addr) (aNc aNn : Nat) (aS : Option Addr) (aSc aSn : Nat) (m : Sw.Mkt) : Prop where
  log : RE w lo aL aLc aLn m.log
  purses : RI w lo aP aPc aPn m.purses
  deals : RDl w lo aD aDc aDn m.deals
  nums : RI w lo aN aNc aNn m.nums
  said : RI w lo aS aSc aSn m.said
structure RW (w : World) (lo : Nat) (aF : Option Addr) (aFc aFn : Nat) (aL : Option Addr) (aLc aLn : Nat) (aP : Option Addr) (aPc aPn : Nat) (aD : Option Addr) (aDc aDn : Nat) (aN : Option Addr) (aNc aNn : Nat) (aS : Option Addr) (aSc aSn : Nat) (aI : Option Addr) (aIc aIn : Nat) (aG : Option Addr) (aGc aGn : Nat) (aB : Option Addr) (aBc aBn : Nat) (x : Sw.World) : Prop where
  first : RI w lo aF aFc aFn x.first
  mkt : RM w lo aL aLc aLn aP aPc aPn aD aDc aDn aN aNc aNn aS aSc aSn x.market
  lines : RQ w lo aI aIc aIn x.lines
  gates : RG w lo aG aGc aGn x.gates
  bag : RX w lo aB aBc aBn x.bag

section
variable {w w0 W : World} {lo lo' c n k : Nat} {A : Option Addr}
theorem RG.keep {gs : List Sw.Gate} (h : RG w0 lo A c n gs) (hk : KF lo w0 W) : RG W lo A c n gs := by
  obtain ⟨vs, h1, h2, h3⟩ := h.ex
  exact ⟨vs, h1.keep hk, h2, fun k v g hv hg => ⟨(h3 k v g hv hg).1, (h3 k v g hv hg).2.keep hk⟩⟩
theorem RG.less {gs : List Sw.Gate} (h : RG w0 lo A c n gs) (hl : lo' ≤ lo) : RG w0 lo' A c n gs := by
  obtain ⟨vs, h1, h2, h3⟩ := h.ex
  exact ⟨vs, h1.less hl, h2, fun k v g hv hg => ⟨(h3 k v g hv hg).1, (h3 k v g hv hg).2.less hl⟩⟩
theorem RX.keep {xs : List Sw.Msg} (h : RX w0 lo A c n xs) (hk : KF lo w0 W) : RX W lo A c n xs := by
  obtain ⟨vs, h1, h2, h3⟩ := h.ex
  exact ⟨vs, h1.keep hk, h2, fun k v g hv hg => ⟨(h3 k v g hv hg).1, (h3 k v g hv hg).2.1, (h3 k v g hv hg).2.2.keep hk⟩⟩
theorem RX.less {xs : List Sw.Msg} (h : RX w0 lo A c n xs) (hl : lo' ≤ lo) : RX w0 lo' A c n xs := by
  obtain ⟨vs, h1, h2, h3⟩ := h.ex
  exact ⟨vs, h1.less hl, h2, fun k v g hv hg => ⟨(h3 k v g hv hg).1, (h3 k v g hv hg).2.1, (h3 k v g hv hg).2.2.less hl⟩⟩
theorem RG.at0 {gs : List Sw.Gate} (h : RG w0 lo A c n gs) (hk : KF lo w0 W) : RG W 0 A c n gs := (h.keep hk).less (Nat.zero_le _)
theorem RX.at0 {xs : List Sw.Msg} (h : RX w0 lo A c n xs) (hk : KF lo w0 W) : RX W 0 A c n xs := (h.keep hk).less (Nat.zero_le _)
theorem RM.keep {aL : Option Addr} {aLc aLn : Nat} {aP : Option Addr} {aPc aPn : Nat} {aD : Option Addr} {aDc aDn : Nat} {aN : Option Addr} {aNc aNn : Nat} {aS : Option Addr} {aSc aSn : Nat} {m : Sw.Mkt} (h : RM w0 lo aL aLc aLn aP aPc aPn aD aDc aDn aN aNc aNn aS aSc aSn m) (hk : KF lo w0 W) : RM W lo aL aLc aLn aP aPc aPn aD aDc aDn aN aNc aNn aS aSc aSn m := ⟨h.1.keep hk, h.2.keep hk, h.3.keep hk, h.4.keep hk, h.5.keep hk⟩
theorem RM.less {aL : Option Addr} {aLc aLn : Nat} {aP : Option Addr} {aPc aPn : Nat} {aD : Option Addr} {aDc aDn : Nat} {aN : Option Addr} {aNc aNn : Nat} {aS : Option Addr} {aSc aSn : Nat} {m : Sw.Mkt} (h : RM w0 lo aL aLc aLn aP aPc aPn aD aDc aDn aN aNc aNn aS aSc aSn m) (hl : lo' ≤ lo) : RM w0 lo' aL aLc aLn aP aPc aPn aD aDc aDn aN aNc aNn aS aSc aSn m := ⟨h.1.less hl, h.2.less hl, h.3.less hl, h.4.less hl, h.5.less hl⟩
theorem RM.at0 {aL : Option Addr} {aLc aLn : Nat} {aP : Option Addr} {aPc aPn : Nat} {aD : Option Addr} {aDc aDn : Nat} {aN : Option Addr} {aNc aNn : Nat} {aS : Option Addr} {aSc aSn : Nat} {m : Sw.Mkt} (h : RM w0 lo aL aLc aLn aP aPc aPn aD aDc aDn aN aNc aNn aS aSc aSn m) (hk : KF lo w0 W) : RM W 0 aL aLc aLn aP aPc aPn aD aDc aDn aN aNc aNn aS aSc aSn m := (h.keep hk).less (Nat.zero_le _)
theorem RW.keep {aF : Option Addr} {aFc aFn : Nat} {aL : Option Addr} {aLc aLn : Nat} {aP : Option Addr} {aPc aPn : Nat} {aD : Option Addr} {aDc aDn : Nat} {aN : Option Addr} {aNc aNn : Nat} {aS : Option Addr} {aSc aSn : Nat} {aI : Option Addr} {aIc aIn : Nat} {aG : Option Addr} {aGc aGn : Nat} {aB : Option Addr} {aBc aBn : Nat} {x : Sw.World} (h : RW w0 lo aF aFc aFn aL aLc aLn aP aPc aPn aD aDc aDn aN aNc aNn aS aSc aSn aI aIc aIn aG aGc aGn aB aBc aBn x) (hk : KF lo w0 W) : RW W lo aF aFc aFn aL aLc aLn aP aPc aPn aD aDc aDn aN aNc aNn aS aSc aSn aI aIc aIn aG aGc aGn aB aBc aBn x := ⟨h.1.keep hk, h.2.keep hk, h.3.keep hk, h.4.keep hk, h.5.keep hk⟩
theorem RW.less {aF : Option Addr} {aFc aFn : Nat} {aL : Option Addr} {aLc aLn : Nat} {aP : Option Addr} {aPc aPn : Nat} {aD : Option Addr} {aDc aDn : Nat} {aN : Option Addr} {aNc aNn : Nat} {aS : Option Addr} {aSc aSn : Nat} {aI : Option Addr} {aIc aIn : Nat} {aG : Option Addr} {aGc aGn : Nat} {aB : Option Addr} {aBc aBn : Nat} {x : Sw.World} (h : RW w0 lo aF aFc aFn aL aLc aLn aP aPc aPn aD aDc aDn aN aNc aNn aS aSc aSn aI aIc aIn aG aGc aGn aB aBc aBn x) (hl : lo' ≤ lo) : RW w0 lo' aF aFc aFn aL aLc aLn aP aPc aPn aD aDc aDn aN aNc aNn aS aSc aSn aI aIc aIn aG aGc aGn aB aBc aBn x := ⟨h.1.less hl, h.2.less hl, h.3.less hl, h.4.less hl, h.5.less hl⟩
theorem RW.at0 {aF : Option Addr} {aFc aFn : Nat} {aL : Option Addr} {aLc aLn : Nat} {aP : Option Addr} {aPc aPn : Nat} {aD : Option Addr} {aDc aDn : Nat} {aN : Option Addr} {aNc aNn : Nat} {aS : Option Addr} {aSc aSn : Nat} {aI : Option Addr} {aIc aIn : Nat} {aG : Option Addr} {aGc aGn : Nat} {aB : Option Addr} {aBc aBn : Nat} {x : Sw.World} (h : RW w0 lo aF aFc aFn aL aLc aLn aP aPc aPn aD aDc aDn aN aNc aNn aS aSc aSn aI aIc aIn aG aGc aGn aB aBc aBn x) (hk : KF lo w0 W) : RW W 0 aF aFc aFn aL aLc aLn aP aPc aPn aD aDc aDn aN aNc aNn aS aSc aSn aI aIc aIn aG aGc aGn aB aBc aBn x := (h.keep hk).less (Nat.zero_le _)

theorem at_D {xs : List Sw.Deal} (h : RDl w lo A c n xs) (hk : k < n) :
    ∃ g off x, A = some ⟨g, off, none⟩ ∧ lo ≤ g ∧ g < w.heap.size ∧ xs.drop k = x :: xs.drop (k + 1) ∧ xs[k]? = some x ∧
      w.cell? ⟨g, off + k * 5, none⟩ = some (.int .i64 x.ticket) ∧ w.cell? ⟨g, off + k * 5 + 1, none⟩ = some (.int .i64 x.seller) ∧
      w.cell? ⟨g, off + k * 5 + 2, none⟩ = some (.int .i64 x.price) ∧ w.cell? ⟨g, off + k * 5 + 3, none⟩ = some (.int .i64 x.buyer) ∧ w.cell? ⟨g, off + k * 5 + 4, none⟩ = some (.int .i64 x.due) := by
  obtain ⟨g, off, x, h1, h2, h3, h4, h5, h6⟩ := Rs.at_ h (fun _ => rfl) hk
  exact ⟨g, off, x, h1, h2, h3, h4, h5, by simpa using h6 0 _ (by omega) rfl, h6 1 _ (by omega) rfl, h6 2 _ (by omega) rfl, h6 3 _ (by omega) rfl, h6 4 _ (by omega) rfl⟩
theorem at_Q {xs : List Sw.Req} (h : RQ w lo A c n xs) (hk : k < n) :
    ∃ g off x, A = some ⟨g, off, none⟩ ∧ lo ≤ g ∧ g < w.heap.size ∧ xs.drop k = x :: xs.drop (k + 1) ∧ xs[k]? = some x ∧
      w.cell? ⟨g, off + k * 6, none⟩ = some (.int .i64 x.user) ∧ w.cell? ⟨g, off + k * 6 + 1, none⟩ = some (.int .i64 x.n) ∧
      w.cell? ⟨g, off + k * 6 + 2, none⟩ = some (.int .i64 x.kind) ∧ w.cell? ⟨g, off + k * 6 + 3, none⟩ = some (.int .i64 x.ticket) ∧
      w.cell? ⟨g, off + k * 6 + 4, none⟩ = some (.int .i64 x.who) ∧ w.cell? ⟨g, off + k * 6 + 5, none⟩ = some (.int .i64 x.price) := by
  obtain ⟨g, off, x, h1, h2, h3, h4, h5, h6⟩ := Rs.at_ h (fun _ => rfl) hk
  exact ⟨g, off, x, h1, h2, h3, h4, h5, by simpa using h6 0 _ (by omega) rfl, h6 1 _ (by omega) rfl, h6 2 _ (by omega) rfl, h6 3 _ (by omega) rfl, h6 4 _ (by omega) rfl, h6 5 _ (by omega) rfl⟩
theorem at_Ev {xs : List Sw.Ev} (h : REv w lo A c n xs) (hk : k < n) :
    ∃ g off x, A = some ⟨g, off, none⟩ ∧ lo ≤ g ∧ g < w.heap.size ∧ xs.drop k = x :: xs.drop (k + 1) ∧ xs[k]? = some x ∧
      w.cell? ⟨g, off + k * 10, none⟩ = some (.int .i64 x.kind) ∧ w.cell? ⟨g, off + k * 10 + 1, none⟩ = some (.int .i64 x.req.user) ∧ w.cell? ⟨g, off + k * 10 + 2, none⟩ = some (.int .i64 x.req.n) ∧
      w.cell? ⟨g, off + k * 10 + 3, none⟩ = some (.int .i64 x.req.kind) ∧ w.cell? ⟨g, off + k * 10 + 4, none⟩ = some (.int .i64 x.req.ticket) ∧
      w.cell? ⟨g, off + k * 10 + 5, none⟩ = some (.int .i64 x.req.who) ∧ w.cell? ⟨g, off + k * 10 + 6, none⟩ = some (.int .i64 x.req.price) ∧
      w.cell? ⟨g, off + k * 10 + 7, none⟩ = some (.int .i64 x.at_) ∧ w.cell? ⟨g, off + k * 10 + 8, none⟩ = some (.int .i64 x.ticket) ∧ w.cell? ⟨g, off + k * 10 + 9, none⟩ = some (.int .i64 x.who) := by
  obtain ⟨g, off, x, h1, h2, h3, h4, h5, h6⟩ := Rs.at_ h (fun _ => rfl) hk
  exact ⟨g, off, x, h1, h2, h3, h4, h5, by simpa using h6 0 _ (by omega) rfl, h6 1 _ (by omega) rfl, h6 2 _ (by omega) rfl, h6 3 _ (by omega) rfl, h6 4 _ (by omega) rfl, h6 5 _ (by omega) rfl, h6 6 _ (by omega) rfl, h6 7 _ (by omega) rfl, h6 8 _ (by omega) rfl, h6 9 _ (by omega) rfl⟩
theorem at_G {gs : List Sw.Gate} (h : RG w lo A c n gs) (hk : k < n) :
    ∃ g off x B d m, A = some ⟨g, off, none⟩ ∧ lo ≤ g ∧ g < w.heap.size ∧ gs.drop k = x :: gs.drop (k + 1) ∧ gs[k]? = some x ∧
      w.cell? ⟨g, off + k * 4, none⟩ = some (.int .i64 x.head.size) ∧ w.cell? ⟨g, off + k * 4 + 1, none⟩ = some (.int .i64 x.head.log) ∧
      w.cell? ⟨g, off + k * 4 + 2, none⟩ = some (.int .i64 x.head.own) ∧ w.cell? ⟨g, off + k * 4 + 3, none⟩ = some (.slice B m d) ∧ RI w lo B d m x.done := by
  obtain ⟨vs, h1, h2, h3⟩ := h.ex
  obtain ⟨g, off, v, h4, h5, h6, h7, h8, h9⟩ := Rs.at_ h1 (fun _ => rfl) hk
  have hg : gs[k]? = some gs[k] := List.getElem?_eq_getElem (by omega)
  obtain ⟨e, hr⟩ := h3 k v _ h8 hg
  refine ⟨g, off, gs[k], v.A, v.c, v.n, h4, h5, h6, List.drop_eq_getElem_cons (by omega), hg, ?_, ?_, ?_, h9 3 _ (by omega) rfl, hr⟩
  · rw [← e]; simpa using h9 0 _ (by omega) rfl
  · rw [← e]; exact h9 1 _ (by omega) rfl
  · rw [← e]; exact h9 2 _ (by omega) rfl
theorem at_X {xs : List Sw.Msg} (h : RX w lo A c n xs) (hk : k < n) :
    ∃ g off x B d m, A = some ⟨g, off, none⟩ ∧ lo ≤ g ∧ g < w.heap.size ∧ xs.drop k = x :: xs.drop (k + 1) ∧ xs[k]? = some x ∧
      w.cell? ⟨g, off + k * 5, none⟩ = some (.int .i64 x.gate) ∧ w.cell? ⟨g, off + k * 5 + 1, none⟩ = some (.int .i64 x.head.size) ∧ w.cell? ⟨g, off + k * 5 + 2, none⟩ = some (.int .i64 x.head.log) ∧
      w.cell? ⟨g, off + k * 5 + 3, none⟩ = some (.int .i64 x.head.own) ∧ w.cell? ⟨g, off + k * 5 + 4, none⟩ = some (.slice B m d) ∧ RI w lo B d m x.proof := by
  obtain ⟨vs, h1, h2, h3⟩ := h.ex
  obtain ⟨g, off, v, h4, h5, h6, h7, h8, h9⟩ := Rs.at_ h1 (fun _ => rfl) hk
  have hg : xs[k]? = some xs[k] := List.getElem?_eq_getElem (by omega)
  obtain ⟨e1, e, hr⟩ := h3 k v _ h8 hg
  refine ⟨g, off, xs[k], v.A, v.c, v.n, h4, h5, h6, List.drop_eq_getElem_cons (by omega), hg, ?_, ?_, ?_, ?_, h9 4 _ (by omega) rfl, hr⟩
  · rw [← e1]; simpa using h9 0 _ (by omega) rfl
  · rw [← e]; exact h9 1 _ (by omega) rfl
  · rw [← e]; exact h9 2 _ (by omega) rfl
  · rw [← e]; exact h9 3 _ (by omega) rfl
theorem Rs.big {α : Type} {enc : α → List Value} {sz : Nat} {xs : List α} (h : Rs enc sz w lo A c n xs) : n ≤ 9223372036854775807 := by
  have := h.2.le; have := h.2.cap; unfold maxLen at this; omega
theorem RG.len {gs : List Sw.Gate} (h : RG w lo A c n gs) : n = gs.length ∧ n ≤ 9223372036854775807 := by
  obtain ⟨vs, h1, h2, _⟩ := h.ex
  exact ⟨h2, h1.big⟩
theorem RX.len {xs : List Sw.Msg} (h : RX w lo A c n xs) : n = xs.length ∧ n ≤ 9223372036854775807 := by
  obtain ⟨vs, h1, h2, _⟩ := h.ex
  exact ⟨h2, h1.big⟩
end
end Go.Proofs.Ytimpagcanengoaa

namespace Go.Proofs.Ytimpagcanengoaa
set_option maxRecDepth 100000
set_option linter.unusedSimpArgs false
set_option linter.unusedVariables false
open Go.RowKit Go
set_option maxHeartbeats 1000000

/-- A reader at block rb; it has read p times. -/
structure Rdr (w : World) (rb p : Nat) : Prop where
  ex : ∃ A c n bs, w.cell? ⟨rb, 0, none⟩ = some (.slice A n c) ∧ RB w 0 A c n bs ∧ n ≤ 2000 ∧ (∀ x ∈ bs, 0 ≤ x ∧ x ≤ 255) ∧ ∀ a, A = some a → 0 < n → a.block < rb
  pos : w.cell? ⟨rb, 1, none⟩ = some (.int .i64 p)
  free : ∀ i, w.frozen? ⟨rb, i, none⟩ = false
  lt : rb < w.heap.size
  lb : Lb w rb 2
/-- Blocks up to rb are as they were. -/
structure KB (rb : Nat) (w w' : World) : Prop where
  size : w.heap.size ≤ w'.heap.size
  block : ∀ b, b ≤ rb → b < w.heap.size → w'.heap[b]? = w.heap[b]?
theorem bR (rb : Nat) (w : World) : KB rb w w := ⟨Nat.le_refl _, fun _ _ _ => rfl⟩
theorem bA {rb : Nat} {a w : World} {o : Obj} (h : KB rb a w) : KB rb a (w.alloc o) :=
  ⟨by simp; have := h.size; omega, fun i hl hi => (Below.heap_alloc _ _ _ (Nat.lt_of_lt_of_le hi h.size)).trans (h.block i hl hi)⟩
theorem bD {rb : Nat} {a w : World} (h : KB rb a w) : KB rb a w.drew := ⟨h.size, h.block⟩
theorem bN {rb : Nat} {a w : World} {n : Nat} (h : KB rb a w) : KB rb a (w.drewN n) := ⟨h.size, h.block⟩
theorem bS {rb : Nat} {a w : World} {p : Addr} {u : Value} (h : KB rb a w) (hp : rb < p.block) : KB rb a (w.setCell p u) :=
  ⟨by simpa [World.setCell] using h.size, fun i hl hi => (Below.heap_setCell _ _ _ _ (by rintro rfl; omega)).trans (h.block i hl hi)⟩
theorem bE {rb : Nat} {a w w' : World} (hb : Ex w w') (h : KB rb a w) : KB rb a w' :=
  ⟨Nat.le_trans h.size hb.size, fun i hl hi => (hb.block i (Nat.lt_of_lt_of_le hi h.size) (fun h => h)).trans (h.block i hl hi)⟩
theorem bC {g rb : Nat} {a w w' : World} (hb : Ch (· = g) w w') (h : KB rb a w) (hg : rb < g) : KB rb a w' :=
  ⟨Nat.le_trans h.size hb.size, fun i hl hi => (hb.block i (Nat.lt_of_lt_of_le hi h.size) (by omega)).trans (h.block i hl hi)⟩
theorem kb_ {p : Prop} (h : p := by with_reducible repeat (first | exact bR _ _ | apply bA | apply bD | apply bN | (refine bS ?_ (by first | omega | (simp only [zA, zC, zD, zN]; omega))) | (apply bE; assumption) | (refine bC (by assumption) ?_ (by first | omega | (simp only [zA, zC, zD, zN]; omega))))) : p := h
theorem Rdr.keep {w w' : World} {rb p : Nat} (h : Rdr w rb p) (k : KB rb w w') : Rdr w' rb p := by
  obtain ⟨A, c, n, bs, h1, h2, h3, h4, h5⟩ := h.ex
  have hb := k.block rb (Nat.le_refl _) h.lt
  refine ⟨⟨A, c, n, bs, (World.cell?_of_block (w := w) (a := ⟨rb, 0, none⟩) hb).trans h1, ⟨h2.1, ?_⟩, h3, h4, h5⟩, (World.cell?_of_block (w := w) (a := ⟨rb, 1, none⟩) hb).trans h.pos, fun i => (World.frozen?_of_block (w := w) (a := ⟨rb, i, none⟩) hb).trans (h.free i), Nat.lt_of_lt_of_le h.lt k.size, ?_⟩
  case refine_2 => obtain ⟨cs, T, h6, h7⟩ := h.lb; exact ⟨cs, T, hb.trans h6, h7⟩
  refine ⟨h2.2.len, h2.2.le, h2.2.cap, h2.2.nil, fun a ha hn => ?_⟩
  obtain ⟨q1, q2, q3, q4⟩ := h2.2.cells a ha hn
  exact ⟨q1, q2, Nat.lt_of_lt_of_le q3 k.size, fun j u hu => (World.cell?_of_block (w := w) (a := ⟨a.block, a.off + j, none⟩) (k.block a.block (Nat.le_of_lt (h5 a ha hn)) q3)).trans (q4 j u hu)⟩
theorem Rdr.step {w : World} {rb p : Nat} (h : Rdr w rb p) : Rdr (w.setCell ⟨rb, 1, none⟩ (.int .i64 ((p : Int) + 1))) rb (p + 1) := by
  obtain ⟨A, c, n, bs, h1, h2, h3, h4, h5⟩ := h.ex
  have hne : ∀ b, b ≠ rb → (w.setCell ⟨rb, 1, none⟩ (.int .i64 ((p : Int) + 1))).heap[b]? = w.heap[b]? := fun b hb => Below.heap_setCell _ _ _ _ hb
  obtain ⟨o, ho⟩ : ∃ o, w.heap[rb]? = some o := ⟨_, Array.getElem?_eq_getElem h.lt⟩
  have hpos := h.pos
  cases o with
  | cells cs T fz =>
    have hs : ∀ i, i ≠ 1 → (w.setCell ⟨rb, 1, none⟩ (.int .i64 ((p : Int) + 1))).cell? ⟨rb, i, none⟩ = w.cell? ⟨rb, i, none⟩ := by
      intro i hi
      simp [World.cell?, World.setCell, Array.getElem?_modify, ho, Array.getElem?_setIfInBounds, Ne.symm hi]
    refine ⟨⟨A, c, n, bs, (hs 0 (by omega)).trans h1, ⟨h2.1, ?_⟩, h3, h4, h5⟩, ?_, fun i => ?_, by simpa [World.setCell] using h.lt, h.lb.set⟩
    · refine ⟨h2.2.len, h2.2.le, h2.2.cap, h2.2.nil, fun a ha hn => ?_⟩
      obtain ⟨q1, q2, q3, q4⟩ := h2.2.cells a ha hn
      exact ⟨q1, q2, by simpa [World.setCell] using q3, fun j u hu => (World.cell?_of_block (w := w) (a := ⟨a.block, a.off + j, none⟩) (hne _ (show a.block ≠ rb by have := h5 a ha hn; omega))).trans (q4 j u hu)⟩
    · have hlt : 1 < cs.size := by
        simp only [World.cell?, ho] at hpos
        by_cases h : 1 < cs.size
        · exact h
        · simp [Array.getElem?_eq_none (by omega : cs.size ≤ 1)] at hpos
      simp [World.cell?, World.setCell, Array.getElem?_modify, ho, Array.getElem?_setIfInBounds, hlt]
    · have := h.free i
      simp [World.frozen?, World.setCell, Array.getElem?_modify, ho] at this ⊢
      exact this
  | _ => simp [World.cell?, ho] at hpos

theorem xor_nat (a b : Nat) (ha : a < 4611686018427387904) (hb : b < 4611686018427387904) : bits .xor .i64 (a : Int) (b : Int) = ((a ^^^ b : Nat) : Int) := by
  show IntKind.i64.wrap ((BitVec.ofInt 64 (a : Int) ^^^ BitVec.ofInt 64 (b : Int)).toNat : Int) = _
  have hx : a ^^^ b < 2 ^ 62 := Nat.xor_lt_two_pow (by omega) (by omega)
  rw [BitVec.toNat_xor, BitVec.ofInt_natCast, BitVec.ofInt_natCast, BitVec.toNat_ofNat, BitVec.toNat_ofNat, Nat.mod_eq_of_lt (by omega), Nat.mod_eq_of_lt (by omega), IntWalk.i64_in _ (by omega)]

/-- A reader that has read at most P times. -/
def Rdp (w : World) (rb P : Nat) : Prop := ∃ p, p ≤ P ∧ Rdr w rb p
theorem Rdp.keep {w w' : World} {rb P : Nat} (h : Rdp w rb P) (k : KB rb w w') : Rdp w' rb P := by
  obtain ⟨p, hp, h⟩ := h
  exact ⟨p, hp, h.keep k⟩
theorem Rdp.more {w : World} {rb P Q : Nat} (h : Rdp w rb P) (k : P ≤ Q) : Rdp w rb Q := by
  obtain ⟨p, hp, h⟩ := h
  exact ⟨p, by omega, h⟩
theorem Rdp.lt {w : World} {rb P : Nat} (h : Rdp w rb P) : rb < w.heap.size := by
  obtain ⟨p, hp, h⟩ := h
  exact h.lt
theorem Rdp.lb {w : World} {rb P : Nat} (h : Rdp w rb P) : Lb w rb 2 := by
  obtain ⟨p, hp, h⟩ := h
  exact h.lb
theorem HeldC.chr {g n rb m : Nat} {W w w' : World} (k : HeldC g n rb m W w) (c : Ch (· = rb) w w') (l : Lb w' rb m) : HeldC g n rb m W w' := by
  by_cases hg : g = rb
  · subst hg
    obtain ⟨cs, T, h1, h2⟩ := k.lb
    obtain ⟨cs', T', h3, h4⟩ := k.lc
    rw [h1] at h3
    cases h3
    have hnm : n = m := by omega
    subst hnm
    exact .of (k.ch.trans' c (fun i _ hi => Or.inr hi)) l l
  · exact .of (k.ch.trans' c (fun i _ hi => Or.inr hi)) (Lb.chk c k.lb hg) l
theorem Rdr.new {w : World} {A : Option Addr} {c n : Nat} {bs : List Int} {T : TypeId} (h : RB w 0 A c n bs) (hn : n ≤ 2000) (hq : ∀ x ∈ bs, 0 ≤ x ∧ x ≤ 255) :
    Rdr (w.alloc (.cells #[.slice A n c, .int .i64 0] T)) w.heap.size 0 := by
  refine ⟨⟨A, c, n, bs, by simp [go_sem], h.keep (KF.refl _ _).alloc, hn, hq, fun a ha hn0 => ?_⟩, by simp [go_sem], fun i => by simp [go_sem], by simp, Lb.new rfl rfl⟩
  exact (h.2.cells a ha hn0).2.2.1

/-- Blocks up to rb, behind an append to what lies higher. -/
theorem bL {rb lo : Nat} {a w w' : World} (hz : w.heap.size ≤ w'.heap.size) (hl : ∀ b, b < lo → w'.heap[b]? = w.heap[b]?) (h : KB rb a w) (hr : rb < lo) : KB rb a w' :=
  ⟨Nat.le_trans h.size hz, fun i hi hs => (hl i (by omega)).trans (h.block i hi hs)⟩

theorem RB_take {w : World} {lo c n k : Nat} {A : Option Addr} {xs : List Int} (h : RB w lo A c n xs) (hk : k ≤ n) : RB w lo A c k (xs.take k) := Rs.take h (fun _ => rfl) hk

theorem l20Open_c (A : Option Addr) (c n : Nat) (bs : List Int) (w : World) (hxs : RB w 0 A c n bs) (hq : ∀ x ∈ bs, 0 ≤ x ∧ x ≤ 255) : Calls Try.prog 41 #[.slice A n c] w fun E w' => ∃ rb, E = .returned (.pointer (some ⟨rb, 0, none⟩)) ∧ Rdp w' rb 0 ∧ w.heap.size ≤ rb ∧ Ex w w' := by
  have hl := Lib.hid hxs.1
  have hcap := hxs.2.le
  have hbig := Rs.big hxs
  by_cases hn : n ≤ 2000
  · have hb : decide (2000 < n) = false := by simp; omega
    have H0 := Lib.hid (And.intro hxs hq)
    clear hxs hq
    go_enter Try.func41, Try.ntmps41
    go_wp2_with fail
    go_ret
    refine ⟨_, rfl, ⟨0, Nat.le_refl _, Rdr.new H0.out.1 hn H0.out.2⟩, Nat.le_refl _, ext_⟩
  · have H0 := Lib.hid (And.intro hxs hq)
    clear hxs hq
    go_enter Try.func41, Try.ntmps41
    go_wp2_with fail
    go_ret
    refine ⟨_, rfl, ⟨0, Nat.le_refl _, Rdr.new (RB_take H0.out.1 (show 2000 ≤ n by omega)) (Nat.le_refl _) (fun x hx => H0.out.2 x (List.mem_of_mem_take hx))⟩, Nat.le_refl _, ext_⟩

theorem emod_bd (a : Nat) {m : Nat} (hm : 0 < m) : (0 : Int) ≤ (a : Int) % (m : Int) ∧ (a : Int) % (m : Int) < m := ⟨Int.emod_nonneg _ (by omega), Int.emod_lt_of_pos _ (by omega)⟩
theorem tmod_nn {x n : Int} (hx : 0 ≤ x) (hn : 1 ≤ n) : 0 ≤ x.tmod n ∧ x.tmod n < n := by
  rw [Int.tmod_eq_emod_of_nonneg hx]
  exact ⟨Int.emod_nonneg _ (by omega), Int.emod_lt_of_pos _ (by omega)⟩

theorem pick_c (rb P : Nat) (n : Int) (w : World) (hr : Rdp w rb P) (hP : P ≤ 1000000) (h1 : 1 ≤ n) : Calls Try.prog 72 #[.pointer (some ⟨rb, 0, none⟩), .int .i64 n] w fun E w' => ∃ v, E = .returned (.int .i64 v) ∧ (0 ≤ v ∧ v < n) ∧ Rdp w' rb (P + 1) ∧ Ch (· = rb) w w' := by
  obtain ⟨p, hp, hr⟩ := hr
  have Hs := Lib.hid (show Rdp (w.setCell ⟨rb, 1, none⟩ (.int .i64 ((p : Int) + 1))) rb (P + 1) from ⟨p + 1, by omega, hr.step⟩)
  obtain ⟨⟨A, c, m, bs, hc0, hbs, hm, hq, hab⟩, hc1, hfr, hlt⟩ := hr
  have hbig := Rs.big hbs
  have Hq := Lib.hid hq
  clear hq
  by_cases h0 : m = 0
  · subst h0
    go_enter Try.func72, Try.ntmps72
    go_wp2_with fail
    go_ret
    exact ⟨0, rfl, ⟨by omega, by omega⟩, Hs.out, Ch.setCell (S := (· = rb)) (Ch.refl _ _) (.inl rfl) _⟩
  have hm0 : 0 < m := by omega
  have hb0 : ((m : Int) == 0) = false := by simp; omega
  by_cases hlt : p < m
  · obtain ⟨g, off, y, rfl, hg0, hg, hd, hy, hc⟩ := at_B hbs hlt
    have hgr := hab _ rfl hm0
    dsimp only at hgr
    have hyb := Hq.out y (List.mem_of_getElem? hy)
    obtain ⟨hy0, hy1⟩ := hyb
    clear hd hy hab
    go_enter Try.func72, Try.ntmps72
    go_wp2_with fail
    go_ret
    exact ⟨_, rfl, ⟨Int.emod_nonneg _ (by omega), Int.emod_lt_of_pos _ (by omega)⟩, Hs.out, Ch.setCell (S := (· = rb)) (Ch.refl _ _) (.inl rfl) _⟩
  · have t1 := emod_bd p hm0
    obtain ⟨t10, t11⟩ := t1
    have t2 : (0 : Int) ≤ ((p : Int) * 7 + 3) % (m : Int) ∧ ((p : Int) * 7 + 3) % (m : Int) < m := ⟨Int.emod_nonneg _ (by omega), Int.emod_lt_of_pos _ (by omega)⟩
    obtain ⟨t20, t21⟩ := t2
    obtain ⟨g, off, y, rfl, hg0, hg, hd, hy, hcy⟩ := at_B hbs (Nat.mod_lt p hm0)
    obtain ⟨g', off', z, hA', _, _, hd', hz, hcz⟩ := at_B hbs (Nat.mod_lt (p * 7 + 3) hm0)
    cases hA'
    have hgr := hab _ rfl hm0
    dsimp only at hgr
    have hyb := Hq.out y (List.mem_of_getElem? hy)
    obtain ⟨hy0, hy1⟩ := hyb
    have hzb := Hq.out z (List.mem_of_getElem? hz)
    obtain ⟨hz0, hz1⟩ := hzb
    rw [show p % m = ((p : Int) % (m : Int)).toNat from by rw [← Int.natCast_emod]; exact (Int.toNat_natCast _).symm] at hcy
    rw [show (p * 7 + 3) % m = (((p : Int) * 7 + 3) % (m : Int)).toNat from by
      rw [show (p : Int) * 7 + 3 = ((p * 7 + 3 : Nat) : Int) from by omega, ← Int.natCast_emod]; exact (Int.toNat_natCast _).symm] at hcz
    clear hd hy hd' hz hab
    have w1 : IntKind.i64.wrap ((p : Int) * 7) = (p : Int) * 7 := IntWalk.i64_in _ (by omega)
    have w2 : IntKind.i64.wrap ((p : Int) * 7 + 3) = (p : Int) * 7 + 3 := IntWalk.i64_in _ (by omega)
    have w3 : IntKind.i64.wrap (y * 131) = y * 131 := IntWalk.i64_in _ (by omega)
    have w4 : IntKind.i64.wrap (z * 1117) = z * 1117 := IntWalk.i64_in _ (by omega)
    have w5 : IntKind.i64.wrap (y * 131 + z * 1117) = y * 131 + z * 1117 := IntWalk.i64_in _ (by omega)
    have w6 : IntKind.i64.wrap ((p : Int) * 29) = (p : Int) * 29 := IntWalk.i64_in _ (by omega)
    have w7 : IntKind.i64.wrap (y * 131 + z * 1117 + (p : Int) * 29) = y * 131 + z * 1117 + (p : Int) * 29 := IntWalk.i64_in _ (by omega)
    have e1 : (p : Int).tmod (m : Int) = (p : Int) % (m : Int) := Int.tmod_eq_emod_of_nonneg (by omega)
    have e2 : ((p : Int) * 7 + 3).tmod (m : Int) = ((p : Int) * 7 + 3) % (m : Int) := Int.tmod_eq_emod_of_nonneg (by omega)
    have e3 : (p : Int).tdiv (m : Int) = (p : Int) / (m : Int) := Int.tdiv_eq_ediv_of_nonneg (by omega)
    have t30 : (0 : Int) ≤ (p : Int) / (m : Int) := Int.ediv_nonneg (by omega) (by omega)
    have t31 : (p : Int) / (m : Int) ≤ p := Int.ediv_le_self _ (by omega)
    have w8 : IntKind.i64.wrap ((p : Int) / (m : Int) * 53) = (p : Int) / (m : Int) * 53 := IntWalk.i64_in _ (by omega)
    have w9 : IntKind.i64.wrap (y * 131 + z * 1117 + (p : Int) * 29 + (p : Int) / (m : Int) * 53) = y * 131 + z * 1117 + (p : Int) * 29 + (p : Int) / (m : Int) * 53 := IntWalk.i64_in _ (by omega)
    go_enter Try.func72, Try.ntmps72
    go_wp2_with fail
    go_quiet ((first | fail))
    go_wp2
    go_ret
    obtain ⟨X, hX⟩ : ∃ X : Nat, y * 131 + z * 1117 + (p : Int) * 29 + (p : Int) / (m : Int) * 53 = X := ⟨_, (Int.toNat_of_nonneg (by omega)).symm⟩
    have hXb : X < 4611686018427387904 := by omega
    have hx := xor_nat X (X / 64) hXb (by omega)
    rw [show ((X / 64 : Nat) : Int) = (X : Int) / 64 from by omega] at hx
    refine ⟨_, rfl, ?_, Hs.out.keep (bN (bR _ _)), (Ch.setCell (S := (· = rb)) (Ch.refl _ _) (.inl rfl) _).drewN _⟩
    rw [hX, hx]
    exact tmod_nn (Int.natCast_nonneg _) h1

def LitQ (Q : Int → Prop) : List Value → Prop
  | [] => True
  | u :: us => (∃ x, u = .int .i64 x ∧ Q x) ∧ LitQ Q us
theorem LitQ.nil {Q : Int → Prop} : LitQ Q [] := trivial
theorem LitQ.cons {Q : Int → Prop} {u : Value} {us : List Value} (h : ∃ x, u = .int .i64 x ∧ Q x) (k : LitQ Q us) : LitQ Q (u :: us) := ⟨h, k⟩
theorem LitQ.at_ {Q : Int → Prop} : ∀ {us : List Value} {i : Nat}, LitQ Q us → i < us.length → ∃ x, us[i]? = some (.int .i64 x) ∧ Q x
  | [], i, _, h => absurd h (by simp)
  | u :: us, 0, h, _ => by obtain ⟨⟨x, rfl, hx⟩, _⟩ := h; exact ⟨x, rfl, hx⟩
  | u :: us, i + 1, h, hi => LitQ.at_ (us := us) h.2 (by simpa using hi)
/-- Behind an append to what lies higher. -/
theorem Rdp.low {w w' : World} {rb P lo : Nat} (h : Rdp w rb P) (hz : w.heap.size ≤ w'.heap.size) (hl : ∀ b, b < lo → w'.heap[b]? = w.heap[b]?) (hr : rb < lo) : Rdp w' rb P := h.keep (bL hz hl (bR _ _) hr)
/-- A draw out of a literal that was just written out. -/
theorem pickLit (Q : Int → Prop) {rb P : Nat} {n : Int} {w : World} {cs : Array Value} {T : TypeId} (hr : Rdp (w.alloc (.cells cs T)) rb P) (hP : P ≤ 1000000) (hn : n = cs.toList.length) (hQ : LitQ Q cs.toList) (h1 : 1 ≤ n) (hlt : rb < w.heap.size) :
    Calls Try.prog 72 #[.pointer (some ⟨rb, 0, none⟩), .int .i64 n] (w.alloc (.cells cs T)) fun E w' => ∃ (v : Nat) (x : Int), E = .returned (.int .i64 v) ∧ (v : Int) < n ∧ Q x ∧ w'.cell? ⟨w.heap.size, v, none⟩ = some (.int .i64 x) ∧ Rdp w' rb (P + 1) ∧ Ch (· = rb) (w.alloc (.cells cs T)) w' := by
  refine (pick_c rb P n _ hr hP h1).mono ?_
  rintro E w' ⟨v, rfl, ⟨h2, h3⟩, h4, h5⟩
  obtain ⟨v, rfl⟩ := Int.eq_ofNat_of_zero_le h2
  obtain ⟨x, hx, hq⟩ := LitQ.at_ (i := v) hQ (by omega)
  refine ⟨v, x, rfl, h3, hq, ?_, h4, h5⟩
  have := h5.cell (p := ⟨w.heap.size, v, none⟩) (by simp) (by show ¬ w.heap.size = rb; omega)
  rw [this]
  simp only [World.cell?, heap_alloc_new]
  simpa using hx

theorem odd_c (rb P : Nat) (n : Int) (w : World) (hr : Rdp w rb P) (hP : P ≤ 1000000) (h1 : 1 ≤ n) (h2 : n ≤ 1000000) : Calls Try.prog 43 #[.pointer (some ⟨rb, 0, none⟩), .int .i64 n] w fun E w' => ∃ b, E = .returned (.bool b) ∧ Rdp w' rb (P + 1) ∧ Ch (· = rb) w w' := by
  go_enter Try.func43, Try.ntmps43
  go_wp2_with (go_at_call 72; apply Calls.mono; apply pick_c; (apply Rdp.keep; assumption; (exact kb_)); (first | assumption | omega); (first | assumption | omega); rintro E w1 ⟨v, rfl, ⟨hv0, hv1⟩, hrd, hb⟩; have hst := xc hb; (try simp only [zA, zC, zD, zN] at hst); obtain ⟨hc, hf, hz⟩ := hst)
  go_ret
  exact ⟨_, rfl, hrd, ext_⟩
/-- Block g is n numbers, none frozen. -/
def Ints (w : World) (g n : Nat) : Prop := ∃ (zs : List Int) (T : TypeId), zs.length = n ∧ w.heap[g]? = some (.cells (zs.map (Value.int .i64)).toArray T (0, 0))
section
variable {w w' : World} {g n : Nat}
theorem Ints.lt (h : Ints w g n) : g < w.heap.size := by
  obtain ⟨zs, T, h1, h2⟩ := h
  exact (Array.getElem?_eq_some_iff.1 h2).1
theorem Ints.new {cs : Array Value} {T : TypeId} {zs : List Int} (hg : g = w.heap.size) (hcs : cs = (zs.map (Value.int .i64)).toArray) (hn : zs.length = n) : Ints (w.alloc (.cells cs T)) g n := by
  subst hg hcs
  exact ⟨zs, T, hn, heap_alloc_new w _⟩
theorem Ints.alloc {o : Obj} (h : Ints w g n) : Ints (w.alloc o) g n := by
  have := h.lt
  obtain ⟨zs, T, h1, h2⟩ := h
  exact ⟨zs, T, h1, (Below.heap_alloc w o g this).trans h2⟩
theorem Ints.drew (h : Ints w g n) : Ints w.drew g n := h
theorem Ints.ch {S : Nat → Prop} (hb : Ch S w w') (hS : ¬ S g) (h : Ints w g n) : Ints w' g n := by
  have := h.lt
  obtain ⟨zs, T, h1, h2⟩ := h
  exact ⟨zs, T, h1, (hb.block g this hS).trans h2⟩
theorem Ints.set {p : Addr} {v : Int} (h : Ints w g n) (hp : p.spot = none) : Ints (w.setCell p (.int .i64 v)) g n := by
  obtain ⟨zs, T, h1, h2⟩ := h
  by_cases he : p.block = g
  · subst he
    refine ⟨zs.set p.off v, T, by rw [List.length_set]; exact h1, ?_⟩
    simp only [World.setCell, Array.getElem?_modify, if_true, h2, Option.map_some, hp]
    congr 2
    apply Array.ext'
    simp [List.map_set]
  · exact ⟨zs, T, h1, (Below.heap_setCell w p _ g (fun e => he e.symm)).trans h2⟩
theorem Ints.lb (h : Ints w g n) : Lb w g n := by
  obtain ⟨zs, T, h1, h2⟩ := h
  exact ⟨_, T, h2, by simp [h1]⟩
theorem Ints.free (h : Ints w g n) : ∀ i, w.frozen? ⟨g, i, none⟩ = false := h.lb.rules.2
theorem Ints.at_ (h : Ints w g n) {i : Nat} (hi : i < n) : ∃ a : Int, w.cell? ⟨g, i, none⟩ = some (.int .i64 a) := by
  obtain ⟨zs, T, h1, h2⟩ := h
  refine ⟨zs[i], ?_⟩
  simp [World.cell?, h2, h1, hi]
end
/-- Where a struct of n numbers is drawn into block g, to be handed out by block r. -/
structure DrawAt (w0 w : World) (rb r g n P : Nat) : Prop where
  own : Ints w g n
  res : Ints w r n
  rd : Rdp w rb P
  ch : Ch (· = rb) w0 w
end Go.Proofs.Ytimpagcanengoaa

namespace Go.Proofs.Ytimpagcanengoaa
set_option maxRecDepth 100000
set_option linter.unusedSimpArgs false
set_option linter.unusedVariables false
open Go.RowKit Go
set_option maxHeartbeats 2000000

theorem pick_z (rb P : Nat) (n N : Int) (w : World) (hr : Rdp w rb P) (hP : P ≤ 1000000) (hN : n ≤ N) (h0 : 0 ≤ N) : Calls Try.prog 72 #[.pointer (some ⟨rb, 0, none⟩), .int .i64 n] w fun E w' => ∃ v, E = .returned (.int .i64 v) ∧ (0 ≤ v ∧ v ≤ N) ∧ Rdp w' rb (P + 1) ∧ Ch (· = rb) w w' := by
  by_cases h1 : 1 ≤ n
  · refine (pick_c rb P n w hr hP h1).mono ?_
    rintro E w' ⟨v, rfl, ⟨h2, h3⟩, h4, h5⟩
    exact ⟨v, rfl, ⟨h2, by omega⟩, h4, h5⟩
  obtain ⟨p, hp, hr⟩ := hr
  have Hs := Lib.hid (show Rdp (w.setCell ⟨rb, 1, none⟩ (.int .i64 ((p : Int) + 1))) rb (P + 1) from ⟨p + 1, by omega, hr.step⟩)
  obtain ⟨⟨A, c, m, bs, hc0, hbs, hm, hq, hab⟩, hc1, hfr, hlt⟩ := hr
  clear hq
  have hn1 : n < 1 := by omega
  go_enter Try.func72, Try.ntmps72
  go_wp2_with fail
  go_ret
  exact ⟨0, rfl, ⟨by omega, by omega⟩, Hs.out, Ch.setCell (S := (· = rb)) (Ch.refl _ _) (.inl rfl) _⟩

theorem l20Entry_c (rb P : Nat) (n : Int) (w : World) (hr : Rdp w rb P) (hP : P ≤ 999000) (h1 : 1 ≤ n) (h2 : n ≤ 1000000) : Calls Try.prog 86 #[.pointer (some ⟨rb, 0, none⟩), .int .i64 n] w fun E w' => ∃ a b c d, E = .returned (.agg #[.int .i64 a, .int .i64 b, .int .i64 c, .int .i64 d]) ∧ Rdp w' rb (P + 10) ∧ Ch (· = rb) w w' := by
  have hlt := hr.lt
  go_enter Try.func86, Try.ntmps86
  go_upto_if 17 with (first | (go_at_call 72; apply Calls.mono; apply (pickLit (fun _ => True)); (apply Rdp.keep; assumption; (exact kb_)); omega; (first | rfl | (simp; done)); (repeat (first | exact LitQ.nil | (refine LitQ.cons ⟨_, rfl, (by first | exact trivial | omega)⟩ ?_))); omega; (first | omega | (simp only [zA, zC, zD, zN]; omega)); rintro E w1 ⟨v, x, rfl, hv, hq, hcx, hrd, hb⟩; (try simp only [zA, zC, zD, zN] at hcx); have hst := xc hb; (try simp only [zA, zC, zD, zN] at hst); obtain ⟨hc, hf, hz⟩ := hst) | (go_at_call 72; apply Calls.mono; apply pick_c; (apply Rdp.keep; assumption; (exact kb_)); (first | assumption | omega); (first | assumption | omega); rintro E w1 ⟨v, rfl, ⟨hv0, hv1⟩, hrd, hb⟩; have hst := xc hb; (try simp only [zA, zC, zD, zN] at hst); obtain ⟨hc, hf, hz⟩ := hst))
  obtain ⟨g, hgg⟩ : ∃ g, g = w1.heap.size := ⟨_, rfl⟩
  have hg0 : w.heap.size + 1 ≤ g := by omega
  have Hgg := Lib.hid hgg
  clear hgg
  go_cut [] (fun wx => DrawAt w wx rb w.heap.size g 4 (P + 4))
  case first =>
    go_wp2_with (go_at_call 72; apply Calls.mono; apply (pickLit (fun _ => True)); (apply Rdp.keep; assumption; (exact kb_)); omega; (first | rfl | (simp; done)); (repeat (first | exact LitQ.nil | (refine LitQ.cons ⟨_, rfl, (by first | exact trivial | omega)⟩ ?_))); omega; (first | omega | (simp only [zA, zC, zD, zN]; omega)); rintro E w1 ⟨v, x, rfl, hv, hq, hcx, hrd, hb⟩; (try simp only [zA, zC, zD, zN] at hcx); have hst := xc hb; (try simp only [zA, zC, zD, zN] at hst); obtain ⟨hc, hf, hz⟩ := hst)
    all_goals go_meet
    all_goals (refine ⟨?_, ?_, Rdp.more (Rdp.keep (by assumption) (by (exact kb_))) (by omega), ext_⟩)
    all_goals (try rw [Hgg.out])
    all_goals (repeat (first | with_reducible assumption | exact Ints.new (zs := [_, _, _]) (by first | with_reducible rfl | omega) rfl rfl | exact Ints.new (zs := [_, _, _, _]) (by first | with_reducible rfl | omega) rfl rfl | exact Ints.new (zs := [_, _, _, _, _, _]) (by first | with_reducible rfl | omega) rfl rfl | with_reducible apply Ints.alloc | with_reducible apply Ints.drew | (with_reducible refine Ints.set ?_ rfl) | (with_reducible refine Ints.ch (by assumption) (by first | omega | (simp only [zA, zC, zD, zN]; omega)) ?_)))
  case rest =>
    ((repeat (rename Ch _ _ _ => zz; clear zz)); (repeat (rename Rdp _ _ _ => zz; clear zz)); (repeat (rename (∀ (b o : Nat), ¬ ((⟨b, 0, none⟩ : Addr) = ⟨b - _ + _, 0, none⟩) → _) => zz; clear zz)))
    rw [← Hgg.out]
    obtain ⟨own, res, rd, hbx⟩ := hcut
    have hzx := hbx.size
    have hgl := own.lt
    have hgr : g ≠ rb := by omega
    obtain ⟨o0, ho0⟩ := own.at_ (i := 0) (by omega); obtain ⟨o1, ho1⟩ := own.at_ (i := 1) (by omega); obtain ⟨o2, ho2⟩ := own.at_ (i := 2) (by omega); obtain ⟨o3, ho3⟩ := own.at_ (i := 3) (by omega); have hof := own.free
    go_upto_if 26 with (go_at_call 43; apply Calls.mono; apply odd_c; (apply Rdp.keep; assumption; (exact kb_)); (first | assumption | omega); (first | assumption | omega); (first | assumption | omega); rintro E w1 ⟨b, rfl, hrd, hb⟩; have hst := xc hb; (try simp only [zA, zC, zD, zN] at hst); obtain ⟨hc, hf, hz⟩ := hst)
    go_cut [] (fun wx => DrawAt w wx rb w.heap.size g 4 (P + 7))
    case first =>
      go_wp2_with (first | (go_at_call 72; apply Calls.mono; apply (pickLit (fun _ => True)); (apply Rdp.keep; assumption; (exact kb_)); omega; (first | rfl | (simp; done)); (repeat (first | exact LitQ.nil | (refine LitQ.cons ⟨_, rfl, (by first | exact trivial | omega)⟩ ?_))); omega; (first | omega | (simp only [zA, zC, zD, zN]; omega)); rintro E w1 ⟨v, x, rfl, hv, hq, hcx, hrd, hb⟩; (try simp only [zA, zC, zD, zN] at hcx); have hst := xc hb; (try simp only [zA, zC, zD, zN] at hst); obtain ⟨hc, hf, hz⟩ := hst) | (go_at_call 72; apply Calls.mono; apply pick_c; (apply Rdp.keep; assumption; (exact kb_)); (first | assumption | omega); (first | assumption | omega); rintro E w1 ⟨v, rfl, ⟨hv0, hv1⟩, hrd, hb⟩; have hst := xc hb; (try simp only [zA, zC, zD, zN] at hst); obtain ⟨hc, hf, hz⟩ := hst) | (go_at_call 52; refine (sEntCap_c _ _).mono ?_; rintro E w' ⟨rfl, rfl⟩))
      all_goals go_meet
      all_goals (refine ⟨?_, ?_, Rdp.more (Rdp.keep (by assumption) (by (exact kb_))) (by omega), ext_⟩)
      all_goals (repeat (first | with_reducible assumption | exact Ints.new (zs := [_, _, _]) (by first | with_reducible rfl | omega) rfl rfl | exact Ints.new (zs := [_, _, _, _]) (by first | with_reducible rfl | omega) rfl rfl | exact Ints.new (zs := [_, _, _, _, _, _]) (by first | with_reducible rfl | omega) rfl rfl | with_reducible apply Ints.alloc | with_reducible apply Ints.drew | (with_reducible refine Ints.set ?_ rfl) | (with_reducible refine Ints.ch (by assumption) (by first | omega | (simp only [zA, zC, zD, zN]; omega)) ?_)))
    case rest =>
      ((repeat (rename Ch _ _ _ => zz; clear zz)); (repeat (rename Rdp _ _ _ => zz; clear zz)); (repeat (rename (∀ (b o : Nat), ¬ ((⟨b, 0, none⟩ : Addr) = ⟨b - _ + _, 0, none⟩) → _) => zz; clear zz)))
      clear own res hzx hgl
      obtain ⟨own, res, rd, hbx⟩ := hcut
      have hzx := hbx.size
      have hgl := own.lt
      obtain ⟨o0, ho0⟩ := own.at_ (i := 0) (by omega); obtain ⟨o1, ho1⟩ := own.at_ (i := 1) (by omega); obtain ⟨o2, ho2⟩ := own.at_ (i := 2) (by omega); obtain ⟨o3, ho3⟩ := own.at_ (i := 3) (by omega); have hof := own.free
      obtain ⟨r0, hr0⟩ := res.at_ (i := 0) (by omega); obtain ⟨r1, hr1⟩ := res.at_ (i := 1) (by omega); obtain ⟨r2, hr2⟩ := res.at_ (i := 2) (by omega); obtain ⟨r3, hr3⟩ := res.at_ (i := 3) (by omega); have hrf := res.free
      go_wp2_with fail
      refine bodyPost_ret (v := .agg #[.int .i64 o0, .int .i64 o1, .int .i64 o2, .int .i64 o3]) (by simp [results, Try.results86, go_sem, *]) rfl ?_
      exact ⟨o0, o1, o2, o3, rfl, rd.keep (by (exact kb_)) |>.more (by omega), ext_⟩
end Go.Proofs.Ytimpagcanengoaa

namespace Go.Proofs.Ytimpagcanengoaa
set_option maxRecDepth 100000
set_option linter.unusedSimpArgs false
set_option linter.unusedVariables false
open Go.RowKit Go

/-- What the program's tables say of a slice type and its element type. -/
structure ElemOk (P : Program) (t e : TypeId) (sz bytes : Nat) : Prop where
  sl : P.underlying t = some (.slice e)
  info : ∃ i z, P.info? e = some i ∧ i.zero = some z ∧ i.size = sz ∧ i.bytes = bytes ∧ z.cells.size = sz
  pos : 0 < sz
theorem ElemOk.mk' {P : Program} {t e : TypeId} {sz bytes : Nat} {z : Value} (h1 : P.underlying t = some (.slice e)) (h2 : (P.info? e).map (fun i => (i.zero, i.size, i.bytes)) = some (some z, sz, bytes)) (h3 : z.cells.size = sz) (h4 : 0 < sz) : ElemOk P t e sz bytes := by
  obtain ⟨i, hi, hz, hs, hb⟩ := info_parts h2
  exact ⟨h1, ⟨i, z, hi, hz, hs, hb, h3⟩, h4⟩

/-- An owned slice: its block is the call's own, from lo on. -/
def Ow {α : Type} (enc : α → List Value) (sz : Nat) (e : TypeId) (w : World) (lo : Nat) (A : Option Addr) (c n : Nat) (xs : List α) : Prop :=
  n = xs.length ∧ w.ownsRow lo e sz (.slice A n c) n (xs.flatMap enc)

section
variable {α : Type} {enc : α → List Value} {sz : Nat} {e : TypeId} {w w' w0 : World} {lo lo' c n : Nat} {A : Option Addr} {xs : List α}
theorem Ow.rs (h : Ow enc sz e w lo A c n xs) : Rs enc sz w lo A c n xs := ⟨h.1, Rd.of_own h.2⟩
theorem Ow.nil (w : World) (lo : Nat) : Ow enc sz e w lo none 0 0 [] := ⟨rfl, World.ownsRow_nil w lo e sz⟩
/-- Its block, and that it is whole. -/
theorem Ow.form (h : Ow enc sz e w lo A c n xs) : (A = none ∧ n = 0 ∧ c = 0) ∨ ∃ g cur, A = some ⟨g, 0, none⟩ ∧ lo ≤ g ∧ g < w.heap.size ∧ w.heap[g]? = some (.cells cur e (0, 0)) ∧ n ≤ c ∧ c ≤ maxLen ∧ cur.size = c * sz ∧ cur.toList.take (n * sz) = xs.flatMap enc := by
  rcases h.2.2 with ⟨hv, h0⟩ | ⟨g, cap, cur, hv, hb, hh, hn, hm, hs, ht⟩
  · injection hv with h1 h2 h3; exact .inl ⟨h1, h2, h3⟩
  · injection hv with h1 h2 h3
    subst h3
    exact .inr ⟨g, cur, h1, hb, (Array.getElem?_eq_some_iff.1 hh).1, hh, hn, hm, hs, ht⟩
theorem Ow.blk (h : Ow enc sz e w lo A c n xs) {a : Addr} (ha : A = some a) : lo ≤ a.block ∧ a.block < w.heap.size := by
  rcases h.form with ⟨h1, _⟩ | ⟨g, cur, h1, h2, h3, _⟩
  · rw [h1] at ha; cases ha
  · rw [h1] at ha; cases ha; exact ⟨h2, h3⟩
theorem Ow.keep_ (h : Ow enc sz e w lo A c n xs) (hk : ∀ a, A = some a → w'.heap[a.block]? = w.heap[a.block]?) : Ow enc sz e w' lo A c n xs := by
  refine ⟨h.1, h.2.1, ?_⟩
  rcases h.2.2 with hv | ⟨g, cap, cur, hv, hb, hh, r⟩
  · exact .inl hv
  · have hA : A = some ⟨g, 0, none⟩ := by injection hv
    exact .inr ⟨g, cap, cur, hv, hb, (hk _ hA).trans hh, r⟩
theorem Ow.keep (h : Ow enc sz e w lo A c n xs) (hk : KF lo w w') : Ow enc sz e w' lo A c n xs := h.keep_ fun a ha => hk.block _ (h.blk ha).1 (h.blk ha).2
theorem Ow.less (h : Ow enc sz e w lo A c n xs) (hl : lo' ≤ lo) : Ow enc sz e w lo' A c n xs := by
  refine ⟨h.1, h.2.1, ?_⟩
  rcases h.2.2 with hv | ⟨g, cap, cur, hv, hb, r⟩
  · exact .inl hv
  · exact .inr ⟨g, cap, cur, hv, Nat.le_trans hl hb, r⟩
theorem Ow.rs0 (h : Ow enc sz e w0 lo A c n xs) (hk : KF lo w0 w) : Rs enc sz w 0 A c n xs := h.rs.at0 hk
/-- What an append may turn. -/
def atA (A : Option Addr) : Nat → Prop := fun k => ∃ a, A = some a ∧ k = a.block
theorem Ex.app (h : Ex w0 w) (ho : Ow enc sz e w lo A c n xs) (hl : w0.heap.size ≤ lo) (hc : Ch (atA A) w w') : Ex w0 w' :=
  h.trans' hc (fun i hi ⟨a, ha, hk⟩ => by have := (ho.blk ha).1; omega)
theorem Ch.app {S : Nat → Prop} (h : Ch S w0 w) (ho : Ow enc sz e w lo A c n xs) (hl : w0.heap.size ≤ lo) (hc : Ch (atA A) w w') : Ch S w0 w' :=
  h.trans' hc (fun i hi ⟨a, ha, hk⟩ => by have := (ho.blk ha).1; omega)
theorem KF.app {l0 : Nat} (hc : Ch (atA A) w w') (ho : Ow enc sz e w lo A c n xs) (h : KF l0 w0 w) (hl : w0.heap.size ≤ lo) : KF l0 w0 w' :=
  KF.ch hc h (fun i ⟨a, ha, hk⟩ => by have := (ho.blk ha).1; omega)

/-- A slice that has just been written out, as an owned one. -/
theorem Ow.new {cs : Array Value} {g : Nat} (xs : List α) (hg : g = w.heap.size) (hcs : cs = (xs.flatMap enc).toArray) (hn : n = xs.length) (hsz : ∀ x, (enc x).length = sz) (hl : lo ≤ g) (hm : n ≤ 4194304) :
    Ow enc sz e (w.alloc (.cells cs e)) lo (some ⟨g, 0, none⟩) n n xs := by
  subst hg hcs
  have hlen : ∀ xs : List α, (xs.flatMap enc).length = xs.length * sz := by
    intro xs
    induction xs with
    | nil => simp
    | cons x xs ih => simp only [List.flatMap_cons, List.length_append, hsz, ih, List.length_cons, Nat.succ_mul]; omega
  refine ⟨hn, ?_⟩
  have := World.ownsRow_lit (base := lo) (e := e) (size := sz) w (xs.flatMap enc).toArray n hl (by unfold maxLen; omega) (by simp only [List.size_toArray]; rw [hlen, hn])
  simpa using this
end

section
variable {α : Type} {enc : α → List Value} {sz : Nat} {e : TypeId} {w : World} {lo c n : Nat} {A : Option Addr} {xs : List α}
/-- Element k of an owned slice: it may be read and written. -/
theorem Ow.at_ (h : Ow enc sz e w lo A c n xs) (hsz : ∀ x, (enc x).length = sz) {k : Nat} (hk : k < n) :
    ∃ g x, A = some ⟨g, 0, none⟩ ∧ lo ≤ g ∧ g < w.heap.size ∧ xs[k]? = some x ∧ (∀ j u, j < sz → (enc x)[j]? = some u → w.cell? ⟨g, k * sz + j, none⟩ = some u) ∧ (∀ i, w.frozen? ⟨g, i, none⟩ = false) := by
  obtain ⟨g', off, x, h1, h2, h3, h4, h5, h6⟩ := h.rs.at_ hsz hk
  rcases h.form with ⟨hA, _⟩ | ⟨g, cur, hA, hlo, hlt, hh, _⟩
  · rw [hA] at h1; cases h1
  · rw [hA] at h1
    have e := Option.some.inj h1
    injection e with e1 e2
    subst e1 e2
    exact ⟨g, x, hA, hlo, hlt, h5, fun j u hj hu => by have := h6 j u hj hu; rwa [Nat.zero_add] at this, fun i => by simp [World.frozen?, hh]⟩
theorem flat_set (hsz : ∀ x, (enc x).length = sz) {u : Value} {j : Nat} (hj : j < sz) : ∀ (xs : List α) (k : Nat) (x y : α), xs[k]? = some x → enc y = (enc x).set j u →
    (xs.flatMap enc).set (k * sz + j) u = (xs.set k y).flatMap enc := by
  intro xs
  induction xs with
  | nil => intro k x y h; simp at h
  | cons a xs ih =>
    intro k x y h hy
    cases k with
    | zero =>
      obtain rfl : a = x := by simpa using h
      simp only [List.flatMap_cons, Nat.zero_mul, Nat.zero_add, List.set_cons_zero]
      rw [List.set_append_left _ _ (by rw [hsz]; exact hj), hy]
    | succ k =>
      simp only [List.flatMap_cons, List.set_cons_succ]
      rw [List.set_append_right _ _ (by rw [hsz, Nat.succ_mul]; omega)]
      rw [show (k + 1) * sz + j - (enc a).length = k * sz + j from by rw [hsz, Nat.succ_mul]; omega]
      rw [ih k x y (by simpa using h) hy]
/-- One cell of element k is written. -/
theorem Ow.set (h : Ow enc sz e w lo A c n xs) (hsz : ∀ x, (enc x).length = sz) {g k j : Nat} {u : Value} {x y : α} (hA : A = some ⟨g, 0, none⟩) (hx : xs[k]? = some x) (hj : j < sz) (hy : enc y = (enc x).set j u) :
    Ow enc sz e (w.setCell ⟨g, k * sz + j, none⟩ u) lo A c n (xs.set k y) := by
  have hk : k < xs.length := (List.getElem?_eq_some_iff.1 hx).1
  refine ⟨by rw [List.length_set]; exact h.1, ?_, ?_⟩
  · rw [← flat_set hsz hj xs k x y hx hy, List.length_set]; exact h.2.1
  · rcases h.form with ⟨hA', _⟩ | ⟨g', cur, hA', hlo, hlt, hh, hn, hm, hs, ht⟩
    · rw [hA'] at hA; cases hA
    · rw [hA'] at hA
      have e1 := Option.some.inj hA
      injection e1 with e1
      subst e1
      refine .inr ⟨g', c, cur.setIfInBounds (k * sz + j) u, by rw [hA'], hlo, ?_, hn, hm, by simpa using hs, ?_⟩
      · simp [World.setCell, Array.getElem?_modify, hh]
      · rw [Array.toList_setIfInBounds, List.take_set, ht]
        exact flat_set hsz hj xs k x y hx hy
end

theorem low_rules {W w1 : World} {lo : Nat} (h : ∀ b, b < lo → w1.heap[b]? = W.heap[b]?) :
    (∀ b o, ¬ ((⟨b, 0, none⟩ : Addr) = ⟨b - lo + lo, 0, none⟩) → w1.cell? ⟨b, o, none⟩ = W.cell? ⟨b, o, none⟩) ∧
    (∀ b o, ¬ ((⟨b, 0, none⟩ : Addr) = ⟨b - lo + lo, 0, none⟩) → w1.frozen? ⟨b, o, none⟩ = W.frozen? ⟨b, o, none⟩) :=
  ⟨fun b o hb => World.cell?_of_block (w := W) (a := ⟨b, o, none⟩) (h b (lt_of_addr hb)), fun b o hb => World.frozen?_of_block (w := W) (a := ⟨b, o, none⟩) (h b (lt_of_addr hb))⟩

theorem wp_app {P : Program} {w : World} {o : Oper} {a : Act} {Kx : Act → World → Prop} {Q : Exit → Act → World → Prop} {α : Type} {enc : α → List Value} {sz bytes : Nat} {t e : TypeId} {s x : Operand}
    {lo lo2 c n m d : Nat} {A B : Option Addr} {xs ys : List α}
    (hel : ElemOk P t e sz bytes) (h1 : ∀ x, ∀ u ∈ enc x, u.oneCell' = true)
    (ho : o.op = .call { callee := .builtin .append, args := #[s, x], argTypes := #[t, t] }) (hs : a.eval s = .slice A n c) (hx : a.eval x = .slice B m d)
    (hown : Ow enc sz e w lo A c n xs) (hnew : Rs enc sz w lo2 B d m ys) (hb : (n + m) * bytes ≤ 140737488355328 ∧ n + m ≤ 9223372036854775807) (hlo : lo ≤ w.heap.size)
    (K : ∀ A' c' w', Ow enc sz e w' lo A' c' (n + m) (xs ++ ys) → Ch (atA A) w w' → (∀ b, A' = some b → A = some b ∨ w.heap.size ≤ b.block) → (∀ S w0, Ch S w0 w → w0.heap.size ≤ lo → Ch S w0 w') → (∀ b, b < lo → w'.heap[b]? = w.heap[b]?) → Kx (a.put o.dst (.slice A' (n + m) c')) w') :
    o.wp P a w Kx Q := by
  obtain ⟨i, z, hi, hz, hsz', hby, hzs⟩ := hel.info
  have hmem : ∀ u ∈ ys.flatMap enc, u.oneCell' = true := by
    intro u hu
    obtain ⟨y, _, hy⟩ := List.mem_flatMap.1 hu
    exact h1 y u hy
  have run : ∃ v' w', (Builtin.append_ #[t, t] o.type #[.slice A n c, .slice B m d]).run P w = .ok v' w' ∧ w'.ownsRow lo e sz v' (n + m) ((xs ++ ys).flatMap enc) ∧ w.grownBy w' (Value.slice A n c).ownBlock ∧
      (v'.ownBlock = (Value.slice A n c).ownBlock ∨ v'.ownBlock = some w.heap.size) := by
    cases B with
    | none =>
      have hd := hnew.2.nil rfl
      have hm : m = 0 := by have := hnew.2.le; omega
      subst hd hm
      have hy : ys = [] := List.eq_nil_of_length_eq_zero hnew.1.symm
      subst hy
      exact ⟨_, w, run_append_owned_none w lo t o.type e i sz hel.sl hi _ n _ hown.2, by simpa using hown.2, World.grownBy.refl w _, .inl rfl⟩
    | some ad =>
      obtain ⟨v', w', hrun, h2, h3, _, h5⟩ := run_append_own_at (P := P) w lo t o.type e i z sz bytes hel.sl hi hz hsz' hby hzs hel.pos _ n _ hown.2 ad m d (ys.flatMap enc) hnew.2.len
        (fun j u hu => by
          have hm : 0 < m := by
            have h1 := (List.getElem?_eq_some_iff.1 hu).1
            rw [hnew.2.len] at h1
            rcases Nat.eq_zero_or_pos m with h0 | h0
            · subst h0; simp at h1
            · exact h0
          obtain ⟨h1', _, _, h4⟩ := hnew.2.cells _ rfl hm
          obtain ⟨g, off, spot⟩ := ad
          dsimp only at h1' h4
          subst h1'
          rw [Addr.add_lit]; exact h4 j u hu) hmem (by unfold maxLen; omega) hb.1 hlo
      exact ⟨v', w', hrun, by simpa using h2, h3, h5⟩
  obtain ⟨v', w', hrun, h2, h3, h5⟩ := run
  unfold Oper.wp execOp
  simp only [ho, resolve, invoke, builtin, Sem.run_bind, Sem.run_pure, Result.andThen_ok, List.map_toArray, List.map_cons, List.map_nil, hs, hx, hrun]
  have hlen : n + m = (xs ++ ys).length := by rw [List.length_append, hown.1, hnew.1]
  have hch : Ch (atA A) w w' := ⟨h3.os, h3.tape, h3.output, h3.size, fun k hk hS => h3.block k hk (fun e => hS (by
    cases A with
    | none => simp [Value.ownBlock] at e
    | some a => simp [Value.ownBlock] at e; exact ⟨a, rfl, e⟩))⟩
  have hlow : ∀ b, b < lo → w'.heap[b]? = w.heap[b]? := fun b hb => hch.block b (by omega) (fun ⟨a, ha, hk⟩ => by have := (hown.blk ha).1; omega)
  rcases h2.2 with ⟨rfl, h0⟩ | ⟨g, cap, cur, rfl, r⟩
  · rw [h0] at hlen
    have hx' : xs ++ ys = [] := List.eq_nil_of_length_eq_zero hlen.symm
    have := K none 0 w' ⟨by rw [hx']; simpa using h0, by rw [hx', h0]; simpa using World.ownsRow_nil w' lo e sz⟩ hch (fun b hb => by cases hb) (fun S w0 h hl => Ch.app h hown hl hch) hlow
    rw [h0] at this
    exact this
  · refine K (some ⟨g, 0, none⟩) cap w' ⟨hlen, h2⟩ hch (fun b hb => ?_) (fun S w0 h hl => Ch.app h hown hl hch) hlow
    obtain rfl := Option.some.inj hb
    rcases h5 with h5 | h5
    · left
      rcases hown.form with ⟨hA, _, _⟩ | ⟨g', cur', hA, _⟩
      · subst hA; simp [Value.ownBlock] at h5
      · subst hA; simp [Value.ownBlock] at h5; subst h5; rfl
    · right
      simp [Value.ownBlock] at h5
      subst h5
      exact Nat.le_refl _

theorem wpList_app {P : Program} {w : World} {ops : Array Oper} {rest : List Oper} {o : Oper} {a : Act} {Q : Exit → Act → World → Prop} {α : Type} {enc : α → List Value} {sz bytes : Nat} {t e : TypeId} {s x : Operand}
    {lo lo2 c n m d : Nat} {A B : Option Addr} {xs ys : List α}
    (hel : ElemOk P t e sz bytes) (h1 : ∀ x, ∀ u ∈ enc x, u.oneCell' = true) (hgd : o.guard = none)
    (ho : o.op = .call { callee := .builtin .append, args := #[s, x], argTypes := #[t, t] }) (hs : a.eval s = .slice A n c) (hx : a.eval x = .slice B m d)
    (hown : Ow enc sz e w lo A c n xs) (hnew : Rs enc sz w lo2 B d m ys) (hb : (n + m) * bytes ≤ 140737488355328 ∧ n + m ≤ 9223372036854775807) (hlo : lo ≤ w.heap.size)
    (K : ∀ A' c' w', Ow enc sz e w' lo A' c' (n + m) (xs ++ ys) → Ch (atA A) w w' → (∀ b, A' = some b → A = some b ∨ w.heap.size ≤ b.block) → (∀ S w0, Ch S w0 w → w0.heap.size ≤ lo → Ch S w0 w') → (∀ b, b < lo → w'.heap[b]? = w.heap[b]?) → wpList P ops Q rest (a.put o.dst (.slice A' (n + m) c')) w') :
    wpList P ops Q (o :: rest) a w :=
  wpList_plain hgd fun K' hK' => wp_app hel h1 ho hs hx hown hnew hb hlo fun A' c' w' p1 p2 p3 p4 p5 => hK' _ _ (K A' c' w' p1 p2 p3 p4 p5)
/-- The same inside a region that draws its order. -/
theorem step_app {P : Program} {w : World} {ops : Array Oper} {o : Oper} {a : Act} {Kx : Act → World → Prop} {Q : Exit → Act → World → Prop} {E : Prop} {α : Type} {enc : α → List Value} {sz bytes : Nat} {t e : TypeId} {s x : Operand}
    {lo lo2 c n m d : Nat} {A B : Option Addr} {xs ys : List α}
    (hel : ElemOk P t e sz bytes) (h1 : ∀ x, ∀ u ∈ enc x, u.oneCell' = true) (hgd : o.guard = none)
    (ho : o.op = .call { callee := .builtin .append, args := #[s, x], argTypes := #[t, t] }) (hs : a.eval s = .slice A n c) (hx : a.eval x = .slice B m d)
    (hown : Ow enc sz e w lo A c n xs) (hnew : Rs enc sz w lo2 B d m ys) (hb : (n + m) * bytes ≤ 140737488355328 ∧ n + m ≤ 9223372036854775807) (hlo : lo ≤ w.heap.size)
    (K : ∀ A' c' w', Ow enc sz e w' lo A' c' (n + m) (xs ++ ys) → Ch (atA A) w w' → (∀ b, A' = some b → A = some b ∨ w.heap.size ≤ b.block) → (∀ S w0, Ch S w0 w → w0.heap.size ≤ lo → Ch S w0 w') → (∀ b, b < lo → w'.heap[b]? = w.heap[b]?) → Kx (a.put o.dst (.slice A' (n + m) c')) w') :
    if Region.wanted o (yielded ops a.tmps) = true then o.wp P a w Kx Q else E := by
  rw [if_pos (by simp [Region.wanted, hgd])]
  exact wp_app hel h1 ho hs hx hown hnew hb hlo K

theorem madeCells_flat {α : Type} {enc : α → List Value} {sz : Nat} (zx : α) (hsz : (enc zx).length = sz) (hp : 0 < sz) : ∀ n : Nat, (madeCells (enc zx).toArray (n * sz)).toList = (List.replicate n zx).flatMap enc := by
  intro n
  have key : ∀ n : Nat, (List.range (n * sz)).map (fun j => (enc zx).toArray[j % sz]!) = (List.replicate n zx).flatMap enc := by
    intro n
    induction n with
    | zero => simp
    | succ n ih =>
      rw [Nat.succ_mul, List.range_add, List.map_append, ih, List.replicate_succ', List.flatMap_append, List.flatMap_cons, List.flatMap_nil, List.append_nil]
      congr 1
      apply List.ext_getElem
      · simp [hsz]
      · intro j h1 h2
        have hj : j < sz := by simpa using h1
        simp [Nat.mod_eq_of_lt hj, hsz, hj]
  rw [madeCells, Array.toList_map, Array.toList_range]
  simp only [List.size_toArray, hsz]
  exact key n

/-- 'make([]T, n)'. -/
theorem wpList_mk {P : Program} {w : World} {ops : Array Oper} {rest : List Oper} {o : Oper} {a : Act} {Q : Exit → Act → World → Prop} {α : Type} {enc : α → List Value} {sz bytes : Nat} {t e : TypeId} {l c : Operand} {lo n : Nat}
    (hel : ElemOk P t e sz bytes) (zx : α) (hzx : ∀ i z, P.info? e = some i → i.zero = some z → z.cells = (enc zx).toArray) (hsz : (enc zx).length = sz) (hgd : o.guard = none)
    (ho : o.op = .makeSlice t l c) (hl : a.eval l = .int .i64 n) (hc : a.eval c = .int .i64 n) (hb : bytes * n ≤ 281474976710656) (hn : n ≤ maxLen) (hlo : lo ≤ w.heap.size)
    (K : ∀ w', Ow enc sz e w' lo (some ⟨w.heap.size, 0, none⟩) n n (List.replicate n zx) → Ex w w' → w.heap.size + 1 ≤ w'.heap.size → wpList P ops Q rest (a.put o.dst (.slice (some ⟨w.heap.size, 0, none⟩) n n)) w') :
    wpList P ops Q (o :: rest) a w := by
  obtain ⟨i, z, hi, hz, hsz', hby, hzs⟩ := hel.info
  refine wpList_make_full w hgd l c t ho lo e i z sz hel.sl hi hz hsz' .i64 .i64 n n n hl hc rfl rfl (by rw [hby]; exact hb) hn hlo fun w' h1 h2 => ?_
  rw [hzx i z hi hz, madeCells_flat zx hsz hel.pos] at h1
  refine K w' ⟨(List.length_replicate ..).symm, ?_⟩ ⟨h2.os, h2.tape, h2.output, h2.size, fun k hk _ => h2.block k hk (by simp)⟩ ?_
  · exact h1
  · rcases h1.2 with ⟨hv, h0⟩ | ⟨g, cap, cur, hv, hb, hh, _⟩
    · cases hv
    · injection hv with e1
      injection e1 with e1
      injection e1 with e1
      subst e1
      exact (Array.getElem?_eq_some_iff.1 hh).1

theorem Ch.atq {A : Option Addr} {q : Nat} {w w' : World} (h : Ch (atA A) w w') (hA : A = none ∨ A = some ⟨q, 0, none⟩) : Ch (· = q) w w' :=
  h.mono fun i _ ⟨a, ha, hi⟩ => by
    rcases hA with rfl | rfl
    · cases ha
    · cases ha; exact hi
end Go.Proofs.Ytimpagcanengoaa

namespace Go.Proofs.Ytimpagcanengoaa
set_option maxRecDepth 100000
set_option linter.unusedSimpArgs false
set_option linter.unusedVariables false
open Go.RowKit Go
theorem el_I : ElemOk Try.prog 24 3 1 8 := .mk' (z := .int .i64 0) Try.underlying24 (by kernel_rfl) rfl (by omega)
theorem el_E : ElemOk Try.prog 23 60 4 32 := .mk' (z := .agg #[.int .i64 0, .int .i64 0, .int .i64 0, .int .i64 0]) Try.underlying23 (by kernel_rfl) rfl (by omega)
theorem el_R : ElemOk Try.prog 44 48 3 24 := .mk' (z := .agg #[.int .i64 0, .int .i64 0, .bool false]) Try.underlying44 (by kernel_rfl) rfl (by omega)
abbrev OwI := Ow encI 1 3
abbrev OwE := Ow Sw.Ent.enc 4 60
abbrev OwR := Ow Sw.Row.enc 3 48
theorem one_I (x : Int) : ∀ u ∈ encI x, u.oneCell' = true := by simp [encI, Value.oneCell']
theorem one_E (x : Sw.Ent) : ∀ u ∈ x.enc, u.oneCell' = true := by simp [Sw.Ent.enc, Value.oneCell']
theorem one_R (x : Sw.Row) : ∀ u ∈ x.enc, u.oneCell' = true := by simp [Sw.Row.enc, Value.oneCell']
end Go.Proofs.Ytimpagcanengoaa

namespace Go.Proofs.Ytimpagcanengoaa
set_option maxRecDepth 100000
set_option linter.unusedSimpArgs false
set_option linter.unusedVariables false
open Go.RowKit Go
set_option maxHeartbeats 400000
theorem take_snoc {α : Type} {xs : List α} {k : Nat} {y : α} (h : xs[k]? = some y) : xs.take (k + 1) = xs.take k ++ [y] := by rw [List.take_add_one, h]; rfl

theorem leavesFrom_length : ∀ (rows : List Sw.Row) (t : Int), (Sw.leavesFrom t rows).length = rows.length
  | [], _ => rfl
  | r :: rs, t => by simp [Sw.leavesFrom, leavesFrom_length rs]
theorem leavesFrom_snoc : ∀ (rows : List Sw.Row) (t : Int) (r : Sw.Row), Sw.leavesFrom t (rows ++ [r]) = Sw.leavesFrom t rows ++ [Sw.ownLeaf (t + rows.length) r]
  | [], t, r => by simp [Sw.leavesFrom]
  | x :: rs, t, r => by
    simp only [List.cons_append, Sw.leavesFrom, leavesFrom_snoc rs, List.length_cons]
    rw [show t + 1 + (rs.length : Int) = t + ((rs.length + 1 : Nat) : Int) from by omega]

theorem sOwnOk_c (A : Option Addr) (c n : Nat) (xs : List Sw.Row) (w : World) (hxs : RR w 0 A c n xs) : Calls Try.prog 108 #[.slice A n c] w fun E w' => E = .returned (.bool (Sw.ownOk xs)) ∧ Ex w w' := by
  have hl := Lib.hid hxs.1
  by_cases hn : n = 8
  · subst hn
    go_enter Try.func108, Try.ntmps108
    go_wp2_with fail
    go_loopw [3] (fun i wr => ∃ (k : Nat), k ≤ 8 ∧ i = .int .i64 k ∧ Ex w wr ∧ xs.all Sw.rowOk = (xs.drop k).all Sw.rowOk) (fun i _ => 8 - (intOf i).toNat)
    case atStart => exact ⟨0, Nat.zero_le _, rfl, ext_, rfl⟩
    case round =>
      obtain ⟨k, hk, rfl, hb, hrel⟩ := hrel
      have hst := Ex.rules hb rfl
      obtain ⟨hc, hf, hz⟩ := hst
      by_cases hlt : k < 8
      · obtain ⟨g, off, y, rfl, hg0, hg, hd, hy, hc0, hc1, hc2⟩ := at_R hxs hlt
        rw [hd] at hrel
        have Hrel := Lib.hid hrel; clear hd hy hrel
        go_wp2_with (first | (go_at_call 51; refine (l1In_c _ _ _ _).mono ?_; rintro E w' ⟨rfl, rfl⟩))
        all_goals (first | (refine ⟨⟨k + 1, by omega, by go_num, (by exact ext_), ?_⟩, by simp [intOf]; omega⟩; have hh := Hrel.out; clear Hrel; rw [List.all_cons] at hh; rw [hh]; clear hh; go_tidy; (try simp only [Bool.not_eq_true', Bool.not_eq_false', Bool.not_eq_true, Bool.not_eq_false, beq_iff_eq, bne_iff_ne, ne_eq, beq_eq_false_iff_ne, bne_eq_false_iff_eq] at *); have hp : Sw.rowOk y = true := (by (first | (simp [Sw.rowOk, show Sw.inR 0 1 5 = false from rfl, *]; done) | (simp [Sw.rowOk, show Sw.inR 0 1 5 = false from rfl, *]; omega) | (simp [Sw.rowOk, show Sw.inR 0 1 5 = false from rfl, *]; intros; simp_all; done) | (simp_all [Sw.rowOk, show Sw.inR 0 1 5 = false from rfl]; done))); simp [hp]) | (go_ret; refine ⟨ret_b ?_, (by first | rfl | exact ext_)⟩; have hh := Hrel.out; clear Hrel; rw [List.all_cons] at hh; unfold Sw.ownOk; rw [hh]; clear hh; go_tidy; (try simp only [Bool.not_eq_true', Bool.not_eq_false', Bool.not_eq_true, Bool.not_eq_false, beq_iff_eq, bne_iff_ne, ne_eq, beq_eq_false_iff_ne, bne_eq_false_iff_eq] at *); have hp : Sw.rowOk y = false := (by (first | (simp [Sw.rowOk, show Sw.inR 0 1 5 = false from rfl, *]; done) | (simp [Sw.rowOk, show Sw.inR 0 1 5 = false from rfl, *]; omega) | (simp [Sw.rowOk, show Sw.inR 0 1 5 = false from rfl, *]; intros; simp_all; done) | (simp_all [Sw.rowOk, show Sw.inR 0 1 5 = false from rfl]; done))); simp [hp]))
      · have Hrel := Lib.hid hrel; clear hrel
        go_wp2
        go_ret
        refine ⟨ret_b ?_, ext_⟩
        have := Hrel.out
        rw [List.drop_of_length_le (by have := hl.out; omega)] at this
        rw [Sw.ownOk, this, ← hl.out]
        simp
  · have hb : decide (n = 8) = false := by simp [hn]
    go_enter Try.func108, Try.ntmps108
    go_wp2
    go_ret
    refine ⟨ret_b ?_, Ch.refl _ _⟩
    rw [Sw.ownOk, ← hl.out]
    simp [hn]

theorem sOwnFits_c (A : Option Addr) (c n : Nat) (xs : List Sw.Row) (e : Sw.Ent) (w : World) (hxs : RR w 0 A c n xs) : Calls Try.prog 91 #[.slice A n c, .agg #[.int .i64 e.kind, .int .i64 e.ticket, .int .i64 e.who, .int .i64 e.price]] w fun E w' => E = .returned (.bool (Sw.ownFits xs e)) ∧ Ex w w' := by
  have hl := Lib.hid hxs.1
  by_cases h1 : Sw.ownOk xs = true
  · by_cases h2 : Sw.entOk e = true
    · have ht : 0 ≤ e.ticket ∧ e.ticket ≤ 7 := by simp [Sw.entOk, Sw.inR] at h2; omega
      obtain ⟨t, ht'⟩ := Int.eq_ofNat_of_zero_le ht.1
      have hn8 : n = 8 := by have := hl.out; simp [Sw.ownOk] at h1; omega
      subst hn8
      have hlt : t < 8 := by omega
      obtain ⟨g, off, y, rfl, hg0, hg, hd, hy, hc0, hc1, hc2⟩ := at_R hxs hlt
      have hrow : Sw.rowAt xs e.ticket = y := by simp [Sw.rowAt, ht', hy]
      have hfit : Sw.ownFits xs e = Sw.fitsRow y e := by simp [Sw.ownFits, h1, h2, hrow]
      have Hfit := Lib.hid hfit
      clear hfit hrow hd hy ht
      have Ht := Lib.hid ht'
      have ht2 : (0 : Int) ≤ e.ticket ∧ e.ticket < 8 := by omega
      obtain ⟨ht0, ht1⟩ := ht2
      have e0 : e.ticket.toNat = t := by omega
      clear ht'
      obtain ⟨yw, yf, yu⟩ := y
      dsimp only at hc0 hc1 hc2
      by_cases k1 : e.kind = 1
      · have hk1 : (e.kind == 1) = true := by simp [k1]
        have K1 := Lib.hid k1; clear k1
        go_enter Try.func91, Try.ntmps91
        go_wp2_with (first | (go_at_call 108; apply Calls.mono; apply sOwnOk_c; ((first | (apply Rs.at0; assumption) | (apply Ow.rs0; assumption)); exact kf_); rintro E w1 ⟨rfl, hb⟩; have hst := xr hb; (try simp only [zA, zC, zD, zN] at hst); obtain ⟨hc, hf, hz⟩ := hst) | (go_at_call 109; refine (sEntOk_c _ _).mono ?_; rintro E w1 ⟨rfl, hb⟩; have hst := xr hb; (try simp only [zA, zC, zD, zN] at hst); obtain ⟨hc, hf, hz⟩ := hst))
        go_ret
        refine ⟨ret_b ?_, ext_⟩
        rw [Hfit.out]
        simp [Sw.fitsRow, K1.out, beqI]
      have hk1 : (e.kind == 1) = false := by simp [k1]
      by_cases k2 : e.kind = 2
      · have hk2 : (e.kind == 2) = true := by simp [k2]
        have K2 := Lib.hid k2; clear k2
        by_cases b1 : yw = 0
        · have hb1 : (yw != 0) = false := by simp [b1]
          have B1 := Lib.hid b1; clear b1
          go_enter Try.func91, Try.ntmps91
          go_wp2_with (first | (go_at_call 108; apply Calls.mono; apply sOwnOk_c; ((first | (apply Rs.at0; assumption) | (apply Ow.rs0; assumption)); exact kf_); rintro E w1 ⟨rfl, hb⟩; have hst := xr hb; (try simp only [zA, zC, zD, zN] at hst); obtain ⟨hc, hf, hz⟩ := hst) | (go_at_call 109; refine (sEntOk_c _ _).mono ?_; rintro E w1 ⟨rfl, hb⟩; have hst := xr hb; (try simp only [zA, zC, zD, zN] at hst); obtain ⟨hc, hf, hz⟩ := hst))
          go_quiet ((first | (go_at_call 52; exact Calls.quiet_same (sEntCap_c _ _))))
          go_wp2
          go_ret
          refine ⟨ret_b ?_, ext_⟩
          rw [Hfit.out]
          simp [Sw.fitsRow, K2.out, B1.out]
        have hb1 : (yw != 0) = true := by simp [b1]
        cases yu with
        | true =>
          go_enter Try.func91, Try.ntmps91
          go_wp2_with (first | (go_at_call 108; apply Calls.mono; apply sOwnOk_c; ((first | (apply Rs.at0; assumption) | (apply Ow.rs0; assumption)); exact kf_); rintro E w1 ⟨rfl, hb⟩; have hst := xr hb; (try simp only [zA, zC, zD, zN] at hst); obtain ⟨hc, hf, hz⟩ := hst) | (go_at_call 109; refine (sEntOk_c _ _).mono ?_; rintro E w1 ⟨rfl, hb⟩; have hst := xr hb; (try simp only [zA, zC, zD, zN] at hst); obtain ⟨hc, hf, hz⟩ := hst))
          go_quiet ((first | (go_at_call 52; exact Calls.quiet_same (sEntCap_c _ _))))
          go_wp2
          go_ret
          refine ⟨ret_b ?_, ext_⟩
          rw [Hfit.out]
          simp [Sw.fitsRow, K2.out]
        | false =>
          by_cases b2 : yw = e.who
          · have hb2 : (yw != e.who) = false := by simp [b2]
            have B2 := Lib.hid b2; clear b2
            go_enter Try.func91, Try.ntmps91
            go_wp2_with (first | (go_at_call 108; apply Calls.mono; apply sOwnOk_c; ((first | (apply Rs.at0; assumption) | (apply Ow.rs0; assumption)); exact kf_); rintro E w1 ⟨rfl, hb⟩; have hst := xr hb; (try simp only [zA, zC, zD, zN] at hst); obtain ⟨hc, hf, hz⟩ := hst) | (go_at_call 109; refine (sEntOk_c _ _).mono ?_; rintro E w1 ⟨rfl, hb⟩; have hst := xr hb; (try simp only [zA, zC, zD, zN] at hst); obtain ⟨hc, hf, hz⟩ := hst))
            go_quiet ((first | (go_at_call 52; exact Calls.quiet_same (sEntCap_c _ _))))
            go_wp2
            go_ret
            refine ⟨ret_b ?_, ext_⟩
            rw [Hfit.out]
            simp [Sw.fitsRow, K2.out, B2.out]
          have hb2 : (yw != e.who) = true := by simp [b2]
          go_enter Try.func91, Try.ntmps91
          go_wp2_with (first | (go_at_call 108; apply Calls.mono; apply sOwnOk_c; ((first | (apply Rs.at0; assumption) | (apply Ow.rs0; assumption)); exact kf_); rintro E w1 ⟨rfl, hb⟩; have hst := xr hb; (try simp only [zA, zC, zD, zN] at hst); obtain ⟨hc, hf, hz⟩ := hst) | (go_at_call 109; refine (sEntOk_c _ _).mono ?_; rintro E w1 ⟨rfl, hb⟩; have hst := xr hb; (try simp only [zA, zC, zD, zN] at hst); obtain ⟨hc, hf, hz⟩ := hst))
          go_quiet ((first | (go_at_call 52; exact Calls.quiet_same (sEntCap_c _ _))))
          go_wp2
          go_ret
          refine ⟨ret_b ?_, ext_⟩
          rw [Hfit.out]
          simp [Sw.fitsRow, K2.out, b1, b2]
      have hk2 : (e.kind == 2) = false := by simp [k2]
      by_cases b1 : yw = e.who
      · have hb1 : (yw == e.who) = true := by simp [b1]
        have B1 := Lib.hid b1; clear b1
        go_enter Try.func91, Try.ntmps91
        go_wp2_with (first | (go_at_call 108; apply Calls.mono; apply sOwnOk_c; ((first | (apply Rs.at0; assumption) | (apply Ow.rs0; assumption)); exact kf_); rintro E w1 ⟨rfl, hb⟩; have hst := xr hb; (try simp only [zA, zC, zD, zN] at hst); obtain ⟨hc, hf, hz⟩ := hst) | (go_at_call 109; refine (sEntOk_c _ _).mono ?_; rintro E w1 ⟨rfl, hb⟩; have hst := xr hb; (try simp only [zA, zC, zD, zN] at hst); obtain ⟨hc, hf, hz⟩ := hst))
        go_ret
        refine ⟨ret_b ?_, ext_⟩
        rw [Hfit.out]
        simp [Sw.fitsRow, k1, k2, B1.out]
      have hb1 : (yw == e.who) = false := by simp [b1]
      go_enter Try.func91, Try.ntmps91
      go_wp2_with (first | (go_at_call 108; apply Calls.mono; apply sOwnOk_c; ((first | (apply Rs.at0; assumption) | (apply Ow.rs0; assumption)); exact kf_); rintro E w1 ⟨rfl, hb⟩; have hst := xr hb; (try simp only [zA, zC, zD, zN] at hst); obtain ⟨hc, hf, hz⟩ := hst) | (go_at_call 109; refine (sEntOk_c _ _).mono ?_; rintro E w1 ⟨rfl, hb⟩; have hst := xr hb; (try simp only [zA, zC, zD, zN] at hst); obtain ⟨hc, hf, hz⟩ := hst))
      go_ret
      refine ⟨ret_b ?_, ext_⟩
      rw [Hfit.out]
      simp [Sw.fitsRow, k1, k2, b1]
    · go_enter Try.func91, Try.ntmps91
      go_wp2_with (first | (go_at_call 108; apply Calls.mono; apply sOwnOk_c; ((first | (apply Rs.at0; assumption) | (apply Ow.rs0; assumption)); exact kf_); rintro E w1 ⟨rfl, hb⟩; have hst := xr hb; (try simp only [zA, zC, zD, zN] at hst); obtain ⟨hc, hf, hz⟩ := hst) | (go_at_call 109; refine (sEntOk_c _ _).mono ?_; rintro E w1 ⟨rfl, hb⟩; have hst := xr hb; (try simp only [zA, zC, zD, zN] at hst); obtain ⟨hc, hf, hz⟩ := hst))
      all_goals (go_ret; refine ⟨ret_b ?_, (by first | rfl | exact ext_)⟩; go_tidy; (try simp only [Bool.not_eq_true', Bool.not_eq_false', Bool.not_eq_true, Bool.not_eq_false, beq_iff_eq, bne_iff_ne, ne_eq, beq_eq_false_iff_ne, bne_eq_false_iff_eq] at *); (first | rfl | (simp [Sw.ownFits, *]; done) | (simp [Sw.ownFits, *]; omega) | (simp [Sw.ownFits, beqI, *]; done) | (simp_all [Sw.ownFits, beqI]; done) | (simp_all [Sw.ownFits, beqI] <;> omega) | simp_all [Sw.ownFits, beqI]))
  · go_enter Try.func91, Try.ntmps91
    go_wp2_with (first | (go_at_call 108; apply Calls.mono; apply sOwnOk_c; ((first | (apply Rs.at0; assumption) | (apply Ow.rs0; assumption)); exact kf_); rintro E w1 ⟨rfl, hb⟩; have hst := xr hb; (try simp only [zA, zC, zD, zN] at hst); obtain ⟨hc, hf, hz⟩ := hst) | (go_at_call 109; refine (sEntOk_c _ _).mono ?_; rintro E w1 ⟨rfl, hb⟩; have hst := xr hb; (try simp only [zA, zC, zD, zN] at hst); obtain ⟨hc, hf, hz⟩ := hst))
    all_goals (go_ret; refine ⟨ret_b ?_, (by first | rfl | exact ext_)⟩; go_tidy; (try simp only [Bool.not_eq_true', Bool.not_eq_false', Bool.not_eq_true, Bool.not_eq_false, beq_iff_eq, bne_iff_ne, ne_eq, beq_eq_false_iff_ne, bne_eq_false_iff_eq] at *); (first | rfl | (simp [Sw.ownFits, *]; done) | (simp [Sw.ownFits, *]; omega) | (simp [Sw.ownFits, beqI, *]; done) | (simp_all [Sw.ownFits, beqI]; done) | (simp_all [Sw.ownFits, beqI] <;> omega) | simp_all [Sw.ownFits, beqI]))
end Go.Proofs.Ytimpagcanengoaa

namespace Go.Proofs.Ytimpagcanengoaa
set_option maxRecDepth 100000
set_option linter.unusedSimpArgs false
set_option linter.unusedVariables false
open Go.RowKit Go
set_option maxHeartbeats 400000

theorem at_OR {w : World} {lo c n k : Nat} {A : Option Addr} {xs : List Sw.Row} (h : OwR w lo A c n xs) (hk : k < n) :
    ∃ g x, A = some ⟨g, 0, none⟩ ∧ lo ≤ g ∧ g < w.heap.size ∧ xs[k]? = some x ∧ w.cell? ⟨g, k * 3, none⟩ = some (.int .i64 x.who) ∧ w.cell? ⟨g, k * 3 + 1, none⟩ = some (.int .i64 x.face) ∧
      w.cell? ⟨g, k * 3 + 2, none⟩ = some (.bool x.used) ∧ (∀ i, w.frozen? ⟨g, i, none⟩ = false) := by
  obtain ⟨g, x, h1, h2, h3, h4, h5, h6⟩ := Ow.at_ h (fun _ => rfl) hk
  exact ⟨g, x, h1, h2, h3, h4, by simpa using h5 0 _ (by omega) rfl, h5 1 _ (by omega) rfl, h5 2 _ (by omega) rfl, h6⟩

theorem sNew_c (w : World) : Calls Try.prog 77 #[] w fun E w' => ∃ A, E = .returned (.slice A 8 8) ∧ OwR w' w.heap.size A 8 8 Sw.rows0 ∧ Ex w w' := by
  have hmk : ∀ w, (Instr.makeSlice 44 (.int .i64 8) (.int .i64 8)).run Try.prog w = .ok (.slice (some ⟨w.heap.size, 0, none⟩) 8 8) (w.alloc (.cells (Sw.rows0.flatMap Sw.Row.enc).toArray 48)) := fun _ => by kernel_rfl
  go_enter Try.func77, Try.ntmps77
  go_wp2
  go_ret
  exact ⟨_, rfl, Ow.new _ rfl rfl rfl (fun _ => rfl) (Nat.le_refl _) (by omega), ext_⟩

theorem OR_set0 {w : World} {lo c n k g : Nat} {A : Option Addr} {xs : List Sw.Row} (h : OwR w lo A c n xs) (hA : A = some ⟨g, 0, none⟩) {a b : Int} {u : Bool} (hx : xs[k]? = some ⟨a, b, u⟩) (v : Int) :
    OwR (w.setCell ⟨g, k * 3, none⟩ (.int .i64 v)) lo A c n (xs.set k ⟨v, b, u⟩) := by
  have := Ow.set h (fun _ => rfl) (j := 0) (u := .int .i64 v) hA hx (by omega) (y := ⟨v, b, u⟩) rfl
  simpa using this
theorem OR_set1 {w : World} {lo c n k g : Nat} {A : Option Addr} {xs : List Sw.Row} (h : OwR w lo A c n xs) (hA : A = some ⟨g, 0, none⟩) {a b : Int} {u : Bool} (hx : xs[k]? = some ⟨a, b, u⟩) (v : Int) :
    OwR (w.setCell ⟨g, k * 3 + 1, none⟩ (.int .i64 v)) lo A c n (xs.set k ⟨a, v, u⟩) :=
  Ow.set h (fun _ => rfl) (j := 1) (u := .int .i64 v) hA hx (by omega) (y := ⟨a, v, u⟩) rfl
theorem OR_set2 {w : World} {lo c n k g : Nat} {A : Option Addr} {xs : List Sw.Row} (h : OwR w lo A c n xs) (hA : A = some ⟨g, 0, none⟩) {a b : Int} {u : Bool} (hx : xs[k]? = some ⟨a, b, u⟩) (v : Bool) :
    OwR (w.setCell ⟨g, k * 3 + 2, none⟩ (.bool v)) lo A c n (xs.set k ⟨a, b, v⟩) :=
  Ow.set h (fun _ => rfl) (j := 2) (u := .bool v) hA hx (by omega) (y := ⟨a, b, v⟩) rfl
theorem set_at {α : Type} {xs : List α} {k : Nat} {x y : α} (h : xs[k]? = some x) : (xs.set k y)[k]? = some y := by
  have hk := (List.getElem?_eq_some_iff.1 h).1
  simp [hk]
theorem fits_facts {xs : List Sw.Row} {e : Sw.Ent} (h : Sw.ownFits xs e = true) : xs.length = 8 ∧ 0 ≤ e.ticket ∧ e.ticket < 8 ∧ (e.kind = 1 ∨ e.kind = 2 ∨ e.kind = 3) := by
  simp only [Sw.ownFits, Bool.and_eq_true, Sw.ownOk, Sw.entOk, Sw.inR, decide_eq_true_eq] at h
  obtain ⟨⟨⟨_, h1⟩, ⟨⟨h2, h3⟩, h4, h5⟩, h6⟩, h7⟩ := h
  refine ⟨h1, h2, by omega, ?_⟩
  split at h6
  · exact .inl ‹_›
  · split at h6
    · exact .inr (.inl ‹_›)
    · simp at h6; exact .inr (.inr h6.1)
/-- A ticket that is issued has not been used. -/
theorem fits_fresh {xs : List Sw.Row} {e : Sw.Ent} {t : Nat} {a b : Int} {u : Bool} (h : Sw.ownFits xs e = true) (hk : e.kind = 1) (ht : e.ticket = t) (hx : xs[t]? = some ⟨a, b, u⟩) : u = false := by
  simp only [Sw.ownFits, Bool.and_eq_true, Sw.ownOk, Sw.fitsRow, hk, Sw.rowAt, ht, Int.toNat_natCast, List.getD_eq_getElem?_getD, hx, Option.getD_some, if_true, decide_eq_true_eq] at h
  obtain ⟨⟨⟨h1, _⟩, _⟩, h2⟩ := h
  have := List.all_eq_true.1 h1 _ (List.mem_of_getElem? hx)
  simp [Sw.rowOk, Sw.inR] at this
  rcases this with h | h
  · exact h.2
  · omega
theorem put_eq {xs : List Sw.Row} {e : Sw.Ent} {t : Nat} {x : Sw.Row} (h : Sw.ownFits xs e = true) (ht : e.ticket = t) (hx : xs[t]? = some x) : Sw.ownPut xs e = xs.set t (Sw.putRow x e) := by
  simp [Sw.ownPut, h, Sw.putRows, Sw.rowAt, ht, hx]

theorem sOwnPut_c (A : Option Addr) (c n : Nat) (xs : List Sw.Row) (e : Sw.Ent) (w : World) (hxs : RR w 0 A c n xs) (hn : n ≤ 4194304) : Calls Try.prog 78 #[.slice A n c, .agg #[.int .i64 e.kind, .int .i64 e.ticket, .int .i64 e.who, .int .i64 e.price]] w fun E w' => ∃ A' c', E = .returned (.tuple #[.slice A' n c', .bool (Sw.ownFits xs e)]) ∧ OwR w' w.heap.size A' c' n (Sw.ownPut xs e) ∧ Ex w w' := by
  by_cases hfit : Sw.ownFits xs e = true
  · have hl := Lib.hid hxs.1
    obtain ⟨h8, t0, t1, hk⟩ := fits_facts hfit
    obtain ⟨t, ht⟩ := Int.eq_ofNat_of_zero_le t0
    have e0 : e.ticket.toNat = t := by omega
    have Ht := Lib.hid ht
    have htn : t < n := by have := hl.out; omega
    have hn8 : n = 8 := by have := hl.out; omega
    subst hn8
    have Hk := Lib.hid hk
    have H8 := Lib.hid h8
    clear ht hk h8
    have key : ∀ (b1 b2 : Bool), (e.kind == 1) = b1 → (e.kind == 2) = b2 → Calls Try.prog 78 #[.slice A 8 c, .agg #[.int .i64 e.kind, .int .i64 e.ticket, .int .i64 e.who, .int .i64 e.price]] w fun E w' => ∃ A' c', E = .returned (.tuple #[.slice A' 8 c', .bool (Sw.ownFits xs e)]) ∧ OwR w' w.heap.size A' c' 8 (Sw.ownPut xs e) ∧ Ex w w' := by
      intro b1 b2 hb1 hb2
      go_enter Try.func78, Try.ntmps78
      go_wp2_with (first | (at_builtin; apply wpList_app (lo := w.heap.size + 1) el_R one_R rfl rfl rfl rfl; (first | assumption | exact Ow.nil _ _ | (apply Ow.keep; assumption; exact kf_) | (refine Ow.new [] (by (first | rfl | (simp only [zA, zC, zD, zN]; done) | omega)) rfl rfl (fun _ => rfl) (by exact sz_) (by omega))); (first | ((first | (apply Rs.at0; assumption) | (apply Ow.rs0; assumption)); exact kf_)); omega; exact sz_; intro A1 c1 w2 ho1 hch1 hat1 hex1 hlow1; have hb := hex1 (fun _ => False) w (by exact ext_) (by exact sz_); have hz := hch1.size; (try simp only [zA, zC, zD, zN] at hz); obtain ⟨hc, hf⟩ := low_rules hlow1; clear hlow1 hex1))
      simp only [Nat.zero_add, List.nil_append] at ho1
      apply Calls.mono; apply sOwnFits_c; (first | assumption | ((first | (apply Rs.at0; assumption) | (apply Ow.rs0; assumption)); exact kf_) | omega); rintro E w3 ⟨rfl, hb3⟩; have hst := Ex.rules hb3 rfl; obtain ⟨hc3, hf3, hz3⟩ := hst
      have ho3 := Ow.keep ho1 (KF.ex hb3 (KF.refl _ _))
      obtain ⟨g, x, hA, hlo, hlt, hx, c0, c1, c2, hfz⟩ := at_OR ho3 htn
      obtain ⟨ya, yb, yu⟩ := x
      have Hx := Lib.hid hx
      have hlo' : w.heap.size ≤ g := by omega
      clear hx
      subst hA
      dsimp only at c0 c1 c2
      cases b1 with
      | true =>
        go_wp2_with fail
        go_ret2
        refine ⟨_, _, by rw [hfit]; rfl, ?_, ext_⟩
        have k1 : e.kind = 1 := by simpa using hb1
        rw [put_eq hfit Ht.out Hx.out]
        have hu := fits_fresh hfit k1 Ht.out Hx.out
        subst hu
        have r := OR_set2 (OR_set1 (OR_set0 ho3 rfl Hx.out e.who) rfl (set_at Hx.out) e.price) rfl (set_at (set_at Hx.out)) false
        simp only [List.set_set] at r
        simp only [Sw.putRow, k1, if_true]
        exact r.less (by omega)
      | false =>
        have k1 : ¬ e.kind = 1 := by simpa using hb1
        cases b2 with
        | true =>
          go_wp2_with fail
          go_ret2
          refine ⟨_, _, by rw [hfit]; rfl, ?_, ext_⟩
          have k2 : e.kind = 2 := by simpa using hb2
          rw [put_eq hfit Ht.out Hx.out]
          have r := OR_set0 ho3 rfl Hx.out e.who
          simp only [Sw.putRow, if_neg k1, k2, if_true]
          exact r.less (by omega)
        | false =>
          go_wp2_with fail
          go_ret2
          refine ⟨_, _, by rw [hfit]; rfl, ?_, ext_⟩
          have k2 : ¬ e.kind = 2 := by simpa using hb2
          rw [put_eq hfit Ht.out Hx.out]
          have r := OR_set2 ho3 rfl Hx.out true
          simp only [Sw.putRow, if_neg k1, if_neg k2]
          exact r.less (by omega)
    exact key _ _ rfl rfl
  · have hf0 : Sw.ownFits xs e = false := by simpa using hfit
    go_enter Try.func78, Try.ntmps78
    go_wp2_with (first | (at_builtin; apply wpList_app (lo := w.heap.size + 1) el_R one_R rfl rfl rfl rfl; (first | assumption | exact Ow.nil _ _ | (apply Ow.keep; assumption; exact kf_) | (refine Ow.new [] (by (first | rfl | (simp only [zA, zC, zD, zN]; done) | omega)) rfl rfl (fun _ => rfl) (by exact sz_) (by omega))); (first | ((first | (apply Rs.at0; assumption) | (apply Ow.rs0; assumption)); exact kf_)); omega; exact sz_; intro A1 c1 w2 ho1 hch1 hat1 hex1 hlow1; have hb := hex1 (fun _ => False) w (by exact ext_) (by exact sz_); have hz := hch1.size; (try simp only [zA, zC, zD, zN] at hz); obtain ⟨hc, hf⟩ := low_rules hlow1; clear hlow1 hex1) | (go_at_call 91; apply Calls.mono; apply sOwnFits_c; ((first | (apply Rs.at0; assumption) | (apply Ow.rs0; assumption)); exact kf_); rintro E w1 ⟨rfl, hb⟩; have hst := xr hb; (try simp only [zA, zC, zD, zN] at hst); obtain ⟨hc, hf, hz⟩ := hst))
    go_ret2
    refine ⟨_, _, by rw [hf0]; rfl, ?_, ext_⟩
    rw [show Sw.ownPut xs e = xs from by simp [Sw.ownPut, hf0]]
    simp only [Nat.zero_add, List.nil_append] at ho1
    refine Ow.less ?_ (show w.heap.size ≤ w.heap.size + 1 by omega)
    apply Ow.keep ho1; (exact kf_)
end Go.Proofs.Ytimpagcanengoaa

namespace Go.Proofs.Ytimpagcanengoaa
set_option maxRecDepth 100000
set_option linter.unusedSimpArgs false
set_option linter.unusedVariables false
open Go.RowKit Go
set_option maxHeartbeats 400000

theorem fold_ok : ∀ (es : List Sw.Ent) (rows r : List Sw.Row), Sw.foldFrom rows es = some r → rows.length = 8 → r.length = 8
  | [], rows, r, h, h8 => by simp [Sw.foldFrom] at h; rw [← h]; exact h8
  | e :: es, rows, r, h, h8 => by
    rw [Sw.foldFrom] at h
    split at h
    · exact fold_ok es _ r h (by simp [Sw.putRows, h8])
    · cases h
theorem ownFold_len {es : List Sw.Ent} {r : List Sw.Row} (h : Sw.ownFold es = some r) : r.length = 8 := by
  unfold Sw.ownFold at h
  split at h
  · exact fold_ok es _ r h rfl
  · cases h

theorem sOwnFold_c (A : Option Addr) (c n : Nat) (xs : List Sw.Ent) (w : World) (hxs : RE w 0 A c n xs) : Calls Try.prog 49 #[.slice A n c] w fun E w' => ∃ A' c' n', E = .returned (.tuple #[.slice A' n' c', .bool (Sw.ownFold xs).isSome]) ∧ OwR w' w.heap.size A' c' n' ((Sw.ownFold xs).getD []) ∧ Ex w w' := by
  have hl := Lib.hid hxs.1
  by_cases hn : n ≤ 40
  · have hn' : decide (40 < n) = false := by simp; omega
    go_enter Try.func49, Try.ntmps49
    go_wp2_with (first | (go_at_call 77; refine (sNew_c _).mono ?_; rintro E w1 ⟨A, rfl, hr, hb⟩; have hst := xr hb; (try simp only [zA, zC, zD, zN] at hst); obtain ⟨hc, hf, hz⟩ := hst))
    go_loopw [4, 5] (fun r i wr => ∃ (k : Nat) (B : Option Addr) (d : Nat) (rows : List Sw.Row), k ≤ n ∧ i = .int .i64 k ∧ r = .slice B 8 d ∧ Ex w wr ∧ OwR wr w.heap.size B d 8 rows ∧ Sw.ownFold xs = Sw.foldFrom rows (xs.drop k)) (fun _ i _ => n - (intOf i).toNat)
    case atStart => exact ⟨0, _, _, _, Nat.zero_le _, rfl, rfl, ext_, hr, by rw [Sw.ownFold, if_pos (by have := hl.out; omega)]; rfl⟩
    case round =>
      clear hb hc hf hz hr
      obtain ⟨k, B, d, rows, hk, rfl, rfl, hb, ho, hrel⟩ := hrel
      have hst := Ex.rules hb rfl
      obtain ⟨hc, hf, hz⟩ := hst
      by_cases hlt : k < n
      · obtain ⟨g, off, y, rfl, hg0, hg, hd, hy, hc0, hc1, hc2, hc3⟩ := at_E hxs hlt
        rw [hd, Sw.foldFrom] at hrel
        have Hrel := Lib.hid hrel
        clear hd hy hrel
        go_wp2_with (first | (go_at_call 78; apply Calls.mono; apply sOwnPut_c; (apply Ow.rs0 ho; exact KF.refl _ _); omega; rintro E w1 ⟨A1, c1, rfl, ho1, hb1⟩; have hst := Ex.rules hb1 rfl; obtain ⟨hc1', hf1', hz1'⟩ := hst))
        · go_ret2
          have hfit : Sw.ownFits rows y = false := by rename_i h; simpa using h
          have hh := Hrel.out
          rw [if_neg (by simp [hfit])] at hh
          refine ⟨_, _, _, by rw [hh]; rfl, ?_, ext_⟩
          rw [hh]
          (refine Ow.new [] (by (first | rfl | (simp only [zA, zC, zD, zN]; done) | omega)) rfl rfl (fun _ => rfl) (by exact sz_) (by omega))
        · have hfit : Sw.ownFits rows y = true := by rename_i h; simpa using h
          have hh := Hrel.out
          rw [if_pos hfit] at hh
          refine ⟨⟨k + 1, _, _, _, by omega, by go_num, rfl, ext_, ho1.less (by omega), ?_⟩, by simp [intOf]; omega⟩
          rw [hh, Sw.ownPut, if_pos hfit]
      · have Hrel := Lib.hid hrel; clear hrel
        go_wp2_with fail
        go_ret2
        obtain rfl : k = n := by omega
        have hh := Hrel.out
        rw [List.drop_of_length_le (by have := hl.out; omega)] at hh
        refine ⟨_, _, _, by rw [hh]; rfl, ?_, ext_⟩
        rw [hh]
        exact ho
  · have hn' : decide (40 < n) = true := by simp; omega
    go_enter Try.func49, Try.ntmps49
    go_wp2_with (first | (go_at_call 77; refine (sNew_c _).mono ?_; rintro E w1 ⟨A, rfl, hr, hb⟩; have hst := xr hb; (try simp only [zA, zC, zD, zN] at hst); obtain ⟨hc, hf, hz⟩ := hst))
    go_ret2
    have hh : Sw.ownFold xs = none := by rw [Sw.ownFold, if_neg (by have := hl.out; omega)]
    refine ⟨_, _, _, by rw [hh]; rfl, ?_, ext_⟩
    rw [hh]
    (refine Ow.new [] (by (first | rfl | (simp only [zA, zC, zD, zN]; done) | omega)) rfl rfl (fun _ => rfl) (by exact sz_) (by omega))

theorem mixLeaf_ok (l : List Int) : Sw.mixOk (Sw.mixLeaf l) = true := by
  rw [mixOk_bd]; unfold Sw.mixLeaf
  exact ⟨Int.emod_nonneg _ (by omega), by have := Int.emod_lt_of_pos (Sw.mixLeafFrom 7 l * 31 + l.length) (show (0 : Int) < 65521 by omega); omega⟩
theorem ownLeaf_ok (t : Int) (r : Sw.Row) : Sw.mixOk (Sw.ownLeaf t r) = true := by
  unfold Sw.ownLeaf
  split
  · exact mixLeaf_ok _
  · rfl
theorem leavesFrom_ok : ∀ (rows : List Sw.Row) (t : Int), (Sw.leavesFrom t rows).all Sw.mixOk = true
  | [], _ => rfl
  | r :: rs, t => by simp only [Sw.leavesFrom, List.all_cons, ownLeaf_ok, leavesFrom_ok rs, Bool.and_self]
theorem ownLeaves_ok (rows : List Sw.Row) : (Sw.ownLeaves rows).all Sw.mixOk = true := leavesFrom_ok rows 0
theorem entLeaves_ok (es : List Sw.Ent) : (es.map Sw.entLeaf).all Sw.mixOk = true := by
  rw [List.all_map, List.all_eq_true]; exact fun e _ => mixLeaf_ok _

end Go.Proofs.Ytimpagcanengoaa

namespace Go.Proofs.Ytimpagcanengoaa
set_option maxRecDepth 100000
set_option linter.unusedSimpArgs false
set_option linter.unusedVariables false
open Go.RowKit Go
set_option maxHeartbeats 400000

theorem z_I : ∀ i z, Try.prog.info? 3 = some i → i.zero = some z → z.cells = (encI 0).toArray := by
  have h : (Try.prog.info? 3).map (·.zero) = some (some (.int .i64 0)) := by kernel_rfl
  intro i z hi hz
  rw [hi] at h
  simp only [Option.map_some, Option.some.injEq] at h
  rw [hz] at h
  cases h
  rfl

theorem at_OI {w : World} {lo c n k : Nat} {A : Option Addr} {xs : List Int} (h : OwI w lo A c n xs) (hk : k < n) :
    ∃ g x, A = some ⟨g, 0, none⟩ ∧ lo ≤ g ∧ g < w.heap.size ∧ xs[k]? = some x ∧ w.cell? ⟨g, k, none⟩ = some (.int .i64 x) ∧ (∀ i, w.frozen? ⟨g, i, none⟩ = false) := by
  obtain ⟨g, x, h1, h2, h3, h4, h5, h6⟩ := Ow.at_ h (fun _ => rfl) hk
  exact ⟨g, x, h1, h2, h3, h4, by simpa using h5 0 _ (by omega) rfl, h6⟩
theorem OI_set {w : World} {lo c n k g : Nat} {A : Option Addr} {xs : List Int} (h : OwI w lo A c n xs) (hA : A = some ⟨g, 0, none⟩) {a : Int} (hx : xs[k]? = some a) (v : Int) :
    OwI (w.setCell ⟨g, k, none⟩ (.int .i64 v)) lo A c n (xs.set k v) := by
  have := Ow.set h (fun _ => rfl) (j := 0) (u := .int .i64 v) hA hx (by omega) (y := v) rfl
  simpa using this

theorem take_set_step {α : Type} {xs : List α} {k n : Nat} {y z : α} (hn : n = xs.length) (hk : k < n) (hy : xs[k]? = some y) : (xs.take k ++ List.replicate (n - k) z).set k y = xs.take (k + 1) ++ List.replicate (n - (k + 1)) z := by
  have hl : (xs.take k).length = k := by rw [List.length_take]; omega
  rw [List.set_append_right _ _ (by omega), hl, Nat.sub_self, List.take_add_one, hy]
  obtain ⟨m, hm⟩ : ∃ m, n - k = m + 1 := ⟨n - k - 1, by omega⟩
  rw [hm, List.replicate_succ, List.set_cons_zero, show n - (k + 1) = m by omega]
  simp
theorem take_rep_at {α : Type} {xs : List α} {k n : Nat} {z : α} (hn : n = xs.length) (hk : k < n) : (xs.take k ++ List.replicate (n - k) z)[k]? = some z := by
  have hl : (xs.take k).length = k := by rw [List.length_take]; omega
  rw [List.getElem?_append_right (by omega), hl, Nat.sub_self, List.getElem?_replicate]
  simp; omega

end Go.Proofs.Ytimpagcanengoaa

namespace Go.Proofs.Ytimpagcanengoaa
set_option maxRecDepth 100000
set_option linter.unusedSimpArgs false
set_option linter.unusedVariables false
open Go.RowKit Go

/-! ### what the tables say -/
theorem el_D : ElemOk Try.prog 25 38 5 40 := .mk' (z := .agg #[.int .i64 0, .int .i64 0, .int .i64 0, .int .i64 0, .int .i64 0]) Try.underlying25 (by kernel_rfl) rfl (by omega)
theorem one_D (x : Sw.Deal) : ∀ u ∈ x.enc, u.oneCell' = true := by simp [Sw.Deal.enc, Value.oneCell']
theorem one_Q (x : Sw.Req) : ∀ u ∈ x.enc, u.oneCell' = true := by simp [Sw.Req.enc, Value.oneCell']
theorem one_G (x : GV) : ∀ u ∈ x.enc, u.oneCell' = true := by simp [GV.enc, Value.oneCell']
theorem one_X (x : XV) : ∀ u ∈ x.enc, u.oneCell' = true := by simp [XV.enc, Value.oneCell']
abbrev OwD := Ow Sw.Deal.enc 5 38
theorem zero_law {P : Program} {e : TypeId} {z : Value} {cs : Array Value} (h : (P.info? e).map (·.zero) = some (some z)) (hz : z.cells = cs) : ∀ i z', P.info? e = some i → i.zero = some z' → z'.cells = cs := by
  intro i z' hi hz'
  rw [hi] at h
  simp only [Option.map_some, Option.some.injEq] at h
  rw [hz'] at h
  cases h
  exact hz
def Sw.entZ : Sw.Ent := ⟨0, 0, 0, 0⟩
def GV.zero : GV := ⟨Sw.headZ, none, 0, 0⟩
def XV.zero : XV := ⟨0, Sw.headZ, none, 0, 0⟩
theorem z_E : ∀ i z, Try.prog.info? 60 = some i → i.zero = some z → z.cells = (Sw.entZ.enc).toArray := zero_law (z := .agg #[.int .i64 0, .int .i64 0, .int .i64 0, .int .i64 0]) (by kernel_rfl) rfl
theorem z_D : ∀ i z, Try.prog.info? 38 = some i → i.zero = some z → z.cells = (Sw.dealZ.enc).toArray := zero_law (z := .agg #[.int .i64 0, .int .i64 0, .int .i64 0, .int .i64 0, .int .i64 0]) (by kernel_rfl) rfl
/-! ### a whole element written -/
def setMany : List Value → Nat → List Value → List Value
  | cs, _, [] => cs
  | cs, i, v :: vs => setMany (cs.set i v) (i + 1) vs
/-- One cell behind the other is written. -/
def setCells : World → Nat → Nat → List Value → World
  | w, _, _, [] => w
  | w, g, i, v :: vs => setCells (w.setCell ⟨g, i, none⟩ v) g (i + 1) vs
theorem setMany_eq : ∀ (vs cs : List Value) (i : Nat), i + vs.length ≤ cs.length → setMany cs i vs = cs.take i ++ vs ++ cs.drop (i + vs.length)
  | [], cs, i, h => by simp [setMany]
  | v :: vs, cs, i, h => by
    rw [List.length_cons] at h
    rw [setMany, setMany_eq vs (cs.set i v) (i + 1) (by rw [List.length_set]; omega), List.take_add_one, List.getElem?_set]
    rw [if_pos rfl, if_pos (by omega), List.take_set_of_le (Nat.le_refl _), List.drop_set_of_lt (by omega), List.length_cons]
    simp only [Option.toList_some, List.append_assoc, List.singleton_append]
    rw [show i + 1 + vs.length = i + (vs.length + 1) from by omega]
section
variable {α : Type} {enc : α → List Value} {sz : Nat} {e : TypeId} {w w' : World} {lo lo' c n : Nat} {A : Option Addr} {xs : List α}
theorem flat_len (hsz : ∀ x, (enc x).length = sz) : ∀ xs : List α, (xs.flatMap enc).length = xs.length * sz := by
  intro xs
  induction xs with
  | nil => simp
  | cons x xs ih => simp only [List.flatMap_cons, List.length_append, hsz, ih, List.length_cons, Nat.succ_mul]; omega
theorem flat_split' (hsz : ∀ x, (enc x).length = sz) (P : List α) (x y : α) (Q : List α) :
    ((P ++ x :: Q).set P.length y).flatMap enc = ((P ++ x :: Q).flatMap enc).take (P.length * sz) ++ enc y ++ ((P ++ x :: Q).flatMap enc).drop (P.length * sz + sz) := by
  have hf : (P.flatMap enc).length = P.length * sz := flat_len hsz P
  rw [List.set_append_right _ _ (Nat.le_refl _), Nat.sub_self, List.set_cons_zero]
  simp only [List.flatMap_append, List.flatMap_cons]
  rw [List.take_append_of_le_length (by omega), List.take_of_length_le (by omega), List.drop_append, List.drop_of_length_le (by omega), hf, List.nil_append]
  rw [show P.length * sz + sz - P.length * sz = sz from by omega, List.drop_append, hsz, Nat.sub_self, List.drop_zero, List.drop_of_length_le (by rw [hsz]; omega), List.nil_append, List.append_assoc]
theorem flat_split (hsz : ∀ x, (enc x).length = sz) (xs : List α) {k : Nat} (hk : k < xs.length) (y : α) : (xs.set k y).flatMap enc = (xs.flatMap enc).take (k * sz) ++ enc y ++ (xs.flatMap enc).drop (k * sz + sz) := by
  have e : xs.take k ++ xs[k] :: xs.drop (k + 1) = xs := by rw [← List.drop_eq_getElem_cons hk, List.take_append_drop]
  have hl : (xs.take k).length = k := by rw [List.length_take]; omega
  have := flat_split' hsz (xs.take k) xs[k] y (xs.drop (k + 1))
  rw [e, hl] at this
  exact this
/-- One cell of an owned block is written. -/
theorem ownsRow_set {cs : List Value} {g i m : Nat} {u : Value} (h : w.ownsRow lo e sz (.slice (some ⟨g, 0, none⟩) n c) m cs) (hi : i < cs.length) :
    (w.setCell ⟨g, i, none⟩ u).ownsRow lo e sz (.slice (some ⟨g, 0, none⟩) n c) m (cs.set i u) := by
  refine ⟨by rw [List.length_set]; exact h.1, ?_⟩
  rcases h.2 with ⟨hv, h0⟩ | ⟨g', cap, cur, hv, hb, hh, hn, hm, hs, ht⟩
  · injection hv with h1; cases h1
  · injection hv with h1 h2 h3
    injection h1 with h1; injection h1 with h1
    subst h1 h2 h3
    refine .inr ⟨g, c, cur.setIfInBounds i u, rfl, hb, ?_, hn, hm, by simpa using hs, ?_⟩
    · simp [World.setCell, Array.getElem?_modify, hh]
    · rw [Array.toList_setIfInBounds, List.take_set, ht]
theorem ownsRow_sets : ∀ (vs cs : List Value) (w : World) {g i m : Nat}, w.ownsRow lo e sz (.slice (some ⟨g, 0, none⟩) n c) m cs → i + vs.length ≤ cs.length →
    (setCells w g i vs).ownsRow lo e sz (.slice (some ⟨g, 0, none⟩) n c) m (setMany cs i vs)
  | [], cs, w, g, i, m, h, _ => h
  | v :: vs, cs, w, g, i, m, h, hi => by
    rw [List.length_cons] at hi
    exact ownsRow_sets vs (cs.set i v) _ (ownsRow_set h (by omega)) (by rw [List.length_set]; omega)
theorem Ow.put (h : Ow enc sz e w lo A c n xs) (hsz : ∀ x, (enc x).length = sz) {g k : Nat} (y : α) (hA : A = some ⟨g, 0, none⟩) (hk : k < n) : Ow enc sz e (setCells w g (k * sz) (enc y)) lo A c n (xs.set k y) := by
  subst hA
  have hk' : k < xs.length := by rw [← h.1]; exact hk
  have hle : k * sz + (enc y).length ≤ (xs.flatMap enc).length := by
    rw [hsz, flat_len hsz]
    calc k * sz + sz = (k + 1) * sz := (Nat.succ_mul k sz).symm
      _ ≤ xs.length * sz := Nat.mul_le_mul_right _ hk'
  have := ownsRow_sets (enc y) (xs.flatMap enc) w h.2 hle
  rw [setMany_eq _ _ _ hle, hsz, ← flat_split hsz xs hk' y] at this
  exact ⟨by rw [List.length_set]; exact h.1, this⟩
end

/-- An owned block is whole. -/
theorem Ow.lb {α : Type} {enc : α → List Value} {sz : Nat} {e : TypeId} {w : World} {lo c n g : Nat} {A : Option Addr} {xs : List α} (h : Ow enc sz e w lo A c n xs) (hA : A = some ⟨g, 0, none⟩) : Lb w g (c * sz) := by
  rcases h.form with ⟨h1, _⟩ | ⟨g', cur, h1, h2, h3, h4, h5, h6, h7, h8⟩
  · rw [h1] at hA; cases hA
  · rw [h1] at hA; cases hA; exact ⟨cur, e, h4, h7⟩

/-! ### marks on blocks -/
structure OwT {α : Type} (enc : α → List Value) (sz : Nat) (e : TypeId) (τ : Nat → Nat) (t : Nat) (w : World) (lo : Nat) (A : Option Addr) (c n : Nat) (xs : List α) : Prop where
  ow : Ow enc sz e w lo A c n xs
  tag : ∀ a, A = some a → τ a.block = t
/-- Blocks from lo on with the mark t are as they were. -/
structure KT (τ : Nat → Nat) (t lo : Nat) (w w' : World) : Prop where
  size : w.heap.size ≤ w'.heap.size
  block : ∀ b, lo ≤ b → b < w.heap.size → τ b = t → w'.heap[b]? = w.heap[b]?
theorem KT.refl (τ : Nat → Nat) (t lo : Nat) (w : World) : KT τ t lo w w := ⟨Nat.le_refl _, fun _ _ _ _ => rfl⟩
theorem KT.of {τ : Nat → Nat} {t lo : Nat} {w w' : World} (h : KF lo w w') : KT τ t lo w w' := ⟨h.size, fun b h1 h2 _ => h.block b h1 h2⟩
section
variable {τ : Nat → Nat} {t lo : Nat} {a w w' : World}
theorem KT.alloc {o : Obj} (h : KT τ t lo a w) : KT τ t lo a (w.alloc o) :=
  ⟨by simp; have := h.size; omega, fun i hl hi ht => (Below.heap_alloc _ _ _ (Nat.lt_of_lt_of_le hi h.size)).trans (h.block i hl hi ht)⟩
theorem KT.drew (h : KT τ t lo a w) : KT τ t lo a w.drew := ⟨h.size, h.block⟩
theorem KT.drewN {n : Nat} (h : KT τ t lo a w) : KT τ t lo a (w.drewN n) := ⟨h.size, h.block⟩
theorem KT.setCell {p : Addr} {u : Value} (h : KT τ t lo a w) (hp : a.heap.size ≤ p.block ∨ τ p.block ≠ t) : KT τ t lo a (w.setCell p u) :=
  ⟨by simpa [World.setCell] using h.size, fun i hl hi ht => (Below.heap_setCell _ _ _ _ (by rintro rfl; rcases hp with hp | hp <;> first | omega | exact hp ht)).trans (h.block i hl hi ht)⟩
theorem KT.ch {S : Nat → Prop} (hb : Ch S w w') (h : KT τ t lo a w) (hS : ∀ i, S i → a.heap.size ≤ i ∨ τ i ≠ t) : KT τ t lo a w' :=
  ⟨Nat.le_trans h.size hb.size, fun i hl hi ht => (hb.block i (Nat.lt_of_lt_of_le hi h.size) (fun hs => by rcases hS i hs with h1 | h1 <;> first | omega | exact h1 ht)).trans (h.block i hl hi ht)⟩
theorem KT.ex (hb : Ex w w') (h : KT τ t lo a w) : KT τ t lo a w' := h.ch hb (fun _ h => h.elim)
end
/-- τ up to n, τ' from there on. -/
def glue (τ : Nat → Nat) (n : Nat) (τ' : Nat → Nat) : Nat → Nat := fun b => if b < n then τ b else τ' b
section
variable {α : Type} {enc : α → List Value} {sz : Nat} {e : TypeId} {τ τ' : Nat → Nat} {t : Nat} {w w' : World} {lo lo' c n : Nat} {A : Option Addr} {xs : List α}
theorem OwT.keep (h : OwT enc sz e τ t w lo A c n xs) (hk : KT τ t lo w w') : OwT enc sz e τ t w' lo A c n xs :=
  ⟨h.ow.keep_ fun a ha => hk.block _ (h.ow.blk ha).1 (h.ow.blk ha).2 (h.tag a ha), h.tag⟩
theorem OwT.less (h : OwT enc sz e τ t w lo A c n xs) (hl : lo' ≤ lo) : OwT enc sz e τ t w lo' A c n xs := ⟨h.ow.less hl, h.tag⟩
theorem OwT.retag (h : OwT enc sz e τ t w lo A c n xs) (ht : ∀ b, b < w.heap.size → τ' b = τ b) : OwT enc sz e τ' t w lo A c n xs :=
  ⟨h.ow, fun a ha => (ht _ (h.ow.blk ha).2).trans (h.tag a ha)⟩
theorem OwT.fresh (h : Ow enc sz e w lo A c n xs) (ht : ∀ b, lo ≤ b → b < w.heap.size → τ b = t) : OwT enc sz e τ t w lo A c n xs :=
  ⟨h, fun a ha => ht _ (h.blk ha).1 (h.blk ha).2⟩
theorem OwT.nil (τ : Nat → Nat) (t : Nat) (w : World) (lo : Nat) : OwT enc sz e τ t w lo none 0 0 [] := ⟨Ow.nil w lo, fun _ h => by cases h⟩
theorem OwT.glueL {k : Nat} (h : OwT enc sz e τ t w lo A c n xs) (hk : w.heap.size ≤ k) : OwT enc sz e (glue τ k τ') t w lo A c n xs := h.retag fun b hb => if_pos (by omega)
theorem OwT.glueR {k : Nat} (h : OwT enc sz e τ t w lo A c n xs) (hk : k ≤ lo) : OwT enc sz e (glue τ' k τ) t w lo A c n xs :=
  ⟨h.ow, fun a ha => by have := (h.ow.blk ha).1; unfold glue; rw [if_neg (by omega)]; exact h.tag a ha⟩
theorem OwT.rs (h : OwT enc sz e τ t w lo A c n xs) : Rs enc sz w lo A c n xs := h.ow.rs
end
abbrev OwTE := OwT Sw.Ent.enc 4 60
abbrev OwTI := OwT encI 1 3
abbrev OwTD := OwT Sw.Deal.enc 5 38
/-- A market, gates, messages, a world of the call's own: marks 1 to 9; the gates' and the messages' own slices by fd, fp. -/
structure OwM (τ : Nat → Nat) (w : World) (lo : Nat) (aL : Option Addr) (aLc aLn : Nat) (aP : Option Addr) (aPc aPn : Nat) (aD : Option Addr) (aDc aDn : Nat) (aN : Option Addr) (aNc aNn : Nat) (aS : Option Addr) (aSc aSn : Nat) (m : Sw.Mkt) : Prop where
  log : OwTE τ 1 w lo aL aLc aLn m.log
  purses : OwTI τ 2 w lo aP aPc aPn m.purses
  deals : OwTD τ 3 w lo aD aDc aDn m.deals
  nums : OwTI τ 4 w lo aN aNc aNn m.nums
  said : OwTI τ 5 w lo aS aSc aSn m.said
/-- The gates', the messages' own slices: each with a mark of its own; all with one. -/
def fdS (k : Nat) : Nat := 20 + 2 * k
def fpS (k : Nat) : Nat := 21 + 2 * k
def fdL (_ : Nat) : Nat := 10
def fpL (_ : Nat) : Nat := 11
section
variable {fd fp τ τ' : Nat → Nat} {w w' : World} {lo lo' c n k : Nat} {A : Option Addr}
theorem OwM.rm {aL : Option Addr} {aLc aLn : Nat} {aP : Option Addr} {aPc aPn : Nat} {aD : Option Addr} {aDc aDn : Nat} {aN : Option Addr} {aNc aNn : Nat} {aS : Option Addr} {aSc aSn : Nat} {m : Sw.Mkt} (h : OwM τ w lo aL aLc aLn aP aPc aPn aD aDc aDn aN aNc aNn aS aSc aSn m) : RM w lo aL aLc aLn aP aPc aPn aD aDc aDn aN aNc aNn aS aSc aSn m := ⟨h.1.rs, h.2.rs, h.3.rs, h.4.rs, h.5.rs⟩
theorem OwM.keep {aL : Option Addr} {aLc aLn : Nat} {aP : Option Addr} {aPc aPn : Nat} {aD : Option Addr} {aDc aDn : Nat} {aN : Option Addr} {aNc aNn : Nat} {aS : Option Addr} {aSc aSn : Nat} {m : Sw.Mkt} (h : OwM τ w lo aL aLc aLn aP aPc aPn aD aDc aDn aN aNc aNn aS aSc aSn m) (hk : ∀ t, 1 ≤ t → t ≤ 5 → KT τ t lo w w') : OwM τ w' lo aL aLc aLn aP aPc aPn aD aDc aDn aN aNc aNn aS aSc aSn m :=
  ⟨h.1.keep (hk _ (by omega) (by omega)), h.2.keep (hk _ (by omega) (by omega)), h.3.keep (hk _ (by omega) (by omega)), h.4.keep (hk _ (by omega) (by omega)), h.5.keep (hk _ (by omega) (by omega))⟩
theorem OwM.less {aL : Option Addr} {aLc aLn : Nat} {aP : Option Addr} {aPc aPn : Nat} {aD : Option Addr} {aDc aDn : Nat} {aN : Option Addr} {aNc aNn : Nat} {aS : Option Addr} {aSc aSn : Nat} {m : Sw.Mkt} (h : OwM τ w lo aL aLc aLn aP aPc aPn aD aDc aDn aN aNc aNn aS aSc aSn m) (hl : lo' ≤ lo) : OwM τ w lo' aL aLc aLn aP aPc aPn aD aDc aDn aN aNc aNn aS aSc aSn m := ⟨h.1.less hl, h.2.less hl, h.3.less hl, h.4.less hl, h.5.less hl⟩
theorem OwM.retag {aL : Option Addr} {aLc aLn : Nat} {aP : Option Addr} {aPc aPn : Nat} {aD : Option Addr} {aDc aDn : Nat} {aN : Option Addr} {aNc aNn : Nat} {aS : Option Addr} {aSc aSn : Nat} {m : Sw.Mkt} (h : OwM τ w lo aL aLc aLn aP aPc aPn aD aDc aDn aN aNc aNn aS aSc aSn m) (ht : ∀ b, b < w.heap.size → τ' b = τ b) : OwM τ' w lo aL aLc aLn aP aPc aPn aD aDc aDn aN aNc aNn aS aSc aSn m := ⟨h.1.retag ht, h.2.retag ht, h.3.retag ht, h.4.retag ht, h.5.retag ht⟩
theorem OwM.glueR {aL : Option Addr} {aLc aLn : Nat} {aP : Option Addr} {aPc aPn : Nat} {aD : Option Addr} {aDc aDn : Nat} {aN : Option Addr} {aNc aNn : Nat} {aS : Option Addr} {aSc aSn : Nat} {m : Sw.Mkt} (h : OwM τ w lo aL aLc aLn aP aPc aPn aD aDc aDn aN aNc aNn aS aSc aSn m) (hk : k ≤ lo) : OwM (glue τ' k τ) w lo aL aLc aLn aP aPc aPn aD aDc aDn aN aNc aNn aS aSc aSn m := ⟨h.1.glueR hk, h.2.glueR hk, h.3.glueR hk, h.4.glueR hk, h.5.glueR hk⟩
end
end Go.Proofs.Ytimpagcanengoaa

namespace Go.Proofs.Ytimpagcanengoaa
set_option maxRecDepth 100000
set_option linter.unusedSimpArgs false
set_option linter.unusedVariables false
open Go.RowKit Go
set_option maxHeartbeats 2000000

/-- What lies in another block than the one that an append may turn. -/
theorem Ow.keepApp {α : Type} {enc : α → List Value} {sz : Nat} {e : TypeId} {w w' : World} {lo c n : Nat} {A B : Option Addr} {xs : List α} (h : Ow enc sz e w lo B c n xs) (hch : Ch (atA A) w w') (hs : ∀ a b, A = some a → B = some b → a.block ≠ b.block) : Ow enc sz e w' lo B c n xs :=
  h.keep_ fun b hb => hch.block b.block (h.blk hb).2 (fun ⟨a, ha, hk⟩ => hs a b ha hb hk.symm)
/-- Two slices, a block of its own each. -/
def Sep (A B : Option Addr) : Prop := ∀ a b, A = some a → B = some b → a.block ≠ b.block
theorem Sep.fresh {α β : Type} {enc : α → List Value} {sz : Nat} {e : TypeId} {enc' : β → List Value} {sz' : Nat} {e' : TypeId} {w w' : World} {lo lo' c n d m : Nat} {A B : Option Addr} {xs : List α} {ys : List β} (h : Ow enc sz e w lo A c n xs) (k : Ow enc' sz' e' w' lo' B d m ys) (hl : w.heap.size ≤ lo') : Sep A B := by
  intro a b ha hb
  have := (h.blk ha).2
  have := (k.blk hb).1
  omega
theorem Sep.grown {α : Type} {enc : α → List Value} {sz : Nat} {e : TypeId} {w : World} {lo c n : Nat} {A A' B : Option Addr} {ys : List α} (h : Sep A B) (k : Ow enc sz e w lo B c n ys) (hat : ∀ b, A' = some b → A = some b ∨ w.heap.size ≤ b.block) : Sep A' B := by
  intro a b ha hb
  rcases hat a ha with h1 | h1
  · exact h a b h1 hb
  · have := (k.blk hb).2
    omega
theorem sOwnPutA_c (A : Option Addr) (c n : Nat) (xs : List Sw.Row) (p q r s : Int) (w : World) (hxs : RR w 0 A c n xs) (hn : n ≤ 4194304) : Calls Try.prog 78 #[.slice A n c, .agg #[.int .i64 p, .int .i64 q, .int .i64 r, .int .i64 s]] w fun E w' => ∃ A' c', E = .returned (.tuple #[.slice A' n c', .bool (Sw.ownFits xs ⟨p, q, r, s⟩)]) ∧ OwR w' w.heap.size A' c' n (Sw.ownPut xs ⟨p, q, r, s⟩) ∧ Ex w w' :=
  sOwnPut_c A c n xs ⟨p, q, r, s⟩ w hxs hn
theorem ownPut_len (xs : List Sw.Row) (e : Sw.Ent) : (Sw.ownPut xs e).length = xs.length := by
  unfold Sw.ownPut
  split
  · simp [Sw.putRows]
  · rfl
theorem entCap_bd (f : Int) : 0 ≤ Sw.entCap f ∧ Sw.entCap f ≤ 60 := by
  unfold Sw.entCap
  split
  · rename_i h
    simp only [Sw.inR, Bool.and_eq_true, decide_eq_true_eq] at h
    omega
  · omega

/-- A reader in a later world, where it alone has turned. -/
structure RdCh (w0 w : World) (rb P : Nat) : Prop where
  rd : Rdp w rb P
  ch : Ch (· = rb) w0 w
theorem OI_put {w : World} {lo c n g k : Nat} {A : Option Addr} {xs : List Int} (h : OwI w lo A c n xs) (hA : A = some ⟨g, 0, none⟩) (hk : k < xs.length) (u : Int) : OwI (w.setCell ⟨g, k, none⟩ (.int .i64 u)) lo A c n (xs.set k u) := by
  have := Ow.set h (fun _ => rfl) (j := 0) (u := .int .i64 u) (y := u) hA (List.getElem?_eq_getElem hk) (by omega) rfl
  rwa [Nat.mul_one] at this
theorem pickN_c (rb P N : Nat) (n : Int) (w : World) (hr : Rdp w rb P) (hP : P ≤ 1000000) (hn : n = (N : Int)) (h1 : 1 ≤ N) : Calls Try.prog 72 #[.pointer (some ⟨rb, 0, none⟩), .int .i64 n] w fun E w' => ∃ v : Nat, E = .returned (.int .i64 (v : Int)) ∧ v < N ∧ Rdp w' rb (P + 1) ∧ Ch (· = rb) w w' := by
  subst hn
  refine (pick_c rb P N w hr hP (by omega)).mono ?_
  rintro E w' ⟨v, rfl, ⟨h0, h2⟩, h3, h4⟩
  exact ⟨v.toNat, by rw [show ((v.toNat : Nat) : Int) = v by omega], by omega, h3, h4⟩
theorem l20Purses_c (rb P : Nat) (n : Int) (w : World) (hr : Rdp w rb P) (hP : P ≤ 900000) (h1 : 1 ≤ n) (h2 : n ≤ 1000000) : Calls Try.prog 87 #[.pointer (some ⟨rb, 0, none⟩), .int .i64 n] w fun E w' => ∃ A c m xs, E = .returned (.slice A m c) ∧ RI w' w.heap.size A c m xs ∧ m ≤ 6 ∧ Rdp w' rb (P + 20) ∧ Ch (· = rb) w w' := by
  have hlt := hr.lt
  go_enter Try.func87, Try.ntmps87
  go_wp2_with fail
  go_loopw [5, 6] (fun o i wr => ∃ (k : Nat) (B : Option Addr) (d : Nat) (ys : List Int), k ≤ 5 ∧ i = .int .i64 k ∧ o = .slice B k d ∧ Ch (· = rb) w wr ∧ OwI wr w.heap.size B d k ys ∧ Rdp wr rb (P + k)) (fun _ i _ => 5 - (intOf i).toNat)
  case atStart => exact ⟨0, _, 0, [], Nat.zero_le _, rfl, rfl, ext_, Ow.new [] rfl rfl rfl (fun _ => rfl) (Nat.le_refl _) (by omega), hr.keep (by (exact kb_))⟩
  case round =>
    obtain ⟨k, B, d, ys, hk, rfl, rfl, hb, ho, hrd⟩ := hrel
    have hst := xc hb
    obtain ⟨hc, hf, hz⟩ := hst
    by_cases hlt5 : k < 5
    · go_wp2_with (first | (go_at_call 72; apply Calls.mono; apply (pickLit (fun _ => True)); (apply Rdp.keep; assumption; (exact kb_)); omega; (first | rfl | (simp; done)); (repeat (first | exact LitQ.nil | (refine LitQ.cons ⟨_, rfl, (by first | exact trivial | omega)⟩ ?_))); omega; (first | omega | (simp only [zA, zC, zD, zN]; omega)); rintro E w1 ⟨v, x, rfl, hv, hq, hcx, hrd, hb⟩; (try simp only [zA, zC, zD, zN] at hcx); have hst := xc hb; (try simp only [zA, zC, zD, zN] at hst); obtain ⟨hc, hf, hz⟩ := hst) | (at_builtin; apply wpList_app (lo := w.heap.size) el_I one_I rfl rfl rfl rfl; (first | assumption | exact Ow.nil _ _ | (apply Ow.keep; assumption; exact kf_) | (refine Ow.new [] (by (first | rfl | (simp only [zA, zC, zD, zN]; done) | omega)) rfl rfl (fun _ => rfl) (by exact sz_) (by omega))); (first | (refine Rs.new [_] (by (first | rfl | (simp only [zA, zC, zD, zN]; done) | omega)) rfl rfl (fun _ => rfl) (by omega))); omega; exact sz_; intro A1 c1 w2 ho1 hch1 hat1 hex1 hlow1; have hb := hex1 (· = rb) w (by exact ext_) (by omega); have hrd := Rdp.low (Rdp.keep (by assumption) (by exact kb_)) hch1.size hlow1 (by omega); have hz := hch1.size; (try simp only [zA, zC, zD, zN] at hz); obtain ⟨hc, hf⟩ := low_rules hlow1; clear hex1))
      go_roundw
      case rel => exact ⟨k + 1, A1, c1, _, by omega, by go_num, rfl, hb, ho1, hrd⟩
      case measure => simp [intOf]; omega
    · obtain rfl : k = 5 := by omega
      have hd5 : 5 ≤ d := ho.rs.2.le
      rcases ho.form with ⟨_, h0, _⟩ | ⟨g, cur, rfl, hlo, hltg, -⟩
      · omega
      have hgne : g ≠ rb := by omega
      obtain ⟨hcg, hfg⟩ := Lb.rules (ho.lb rfl)
      have hl5 : ys.length = 5 := ho.1.symm
      go_wp2_with (first | (go_at_call 43; apply Calls.mono; apply odd_c; (apply Rdp.keep; assumption; (exact kb_)); (first | assumption | omega); (first | assumption | omega); (first | assumption | omega); rintro E w1 ⟨b, rfl, hrd, hb⟩; have hst := xc hb; (try simp only [zA, zC, zD, zN] at hst); obtain ⟨hc, hf, hz⟩ := hst) | (go_at_call 72; apply Calls.mono; apply (pickLit (fun _ => True)); (apply Rdp.keep; assumption; (exact kb_)); omega; (first | rfl | (simp; done)); (repeat (first | exact LitQ.nil | (refine LitQ.cons ⟨_, rfl, (by first | exact trivial | omega)⟩ ?_))); omega; (first | omega | (simp only [zA, zC, zD, zN]; omega)); rintro E w1 ⟨v, x, rfl, hv, hq, hcx, hrd, hb⟩; (try simp only [zA, zC, zD, zN] at hcx); have hst := xc hb; (try simp only [zA, zC, zD, zN] at hst); obtain ⟨hc, hf, hz⟩ := hst) | (go_at_call 72; apply Calls.mono; apply (pickN_c (N := 5)); (apply Rdp.keep; assumption; (exact kb_)); omega; rfl; decide; rintro E w1 ⟨v5, rfl, hv5, hrd, hb⟩; (have hst := xc hb; (try simp only [zA, zC, zD, zN] at hst); obtain ⟨hc, hf, hz⟩ := hst)) | (go_at_call 72; apply Calls.mono; apply pick_c; (apply Rdp.keep; assumption; (exact kb_)); (first | assumption | omega); (first | assumption | omega); rintro E w1 ⟨v, rfl, ⟨hv0, hv1⟩, hrd, hb⟩; have hst := xc hb; (try simp only [zA, zC, zD, zN] at hst); obtain ⟨hc, hf, hz⟩ := hst) | (at_builtin; apply wpList_app (lo := w.heap.size) el_I one_I rfl rfl rfl rfl; (first | assumption | exact Ow.nil _ _ | (apply Ow.keep; assumption; exact kf_) | (refine Ow.new [] (by (first | rfl | (simp only [zA, zC, zD, zN]; done) | omega)) rfl rfl (fun _ => rfl) (by exact sz_) (by omega))); (first | (refine Rs.new [_] (by (first | rfl | (simp only [zA, zC, zD, zN]; done) | omega)) rfl rfl (fun _ => rfl) (by omega))); omega; exact sz_; intro A1 c1 w2 ho1 hch1 hat1 hex1 hlow1; have hb := hex1 (· = rb) w (by exact ext_) (by omega); have hrd := Rdp.low (Rdp.keep (by assumption) (by exact kb_)) hch1.size hlow1 (by omega); have hz := hch1.size; (try simp only [zA, zC, zD, zN] at hz); obtain ⟨hc, hf⟩ := low_rules hlow1; clear hex1))
      all_goals go_ret
      · have hb5 : v5 < ys.length := by omega
        have ho5 := OI_put (show OwI w1 w.heap.size (some ⟨g, 0, none⟩) d 5 ys from ho.keep kf_) rfl (k := v5) hb5 x
        exact ⟨_, _, _, _, rfl, ho5.rs, by decide, Rdp.more (hrd.keep kb_) (by omega), ext_⟩
      · have hrs : RI w1 w.heap.size (some ⟨g, 1, none⟩) (d - 1) 4 (ys.drop 1) := by
          have := RI_drop (k := 1) (show OwI w1 w.heap.size (some ⟨g, 0, none⟩) d 5 ys from ho.keep kf_).rs (by omega)
          simpa [Addr.add_lit] using this
        exact ⟨_, _, _, _, rfl, hrs, by decide, Rdp.more (hrd.keep kb_) (by omega), ext_⟩
      · have ho5 := OI_put (show OwI w1 w.heap.size (some ⟨g, 0, none⟩) d 5 ys from ho.keep kf_) rfl (k := 0) (by omega) (100000 : Int)
        exact ⟨_, _, _, _, rfl, ho5.rs, by decide, Rdp.more (hrd.keep kb_) (by omega), ext_⟩
      · exact ⟨_, _, _, _, rfl, ho1.rs, by decide, Rdp.more (hrd.keep kb_) (by omega), hb⟩
      · exact ⟨_, _, _, _, rfl, (show OwI w1 w.heap.size (some ⟨g, 0, none⟩) d 5 ys from ho.keep kf_).rs, by decide, Rdp.more (hrd.keep kb_) (by omega), ext_⟩

end Go.Proofs.Ytimpagcanengoaa

namespace Go.Proofs.Ytimpagcanengoaa
set_option maxRecDepth 100000
set_option linter.unusedSimpArgs false
set_option linter.unusedVariables false
open Go.RowKit Go
set_option maxHeartbeats 400000

theorem sMonOk_c (A : Option Addr) (c n : Nat) (xs : List Int) (w : World) (hxs : RI w 0 A c n xs) : Calls Try.prog 50 #[.slice A n c] w fun E w' => E = .returned (.bool (Sw.monOk xs)) ∧ w = w' := by
  have hl := Lib.hid hxs.1
  have hbig := Rs.big hxs
  by_cases hn : n = 5
  · subst hn
    go_enter Try.func50, Try.ntmps50
    go_wp2
    go_loop [3] (fun i => ∃ k : Nat, k ≤ 5 ∧ i = .int .i64 k ∧ xs.all (fun n => Sw.inR n 0 100000) = (xs.drop k).all (fun n => Sw.inR n 0 100000)) (fun i => 5 - (intOf i).toNat)
    case atStart => exact ⟨0, Nat.zero_le _, rfl, rfl⟩
    case round =>
      obtain ⟨k, hk, rfl, hrel⟩ := hrel
      by_cases hlt : k < 5
      · obtain ⟨g, off, y, rfl, hg0, hg, hd, hy, hc⟩ := at_I hxs hlt
        rw [hd] at hrel
        clear hd hy
        have Hrel := Lib.hid hrel; clear hrel
        cases hp : Sw.inR y 0 100000 with
        | true =>
          go_wp2_with (first | (go_at_call 51; refine (l1In_c _ _ _ _).mono ?_; rintro E w' ⟨rfl, rfl⟩))
          go_round
          case rel => exact ⟨k + 1, by omega, by go_num, by rw [Hrel.out, List.all_cons, hp, Bool.true_and]⟩
          case measure => simp [intOf]; omega
        | false =>
          go_wp2_with (first | (go_at_call 51; refine (l1In_c _ _ _ _).mono ?_; rintro E w' ⟨rfl, rfl⟩))
          go_ret
          exact ⟨ret_b (by rw [Sw.monOk, Hrel.out, List.all_cons, hp]; simp), rfl⟩
      · have Hrel := Lib.hid hrel; clear hrel
        go_wp2
        go_ret
        refine ⟨ret_b ?_, rfl⟩
        rw [Sw.monOk, Hrel.out, List.drop_of_length_le (by have := hl.out; omega), ← hl.out]
        rfl
  · have hb : decide (n = 5) = false := by simp [hn]
    go_enter Try.func50, Try.ntmps50
    go_wp2
    go_ret
    refine ⟨ret_b ?_, rfl⟩
    rw [Sw.monOk, ← hl.out, hb]
    rfl

theorem monTurn_y {xs : List Int} {who v : Int} (h : Sw.turnMay xs who v = true) : Sw.monTurn xs who v = Sw.turned xs who v := by simp [Sw.monTurn, h]
theorem monTurn_n {xs : List Int} {who v : Int} (h : Sw.turnMay xs who v = false) : Sw.monTurn xs who v = xs := by simp [Sw.monTurn, h]
theorem monOk_len {xs : List Int} (h : Sw.monOk xs = true) : xs.length = 5 := (Sw.monOk_iff.1 h).1
theorem purse_at {xs : List Int} {k : Nat} {y : Int} (h : xs[k]? = some y) : Sw.purse xs (k + 1) = y := by
  unfold Sw.purse
  rw [show ((k : Int) + 1 - 1).toNat = k from by omega, List.getD_eq_getElem?_getD, h]
  rfl

theorem sMonTurn_c (A : Option Addr) (c n : Nat) (xs : List Int) (who v : Int) (w : World) (hxs : RI w 0 A c n xs) (hn : n ≤ 4194304) : Calls Try.prog 76 #[.slice A n c, .int .i64 who, .int .i64 v] w fun E w' => ∃ A' c', E = .returned (.tuple #[.slice A' n c', .bool (Sw.turnMay xs who v)]) ∧ OwI w' w.heap.size A' c' n (Sw.monTurn xs who v) ∧ Ex w w' := by
  cases g1 : Sw.monOk xs
  case false =>
    have e : Sw.turnMay xs who v = false := by simp [Sw.turnMay, g1]
    rw [e, monTurn_n e]; clear e
    go_enter Try.func76, Try.ntmps76
    go_wp2_with (first | (at_builtin; apply wpList_app (lo := w.heap.size) el_I one_I rfl rfl rfl rfl; (first | assumption | exact Ow.nil _ _ | (apply Ow.keep; assumption; exact kf_) | (refine Ow.new [] (by (first | rfl | (simp only [zA, zC, zD, zN]; done) | omega)) rfl rfl (fun _ => rfl) (by exact sz_) (by omega))); (first | ((first | (apply Rs.at0; assumption) | (apply Ow.rs0; assumption)); exact kf_)); omega; exact sz_; intro A1 c1 w2 ho1 hch1 hat1 hex1 hlow1; have hb := hex1 (fun _ => False) w (by exact ext_) (by exact sz_); have hz := hch1.size; (try simp only [zA, zC, zD, zN] at hz); obtain ⟨hc, hf⟩ := low_rules hlow1; clear hlow1 hex1) | (go_at_call 50; apply Calls.mono; apply sMonOk_c; ((first | (apply Rs.at0; assumption) | (apply Ow.rs0; assumption)); exact kf_); rintro E w' ⟨rfl, rfl⟩))
    go_ret2
    exact ⟨A1, c1, by simp, by simpa using ho1, ext_⟩
  have h5 := monOk_len g1
  have hn5 : n = 5 := by rw [hxs.1, h5]
  subst hn5
  clear h5
  cases g2 : Sw.inR who 1 5
  case false =>
    have e : Sw.turnMay xs who v = false := by simp [Sw.turnMay, g2]
    rw [e, monTurn_n e]; clear e
    go_enter Try.func76, Try.ntmps76
    go_wp2_with (first | (at_builtin; apply wpList_app (lo := w.heap.size) el_I one_I rfl rfl rfl rfl; (first | assumption | exact Ow.nil _ _ | (apply Ow.keep; assumption; exact kf_) | (refine Ow.new [] (by (first | rfl | (simp only [zA, zC, zD, zN]; done) | omega)) rfl rfl (fun _ => rfl) (by exact sz_) (by omega))); (first | ((first | (apply Rs.at0; assumption) | (apply Ow.rs0; assumption)); exact kf_)); omega; exact sz_; intro A1 c1 w2 ho1 hch1 hat1 hex1 hlow1; have hb := hex1 (fun _ => False) w (by exact ext_) (by exact sz_); have hz := hch1.size; (try simp only [zA, zC, zD, zN] at hz); obtain ⟨hc, hf⟩ := low_rules hlow1; clear hlow1 hex1) | (go_at_call 50; apply Calls.mono; apply sMonOk_c; ((first | (apply Rs.at0; assumption) | (apply Ow.rs0; assumption)); exact kf_); rintro E w' ⟨rfl, rfl⟩) | (go_at_call 51; refine (l1In_c _ _ _ _).mono ?_; rintro E w' ⟨rfl, rfl⟩))
    go_ret2
    exact ⟨A1, c1, by simp, by simpa using ho1, ext_⟩
  cases g3 : Sw.inR v (-100000) 100000
  case false =>
    have e : Sw.turnMay xs who v = false := by simp [Sw.turnMay, g3]
    rw [e, monTurn_n e]; clear e
    go_enter Try.func76, Try.ntmps76
    go_wp2_with (first | (at_builtin; apply wpList_app (lo := w.heap.size) el_I one_I rfl rfl rfl rfl; (first | assumption | exact Ow.nil _ _ | (apply Ow.keep; assumption; exact kf_) | (refine Ow.new [] (by (first | rfl | (simp only [zA, zC, zD, zN]; done) | omega)) rfl rfl (fun _ => rfl) (by exact sz_) (by omega))); (first | ((first | (apply Rs.at0; assumption) | (apply Ow.rs0; assumption)); exact kf_)); omega; exact sz_; intro A1 c1 w2 ho1 hch1 hat1 hex1 hlow1; have hb := hex1 (fun _ => False) w (by exact ext_) (by exact sz_); have hz := hch1.size; (try simp only [zA, zC, zD, zN] at hz); obtain ⟨hc, hf⟩ := low_rules hlow1; clear hlow1 hex1) | (go_at_call 50; apply Calls.mono; apply sMonOk_c; ((first | (apply Rs.at0; assumption) | (apply Ow.rs0; assumption)); exact kf_); rintro E w' ⟨rfl, rfl⟩) | (go_at_call 51; refine (l1In_c _ _ _ _).mono ?_; rintro E w' ⟨rfl, rfl⟩))
    go_ret2
    exact ⟨A1, c1, by simp, by simpa using ho1, ext_⟩
  have hw := Sw.inR_iff.1 g2
  have hv := Sw.inR_iff.1 g3
  obtain ⟨k, rfl⟩ : ∃ k : Nat, who = k + 1 := ⟨(who - 1).toNat, by omega⟩
  have hk : k < 5 := by omega
  obtain ⟨g, off, y, rfl, hg0, hg, hd, hy, hc0⟩ := at_I hxs hk
  have hyb : 0 ≤ y ∧ y ≤ 100000 := (Sw.monOk_iff.1 g1).2 y (List.mem_of_getElem? hy)
  have hpu := purse_at hy
  have Hpu := Lib.hid hpu
  have Hy := Lib.hid hy
  clear hd hy hpu
  obtain ⟨y0, y1⟩ := hyb
  obtain ⟨v0, v1⟩ := hv
  clear hw
  have t2 : IntKind.i64.wrap ((k : Int) + 1 - 1) = k := by rw [IntWalk.i64_in _ (by omega)]; omega
  cases g4 : Sw.inR (y + v) 0 100000
  case false =>
    have e : Sw.turnMay xs (k + 1) v = false := by simp [Sw.turnMay, Hpu.out, g4]
    rw [e, monTurn_n e]; clear e
    go_enter Try.func76, Try.ntmps76
    go_wp2_with (first | (at_builtin; apply wpList_app (lo := w.heap.size) el_I one_I rfl rfl rfl rfl; (first | assumption | exact Ow.nil _ _ | (apply Ow.keep; assumption; exact kf_) | (refine Ow.new [] (by (first | rfl | (simp only [zA, zC, zD, zN]; done) | omega)) rfl rfl (fun _ => rfl) (by exact sz_) (by omega))); (first | ((first | (apply Rs.at0; assumption) | (apply Ow.rs0; assumption)); exact kf_)); omega; exact sz_; intro A1 c1 w2 ho1 hch1 hat1 hex1 hlow1; have hb := hex1 (fun _ => False) w (by exact ext_) (by exact sz_); have hz := hch1.size; (try simp only [zA, zC, zD, zN] at hz); obtain ⟨hc, hf⟩ := low_rules hlow1; clear hlow1 hex1) | (go_at_call 50; apply Calls.mono; apply sMonOk_c; ((first | (apply Rs.at0; assumption) | (apply Ow.rs0; assumption)); exact kf_); rintro E w' ⟨rfl, rfl⟩) | (go_at_call 51; refine (l1In_c _ _ _ _).mono ?_; rintro E w' ⟨rfl, rfl⟩))
    go_ret2
    exact ⟨A1, c1, by simp, by simpa using ho1, ext_⟩
  have e : Sw.turnMay xs (k + 1) v = true := by simp [Sw.turnMay, g1, g2, g3, Hpu.out, g4]
  rw [e, monTurn_y e]; clear e
  go_enter Try.func76, Try.ntmps76
  go_wp2_with (first | (at_builtin; apply wpList_app (lo := w.heap.size) el_I one_I rfl rfl rfl rfl; (first | assumption | exact Ow.nil _ _ | (apply Ow.keep; assumption; exact kf_) | (refine Ow.new [] (by (first | rfl | (simp only [zA, zC, zD, zN]; done) | omega)) rfl rfl (fun _ => rfl) (by exact sz_) (by omega))); (first | ((first | (apply Rs.at0; assumption) | (apply Ow.rs0; assumption)); exact kf_)); omega; exact sz_; intro A1 c1 w2 ho1 hch1 hat1 hex1 hlow1; have hb := hex1 (fun _ => False) w (by exact ext_) (by exact sz_); have hz := hch1.size; (try simp only [zA, zC, zD, zN] at hz); obtain ⟨hc, hf⟩ := low_rules hlow1; clear hlow1 hex1))
  simp only [Nat.zero_add, List.nil_append] at ho1
  apply Calls.mono; apply sMonOk_c; (first | assumption | ((first | (apply Rs.at0; assumption) | (apply Ow.rs0; assumption)); exact kf_) | omega); rintro E w3 ⟨rfl, rfl⟩
  obtain ⟨g', x', hA, hlo, hlt, hx, hcx, hfz⟩ := at_OI ho1 hk
  obtain rfl : x' = y := by have := Hy.out; rw [hx] at this; exact Option.some.inj this
  subst hA
  clear hx
  go_wp2_with (first | (go_at_call 51; refine (l1In_c _ _ _ _).mono ?_; rintro E w' ⟨rfl, rfl⟩))
  go_ret2
  refine ⟨_, _, rfl, ?_, ext_⟩
  have r := OI_set ho1 rfl Hy.out (x' + v)
  rw [Sw.turned, Hpu.out, show ((k : Int) + 1 - 1).toNat = k from by omega]
  exact r

theorem sMonMove_c (A : Option Addr) (c n : Nat) (xs : List Int) (a b v : Int) (w : World) (hxs : RI w 0 A c n xs) (hn : n ≤ 4194304) : Calls Try.prog 115 #[.slice A n c, .int .i64 a, .int .i64 b, .int .i64 v] w fun E w' => ∃ A' c', E = .returned (.tuple #[.slice A' n c', .bool (Sw.moveMay xs a b v)]) ∧ OwI w' w.heap.size A' c' n (Sw.monMove xs a b v) ∧ Ex w w' := by
  cases g1 : Sw.inR v 0 100000
  case false =>
    have e : Sw.moveMay xs a b v = false := by simp [Sw.moveMay, g1]
    have e2 : Sw.monMove xs a b v = xs := by simp [Sw.monMove, e]
    rw [e, e2]; clear e e2
    go_enter Try.func115, Try.ntmps115
    go_wp2_with (first | (at_builtin; apply wpList_app (lo := w.heap.size) el_I one_I rfl rfl rfl rfl; (first | assumption | exact Ow.nil _ _ | (apply Ow.keep; assumption; exact kf_) | (refine Ow.new [] (by (first | rfl | (simp only [zA, zC, zD, zN]; done) | omega)) rfl rfl (fun _ => rfl) (by exact sz_) (by omega))); (first | ((first | (apply Rs.at0; assumption) | (apply Ow.rs0; assumption)); exact kf_)); omega; exact sz_; intro A1 c1 w2 ho1 hch1 hat1 hex1 hlow1; have hb := hex1 (fun _ => False) w (by exact ext_) (by exact sz_); have hz := hch1.size; (try simp only [zA, zC, zD, zN] at hz); obtain ⟨hc, hf⟩ := low_rules hlow1; clear hlow1 hex1) | (go_at_call 51; refine (l1In_c _ _ _ _).mono ?_; rintro E w' ⟨rfl, rfl⟩))
    go_ret2
    exact ⟨A1, c1, by simp, by simpa using ho1, ext_⟩
  have hv := Sw.inR_iff.1 g1
  obtain ⟨v0, v1⟩ := hv
  by_cases g2 : a = b
  case pos =>
    have hab : (a == b) = true := by simp [g2]
    have e : Sw.moveMay xs a b v = false := by simp [Sw.moveMay, g2]
    have e2 : Sw.monMove xs a b v = xs := by simp [Sw.monMove, e]
    rw [e, e2]; clear e e2 g2
    go_enter Try.func115, Try.ntmps115
    go_wp2_with (first | (at_builtin; apply wpList_app (lo := w.heap.size) el_I one_I rfl rfl rfl rfl; (first | assumption | exact Ow.nil _ _ | (apply Ow.keep; assumption; exact kf_) | (refine Ow.new [] (by (first | rfl | (simp only [zA, zC, zD, zN]; done) | omega)) rfl rfl (fun _ => rfl) (by exact sz_) (by omega))); (first | ((first | (apply Rs.at0; assumption) | (apply Ow.rs0; assumption)); exact kf_)); omega; exact sz_; intro A1 c1 w2 ho1 hch1 hat1 hex1 hlow1; have hb := hex1 (fun _ => False) w (by exact ext_) (by exact sz_); have hz := hch1.size; (try simp only [zA, zC, zD, zN] at hz); obtain ⟨hc, hf⟩ := low_rules hlow1; clear hlow1 hex1) | (go_at_call 51; refine (l1In_c _ _ _ _).mono ?_; rintro E w' ⟨rfl, rfl⟩))
    go_ret2
    exact ⟨A1, c1, by simp, by simpa using ho1, ext_⟩
  have hab : (a == b) = false := by simp [g2]
  cases g3 : Sw.turnMay xs a (-v)
  case false =>
    have e : Sw.moveMay xs a b v = false := by simp [Sw.moveMay, g3]
    have e2 : Sw.monMove xs a b v = xs := by simp [Sw.monMove, e]
    rw [e, e2]; clear e e2 g2
    go_enter Try.func115, Try.ntmps115
    go_wp2_with (first | (at_builtin; apply wpList_app (lo := w.heap.size) el_I one_I rfl rfl rfl rfl; (first | assumption | exact Ow.nil _ _ | (apply Ow.keep; assumption; exact kf_) | (refine Ow.new [] (by (first | rfl | (simp only [zA, zC, zD, zN]; done) | omega)) rfl rfl (fun _ => rfl) (by exact sz_) (by omega))); (first | ((first | (apply Rs.at0; assumption) | (apply Ow.rs0; assumption)); exact kf_)); omega; exact sz_; intro A1 c1 w2 ho1 hch1 hat1 hex1 hlow1; have hb := hex1 (fun _ => False) w (by exact ext_) (by exact sz_); have hz := hch1.size; (try simp only [zA, zC, zD, zN] at hz); obtain ⟨hc, hf⟩ := low_rules hlow1; clear hlow1 hex1) | (go_at_call 51; refine (l1In_c _ _ _ _).mono ?_; rintro E w' ⟨rfl, rfl⟩) | (go_at_call 76; apply Calls.mono; apply sMonTurn_c; (first | assumption | ((first | (apply Rs.at0; assumption) | (apply Ow.rs0; assumption)); exact kf_) | omega); omega; rintro E w3 ⟨A3, c3, rfl, ho3, hb3⟩; have hst := Ex.rules hb3 rfl; obtain ⟨hc3, hf3, hz3⟩ := hst))
    go_ret2
    exact ⟨A1, c1, by simp, (by simpa using ho1.less (by omega)), ext_⟩
  have e3 := monTurn_y g3
  have E3 := Lib.hid e3; clear e3
  cases g4 : Sw.turnMay (Sw.turned xs a (-v)) b v
  case false =>
    have e : Sw.moveMay xs a b v = false := by simp [Sw.moveMay, g4]
    have e2 : Sw.monMove xs a b v = xs := by simp [Sw.monMove, e]
    rw [e, e2]; clear e e2 g2
    go_enter Try.func115, Try.ntmps115
    go_wp2_with (first | (at_builtin; apply wpList_app (lo := w.heap.size) el_I one_I rfl rfl rfl rfl; (first | assumption | exact Ow.nil _ _ | (apply Ow.keep; assumption; exact kf_) | (refine Ow.new [] (by (first | rfl | (simp only [zA, zC, zD, zN]; done) | omega)) rfl rfl (fun _ => rfl) (by exact sz_) (by omega))); (first | ((first | (apply Rs.at0; assumption) | (apply Ow.rs0; assumption)); exact kf_)); omega; exact sz_; intro A1 c1 w2 ho1 hch1 hat1 hex1 hlow1; have hb := hex1 (fun _ => False) w (by exact ext_) (by exact sz_); have hz := hch1.size; (try simp only [zA, zC, zD, zN] at hz); obtain ⟨hc, hf⟩ := low_rules hlow1; clear hlow1 hex1) | (go_at_call 51; refine (l1In_c _ _ _ _).mono ?_; rintro E w' ⟨rfl, rfl⟩) | (go_at_call 76; apply Calls.mono; apply (sMonTurn_c (xs := Sw.turned xs a (-v))); (first | assumption | ((first | (apply Rs.at0; assumption) | (apply Ow.rs0; assumption)); exact kf_) | omega); omega; rintro E w4 ⟨A4, c4, rfl, ho4, hb4⟩; have hst := Ex.rules hb4 rfl; obtain ⟨hc4, hf4, hz4⟩ := hst) | (go_at_call 76; apply Calls.mono; apply (sMonTurn_c (xs := xs)); (first | assumption | ((first | (apply Rs.at0; assumption) | (apply Ow.rs0; assumption)); exact kf_) | omega); omega; rintro E w3 ⟨A3, c3, rfl, ho3, hb3⟩; rw [E3.out] at ho3; have hst := Ex.rules hb3 rfl; obtain ⟨hc3, hf3, hz3⟩ := hst))
    go_ret2
    exact ⟨A1, c1, by simp, (by simpa using ho1.less (by omega)), ext_⟩
  have e : Sw.moveMay xs a b v = true := by simp [Sw.moveMay, g1, g2, g3, g4]
  have e2 : Sw.monMove xs a b v = Sw.turned (Sw.turned xs a (-v)) b v := by simp [Sw.monMove, e]
  have e4 := monTurn_y g4
  have E4 := Lib.hid e4; clear e4
  rw [e, e2]; clear e e2 g2
  go_enter Try.func115, Try.ntmps115
  go_wp2_with (first | (go_at_call 51; refine (l1In_c _ _ _ _).mono ?_; rintro E w' ⟨rfl, rfl⟩) | (go_at_call 76; apply Calls.mono; apply (sMonTurn_c (xs := Sw.turned xs a (-v))); (first | assumption | ((first | (apply Rs.at0; assumption) | (apply Ow.rs0; assumption)); exact kf_) | omega); omega; rintro E w4 ⟨A4, c4, rfl, ho4, hb4⟩; rw [E4.out] at ho4; have hst := Ex.rules hb4 rfl; obtain ⟨hc4, hf4, hz4⟩ := hst) | (go_at_call 76; apply Calls.mono; apply (sMonTurn_c (xs := xs)); (first | assumption | ((first | (apply Rs.at0; assumption) | (apply Ow.rs0; assumption)); exact kf_) | omega); omega; rintro E w3 ⟨A3, c3, rfl, ho3, hb3⟩; rw [E3.out] at ho3; have hst := Ex.rules hb3 rfl; obtain ⟨hc3, hf3, hz3⟩ := hst))
  go_ret2
  exact ⟨A4, c4, rfl, ho4.less (by omega), ext_⟩
end Go.Proofs.Ytimpagcanengoaa

namespace Go.Proofs.Ytimpagcanengoaa
set_option maxRecDepth 100000
set_option linter.unusedSimpArgs false
set_option linter.unusedVariables false
open Go.RowKit Go
set_option maxHeartbeats 400000

end Go.Proofs.Ytimpagcanengoaa

namespace Go.Proofs.Ytimpagcanengoaa
set_option maxRecDepth 100000
set_option linter.unusedSimpArgs false
set_option linter.unusedVariables false
open Go.RowKit Go
set_option maxHeartbeats 400000

section
variable {w : World} {lo c n k : Nat} {A : Option Addr}
theorem at_OE {xs : List Sw.Ent} (h : OwE w lo A c n xs) (hk : k < n) :
    ∃ g x, A = some ⟨g, 0, none⟩ ∧ lo ≤ g ∧ g < w.heap.size ∧ xs[k]? = some x ∧ w.cell? ⟨g, k * 4, none⟩ = some (.int .i64 x.kind) ∧ w.cell? ⟨g, k * 4 + 1, none⟩ = some (.int .i64 x.ticket) ∧
      w.cell? ⟨g, k * 4 + 2, none⟩ = some (.int .i64 x.who) ∧ w.cell? ⟨g, k * 4 + 3, none⟩ = some (.int .i64 x.price) ∧ (∀ i, w.frozen? ⟨g, i, none⟩ = false) := by
  obtain ⟨g, x, h1, h2, h3, h4, h5, h6⟩ := Ow.at_ h (fun _ => rfl) hk
  exact ⟨g, x, h1, h2, h3, h4, by simpa using h5 0 _ (by omega) rfl, h5 1 _ (by omega) rfl, h5 2 _ (by omega) rfl, h5 3 _ (by omega) rfl, h6⟩
theorem at_OD {xs : List Sw.Deal} (h : OwD w lo A c n xs) (hk : k < n) :
    ∃ g x, A = some ⟨g, 0, none⟩ ∧ lo ≤ g ∧ g < w.heap.size ∧ xs[k]? = some x ∧ w.cell? ⟨g, k * 5, none⟩ = some (.int .i64 x.ticket) ∧ w.cell? ⟨g, k * 5 + 1, none⟩ = some (.int .i64 x.seller) ∧
      w.cell? ⟨g, k * 5 + 2, none⟩ = some (.int .i64 x.price) ∧ w.cell? ⟨g, k * 5 + 3, none⟩ = some (.int .i64 x.buyer) ∧ w.cell? ⟨g, k * 5 + 4, none⟩ = some (.int .i64 x.due) ∧ (∀ i, w.frozen? ⟨g, i, none⟩ = false) := by
  obtain ⟨g, x, h1, h2, h3, h4, h5, h6⟩ := Ow.at_ h (fun _ => rfl) hk
  exact ⟨g, x, h1, h2, h3, h4, by simpa using h5 0 _ (by omega) rfl, h5 1 _ (by omega) rfl, h5 2 _ (by omega) rfl, h5 3 _ (by omega) rfl, h5 4 _ (by omega) rfl, h6⟩
end

end Go.Proofs.Ytimpagcanengoaa

namespace Go.Proofs.Ytimpagcanengoaa
set_option maxRecDepth 100000
set_option linter.unusedSimpArgs false
set_option linter.unusedVariables false
open Go.RowKit Go
set_option maxHeartbeats 400000

theorem ent_ext {a b : Sw.Ent} : a = b ↔ a.kind = b.kind ∧ a.ticket = b.ticket ∧ a.who = b.who ∧ a.price = b.price := by cases a; cases b; simp
theorem row_ext {a b : Sw.Row} : a = b ↔ a.who = b.who ∧ a.face = b.face ∧ a.used = b.used := by cases a; cases b; simp
theorem deal_ext {a b : Sw.Deal} : a = b ↔ a.ticket = b.ticket ∧ a.seller = b.seller ∧ a.price = b.price ∧ a.buyer = b.buyer ∧ a.due = b.due := by cases a; cases b; simp
theorem req_ext {a b : Sw.Req} : a = b ↔ a.user = b.user ∧ a.n = b.n ∧ a.kind = b.kind ∧ a.ticket = b.ticket ∧ a.who = b.who ∧ a.price = b.price := by cases a; cases b; simp

/-! ### sizes -/
def szOf (l n : Int) : Int := if l - n < 0 then -1 else l - n
/-! ### equality -/
end Go.Proofs.Ytimpagcanengoaa

namespace Go.Proofs.Ytimpagcanengoaa
set_option maxRecDepth 100000
set_option linter.unusedSimpArgs false
set_option linter.unusedVariables false
open Go.RowKit Go
set_option maxHeartbeats 400000

/-! ### sizes: what fits, and what does not -/
/-- How many numbers gates, messages hold in their own slices. -/
def dsz (gs : List Sw.Gate) : Nat := (gs.map (·.done.length)).sum
def psz (xs : List Sw.Msg) : Nat := (xs.map (·.proof.length)).sum
theorem dsz_cons (g : Sw.Gate) (gs : List Sw.Gate) : dsz (g :: gs) = g.done.length + dsz gs := by simp [dsz]
theorem psz_cons (g : Sw.Msg) (gs : List Sw.Msg) : psz (g :: gs) = g.proof.length + psz gs := by simp [psz]
end Go.Proofs.Ytimpagcanengoaa

