/- Texts joined: Typed, Plain3, Plain4, RegQ. -/
import Derived.Test.YtnnoiagommiapaaGreatPz1
import Derived.Test.YtnnoiagommiapaaGreatPz2
import Derived.Test.YtnnoiagommiapaaGreatPz4
import Derived.Test.YtnnoiagommiapaaGreatPz3
set_option maxRecDepth 100000
set_option linter.unusedSimpArgs false
set_option linter.unusedVariables false
namespace Go.Proofs.YtnnoiagommiapaaGreat
open Go.RowKit Go
theorem Rd.at0 {w0 W : World} {lo c sz n : Nat} {A : Option Addr} {cs : List Value} (h : Rd w0 lo A c sz n cs) (hk : KF lo w0 W) : Rd W 0 A c sz n cs := (h.keep hk).less (Nat.zero_le _)
def Rs {α : Type} (enc : α → List Value) (sz : Nat) (w : World) (lo : Nat) (A : Option Addr) (c n : Nat) (xs : List α) : Prop :=
 n = xs.length ∧ Rd w lo A c sz n (xs.flatMap enc)
section
variable {α : Type} {enc : α → List Value} {sz : Nat} {w w0 W : World} {lo lo' c n : Nat} {A : Option Addr} {xs : List α}
theorem Rs.at0 (h : Rs enc sz w0 lo A c n xs) (hk : KF lo w0 W) : Rs enc sz W 0 A c n xs := ⟨h.1, h.2.at0 hk⟩
theorem Rs.keep (h : Rs enc sz w0 lo A c n xs) (hk : KF lo w0 W) : Rs enc sz W lo A c n xs := ⟨h.1, h.2.keep hk⟩
theorem Rs.less (h : Rs enc sz w0 lo A c n xs) (hl : lo' ≤ lo) : Rs enc sz w0 lo' A c n xs := ⟨h.1, h.2.less hl⟩
theorem flat_get (hsz : ∀ x, (enc x).length = sz) : ∀ (xs : List α) (k j : Nat) (hk : k < xs.length), j < sz → (xs.flatMap enc)[k * sz + j]? = (enc xs[k])[j]? := by
 intro xs
 induction xs with
 | nil => intro k j h; simp at h
 | cons x xs ih =>
   intro k j h hj
   cases k with
   | zero =>
     simp only [List.flatMap_cons, Nat.zero_mul, Nat.zero_add, List.getElem_cons_zero]
     rw [List.getElem?_append_left (by rw [hsz]; exact hj)]
   | succ k =>
     simp only [List.flatMap_cons, List.getElem_cons_succ]
     rw [List.getElem?_append_right (by rw [hsz]; simp only [Nat.succ_mul]; omega)]
     rw [show (k + 1) * sz + j - (enc x).length = k * sz + j from by rw [hsz]; simp only [Nat.succ_mul]; omega]
     exact ih k j (by simpa using h) hj
theorem Rs.at_ (h : Rs enc sz w lo A c n xs) (hsz : ∀ x, (enc x).length = sz) {k : Nat} (hk : k < n) :
   ∃ g off x, A = some ⟨g, off, none⟩ ∧ lo ≤ g ∧ g < w.heap.size ∧ xs.drop k = x :: xs.drop (k + 1) ∧ xs[k]? = some x ∧
     ∀ j u, j < sz → (enc x)[j]? = some u → w.cell? ⟨g, off + (k * sz + j), none⟩ = some u := by
 obtain ⟨rfl, h⟩ := h
 cases A with
 | none => have := h.nil rfl; have := h.le; omega
 | some a =>
   obtain ⟨h1, h2, h3, h4⟩ := h.cells a rfl (by omega)
   obtain ⟨g, off, spot⟩ := a
   dsimp only at h1 h2 h3 h4
   subst h1
   refine ⟨g, off, xs[k], rfl, h2, h3, List.drop_eq_getElem_cons hk, List.getElem?_eq_getElem hk, fun j u hj hu => h4 (k * sz + j) u ?_⟩
   rw [flat_get hsz xs k j hk hj]
   exact hu
end
theorem Rs.new {α : Type} {enc : α → List Value} {sz : Nat} {w : World} {cs : Array Value} {T : TypeId} {g n : Nat} (xs : List α) (hg : g = w.heap.size) (hcs : cs = (xs.flatMap enc).toArray) (hn : n = xs.length)
   (hsz : ∀ x, (enc x).length = sz) (hm : n ≤ 4194304) : Rs enc sz (w.alloc (.cells cs T)) 0 (some ⟨g, 0, none⟩) n n xs := by
 subst hg hcs hn
 refine ⟨rfl, ?_, Nat.le_refl _, (by unfold maxLen; omega), (fun h => by cases h), fun a ha _ => ?_⟩
 · clear hm
   induction xs with
   | nil => simp
   | cons x xs ih => simp only [List.flatMap_cons, List.length_append, hsz, ih, List.length_cons, Nat.succ_mul]; omega
 · obtain rfl := Option.some.inj ha
   refine ⟨rfl, Nat.zero_le _, by simp, fun j u hu => ?_⟩
   simpa using hu
def encI (x : Int) : List Value := [.int .i64 x]
def encB (x : Int) : List Value := [.int .u8 x]
def Sw.Ent.enc (e : Sw.Ent) : List Value := [.int .i64 e.kind, .int .i64 e.ticket, .int .i64 e.who, .int .i64 e.price]
def Sw.Row.enc (r : Sw.Row) : List Value := [.int .i64 r.who, .int .i64 r.face, .bool r.used]
def Sw.Head.enc (h : Sw.Head) : List Value := [.int .i64 h.size, .int .i64 h.log, .int .i64 h.own]
abbrev RI := Rs encI 1
abbrev RB := Rs encB 1
abbrev RE := Rs Sw.Ent.enc 4
abbrev RR := Rs Sw.Row.enc 3
abbrev RH := Rs Sw.Head.enc 3
section
variable {w : World} {lo c n k : Nat} {A : Option Addr}
theorem at_I {xs : List Int} (h : RI w lo A c n xs) (hk : k < n) :
   ∃ g off x, A = some ⟨g, off, none⟩ ∧ lo ≤ g ∧ g < w.heap.size ∧ xs.drop k = x :: xs.drop (k + 1) ∧ xs[k]? = some x ∧ w.cell? ⟨g, off + k, none⟩ = some (.int .i64 x) := by
 obtain ⟨g, off, x, h1, h2, h3, h4, h5, h6⟩ := Rs.at_ h (fun _ => rfl) hk
 exact ⟨g, off, x, h1, h2, h3, h4, h5, by simpa using h6 0 _ (by omega) rfl⟩
theorem at_B {xs : List Int} (h : RB w lo A c n xs) (hk : k < n) :
   ∃ g off x, A = some ⟨g, off, none⟩ ∧ lo ≤ g ∧ g < w.heap.size ∧ xs.drop k = x :: xs.drop (k + 1) ∧ xs[k]? = some x ∧ w.cell? ⟨g, off + k, none⟩ = some (.int .u8 x) := by
 obtain ⟨g, off, x, h1, h2, h3, h4, h5, h6⟩ := Rs.at_ h (fun _ => rfl) hk
 exact ⟨g, off, x, h1, h2, h3, h4, h5, by simpa using h6 0 _ (by omega) rfl⟩
theorem at_E {xs : List Sw.Ent} (h : RE w lo A c n xs) (hk : k < n) :
   ∃ g off x, A = some ⟨g, off, none⟩ ∧ lo ≤ g ∧ g < w.heap.size ∧ xs.drop k = x :: xs.drop (k + 1) ∧ xs[k]? = some x ∧
     w.cell? ⟨g, off + k * 4, none⟩ = some (.int .i64 x.kind) ∧ w.cell? ⟨g, off + k * 4 + 1, none⟩ = some (.int .i64 x.ticket) ∧
     w.cell? ⟨g, off + k * 4 + 2, none⟩ = some (.int .i64 x.who) ∧ w.cell? ⟨g, off + k * 4 + 3, none⟩ = some (.int .i64 x.price) := by
 obtain ⟨g, off, x, h1, h2, h3, h4, h5, h6⟩ := Rs.at_ h (fun _ => rfl) hk
 exact ⟨g, off, x, h1, h2, h3, h4, h5, by simpa using h6 0 _ (by omega) rfl, h6 1 _ (by omega) rfl, h6 2 _ (by omega) rfl, h6 3 _ (by omega) rfl⟩
theorem at_R {xs : List Sw.Row} (h : RR w lo A c n xs) (hk : k < n) :
   ∃ g off x, A = some ⟨g, off, none⟩ ∧ lo ≤ g ∧ g < w.heap.size ∧ xs.drop k = x :: xs.drop (k + 1) ∧ xs[k]? = some x ∧
     w.cell? ⟨g, off + k * 3, none⟩ = some (.int .i64 x.who) ∧ w.cell? ⟨g, off + k * 3 + 1, none⟩ = some (.int .i64 x.face) ∧
     w.cell? ⟨g, off + k * 3 + 2, none⟩ = some (.bool x.used) := by
 obtain ⟨g, off, x, h1, h2, h3, h4, h5, h6⟩ := Rs.at_ h (fun _ => rfl) hk
 exact ⟨g, off, x, h1, h2, h3, h4, h5, by simpa using h6 0 _ (by omega) rfl, h6 1 _ (by omega) rfl, h6 2 _ (by omega) rfl⟩
end
theorem head_ext {a b : Sw.Head} : a = b ↔ a.size = b.size ∧ a.log = b.log ∧ a.own = b.own := by
 cases a; cases b; simp
theorem rises_len : ∀ (xs : List Int) (p : Int), Sw.risesFrom p xs = true → -1 ≤ p → p ≤ 7 → (xs.length : Int) ≤ 7 - p
 | [], p, h, hp, hq => by simp only [List.length_nil]; omega
 | x :: xs, p, h, hp, hq => by
   simp only [Sw.risesFrom, Bool.and_eq_true, decide_eq_true_eq, Sw.inR] at h
   have := rises_len xs x h.2 (by omega) (by omega)
   simp only [List.length_cons]
   omega
theorem gatOk_len {g : Sw.Gate} (h : Sw.gatOk g = true) : g.done.length ≤ 8 := by
 simp only [Sw.gatOk, Bool.and_eq_true] at h
 have := rises_len g.done (-1) h.2 (by omega) (by omega)
 omega
end Go.Proofs.YtnnoiagommiapaaGreat
namespace Go.Proofs.YtnnoiagommiapaaGreat.Sw
open Go.RowKit (wrap64)
theorem mix_iff {a : Int} : mixOk a = true ↔ 0 ≤ a ∧ a ≤ 65520 := by simp [mixOk, inR_iff]
theorem pair_mix (a b : Int) : mixOk (pair a b) = true := by
 rw [mix_iff]; unfold pair
 exact ⟨Int.emod_nonneg _ (by omega), by have := Int.emod_lt_of_pos (a * 8191 + b * 127 + a * b + 31) (show (0 : Int) < 65521 by omega); omega⟩
theorem root_mix : ∀ (xs : List Int), xs.all mixOk = true → mixOk (root xs) = true
 | [], _ => by simp [root]; decide
 | [x], h => by simpa [root] using h
 | x :: y :: r, _ => by rw [root]; exact pair_mix _ _
theorem mixLeaf_mix (l : List Int) : mixOk (mixLeaf l) = true := by
 rw [mix_iff]; unfold mixLeaf
 exact ⟨Int.emod_nonneg _ (by omega), by have := Int.emod_lt_of_pos (mixLeafFrom 7 l * 31 + l.length) (show (0 : Int) < 65521 by omega); omega⟩
theorem ownLeaf_mix (t : Int) (r : Row) : mixOk (ownLeaf t r) = true := by
 unfold ownLeaf
 split
 · exact mixLeaf_mix _
 · rfl
theorem leavesFrom_mix : ∀ (rows : List Row) (t : Int), (leavesFrom t rows).all mixOk = true
 | [], _ => rfl
 | r :: rs, t => by simp only [leavesFrom, List.all_cons, ownLeaf_mix, leavesFrom_mix rs, Bool.and_self]
theorem ownLeaves_mix (rows : List Row) : (ownLeaves rows).all mixOk = true := leavesFrom_mix rows 0
theorem entLeaves_mix (es : List Ent) : (es.map entLeaf).all mixOk = true := by
 rw [List.all_map, List.all_eq_true]; exact fun e _ => mixLeaf_mix _
theorem all_take {p : Int → Bool} {xs : List Int} {k : Nat} (h : xs.all p = true) : (xs.take k).all p = true := by
 rw [List.all_eq_true] at *; exact fun x hx => h x (List.mem_of_mem_take hx)
theorem all_drop {p : Int → Bool} {xs : List Int} {k : Nat} (h : xs.all p = true) : (xs.drop k).all p = true := by
 rw [List.all_eq_true] at *; exact fun x hx => h x (List.mem_of_mem_drop hx)
theorem grow_ok : ∀ (n : Nat) (l : List Int) (m : Nat) (known : Bool), l.all mixOk = true → 1 ≤ m → m ≤ l.length → (grow n l m known).all mixOk = true ∧ (grow n l m known).length ≤ l.length
 | 0, l, m, known, _, _, _ => by simp [grow]
 | n + 1, l, m, known, h, h0, h1 => by
   rw [grow]
   split
   · rename_i hm
     split
     · simp
     · simp [root_mix l h]; omega
   · have hs := split_lt (n := l.length) (by omega)
     have hp := split_pos l.length
     split
     · have ih := grow_ok n (l.take (split l.length)) m known (all_take h) h0 (by rw [List.length_take]; omega)
       rw [List.length_take] at ih
       simp only [List.all_append, List.all_cons, List.all_nil, Bool.and_true, Bool.and_eq_true, List.length_append, List.length_singleton]
       exact ⟨⟨ih.1, root_mix _ (all_drop h)⟩, by omega⟩
     · have ih := grow_ok n (l.drop (split l.length)) (m - split l.length) false (all_drop h) (by omega) (by rw [List.length_drop]; omega)
       rw [List.length_drop] at ih
       simp only [List.all_append, List.all_cons, List.all_nil, Bool.and_true, Bool.and_eq_true, List.length_append, List.length_singleton]
       exact ⟨⟨ih.1, root_mix _ (all_take h)⟩, by omega⟩
theorem treOk_iff {l : List Int} : treOk l = true ↔ l.length ≤ 40 ∧ l.all mixOk = true := by simp [treOk]
theorem conProof_ok (l : List Int) (m : Int) : treOk (conProof l m) = true := by
 unfold conProof
 split
 · rename_i h
   simp only [Bool.and_eq_true, inR_iff] at h
   have h1 := treOk_iff.1 h.1
   have := grow_ok l.length l m.toNat true h1.2 (by omega) (by omega)
   exact treOk_iff.2 ⟨by unfold growth; omega, this.1⟩
 · rfl
theorem hedProof_ok (l : List Ent) (m : Int) : treOk (hedProof l m) = true := by
 unfold hedProof
 split
 · exact conProof_ok _ _
 · rfl
theorem hedOk_iff {h : Head} : hedOk h = true ↔ (0 ≤ h.size ∧ h.size ≤ 40) ∧ mixOk h.log = true ∧ mixOk h.own = true := by
 simp [hedOk, inR_iff, and_assoc]
theorem ownRoot_mix (rows : List Row) : mixOk (ownRoot rows) = true := by
 unfold ownRoot
 split
 · exact root_mix _ (ownLeaves_mix _)
 · rfl
theorem hedOf_some {l : List Ent} {h : Head} : hedOf l = some h ↔ ∃ rows, ownFold l = some rows ∧ h = ⟨l.length, root (l.map entLeaf), ownRoot rows⟩ := by
 unfold hedOf
 rw [Option.map_eq_some_iff]
 constructor
 · rintro ⟨r, h1, rfl⟩; exact ⟨r, h1, rfl⟩
 · rintro ⟨r, h1, rfl⟩; exact ⟨r, h1, rfl⟩
theorem hedOf_ok {l : List Ent} {h : Head} (e : hedOf l = some h) : hedOk h = true ∧ h.size = l.length := by
 obtain ⟨rows, h1, rfl⟩ := hedOf_some.1 e
 have := (ownFold_some.1 h1).1
 rw [hedOk_iff]
 exact ⟨⟨by dsimp only; omega, root_mix _ (entLeaves_mix _), ownRoot_mix _⟩, rfl⟩
theorem hedOf_getD_ok (l : List Ent) : hedOk ((hedOf l).getD headZ) = true := by
 cases h : hedOf l with
 | none => decide
 | some x => exact (hedOf_ok h).1
theorem rises_iff : ∀ (xs : List Int) (p : Int), risesFrom p xs = true ↔ (∀ x ∈ xs, (0 ≤ x ∧ x ≤ 7) ∧ p < x) ∧ xs.Pairwise (· < ·)
 | [], p => by simp [risesFrom]
 | x :: xs, p => by
   rw [risesFrom, Bool.and_eq_true, Bool.and_eq_true, inR_iff, decide_eq_true_eq, rises_iff xs]
   simp only [List.mem_cons, forall_eq_or_imp, List.pairwise_cons]
   constructor
   · rintro ⟨⟨h1, h2⟩, h3, h4⟩
     exact ⟨⟨⟨h1, h2⟩, fun y hy => ⟨(h3 y hy).1, Int.lt_trans h2 (h3 y hy).2⟩⟩, fun y hy => (h3 y hy).2, h4⟩
   · rintro ⟨⟨⟨h1, h2⟩, h3⟩, h4, h5⟩
     exact ⟨⟨h1, h2⟩, fun y hy => ⟨(h3 y hy).1, h4 y hy⟩, h5⟩
theorem gatOk_iff {g : Gate} : gatOk g = true ↔ hedOk g.head = true ∧ (∀ x ∈ g.done, 0 ≤ x ∧ x ≤ 7) ∧ g.done.Pairwise (· < ·) := by
 unfold gatOk
 rw [Bool.and_eq_true, rises_iff]
 constructor
 · rintro ⟨h1, h2, h3⟩; exact ⟨h1, fun x hx => (h2 x hx).1, h3⟩
 · rintro ⟨h1, h2, h3⟩; exact ⟨h1, fun x hx => ⟨h2 x hx, by have := h2 x hx; omega⟩, h3⟩
theorem insert_mem {d x : Int} : ∀ {ds : List Int}, x ∈ insert d ds ↔ x = d ∨ x ∈ ds
 | [] => by simp [insert]
 | y :: ys => by
   rw [insert]
   split
   · simp
   · rw [List.mem_cons, insert_mem, List.mem_cons]
     constructor
     · rintro (h | h | h)
       · exact .inr (.inl h)
       · exact .inl h
       · exact .inr (.inr h)
     · rintro (h | h | h)
       · exact .inr (.inl h)
       · exact .inl h
       · exact .inr (.inr h)
theorem insert_rises {d : Int} : ∀ {ds : List Int}, ds.Pairwise (· < ·) → d ∉ ds → (insert d ds).Pairwise (· < ·)
 | [], _, _ => by simp [insert]
 | y :: ys, h, hn => by
   rw [List.pairwise_cons] at h
   simp only [List.mem_cons, not_or] at hn
   rw [insert]
   split
   · rw [List.pairwise_cons, List.pairwise_cons]
     refine ⟨fun x hx => ?_, h.1, h.2⟩
     rcases List.mem_cons.1 hx with rfl | hx
     · assumption
     · have := h.1 x hx; omega
   · rw [List.pairwise_cons]
     refine ⟨fun x hx => ?_, insert_rises h.2 hn.2⟩
     rcases insert_mem.1 hx with rfl | hx
     · omega
     · exact h.1 x hx
theorem hedFollows_ok {o h : Head} {p : List Int} (e : hedFollows o h p = true) : hedOk o = true ∧ hedOk h = true ∧ o.size ≤ h.size := by
 simp only [hedFollows, Bool.and_eq_true, decide_eq_true_eq] at e
 exact ⟨e.1.1.1.1, e.1.1.1.2, e.1.1.2⟩
theorem gatSync_ok {g : Gate} {h : Head} {p : List Int} (hg : gatOk g = true) : gatOk (gatSync g h p).1 = true := by
 unfold gatSync
 rw [if_pos hg]
 split
 · rename_i hf
   rw [gatOk_iff] at hg ⊢
   exact ⟨(hedFollows_ok hf).2.1, hg.2⟩
 · exact hg
theorem gatMay_facts {g : Gate} {t who : Int} {r : Row} {p : List Int} (h : gatMay g t who r p = true) : (1 ≤ who ∧ who ≤ 5) ∧ who = r.who ∧ r.used = false ∧ t ∉ g.done ∧ (0 ≤ t ∧ t ≤ 7) := by
 simp only [gatMay, ownCheck, Bool.and_eq_true, inR_iff, decide_eq_true_eq, Bool.not_eq_true'] at h
 refine ⟨h.1.1.1.1, h.1.1.1.2, h.1.1.2, ?_, h.2.1⟩
 have := h.1.2
 intro hm
 simp [hm] at this
theorem gatShow_ok {g : Gate} {t who : Int} {r : Row} {p : List Int} (hg : gatOk g = true) : gatOk (gatShow g t who r p).1 = true := by
 unfold gatShow
 rw [if_pos hg]
 split
 · rename_i hf
   have hf := gatMay_facts hf
   rw [gatOk_iff] at hg ⊢
   refine ⟨hg.1, fun x hx => ?_, insert_rises hg.2.2 hf.2.2.2.1⟩
   rcases insert_mem.1 hx with rfl | hx
   · exact hf.2.2.2.2
   · exact hg.2.1 x hx
 · exact hg
theorem gatNew_ok : gatOk gatNew = true := by
 rw [gatOk_iff]
 exact ⟨hedOf_getD_ok [], by simp [gatNew], by simp [gatNew]⟩
structure WOk (w : World) : Prop where
 mkt : mktOk w.market = true
 first : monOk w.first = true
 lines : w.lines.length ≤ 300
 glen : w.gates.length = 2
 blen : w.bag.length ≤ 6
 lok : ∀ r ∈ w.lines, lineOk r = true
 gok : ∀ g ∈ w.gates, gatOk g = true
 bok : ∀ x ∈ w.bag, msgOk x = true
theorem wldOk_iff {w : World} : wldOk w = true ↔ WOk w := by
 simp only [wldOk, Bool.and_eq_true, decide_eq_true_eq, List.all_eq_true]
 constructor
 · rintro ⟨⟨⟨⟨⟨⟨⟨h1, h2⟩, h3⟩, h4⟩, h5⟩, h6⟩, h7⟩, h8⟩; exact ⟨h1, h2, h3, h4, h5, h6, h7, h8⟩
 · rintro ⟨h1, h2, h3, h4, h5, h6, h7, h8⟩; exact ⟨⟨⟨⟨⟨⟨⟨h1, h2⟩, h3⟩, h4⟩, h5⟩, h6⟩, h7⟩, h8⟩
theorem gateAt_ok {w : World} (h : WOk w) {k : Int} (hk : 0 ≤ k ∧ k ≤ 1) : gatOk (gateAt w k) = true := by
 unfold gateAt
 have hl := h.glen
 obtain ⟨g, hg⟩ : ∃ g, w.gates[k.toNat]? = some g := ⟨_, List.getElem?_eq_getElem (by omega)⟩
 rw [getD_of hg]
 exact h.gok g (List.mem_of_getElem? hg)
theorem msgAt_ok {w : World} (h : WOk w) {i : Int} (hi : 0 ≤ i ∧ i ≤ (w.bag.length : Int) - 1) : msgOk (msgAt w i) = true := by
 unfold msgAt
 obtain ⟨g, hg⟩ : ∃ g, w.bag[i.toNat]? = some g := ⟨_, List.getElem?_eq_getElem (by omega)⟩
 rw [getD_of hg]
 exact h.bok g (List.mem_of_getElem? hg)
theorem ask_ok {w : World} (h : WOk w) (r : Req) : WOk (ask w r).1 := by
 unfold ask
 split
 · rename_i hr
   simp only [Bool.and_eq_true, decide_eq_true_eq] at hr
   refine ⟨doIt_mktOk h.mkt hr.1, h.first, by simp; omega, h.glen, h.blen, fun x hx => ?_, h.gok, h.bok⟩
   rcases List.mem_append.1 hx with hx | hx
   · exact h.lok x hx
   · obtain rfl := List.mem_singleton.1 hx
     simp [lineOk, hr.1]
 · exact h
theorem tickW_ok {w : World} (h : WOk w) : WOk (tickW w) := by
 unfold tickW
 split
 · rename_i hr
   simp only [Bool.and_eq_true, decide_eq_true_eq] at hr
   refine ⟨tick_mktOk h.mkt hr.1, h.first, by simp; omega, h.glen, h.blen, fun x hx => ?_, h.gok, h.bok⟩
   rcases List.mem_append.1 hx with hx | hx
   · exact h.lok x hx
   · obtain rfl := List.mem_singleton.1 hx
     rfl
 · exact h
theorem foldLines_ok : ∀ (rs : List Req) (m x : Mkt), mktOk m = true → foldLines m rs = some x → mktOk x = true
 | [], m, x, h, e => by simp [foldLines] at e; rw [← e]; exact h
 | r :: rs, m, x, h, e => by
   rw [foldLines] at e
   split at e
   · split at e
     · cases e
     · exact foldLines_ok rs _ x (tick_mktOk h ‹_›) e
   · split at e
     · exact foldLines_ok rs _ x (doIt_mktOk h ‹_›) e
     · cases e
theorem wldFold_ok {first : List Int} {lines : List Req} {x : Mkt} (e : wldFold first lines = some x) : mktOk x = true := by
 unfold wldFold at e
 split at e
 · rename_i h
   simp only [Bool.and_eq_true, decide_eq_true_eq] at h
   exact foldLines_ok _ _ _ (mktOk_iff.2 ⟨_, mktNew_ok h.1.1 h.1.2⟩) e
 · cases e
theorem fall_ok {w : World} (h : WOk w) : WOk (fall w) := by
 refine ⟨?_, h.first, h.lines, h.glen, by simp [fall], h.lok, h.gok, by simp [fall]⟩
 show mktOk ((wldFold w.first w.lines).getD w.market) = true
 cases e : wldFold w.first w.lines with
 | none => exact h.mkt
 | some x => exact wldFold_ok e
theorem send_ok {w : World} (h : WOk w) (k : Int) : WOk (send w k) := by
 unfold send
 split
 · rename_i hr
   simp only [Bool.and_eq_true, decide_eq_true_eq, inR_iff] at hr
   refine ⟨h.mkt, h.first, h.lines, h.glen, by simp; omega, h.lok, h.gok, fun x hx => ?_⟩
   rcases List.mem_append.1 hx with hx | hx
   · exact h.bok x hx
   · obtain rfl := List.mem_singleton.1 hx
     simp only [msgOk, Bool.and_eq_true, inR_iff]
     exact ⟨⟨hr.1, hedOf_getD_ok _⟩, hedProof_ok _ _⟩
 · exact h
theorem lose_ok {w : World} (h : WOk w) (i : Int) : WOk (lose w i) :=
 ⟨h.mkt, h.first, h.lines, h.glen, Nat.le_trans (List.eraseIdx_sublist w.bag i.toNat).length_le h.blen, h.lok, h.gok, fun x hx => h.bok x ((List.eraseIdx_sublist w.bag i.toNat).subset hx)⟩
theorem setGate_ok {w : World} (h : WOk w) {k : Nat} {g : Gate} (hg : gatOk g = true) : WOk { w with gates := w.gates.set k g } := by
 refine ⟨h.mkt, h.first, h.lines, by simpa using h.glen, h.blen, h.lok, fun x hx => ?_, h.bok⟩
 rcases List.mem_or_eq_of_mem_set hx with hx | rfl
 · exact h.gok x hx
 · exact hg
theorem heard_ok {w : World} (h : WOk w) {x : Msg} (hx : msgOk x = true) : WOk (heard w x) := by
 simp only [msgOk, Bool.and_eq_true, inR_iff] at hx
 exact setGate_ok h (gatSync_ok (gateAt_ok h hx.1.1))
theorem hear_ok {w : World} (h : WOk w) {i : Int} (hi : 0 ≤ i ∧ i ≤ (w.bag.length : Int) - 1) : WOk (hear w i) := heard_ok (lose_ok h i) (msgAt_ok h hi)
theorem twice_ok {w : World} (h : WOk w) {i : Int} (hi : 0 ≤ i ∧ i ≤ (w.bag.length : Int) - 1) : WOk (twice w i) := by
 unfold twice
 split
 · refine ⟨h.mkt, h.first, h.lines, h.glen, by simp; omega, h.lok, h.gok, fun x hx => ?_⟩
   rcases List.mem_append.1 hx with hx | hx
   · exact h.bok x hx
   · obtain rfl := List.mem_singleton.1 hx
     exact msgAt_ok h hi
 · exact h
theorem showIt_ok {w : World} (h : WOk w) (k t who : Int) : WOk (showIt w k t who).1 := by
 unfold showIt
 split
 · rename_i hr
   simp only [Bool.and_eq_true, decide_eq_true_eq, inR_iff] at hr
   split
   · exact h
   · split
     · exact setGate_ok h (gatShow_ok (gateAt_ok h hr.1.1))
     · exact h
 · exact h
theorem tellOne_ok {w : World} (h : WOk w) (t : Int) : WOk (tellOne w t) := by
 unfold tellOne
 split
 · exact ask_ok h _
 · exact h
theorem tells_ok : ∀ (ts : List Int) {w : World}, WOk w → WOk (ts.foldl tellOne w)
 | [], _, h => h
 | t :: ts, _, h => tells_ok ts (tellOne_ok h t)
theorem tell_ok {w : World} (h : WOk w) (k : Int) : WOk (tell w k) := by
 unfold tell
 split
 · exact tells_ok _ h
 · exact h
theorem step_ok {w : World} (h : WOk w) (e : Ev) : WOk (step w e).1 := by
 unfold step
 split
 · exact ask_ok h _
 split
 · exact tickW_ok h
 split
 · exact fall_ok h
 split
 · exact send_ok h _
 split
 · dsimp only; split
   · exact hear_ok h (inR_iff.1 ‹_›)
   · exact h
 split
 · dsimp only; split
   · exact lose_ok h _
   · exact h
 split
 · dsimp only; split
   · exact twice_ok h (inR_iff.1 ‹_›)
   · exact h
 split
 · exact showIt_ok h _ _ _
 split
 · exact tell_ok h _
 · exact h
theorem wldNew_ok {p : List Int} (hp : monOk p = true) (hs : monSum p ≤ 100000) : WOk (wldNew p) := by
 have e : wldNew p = ⟨p, mktNew p, [], [gatNew, gatNew], []⟩ := by simp [wldNew, hp, hs]
 rw [e]
 exact ⟨mktOk_iff.2 ⟨_, mktNew_ok hp hs⟩, hp, by simp, rfl, by simp, by simp, by simp [gatNew_ok], by simp⟩
end Go.Proofs.YtnnoiagommiapaaGreat.Sw
namespace Go.Proofs.YtnnoiagommiapaaGreat.Sw
open Go.RowKit (wrap64)
inductive DoneBy (m : Mkt) (rows : List Row) (r : Req) : Mkt → Prop
 | issue : r.kind = 1 → r.user = 1 → r.who ≠ 1 → (rowAt rows r.ticket).who = 0 → m.log.length < 40 → moveMay m.purses r.who 1 r.price = true →
     DoneBy m rows r { m with purses := turned (turned m.purses r.who (-r.price)) 1 r.price, log := m.log ++ [⟨1, r.ticket, r.who, r.price⟩] }
 | offer : r.kind = 2 → (rowAt rows r.ticket).who = r.user → dealAt m.deals r.ticket = none → (rowAt rows r.ticket).used = false → r.price ≤ entCap (rowAt rows r.ticket).face →
     DoneBy m rows r { m with deals := insertDeal ⟨r.ticket, r.user, r.price, 0, 0⟩ m.deals }
 | drop (k : Nat) (d : Deal) : r.kind = 3 → (rowAt rows r.ticket).who = r.user → dealAt m.deals r.ticket = some k → m.deals[k]? = some d → d.ticket = r.ticket → held d = false →
     DoneBy m rows r { m with deals := m.deals.eraseIdx k }
 | fund (k : Nat) (d : Deal) : r.kind = 4 → dealAt m.deals r.ticket = some k → m.deals[k]? = some d → d.ticket = r.ticket → held d = false → d.seller ≠ r.user → turnMay m.purses r.user (-d.price) = true →
     DoneBy m rows r { m with purses := turned m.purses r.user (-d.price), deals := m.deals.set k { d with buyer := r.user, due := m.clock + 5 } }
 | settle (k : Nat) (d : Deal) : r.kind = 5 → dealAt m.deals r.ticket = some k → m.deals[k]? = some d → d.ticket = r.ticket → held d = true → d.seller = r.user → m.log.length < 40 → turnMay m.purses d.seller d.price = true →
     DoneBy m rows r { m with purses := turned m.purses d.seller d.price, log := m.log ++ [⟨2, r.ticket, d.buyer, d.price⟩], deals := m.deals.eraseIdx k }
 | enter : r.kind = 6 → (rowAt rows r.ticket).who = r.user → (rowAt rows r.ticket).used = false → dealAt m.deals r.ticket = none → m.log.length < 40 →
     DoneBy m rows r { m with log := m.log ++ [⟨3, r.ticket, r.user, 0⟩] }
theorem settle_may {m : Mkt} {rows : List Row} (h : MOk m rows) {k : Nat} {d : Deal} (hd : m.deals[k]? = some d) (hh : held d = true) : turnMay m.purses d.seller d.price = true := by
 have hdo := dealOk_iff.1 (h.deals.get hd)
 refine turnMay_in h.mon hdo.2.1 (by have := hdo.2.2.2.2.1; omega) ?_
 have h4 := h.sum
 have h5 := heldSum_erase hd
 have h6 := (heldSum_bd (h.deals.sub (List.eraseIdx_sublist m.deals k)).1).1
 have : heldIn d = d.price := by simp [heldIn, hh]
 omega
theorem effect_done {m : Mkt} {rows : List Row} {r : Req} (h : MOk m rows) (hr : reqOk r = true) : ((effect m r).2 ≠ 1 ∧ (effect m r).1 = m) ∨ ((effect m r).2 = 1 ∧ DoneBy m rows r (effect m r).1) := by
 have hr := reqOk_iff.1 hr
 have hlog := (ownFold_some.1 h.fold).1
 unfold effect
 rw [mktRows_of h.fold]
 by_cases k1 : r.kind = 1
 · rw [if_pos k1]
   unfold issue
   split
   · exact .inl ⟨by simp, rfl⟩
   split
   · exact .inl ⟨by simp, rfl⟩
   split
   · exact .inl ⟨by simp, rfl⟩
   split
   · rename_i h1 h2 h3 h4
     exact .inr ⟨rfl, .issue k1 (by omega) (by omega) (by omega) (by omega) h4⟩
   · exact .inl ⟨by simp, rfl⟩
 rw [if_neg k1]
 by_cases k2 : r.kind = 2
 · rw [if_pos k2]
   unfold offer
   split
   · exact .inl ⟨by simp, rfl⟩
   split
   · exact .inl ⟨by simp, rfl⟩
   split
   · exact .inl ⟨by simp, rfl⟩
   · rename_i h1 h2 h3
     simp only [not_or, Bool.not_eq_true] at h2
     exact .inr ⟨rfl, .offer k2 (by simpa using h1) (none_of h2.1) h2.2 (by omega)⟩
 rw [if_neg k2]
 by_cases k3 : r.kind = 3
 · rw [if_pos k3]
   unfold dropIt
   split
   · exact .inl ⟨by simp, rfl⟩
   rename_i h1
   split
   · exact .inl ⟨by simp, rfl⟩
   rename_i k hk
   obtain ⟨d, hd, ht⟩ := dealAt_some hk
   rw [getD_of hd]
   split
   · exact .inl ⟨by simp, rfl⟩
   · exact .inr ⟨rfl, .drop k d k3 (by simpa using h1) hk hd ht (by simpa using ‹¬ held d = true›)⟩
 rw [if_neg k3]
 by_cases k4 : r.kind = 4
 · rw [if_pos k4]
   unfold fund
   split
   · exact .inl ⟨by simp, rfl⟩
   rename_i k hk
   obtain ⟨d, hd, ht⟩ := dealAt_some hk
   rw [getD_of hd]
   split
   · exact .inl ⟨by simp, rfl⟩
   split
   · exact .inl ⟨by simp, rfl⟩
   split
   · exact .inr ⟨rfl, .fund k d k4 hk hd ht (by simpa using ‹¬ held d = true›) ‹_› ‹_›⟩
   · exact .inl ⟨by simp, rfl⟩
 rw [if_neg k4]
 by_cases k5 : r.kind = 5
 · rw [if_pos k5]
   unfold settle
   split
   · exact .inl ⟨by simp, rfl⟩
   rename_i k hk
   obtain ⟨d, hd, ht⟩ := dealAt_some hk
   rw [getD_of hd]
   split
   · exact .inl ⟨by simp, rfl⟩
   split
   · exact .inl ⟨by simp, rfl⟩
   split
   · exact .inl ⟨by simp, rfl⟩
   · rename_i h1 h2 h3
     have hh : held d = true := by simpa using h1
     have hm := settle_may h hd hh
     refine .inr ⟨rfl, ?_⟩
     rw [show monTurn m.purses d.seller d.price = turned m.purses d.seller d.price from by simp [monTurn, hm]]
     exact .settle k d k5 hk hd ht hh (by simpa using h2) (by omega) hm
 rw [if_neg k5]
 unfold enter
 split
 · exact .inl ⟨by simp, rfl⟩
 split
 · exact .inl ⟨by simp, rfl⟩
 split
 · exact .inl ⟨by simp, rfl⟩
 · rename_i h1 h2 h3
   simp only [not_or, Bool.not_eq_true] at h2
   exact .inr ⟨rfl, .enter (by omega) (by simpa using h1) h2.1 (none_of h2.2) (by omega)⟩
theorem said_of {m : Mkt} {rows : List Row} (h : MOk m rows) {u : Int} (hu : 1 ≤ u ∧ u ≤ 5) : numOk (lastOf m.nums u) (lastOf m.said u) = true := by
 have hn := h.nlen
 have hs := h.slen
 obtain ⟨a, ha⟩ : ∃ a, m.nums[(u - 1).toNat]? = some a := ⟨_, List.getElem?_eq_getElem (by omega)⟩
 obtain ⟨b, hb⟩ : ∃ b, m.said[(u - 1).toNat]? = some b := ⟨_, List.getElem?_eq_getElem (by omega)⟩
 unfold lastOf
 rw [getD_of ha, getD_of hb]
 exact (numsOk_iff (by rw [hn, hs])).1 h.nums _ _ _ ha hb
theorem doIt_ans {m : Mkt} {rows : List Row} {r : Req} (h : MOk m rows) (hr : reqOk r = true) : 1 ≤ (doIt m r).2 ∧ (doIt m r).2 ≤ 7 := by
 have hr' := reqOk_iff.1 hr
 unfold doIt
 split
 · have := numOk_iff.1 (said_of h hr'.1)
   dsimp only
   omega
 split
 · simp
 · have := effect_ans m r
   dsimp only
   omega
end Go.Proofs.YtnnoiagommiapaaGreat.Sw
namespace Go.Proofs.YtnnoiagommiapaaGreat
open Go.RowKit Go
theorem HeldR.setr {rb : Nat} {W w : World} {p : Addr} {u : Value} (h : HeldR rb W w) (hp : p.block = rb) : HeldR rb W (w.setCell p u) := .of (h.2.setCell (.inl hp) u)
theorem HeldR.drw {rb : Nat} {W w : World} (h : HeldR rb W w) : HeldR rb W w.drew := .of h.2.drew
theorem HeldR.rfl_ (rb : Nat) (W : World) : HeldR rb W W := .of (Ch.refl _ _)
theorem hdQ {p : Prop} (h : p := by ((try dsimp only); (repeat (first | with_reducible assumption | with_reducible exact HeldR.start _ _ | with_reducible refine HeldR.setr ?_ rfl | with_reducible refine HeldR.alloc ?_ _ | with_reducible refine HeldR.drw ?_ | with_reducible exact HeldR.ex (by assumption) (by assumption) | with_reducible exact HeldR.of (Ex.ch (by assumption)) | with_reducible exact HeldR.rfl_ _ _)))) : p := h
end Go.Proofs.YtnnoiagommiapaaGreat
