/- Texts joined: Own. -/
import Derived.Test.YtnnoiagommiapaaGreatPy5
import Derived.Maps.AppendAt
import Derived.OwnWalk
set_option maxRecDepth 100000
set_option linter.unusedSimpArgs false
set_option linter.unusedVariables false
namespace Go.Proofs.YtnnoiagommiapaaGreat
open Go.RowKit Go
structure ElemOk (P : Program) (t e : TypeId) (sz bytes : Nat) : Prop where
 sl : P.underlying t = some (.slice e)
 info : ∃ i z, P.info? e = some i ∧ i.zero = some z ∧ i.size = sz ∧ i.bytes = bytes ∧ z.cells.size = sz
 pos : 0 < sz
theorem ElemOk.mk' {P : Program} {t e : TypeId} {sz bytes : Nat} {z : Value} (h1 : P.underlying t = some (.slice e)) (h2 : (P.info? e).map (fun i => (i.zero, i.size, i.bytes)) = some (some z, sz, bytes)) (h3 : z.cells.size = sz) (h4 : 0 < sz) : ElemOk P t e sz bytes := by
 obtain ⟨i, hi, hz, hs, hb⟩ := info_parts h2
 exact ⟨h1, ⟨i, z, hi, hz, hs, hb, h3⟩, h4⟩
def Ow {α : Type} (enc : α → List Value) (sz : Nat) (e : TypeId) (w : World) (lo : Nat) (A : Option Addr) (c n : Nat) (xs : List α) : Prop :=
 n = xs.length ∧ w.ownsRow lo e sz (.slice A n c) n (xs.flatMap enc)
section
variable {α : Type} {enc : α → List Value} {sz : Nat} {e : TypeId} {w w' w0 : World} {lo lo' c n : Nat} {A : Option Addr} {xs : List α}
theorem Ow.rs (h : Ow enc sz e w lo A c n xs) : Rs enc sz w lo A c n xs := ⟨h.1, Rd.of_own h.2⟩
theorem Ow.nil (w : World) (lo : Nat) : Ow enc sz e w lo none 0 0 [] := ⟨rfl, World.ownsRow_nil w lo e sz⟩
theorem Ow.form (h : Ow enc sz e w lo A c n xs) : (A = none ∧ n = 0 ∧ c = 0) ∨ ∃ g cur, A = some ⟨g, 0, none⟩ ∧ lo ≤ g ∧ g < w.heap.size ∧ w.heap[g]? = some (.cells cur e (0, 0)) ∧ n ≤ c ∧ c ≤ maxLen ∧ cur.size = c * sz ∧ cur.toList.take (n * sz) = xs.flatMap enc := by
 rcases h.2.2 with ⟨hv, h0⟩ | ⟨g, cap, cur, hv, hb, hh, hn, hm, hs, ht⟩
 · injection hv with h1 h2 h3; exact .inl ⟨h1, h2, h3⟩
 · injection hv with h1 h2 h3
   subst h3
   exact .inr ⟨g, cur, h1, hb, (Array.getElem?_eq_some_iff.1 hh).1, hh, hn, hm, hs, ht⟩
theorem Ow.blk (h : Ow enc sz e w lo A c n xs) {a : Addr} (ha : A = some a) : lo ≤ a.block ∧ a.block < w.heap.size := by
 rcases h.form with ⟨h1, _⟩ | ⟨g, cur, h1, h2, h3, _⟩
 · rw [h1] at ha; cases ha
 · rw [h1] at ha; cases ha; exact ⟨h2, h3⟩
theorem Ow.keep_ (h : Ow enc sz e w lo A c n xs) (hk : ∀ a, A = some a → w'.heap[a.block]? = w.heap[a.block]?) : Ow enc sz e w' lo A c n xs := by
 refine ⟨h.1, h.2.1, ?_⟩
 rcases h.2.2 with hv | ⟨g, cap, cur, hv, hb, hh, r⟩
 · exact .inl hv
 · have hA : A = some ⟨g, 0, none⟩ := by injection hv
   exact .inr ⟨g, cap, cur, hv, hb, (hk _ hA).trans hh, r⟩
theorem Ow.keep (h : Ow enc sz e w lo A c n xs) (hk : KF lo w w') : Ow enc sz e w' lo A c n xs := h.keep_ fun a ha => hk.block _ (h.blk ha).1 (h.blk ha).2
theorem Ow.less (h : Ow enc sz e w lo A c n xs) (hl : lo' ≤ lo) : Ow enc sz e w lo' A c n xs := by
 refine ⟨h.1, h.2.1, ?_⟩
 rcases h.2.2 with hv | ⟨g, cap, cur, hv, hb, r⟩
 · exact .inl hv
 · exact .inr ⟨g, cap, cur, hv, Nat.le_trans hl hb, r⟩
theorem Ow.rs0 (h : Ow enc sz e w0 lo A c n xs) (hk : KF lo w0 w) : Rs enc sz w 0 A c n xs := h.rs.at0 hk
def atA (A : Option Addr) : Nat → Prop := fun k => ∃ a, A = some a ∧ k = a.block
theorem Ex.app (h : Ex w0 w) (ho : Ow enc sz e w lo A c n xs) (hl : w0.heap.size ≤ lo) (hc : Ch (atA A) w w') : Ex w0 w' :=
 h.trans' hc (fun i hi ⟨a, ha, hk⟩ => by have := (ho.blk ha).1; omega)
theorem Ch.app {S : Nat → Prop} (h : Ch S w0 w) (ho : Ow enc sz e w lo A c n xs) (hl : w0.heap.size ≤ lo) (hc : Ch (atA A) w w') : Ch S w0 w' :=
 h.trans' hc (fun i hi ⟨a, ha, hk⟩ => by have := (ho.blk ha).1; omega)
theorem Ow.new {cs : Array Value} {g : Nat} (xs : List α) (hg : g = w.heap.size) (hcs : cs = (xs.flatMap enc).toArray) (hn : n = xs.length) (hsz : ∀ x, (enc x).length = sz) (hl : lo ≤ g) (hm : n ≤ 4194304) :
   Ow enc sz e (w.alloc (.cells cs e)) lo (some ⟨g, 0, none⟩) n n xs := by
 subst hg hcs
 have hlen : ∀ xs : List α, (xs.flatMap enc).length = xs.length * sz := by
   intro xs
   induction xs with
   | nil => simp
   | cons x xs ih => simp only [List.flatMap_cons, List.length_append, hsz, ih, List.length_cons, Nat.succ_mul]; omega
 refine ⟨hn, ?_⟩
 have := World.ownsRow_lit (base := lo) (e := e) (size := sz) w (xs.flatMap enc).toArray n hl (by unfold maxLen; omega) (by simp only [List.size_toArray]; rw [hlen, hn])
 simpa using this
end
section
variable {α : Type} {enc : α → List Value} {sz : Nat} {e : TypeId} {w : World} {lo c n : Nat} {A : Option Addr} {xs : List α}
theorem Ow.at_ (h : Ow enc sz e w lo A c n xs) (hsz : ∀ x, (enc x).length = sz) {k : Nat} (hk : k < n) :
   ∃ g x, A = some ⟨g, 0, none⟩ ∧ lo ≤ g ∧ g < w.heap.size ∧ xs[k]? = some x ∧ (∀ j u, j < sz → (enc x)[j]? = some u → w.cell? ⟨g, k * sz + j, none⟩ = some u) ∧ (∀ i, w.frozen? ⟨g, i, none⟩ = false) := by
 obtain ⟨g', off, x, h1, h2, h3, h4, h5, h6⟩ := h.rs.at_ hsz hk
 rcases h.form with ⟨hA, _⟩ | ⟨g, cur, hA, hlo, hlt, hh, _⟩
 · rw [hA] at h1; cases h1
 · rw [hA] at h1
   have e := Option.some.inj h1
   injection e with e1 e2
   subst e1 e2
   exact ⟨g, x, hA, hlo, hlt, h5, fun j u hj hu => by have := h6 j u hj hu; rwa [Nat.zero_add] at this, fun i => by simp [World.frozen?, hh]⟩
theorem flat_set (hsz : ∀ x, (enc x).length = sz) {u : Value} {j : Nat} (hj : j < sz) : ∀ (xs : List α) (k : Nat) (x y : α), xs[k]? = some x → enc y = (enc x).set j u →
   (xs.flatMap enc).set (k * sz + j) u = (xs.set k y).flatMap enc := by
 intro xs
 induction xs with
 | nil => intro k x y h; simp at h
 | cons a xs ih =>
   intro k x y h hy
   cases k with
   | zero =>
     obtain rfl : a = x := by simpa using h
     simp only [List.flatMap_cons, Nat.zero_mul, Nat.zero_add, List.set_cons_zero]
     rw [List.set_append_left _ _ (by rw [hsz]; exact hj), hy]
   | succ k =>
     simp only [List.flatMap_cons, List.set_cons_succ]
     rw [List.set_append_right _ _ (by rw [hsz, Nat.succ_mul]; omega)]
     rw [show (k + 1) * sz + j - (enc a).length = k * sz + j from by rw [hsz, Nat.succ_mul]; omega]
     rw [ih k x y (by simpa using h) hy]
theorem Ow.set (h : Ow enc sz e w lo A c n xs) (hsz : ∀ x, (enc x).length = sz) {g k j : Nat} {u : Value} {x y : α} (hA : A = some ⟨g, 0, none⟩) (hx : xs[k]? = some x) (hj : j < sz) (hy : enc y = (enc x).set j u) :
   Ow enc sz e (w.setCell ⟨g, k * sz + j, none⟩ u) lo A c n (xs.set k y) := by
 have hk : k < xs.length := (List.getElem?_eq_some_iff.1 hx).1
 refine ⟨by rw [List.length_set]; exact h.1, ?_, ?_⟩
 · rw [← flat_set hsz hj xs k x y hx hy, List.length_set]; exact h.2.1
 · rcases h.form with ⟨hA', _⟩ | ⟨g', cur, hA', hlo, hlt, hh, hn, hm, hs, ht⟩
   · rw [hA'] at hA; cases hA
   · rw [hA'] at hA
     have e1 := Option.some.inj hA
     injection e1 with e1
     subst e1
     refine .inr ⟨g', c, cur.setIfInBounds (k * sz + j) u, by rw [hA'], hlo, ?_, hn, hm, by simpa using hs, ?_⟩
     · simp [World.setCell, Array.getElem?_modify, hh]
     · rw [Array.toList_setIfInBounds, List.take_set, ht]
       exact flat_set hsz hj xs k x y hx hy
end
theorem low_rules {W w1 : World} {lo : Nat} (h : ∀ b, b < lo → w1.heap[b]? = W.heap[b]?) :
   (∀ b o, ¬ ((⟨b, 0, none⟩ : Addr) = ⟨b - lo + lo, 0, none⟩) → w1.cell? ⟨b, o, none⟩ = W.cell? ⟨b, o, none⟩) ∧
   (∀ b o, ¬ ((⟨b, 0, none⟩ : Addr) = ⟨b - lo + lo, 0, none⟩) → w1.frozen? ⟨b, o, none⟩ = W.frozen? ⟨b, o, none⟩) :=
 ⟨fun b o hb => World.cell?_of_block (w := W) (a := ⟨b, o, none⟩) (h b (lt_of_addr hb)), fun b o hb => World.frozen?_of_block (w := W) (a := ⟨b, o, none⟩) (h b (lt_of_addr hb))⟩
theorem wp_app {P : Program} {w : World} {o : Oper} {a : Act} {Kx : Act → World → Prop} {Q : Exit → Act → World → Prop} {α : Type} {enc : α → List Value} {sz bytes : Nat} {t e : TypeId} {s x : Operand}
   {lo lo2 c n m d : Nat} {A B : Option Addr} {xs ys : List α}
   (hel : ElemOk P t e sz bytes) (h1 : ∀ x, ∀ u ∈ enc x, u.oneCell' = true)
   (ho : o.op = .call { callee := .builtin .append, args := #[s, x], argTypes := #[t, t] }) (hs : a.eval s = .slice A n c) (hx : a.eval x = .slice B m d)
   (hown : Ow enc sz e w lo A c n xs) (hnew : Rs enc sz w lo2 B d m ys) (hb : (n + m) * bytes ≤ 140737488355328 ∧ n + m ≤ 9223372036854775807) (hlo : lo ≤ w.heap.size)
   (K : ∀ A' c' w', Ow enc sz e w' lo A' c' (n + m) (xs ++ ys) → Ch (atA A) w w' → (∀ b, A' = some b → A = some b ∨ w.heap.size ≤ b.block) → (∀ S w0, Ch S w0 w → w0.heap.size ≤ lo → Ch S w0 w') → (∀ b, b < lo → w'.heap[b]? = w.heap[b]?) → Kx (a.put o.dst (.slice A' (n + m) c')) w') :
   o.wp P a w Kx Q := by
 obtain ⟨i, z, hi, hz, hsz', hby, hzs⟩ := hel.info
 have hmem : ∀ u ∈ ys.flatMap enc, u.oneCell' = true := by
   intro u hu
   obtain ⟨y, _, hy⟩ := List.mem_flatMap.1 hu
   exact h1 y u hy
 have run : ∃ v' w', (Builtin.append_ #[t, t] o.type #[.slice A n c, .slice B m d]).run P w = .ok v' w' ∧ w'.ownsRow lo e sz v' (n + m) ((xs ++ ys).flatMap enc) ∧ w.grownBy w' (Value.slice A n c).ownBlock ∧
     (v'.ownBlock = (Value.slice A n c).ownBlock ∨ v'.ownBlock = some w.heap.size) := by
   cases B with
   | none =>
     have hd := hnew.2.nil rfl
     have hm : m = 0 := by have := hnew.2.le; omega
     subst hd hm
     have hy : ys = [] := List.eq_nil_of_length_eq_zero hnew.1.symm
     subst hy
     exact ⟨_, w, run_append_owned_none w lo t o.type e i sz hel.sl hi _ n _ hown.2, by simpa using hown.2, World.grownBy.refl w _, .inl rfl⟩
   | some ad =>
     obtain ⟨v', w', hrun, h2, h3, _, h5⟩ := run_append_own_at (P := P) w lo t o.type e i z sz bytes hel.sl hi hz hsz' hby hzs hel.pos _ n _ hown.2 ad m d (ys.flatMap enc) hnew.2.len
       (fun j u hu => by
         have hm : 0 < m := by
           have h1 := (List.getElem?_eq_some_iff.1 hu).1
           rw [hnew.2.len] at h1
           rcases Nat.eq_zero_or_pos m with h0 | h0
           · subst h0; simp at h1
           · exact h0
         obtain ⟨h1', _, _, h4⟩ := hnew.2.cells _ rfl hm
         obtain ⟨g, off, spot⟩ := ad
         dsimp only at h1' h4
         subst h1'
         rw [Addr.add_lit]; exact h4 j u hu) hmem (by unfold maxLen; omega) hb.1 hlo
     exact ⟨v', w', hrun, by simpa using h2, h3, h5⟩
 obtain ⟨v', w', hrun, h2, h3, h5⟩ := run
 unfold Oper.wp execOp
 simp only [ho, resolve, invoke, builtin, Sem.run_bind, Sem.run_pure, Result.andThen_ok, List.map_toArray, List.map_cons, List.map_nil, hs, hx, hrun]
 have hlen : n + m = (xs ++ ys).length := by rw [List.length_append, hown.1, hnew.1]
 have hch : Ch (atA A) w w' := ⟨h3.os, h3.tape, h3.output, h3.size, fun k hk hS => h3.block k hk (fun e => hS (by
   cases A with
   | none => simp [Value.ownBlock] at e
   | some a => simp [Value.ownBlock] at e; exact ⟨a, rfl, e⟩))⟩
 have hlow : ∀ b, b < lo → w'.heap[b]? = w.heap[b]? := fun b hb => hch.block b (by omega) (fun ⟨a, ha, hk⟩ => by have := (hown.blk ha).1; omega)
 rcases h2.2 with ⟨rfl, h0⟩ | ⟨g, cap, cur, rfl, r⟩
 · rw [h0] at hlen
   have hx' : xs ++ ys = [] := List.eq_nil_of_length_eq_zero hlen.symm
   have := K none 0 w' ⟨by rw [hx']; simpa using h0, by rw [hx', h0]; simpa using World.ownsRow_nil w' lo e sz⟩ hch (fun b hb => by cases hb) (fun S w0 h hl => Ch.app h hown hl hch) hlow
   rw [h0] at this
   exact this
 · refine K (some ⟨g, 0, none⟩) cap w' ⟨hlen, h2⟩ hch (fun b hb => ?_) (fun S w0 h hl => Ch.app h hown hl hch) hlow
   obtain rfl := Option.some.inj hb
   rcases h5 with h5 | h5
   · left
     rcases hown.form with ⟨hA, _, _⟩ | ⟨g', cur', hA, _⟩
     · subst hA; simp [Value.ownBlock] at h5
     · subst hA; simp [Value.ownBlock] at h5; subst h5; rfl
   · right
     simp [Value.ownBlock] at h5
     subst h5
     exact Nat.le_refl _
theorem wpList_app {P : Program} {w : World} {ops : Array Oper} {rest : List Oper} {o : Oper} {a : Act} {Q : Exit → Act → World → Prop} {α : Type} {enc : α → List Value} {sz bytes : Nat} {t e : TypeId} {s x : Operand}
   {lo lo2 c n m d : Nat} {A B : Option Addr} {xs ys : List α}
   (hel : ElemOk P t e sz bytes) (h1 : ∀ x, ∀ u ∈ enc x, u.oneCell' = true) (hgd : o.guard = none)
   (ho : o.op = .call { callee := .builtin .append, args := #[s, x], argTypes := #[t, t] }) (hs : a.eval s = .slice A n c) (hx : a.eval x = .slice B m d)
   (hown : Ow enc sz e w lo A c n xs) (hnew : Rs enc sz w lo2 B d m ys) (hb : (n + m) * bytes ≤ 140737488355328 ∧ n + m ≤ 9223372036854775807) (hlo : lo ≤ w.heap.size)
   (K : ∀ A' c' w', Ow enc sz e w' lo A' c' (n + m) (xs ++ ys) → Ch (atA A) w w' → (∀ b, A' = some b → A = some b ∨ w.heap.size ≤ b.block) → (∀ S w0, Ch S w0 w → w0.heap.size ≤ lo → Ch S w0 w') → (∀ b, b < lo → w'.heap[b]? = w.heap[b]?) → wpList P ops Q rest (a.put o.dst (.slice A' (n + m) c')) w') :
   wpList P ops Q (o :: rest) a w :=
 wpList_plain hgd fun K' hK' => wp_app hel h1 ho hs hx hown hnew hb hlo fun A' c' w' p1 p2 p3 p4 p5 => hK' _ _ (K A' c' w' p1 p2 p3 p4 p5)
theorem step_app {P : Program} {w : World} {ops : Array Oper} {o : Oper} {a : Act} {Kx : Act → World → Prop} {Q : Exit → Act → World → Prop} {E : Prop} {α : Type} {enc : α → List Value} {sz bytes : Nat} {t e : TypeId} {s x : Operand}
   {lo lo2 c n m d : Nat} {A B : Option Addr} {xs ys : List α}
   (hel : ElemOk P t e sz bytes) (h1 : ∀ x, ∀ u ∈ enc x, u.oneCell' = true) (hgd : o.guard = none)
   (ho : o.op = .call { callee := .builtin .append, args := #[s, x], argTypes := #[t, t] }) (hs : a.eval s = .slice A n c) (hx : a.eval x = .slice B m d)
   (hown : Ow enc sz e w lo A c n xs) (hnew : Rs enc sz w lo2 B d m ys) (hb : (n + m) * bytes ≤ 140737488355328 ∧ n + m ≤ 9223372036854775807) (hlo : lo ≤ w.heap.size)
   (K : ∀ A' c' w', Ow enc sz e w' lo A' c' (n + m) (xs ++ ys) → Ch (atA A) w w' → (∀ b, A' = some b → A = some b ∨ w.heap.size ≤ b.block) → (∀ S w0, Ch S w0 w → w0.heap.size ≤ lo → Ch S w0 w') → (∀ b, b < lo → w'.heap[b]? = w.heap[b]?) → Kx (a.put o.dst (.slice A' (n + m) c')) w') :
   if Region.wanted o (yielded ops a.tmps) = true then o.wp P a w Kx Q else E := by
 rw [if_pos (by simp [Region.wanted, hgd])]
 exact wp_app hel h1 ho hs hx hown hnew hb hlo K
theorem madeCells_flat {α : Type} {enc : α → List Value} {sz : Nat} (zx : α) (hsz : (enc zx).length = sz) (hp : 0 < sz) : ∀ n : Nat, (madeCells (enc zx).toArray (n * sz)).toList = (List.replicate n zx).flatMap enc := by
 intro n
 have key : ∀ n : Nat, (List.range (n * sz)).map (fun j => (enc zx).toArray[j % sz]!) = (List.replicate n zx).flatMap enc := by
   intro n
   induction n with
   | zero => simp
   | succ n ih =>
     rw [Nat.succ_mul, List.range_add, List.map_append, ih, List.replicate_succ', List.flatMap_append, List.flatMap_cons, List.flatMap_nil, List.append_nil]
     congr 1
     apply List.ext_getElem
     · simp [hsz]
     · intro j h1 h2
       have hj : j < sz := by simpa using h1
       simp [Nat.mod_eq_of_lt hj, hsz, hj]
 rw [madeCells, Array.toList_map, Array.toList_range]
 simp only [List.size_toArray, hsz]
 exact key n
theorem own_ {α : Type} {enc : α → List Value} {sz n lo g : Nat} {e : TypeId} {w : World} {cs : Array Value} (hg : g = w.heap.size := by (first | rfl | (simp only [zq_]; done) | omega)) (hcs : cs = (([] : List α).flatMap enc).toArray := by rfl) (hn : n = ([] : List α).length := by rfl) (hsz : ∀ x, (enc x).length = sz := by exact (fun _ => rfl)) (hl : lo ≤ g := by exact sz_) (hm : n ≤ 4194304 := by omega) : Ow enc sz e (w.alloc (.cells cs e)) lo (some ⟨g, 0, none⟩) n n ([] : List α) := Ow.new [] hg hcs hn hsz hl hm
theorem rd_ {p : Prop} (h : p := by ((first | (apply Rs.at0; assumption) | (apply Ow.rs0; assumption)); exact kf_)) : p := h
end Go.Proofs.YtnnoiagommiapaaGreat
