/- Texts joined: Own2. -/
import Derived.Test.YtnnoiagommiapaaGreatPy9
import Derived.Test.YtnnoiagommiapaaGreatPy8
set_option maxRecDepth 100000
set_option linter.unusedSimpArgs false
set_option linter.unusedVariables false
namespace Go.Proofs.YtnnoiagommiapaaGreat
open Go.RowKit Go
theorem el_D : ElemOk Tryz.prog 38 105 5 40 := .mk' (z := .agg #[.int .i64 0, .int .i64 0, .int .i64 0, .int .i64 0, .int .i64 0]) Tryz.underlying38 (by kernel_rfl) rfl (by omega)
theorem el_Q : ElemOk Tryz.prog 41 82 6 48 := .mk' (z := .agg #[.int .i64 0, .int .i64 0, .int .i64 0, .int .i64 0, .int .i64 0, .int .i64 0]) Tryz.underlying41 (by kernel_rfl) rfl (by omega)
theorem el_G : ElemOk Tryz.prog 42 90 4 48 := .mk' (z := .agg #[.int .i64 0, .int .i64 0, .int .i64 0, .slice none 0 0]) Tryz.underlying42 (by kernel_rfl) rfl (by omega)
theorem el_X : ElemOk Tryz.prog 43 92 5 56 := .mk' (z := .agg #[.int .i64 0, .int .i64 0, .int .i64 0, .int .i64 0, .slice none 0 0]) Tryz.underlying43 (by kernel_rfl) rfl (by omega)
theorem one_D (x : Sw.Deal) : ∀ u ∈ x.enc, u.oneCell' = true := by simp [Sw.Deal.enc, Value.oneCell']
theorem one_Q (x : Sw.Req) : ∀ u ∈ x.enc, u.oneCell' = true := by simp [Sw.Req.enc, Value.oneCell']
theorem one_G (x : GV) : ∀ u ∈ x.enc, u.oneCell' = true := by simp [GV.enc, Value.oneCell']
theorem one_X (x : XV) : ∀ u ∈ x.enc, u.oneCell' = true := by simp [XV.enc, Value.oneCell']
abbrev OwD := Ow Sw.Deal.enc 5 105
abbrev OwQ := Ow Sw.Req.enc 6 82
abbrev OwGV := Ow GV.enc 4 90
abbrev OwXV := Ow XV.enc 5 92
def Sw.entZ : Sw.Ent := ⟨0, 0, 0, 0⟩
def GV.zero : GV := ⟨Sw.headZ, none, 0, 0⟩
def XV.zero : XV := ⟨0, Sw.headZ, none, 0, 0⟩
def setMany : List Value → Nat → List Value → List Value
 | cs, _, [] => cs
 | cs, i, v :: vs => setMany (cs.set i v) (i + 1) vs
def setCells : World → Nat → Nat → List Value → World
 | w, _, _, [] => w
 | w, g, i, v :: vs => setCells (w.setCell ⟨g, i, none⟩ v) g (i + 1) vs
theorem setMany_eq : ∀ (vs cs : List Value) (i : Nat), i + vs.length ≤ cs.length → setMany cs i vs = cs.take i ++ vs ++ cs.drop (i + vs.length)
 | [], cs, i, h => by simp [setMany]
 | v :: vs, cs, i, h => by
   rw [List.length_cons] at h
   rw [setMany, setMany_eq vs (cs.set i v) (i + 1) (by rw [List.length_set]; omega), List.take_add_one, List.getElem?_set]
   rw [if_pos rfl, if_pos (by omega), List.take_set_of_le (Nat.le_refl _), List.drop_set_of_lt (by omega), List.length_cons]
   simp only [Option.toList_some, List.append_assoc, List.singleton_append]
   rw [show i + 1 + vs.length = i + (vs.length + 1) from by omega]
section
variable {α : Type} {enc : α → List Value} {sz : Nat} {e : TypeId} {w w' : World} {lo lo' c n : Nat} {A : Option Addr} {xs : List α}
theorem flat_len (hsz : ∀ x, (enc x).length = sz) : ∀ xs : List α, (xs.flatMap enc).length = xs.length * sz := by
 intro xs
 induction xs with
 | nil => simp
 | cons x xs ih => simp only [List.flatMap_cons, List.length_append, hsz, ih, List.length_cons, Nat.succ_mul]; omega
theorem flat_split' (hsz : ∀ x, (enc x).length = sz) (P : List α) (x y : α) (Q : List α) :
   ((P ++ x :: Q).set P.length y).flatMap enc = ((P ++ x :: Q).flatMap enc).take (P.length * sz) ++ enc y ++ ((P ++ x :: Q).flatMap enc).drop (P.length * sz + sz) := by
 have hf : (P.flatMap enc).length = P.length * sz := flat_len hsz P
 rw [List.set_append_right _ _ (Nat.le_refl _), Nat.sub_self, List.set_cons_zero]
 simp only [List.flatMap_append, List.flatMap_cons]
 rw [List.take_append_of_le_length (by omega), List.take_of_length_le (by omega), List.drop_append, List.drop_of_length_le (by omega), hf, List.nil_append]
 rw [show P.length * sz + sz - P.length * sz = sz from by omega, List.drop_append, hsz, Nat.sub_self, List.drop_zero, List.drop_of_length_le (by rw [hsz]; omega), List.nil_append, List.append_assoc]
theorem flat_split (hsz : ∀ x, (enc x).length = sz) (xs : List α) {k : Nat} (hk : k < xs.length) (y : α) : (xs.set k y).flatMap enc = (xs.flatMap enc).take (k * sz) ++ enc y ++ (xs.flatMap enc).drop (k * sz + sz) := by
 have e : xs.take k ++ xs[k] :: xs.drop (k + 1) = xs := by rw [← List.drop_eq_getElem_cons hk, List.take_append_drop]
 have hl : (xs.take k).length = k := by rw [List.length_take]; omega
 have := flat_split' hsz (xs.take k) xs[k] y (xs.drop (k + 1))
 rw [e, hl] at this
 exact this
theorem ownsRow_set {cs : List Value} {g i m : Nat} {u : Value} (h : w.ownsRow lo e sz (.slice (some ⟨g, 0, none⟩) n c) m cs) (hi : i < cs.length) :
   (w.setCell ⟨g, i, none⟩ u).ownsRow lo e sz (.slice (some ⟨g, 0, none⟩) n c) m (cs.set i u) := by
 refine ⟨by rw [List.length_set]; exact h.1, ?_⟩
 rcases h.2 with ⟨hv, h0⟩ | ⟨g', cap, cur, hv, hb, hh, hn, hm, hs, ht⟩
 · injection hv with h1; cases h1
 · injection hv with h1 h2 h3
   injection h1 with h1; injection h1 with h1
   subst h1 h2 h3
   refine .inr ⟨g, c, cur.setIfInBounds i u, rfl, hb, ?_, hn, hm, by simpa using hs, ?_⟩
   · simp [World.setCell, Array.getElem?_modify, hh]
   · rw [Array.toList_setIfInBounds, List.take_set, ht]
theorem ownsRow_sets : ∀ (vs cs : List Value) (w : World) {g i m : Nat}, w.ownsRow lo e sz (.slice (some ⟨g, 0, none⟩) n c) m cs → i + vs.length ≤ cs.length →
   (setCells w g i vs).ownsRow lo e sz (.slice (some ⟨g, 0, none⟩) n c) m (setMany cs i vs)
 | [], cs, w, g, i, m, h, _ => h
 | v :: vs, cs, w, g, i, m, h, hi => by
   rw [List.length_cons] at hi
   exact ownsRow_sets vs (cs.set i v) _ (ownsRow_set h (by omega)) (by rw [List.length_set]; omega)
theorem Ow.put (h : Ow enc sz e w lo A c n xs) (hsz : ∀ x, (enc x).length = sz) {g k : Nat} (y : α) (hA : A = some ⟨g, 0, none⟩) (hk : k < n) : Ow enc sz e (setCells w g (k * sz) (enc y)) lo A c n (xs.set k y) := by
 subst hA
 have hk' : k < xs.length := by rw [← h.1]; exact hk
 have hle : k * sz + (enc y).length ≤ (xs.flatMap enc).length := by
   rw [hsz, flat_len hsz]
   calc k * sz + sz = (k + 1) * sz := (Nat.succ_mul k sz).symm
     _ ≤ xs.length * sz := Nat.mul_le_mul_right _ hk'
 have := ownsRow_sets (enc y) (xs.flatMap enc) w h.2 hle
 rw [setMany_eq _ _ _ hle, hsz, ← flat_split hsz xs hk' y] at this
 exact ⟨by rw [List.length_set]; exact h.1, this⟩
end
theorem Ow.lb {α : Type} {enc : α → List Value} {sz : Nat} {e : TypeId} {w : World} {lo c n g : Nat} {A : Option Addr} {xs : List α} (h : Ow enc sz e w lo A c n xs) (hA : A = some ⟨g, 0, none⟩) : Lb w g (c * sz) := by
 rcases h.form with ⟨h1, _⟩ | ⟨g', cur, h1, h2, h3, h4, h5, h6, h7, h8⟩
 · rw [h1] at hA; cases hA
 · rw [h1] at hA; cases hA; exact ⟨cur, e, h4, h7⟩
structure OwT {α : Type} (enc : α → List Value) (sz : Nat) (e : TypeId) (τ : Nat → Nat) (t : Nat) (w : World) (lo : Nat) (A : Option Addr) (c n : Nat) (xs : List α) : Prop where
 ow : Ow enc sz e w lo A c n xs
 tag : ∀ a, A = some a → τ a.block = t
structure KT (τ : Nat → Nat) (t lo : Nat) (w w' : World) : Prop where
 size : w.heap.size ≤ w'.heap.size
 block : ∀ b, lo ≤ b → b < w.heap.size → τ b = t → w'.heap[b]? = w.heap[b]?
theorem KT.refl (τ : Nat → Nat) (t lo : Nat) (w : World) : KT τ t lo w w := ⟨Nat.le_refl _, fun _ _ _ _ => rfl⟩
theorem KT.of {τ : Nat → Nat} {t lo : Nat} {w w' : World} (h : KF lo w w') : KT τ t lo w w' := ⟨h.size, fun b h1 h2 _ => h.block b h1 h2⟩
section
variable {τ : Nat → Nat} {t lo : Nat} {a w w' : World}
theorem KT.alloc {o : Obj} (h : KT τ t lo a w) : KT τ t lo a (w.alloc o) :=
 ⟨by simp; have := h.size; omega, fun i hl hi ht => (Below.heap_alloc _ _ _ (Nat.lt_of_lt_of_le hi h.size)).trans (h.block i hl hi ht)⟩
theorem KT.drew (h : KT τ t lo a w) : KT τ t lo a w.drew := ⟨h.size, h.block⟩
theorem KT.drewN {n : Nat} (h : KT τ t lo a w) : KT τ t lo a (w.drewN n) := ⟨h.size, h.block⟩
theorem KT.setCell {p : Addr} {u : Value} (h : KT τ t lo a w) (hp : a.heap.size ≤ p.block ∨ τ p.block ≠ t) : KT τ t lo a (w.setCell p u) :=
 ⟨by simpa [World.setCell] using h.size, fun i hl hi ht => (Below.heap_setCell _ _ _ _ (by rintro rfl; rcases hp with hp | hp <;> first | omega | exact hp ht)).trans (h.block i hl hi ht)⟩
theorem KT.ch {S : Nat → Prop} (hb : Ch S w w') (h : KT τ t lo a w) (hS : ∀ i, S i → a.heap.size ≤ i ∨ τ i ≠ t) : KT τ t lo a w' :=
 ⟨Nat.le_trans h.size hb.size, fun i hl hi ht => (hb.block i (Nat.lt_of_lt_of_le hi h.size) (fun hs => by rcases hS i hs with h1 | h1 <;> first | omega | exact h1 ht)).trans (h.block i hl hi ht)⟩
theorem KT.ex (hb : Ex w w') (h : KT τ t lo a w) : KT τ t lo a w' := h.ch hb (fun _ h => h.elim)
end
def glue (τ : Nat → Nat) (n : Nat) (τ' : Nat → Nat) : Nat → Nat := fun b => if b < n then τ b else τ' b
section
variable {α : Type} {enc : α → List Value} {sz : Nat} {e : TypeId} {τ τ' : Nat → Nat} {t : Nat} {w w' : World} {lo lo' c n : Nat} {A : Option Addr} {xs : List α}
theorem OwT.keep (h : OwT enc sz e τ t w lo A c n xs) (hk : KT τ t lo w w') : OwT enc sz e τ t w' lo A c n xs :=
 ⟨h.ow.keep_ fun a ha => hk.block _ (h.ow.blk ha).1 (h.ow.blk ha).2 (h.tag a ha), h.tag⟩
theorem OwT.less (h : OwT enc sz e τ t w lo A c n xs) (hl : lo' ≤ lo) : OwT enc sz e τ t w lo' A c n xs := ⟨h.ow.less hl, h.tag⟩
theorem OwT.retag (h : OwT enc sz e τ t w lo A c n xs) (ht : ∀ b, b < w.heap.size → τ' b = τ b) : OwT enc sz e τ' t w lo A c n xs :=
 ⟨h.ow, fun a ha => (ht _ (h.ow.blk ha).2).trans (h.tag a ha)⟩
theorem OwT.fresh (h : Ow enc sz e w lo A c n xs) (ht : ∀ b, lo ≤ b → b < w.heap.size → τ b = t) : OwT enc sz e τ t w lo A c n xs :=
 ⟨h, fun a ha => ht _ (h.blk ha).1 (h.blk ha).2⟩
theorem OwT.nil (τ : Nat → Nat) (t : Nat) (w : World) (lo : Nat) : OwT enc sz e τ t w lo none 0 0 [] := ⟨Ow.nil w lo, fun _ h => by cases h⟩
theorem OwT.glueL {k : Nat} (h : OwT enc sz e τ t w lo A c n xs) (hk : w.heap.size ≤ k) : OwT enc sz e (glue τ k τ') t w lo A c n xs := h.retag fun b hb => if_pos (by omega)
theorem OwT.glueR {k : Nat} (h : OwT enc sz e τ t w lo A c n xs) (hk : k ≤ lo) : OwT enc sz e (glue τ' k τ) t w lo A c n xs :=
 ⟨h.ow, fun a ha => by have := (h.ow.blk ha).1; unfold glue; rw [if_neg (by omega)]; exact h.tag a ha⟩
theorem OwT.rs (h : OwT enc sz e τ t w lo A c n xs) : Rs enc sz w lo A c n xs := h.ow.rs
end
abbrev OwTE := OwT Sw.Ent.enc 4 207
abbrev OwTI := OwT encI 1 3
abbrev OwTD := OwT Sw.Deal.enc 5 105
abbrev OwTQ := OwT Sw.Req.enc 6 82
abbrev OwTG := OwT GV.enc 4 90
abbrev OwTX := OwT XV.enc 5 92
structure OwM (τ : Nat → Nat) (w : World) (lo : Nat) (aL : Option Addr) (aLc aLn : Nat) (aP : Option Addr) (aPc aPn : Nat) (aD : Option Addr) (aDc aDn : Nat) (aN : Option Addr) (aNc aNn : Nat) (aS : Option Addr) (aSc aSn : Nat) (m : Sw.Mkt) : Prop where
 log : OwTE τ 1 w lo aL aLc aLn m.log
 purses : OwTI τ 2 w lo aP aPc aPn m.purses
 deals : OwTD τ 3 w lo aD aDc aDn m.deals
 nums : OwTI τ 4 w lo aN aNc aNn m.nums
 said : OwTI τ 5 w lo aS aSc aSn m.said
structure OwG (fd : Nat → Nat) (τ : Nat → Nat) (w : World) (lo : Nat) (A : Option Addr) (c n : Nat) (gs : List Sw.Gate) : Prop where
 ex : ∃ vs : List GV, OwTG τ 8 w lo A c n vs ∧ n = gs.length ∧ ∀ (k : Nat) (v : GV) (g : Sw.Gate), vs[k]? = some v → gs[k]? = some g → v.h = g.head ∧ OwTI τ (fd k) w lo v.A v.c v.n g.done
structure OwX (fp : Nat → Nat) (τ : Nat → Nat) (w : World) (lo : Nat) (A : Option Addr) (c n : Nat) (xs : List Sw.Msg) : Prop where
 ex : ∃ vs : List XV, OwTX τ 9 w lo A c n vs ∧ n = xs.length ∧ ∀ (k : Nat) (v : XV) (x : Sw.Msg), vs[k]? = some v → xs[k]? = some x → v.g = x.gate ∧ v.h = x.head ∧ OwTI τ (fp k) w lo v.A v.c v.n x.proof
structure OwW (fd fp : Nat → Nat) (τ : Nat → Nat) (w : World) (lo : Nat) (aF : Option Addr) (aFc aFn : Nat) (aL : Option Addr) (aLc aLn : Nat) (aP : Option Addr) (aPc aPn : Nat) (aD : Option Addr) (aDc aDn : Nat) (aN : Option Addr) (aNc aNn : Nat) (aS : Option Addr) (aSc aSn : Nat) (aI : Option Addr) (aIc aIn : Nat) (aG : Option Addr) (aGc aGn : Nat) (aB : Option Addr) (aBc aBn : Nat) (x : Sw.World) : Prop where
 first : OwTI τ 6 w lo aF aFc aFn x.first
 mkt : OwM τ w lo aL aLc aLn aP aPc aPn aD aDc aDn aN aNc aNn aS aSc aSn x.market
 lines : OwTQ τ 7 w lo aI aIc aIn x.lines
 gates : OwG fd τ w lo aG aGc aGn x.gates
 bag : OwX fp τ w lo aB aBc aBn x.bag
def fdS (k : Nat) : Nat := 20 + 2 * k
def fpS (k : Nat) : Nat := 21 + 2 * k
def fdL (_ : Nat) : Nat := 10
def fpL (_ : Nat) : Nat := 11
section
variable {fd fp τ τ' : Nat → Nat} {w w' : World} {lo lo' c n k : Nat} {A : Option Addr}
theorem OwM.rm {aL : Option Addr} {aLc aLn : Nat} {aP : Option Addr} {aPc aPn : Nat} {aD : Option Addr} {aDc aDn : Nat} {aN : Option Addr} {aNc aNn : Nat} {aS : Option Addr} {aSc aSn : Nat} {m : Sw.Mkt} (h : OwM τ w lo aL aLc aLn aP aPc aPn aD aDc aDn aN aNc aNn aS aSc aSn m) : RM w lo aL aLc aLn aP aPc aPn aD aDc aDn aN aNc aNn aS aSc aSn m := ⟨h.1.rs, h.2.rs, h.3.rs, h.4.rs, h.5.rs⟩
theorem OwG.rg {gs : List Sw.Gate} (h : OwG fd τ w lo A c n gs) : RG w lo A c n gs := by
 obtain ⟨vs, h1, h2, h3⟩ := h.ex
 exact ⟨vs, h1.rs, h2, fun k v g hv hg => ⟨(h3 k v g hv hg).1, (h3 k v g hv hg).2.rs⟩⟩
theorem OwX.rx {xs : List Sw.Msg} (h : OwX fp τ w lo A c n xs) : RX w lo A c n xs := by
 obtain ⟨vs, h1, h2, h3⟩ := h.ex
 exact ⟨vs, h1.rs, h2, fun k v g hv hg => ⟨(h3 k v g hv hg).1, (h3 k v g hv hg).2.1, (h3 k v g hv hg).2.2.rs⟩⟩
theorem OwW.rw_ {aF : Option Addr} {aFc aFn : Nat} {aL : Option Addr} {aLc aLn : Nat} {aP : Option Addr} {aPc aPn : Nat} {aD : Option Addr} {aDc aDn : Nat} {aN : Option Addr} {aNc aNn : Nat} {aS : Option Addr} {aSc aSn : Nat} {aI : Option Addr} {aIc aIn : Nat} {aG : Option Addr} {aGc aGn : Nat} {aB : Option Addr} {aBc aBn : Nat} {x : Sw.World} (h : OwW fd fp τ w lo aF aFc aFn aL aLc aLn aP aPc aPn aD aDc aDn aN aNc aNn aS aSc aSn aI aIc aIn aG aGc aGn aB aBc aBn x) : RW w lo aF aFc aFn aL aLc aLn aP aPc aPn aD aDc aDn aN aNc aNn aS aSc aSn aI aIc aIn aG aGc aGn aB aBc aBn x := ⟨h.1.rs, h.2.rm, h.3.rs, h.4.rg, h.5.rx⟩
theorem OwM.keep {aL : Option Addr} {aLc aLn : Nat} {aP : Option Addr} {aPc aPn : Nat} {aD : Option Addr} {aDc aDn : Nat} {aN : Option Addr} {aNc aNn : Nat} {aS : Option Addr} {aSc aSn : Nat} {m : Sw.Mkt} (h : OwM τ w lo aL aLc aLn aP aPc aPn aD aDc aDn aN aNc aNn aS aSc aSn m) (hk : ∀ t, 1 ≤ t → t ≤ 5 → KT τ t lo w w') : OwM τ w' lo aL aLc aLn aP aPc aPn aD aDc aDn aN aNc aNn aS aSc aSn m :=
 ⟨h.1.keep (hk _ (by omega) (by omega)), h.2.keep (hk _ (by omega) (by omega)), h.3.keep (hk _ (by omega) (by omega)), h.4.keep (hk _ (by omega) (by omega)), h.5.keep (hk _ (by omega) (by omega))⟩
theorem OwM.less {aL : Option Addr} {aLc aLn : Nat} {aP : Option Addr} {aPc aPn : Nat} {aD : Option Addr} {aDc aDn : Nat} {aN : Option Addr} {aNc aNn : Nat} {aS : Option Addr} {aSc aSn : Nat} {m : Sw.Mkt} (h : OwM τ w lo aL aLc aLn aP aPc aPn aD aDc aDn aN aNc aNn aS aSc aSn m) (hl : lo' ≤ lo) : OwM τ w lo' aL aLc aLn aP aPc aPn aD aDc aDn aN aNc aNn aS aSc aSn m := ⟨h.1.less hl, h.2.less hl, h.3.less hl, h.4.less hl, h.5.less hl⟩
theorem OwM.retag {aL : Option Addr} {aLc aLn : Nat} {aP : Option Addr} {aPc aPn : Nat} {aD : Option Addr} {aDc aDn : Nat} {aN : Option Addr} {aNc aNn : Nat} {aS : Option Addr} {aSc aSn : Nat} {m : Sw.Mkt} (h : OwM τ w lo aL aLc aLn aP aPc aPn aD aDc aDn aN aNc aNn aS aSc aSn m) (ht : ∀ b, b < w.heap.size → τ' b = τ b) : OwM τ' w lo aL aLc aLn aP aPc aPn aD aDc aDn aN aNc aNn aS aSc aSn m := ⟨h.1.retag ht, h.2.retag ht, h.3.retag ht, h.4.retag ht, h.5.retag ht⟩
theorem OwM.glueR {aL : Option Addr} {aLc aLn : Nat} {aP : Option Addr} {aPc aPn : Nat} {aD : Option Addr} {aDc aDn : Nat} {aN : Option Addr} {aNc aNn : Nat} {aS : Option Addr} {aSc aSn : Nat} {m : Sw.Mkt} (h : OwM τ w lo aL aLc aLn aP aPc aPn aD aDc aDn aN aNc aNn aS aSc aSn m) (hk : k ≤ lo) : OwM (glue τ' k τ) w lo aL aLc aLn aP aPc aPn aD aDc aDn aN aNc aNn aS aSc aSn m := ⟨h.1.glueR hk, h.2.glueR hk, h.3.glueR hk, h.4.glueR hk, h.5.glueR hk⟩
theorem OwG.keep {gs : List Sw.Gate} (h : OwG fd τ w lo A c n gs) (h8 : KT τ 8 lo w w') (hk : ∀ k, KT τ (fd k) lo w w') : OwG fd τ w' lo A c n gs := by
 obtain ⟨vs, h1, h2, h3⟩ := h.ex
 exact ⟨vs, h1.keep h8, h2, fun k v g hv hg => ⟨(h3 k v g hv hg).1, (h3 k v g hv hg).2.keep (hk k)⟩⟩
theorem OwG.less {gs : List Sw.Gate} (h : OwG fd τ w lo A c n gs) (hl : lo' ≤ lo) : OwG fd τ w lo' A c n gs := by
 obtain ⟨vs, h1, h2, h3⟩ := h.ex
 exact ⟨vs, h1.less hl, h2, fun k v g hv hg => ⟨(h3 k v g hv hg).1, (h3 k v g hv hg).2.less hl⟩⟩
theorem OwG.retag {gs : List Sw.Gate} (h : OwG fd τ w lo A c n gs) (ht : ∀ b, b < w.heap.size → τ' b = τ b) : OwG fd τ' w lo A c n gs := by
 obtain ⟨vs, h1, h2, h3⟩ := h.ex
 exact ⟨vs, h1.retag ht, h2, fun k v g hv hg => ⟨(h3 k v g hv hg).1, (h3 k v g hv hg).2.retag ht⟩⟩
theorem OwG.glueR {gs : List Sw.Gate} (h : OwG fd τ w lo A c n gs) (hk : k ≤ lo) : OwG fd (glue τ' k τ) w lo A c n gs := by
 obtain ⟨vs, h1, h2, h3⟩ := h.ex
 exact ⟨vs, h1.glueR hk, h2, fun k v g hv hg => ⟨(h3 k v g hv hg).1, (h3 k v g hv hg).2.glueR hk⟩⟩
theorem OwX.keep {xs : List Sw.Msg} (h : OwX fp τ w lo A c n xs) (h9 : KT τ 9 lo w w') (hk : ∀ k, KT τ (fp k) lo w w') : OwX fp τ w' lo A c n xs := by
 obtain ⟨vs, h1, h2, h3⟩ := h.ex
 exact ⟨vs, h1.keep h9, h2, fun k v g hv hg => ⟨(h3 k v g hv hg).1, (h3 k v g hv hg).2.1, (h3 k v g hv hg).2.2.keep (hk k)⟩⟩
theorem OwX.less {xs : List Sw.Msg} (h : OwX fp τ w lo A c n xs) (hl : lo' ≤ lo) : OwX fp τ w lo' A c n xs := by
 obtain ⟨vs, h1, h2, h3⟩ := h.ex
 exact ⟨vs, h1.less hl, h2, fun k v g hv hg => ⟨(h3 k v g hv hg).1, (h3 k v g hv hg).2.1, (h3 k v g hv hg).2.2.less hl⟩⟩
theorem OwX.retag {xs : List Sw.Msg} (h : OwX fp τ w lo A c n xs) (ht : ∀ b, b < w.heap.size → τ' b = τ b) : OwX fp τ' w lo A c n xs := by
 obtain ⟨vs, h1, h2, h3⟩ := h.ex
 exact ⟨vs, h1.retag ht, h2, fun k v g hv hg => ⟨(h3 k v g hv hg).1, (h3 k v g hv hg).2.1, (h3 k v g hv hg).2.2.retag ht⟩⟩
theorem OwX.glueR {xs : List Sw.Msg} (h : OwX fp τ w lo A c n xs) (hk : k ≤ lo) : OwX fp (glue τ' k τ) w lo A c n xs := by
 obtain ⟨vs, h1, h2, h3⟩ := h.ex
 exact ⟨vs, h1.glueR hk, h2, fun k v g hv hg => ⟨(h3 k v g hv hg).1, (h3 k v g hv hg).2.1, (h3 k v g hv hg).2.2.glueR hk⟩⟩
theorem OwW.less {aF : Option Addr} {aFc aFn : Nat} {aL : Option Addr} {aLc aLn : Nat} {aP : Option Addr} {aPc aPn : Nat} {aD : Option Addr} {aDc aDn : Nat} {aN : Option Addr} {aNc aNn : Nat} {aS : Option Addr} {aSc aSn : Nat} {aI : Option Addr} {aIc aIn : Nat} {aG : Option Addr} {aGc aGn : Nat} {aB : Option Addr} {aBc aBn : Nat} {x : Sw.World} (h : OwW fd fp τ w lo aF aFc aFn aL aLc aLn aP aPc aPn aD aDc aDn aN aNc aNn aS aSc aSn aI aIc aIn aG aGc aGn aB aBc aBn x) (hl : lo' ≤ lo) : OwW fd fp τ w lo' aF aFc aFn aL aLc aLn aP aPc aPn aD aDc aDn aN aNc aNn aS aSc aSn aI aIc aIn aG aGc aGn aB aBc aBn x := ⟨h.1.less hl, h.2.less hl, h.3.less hl, h.4.less hl, h.5.less hl⟩
theorem OwW.retag {aF : Option Addr} {aFc aFn : Nat} {aL : Option Addr} {aLc aLn : Nat} {aP : Option Addr} {aPc aPn : Nat} {aD : Option Addr} {aDc aDn : Nat} {aN : Option Addr} {aNc aNn : Nat} {aS : Option Addr} {aSc aSn : Nat} {aI : Option Addr} {aIc aIn : Nat} {aG : Option Addr} {aGc aGn : Nat} {aB : Option Addr} {aBc aBn : Nat} {x : Sw.World} (h : OwW fd fp τ w lo aF aFc aFn aL aLc aLn aP aPc aPn aD aDc aDn aN aNc aNn aS aSc aSn aI aIc aIn aG aGc aGn aB aBc aBn x) (ht : ∀ b, b < w.heap.size → τ' b = τ b) : OwW fd fp τ' w lo aF aFc aFn aL aLc aLn aP aPc aPn aD aDc aDn aN aNc aNn aS aSc aSn aI aIc aIn aG aGc aGn aB aBc aBn x := ⟨h.1.retag ht, h.2.retag ht, h.3.retag ht, h.4.retag ht, h.5.retag ht⟩
theorem OwW.loose {aF : Option Addr} {aFc aFn : Nat} {aL : Option Addr} {aLc aLn : Nat} {aP : Option Addr} {aPc aPn : Nat} {aD : Option Addr} {aDc aDn : Nat} {aN : Option Addr} {aNc aNn : Nat} {aS : Option Addr} {aSc aSn : Nat} {aI : Option Addr} {aIc aIn : Nat} {aG : Option Addr} {aGc aGn : Nat} {aB : Option Addr} {aBc aBn : Nat} {x : Sw.World} (h : OwW fdS fpS τ w lo aF aFc aFn aL aLc aLn aP aPc aPn aD aDc aDn aN aNc aNn aS aSc aSn aI aIc aIn aG aGc aGn aB aBc aBn x) : OwW fdL fpL (fun b => if 20 ≤ τ b then 10 + τ b % 2 else τ b) w lo aF aFc aFn aL aLc aLn aP aPc aPn aD aDc aDn aN aNc aNn aS aSc aSn aI aIc aIn aG aGc aGn aB aBc aBn x := by
 have key : ∀ {α : Type} {enc : α → List Value} {sz : Nat} {e : TypeId} {t : Nat} {A : Option Addr} {c n : Nat} {xs : List α}, OwT enc sz e τ t w lo A c n xs → OwT enc sz e (fun b => if 20 ≤ τ b then 10 + τ b % 2 else τ b) (if 20 ≤ t then 10 + t % 2 else t) w lo A c n xs :=
   fun h => ⟨h.ow, fun a ha => by simp only [h.tag a ha]⟩
 refine ⟨key h.1, ⟨key h.2.1, key h.2.2, key h.2.3, key h.2.4, key h.2.5⟩, key h.3, ?_, ?_⟩
 · obtain ⟨vs, h1, h2, h3⟩ := h.gates.ex
   refine ⟨vs, key h1, h2, fun k v g hv hg => ⟨(h3 k v g hv hg).1, ?_⟩⟩
   have := key (h3 k v g hv hg).2
   rw [if_pos (by unfold fdS; omega), show 10 + fdS k % 2 = fdL k from by unfold fdS fdL; omega] at this
   exact this
 · obtain ⟨vs, h1, h2, h3⟩ := h.bag.ex
   refine ⟨vs, key h1, h2, fun k v g hv hg => ⟨(h3 k v g hv hg).1, (h3 k v g hv hg).2.1, ?_⟩⟩
   have := key (h3 k v g hv hg).2.2
   rw [if_pos (by unfold fpS; omega), show 10 + fpS k % 2 = fpL k from by unfold fpS fpL; omega] at this
   exact this
end
end Go.Proofs.YtnnoiagommiapaaGreat
