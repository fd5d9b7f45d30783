/-
  Texts joined: Base, Model, Typed, Leaf, Small, Tree, Model2, Plain1, Plain2.
-/
import Derived.WalkKit
import Derived.WalkSpells
import Derived.WalkLawsBesides
import Derived.Lib.Hide
import Derived.Deep.RegionHeld3
import Derived.Deep.QuietTactic
import Derived.BigQuiet
import Derived.RowKit
import Derived.Test.YtimpagcanengoaaProg
namespace Go.Proofs.Ytimpagcanengoaa
set_option maxRecDepth 100000
set_option linter.unusedSimpArgs false
set_option linter.unusedVariables false
open Go.RowKit Go

/-! ### What a call leaves -/
/-- From w to w' no block has gone, and all blocks of w outside S are as they were. -/
structure Ch (S : Nat → Prop) (w w' : World) : Prop where
  os : w'.os = w.os
  tape : w'.tape = w.tape
  output : w'.output = w.output
  size : w.heap.size ≤ w'.heap.size
  block : ∀ k, k < w.heap.size → ¬ S k → w'.heap[k]? = w.heap[k]?

theorem Ch.refl (S : Nat → Prop) (w : World) : Ch S w w := ⟨rfl, rfl, rfl, Nat.le_refl _, fun _ _ _ => rfl⟩
theorem Ch.trans {S : Nat → Prop} {a b c : World} (h : Ch S a b) (k : Ch S b c) : Ch S a c :=
  ⟨k.os.trans h.os, k.tape.trans h.tape, k.output.trans h.output, Nat.le_trans h.size k.size,
    fun i hi hS => (k.block i (Nat.lt_of_lt_of_le hi h.size) hS).trans (h.block i hi hS)⟩
/-- Two steps of which the second may turn, too, what the first has made. -/
theorem Ch.trans' {S T : Nat → Prop} {a b c : World} (h : Ch S a b) (k : Ch T b c) (hT : ∀ i, i < a.heap.size → T i → S i) : Ch S a c :=
  ⟨k.os.trans h.os, k.tape.trans h.tape, k.output.trans h.output, Nat.le_trans h.size k.size,
    fun i hi hS => (k.block i (Nat.lt_of_lt_of_le hi h.size) (fun ht => hS (hT i hi ht))).trans (h.block i hi hS)⟩
theorem Ch.mono {S T : Nat → Prop} {a b : World} (h : Ch S a b) (hT : ∀ i, i < a.heap.size → S i → T i) : Ch T a b :=
  ⟨h.os, h.tape, h.output, h.size, fun i hi ht => h.block i hi (fun hs => ht (hT i hi hs))⟩
theorem Ch.alloc {S : Nat → Prop} {a w : World} (h : Ch S a w) (o : Obj) : Ch S a (w.alloc o) :=
  ⟨h.os, h.tape, h.output, by simp; have := h.size; omega, fun i hi hS => (Below.heap_alloc _ _ _ (Nat.lt_of_lt_of_le hi h.size)).trans (h.block i hi hS)⟩
theorem Ch.drew {S : Nat → Prop} {a w : World} (h : Ch S a w) : Ch S a w.drew := ⟨h.os, h.tape, h.output, h.size, h.block⟩
theorem Ch.drewN {S : Nat → Prop} {a w : World} (h : Ch S a w) (n : Nat) : Ch S a (w.drewN n) := ⟨h.os, h.tape, h.output, h.size, h.block⟩
theorem Ch.setCell {S : Nat → Prop} {a w : World} (h : Ch S a w) {p : Addr} (hp : S p.block ∨ a.heap.size ≤ p.block) (u : Value) : Ch S a (w.setCell p u) :=
  ⟨h.os, h.tape, h.output, by simpa [World.setCell] using h.size, fun i hi hS => (Below.heap_setCell _ _ _ _ (by
    rintro rfl
    rcases hp with hp | hp
    · exact hS hp
    · omega)).trans (h.block i hi hS)⟩
theorem Ch.grown {S : Nat → Prop} {a w w' : World} {row : Option Nat} (h : Ch S a w) (hg : w.grownBy w' row) (hr : ∀ k, row = some k → S k ∨ a.heap.size ≤ k) : Ch S a w' :=
  ⟨hg.os.trans h.os, hg.tape.trans h.tape, hg.output.trans h.output, Nat.le_trans h.size hg.size, fun i hi hS => (hg.block i (Nat.lt_of_lt_of_le hi h.size) (by
    intro e
    rcases hr i e.symm with hp | hp
    · exact hS hp
    · omega)).trans (h.block i hi hS)⟩
/-- Nothing of w has turned. -/
abbrev Ex (w w' : World) : Prop := Ch (fun _ => False) w w'
theorem Ex.ch {S : Nat → Prop} {w w' : World} (h : Ex w w') : Ch S w w' := h.mono (fun _ _ h => h.elim)
theorem Ch.ex {S : Nat → Prop} {a b c : World} (h : Ch S a b) (k : Ex b c) : Ch S a c := h.trans' k (fun _ _ h => h.elim)
theorem Ch.exk {S : Nat → Prop} {a b c : World} (k : Ex b c) (h : Ch S a b) : Ch S a c := h.ex k
theorem Ch.chk {S : Nat → Prop} {a b c : World} (k : Ch S b c) (h : Ch S a b) : Ch S a c := h.trans k
theorem Ch.chg {S : Nat → Prop} {g : Nat} {a b c : World} (k : Ch (· = g) b c) (h : Ch S a b) (hg : a.heap.size ≤ g) : Ch S a c :=
  ⟨k.os.trans h.os, k.tape.trans h.tape, k.output.trans h.output, Nat.le_trans h.size k.size, fun i hi hS => (k.block i (Nat.lt_of_lt_of_le hi h.size) (by omega)).trans (h.block i hi hS)⟩
theorem Ex.ofN {w W : World} {n : Nat} (h : w.drewN n = W) : Ex w W := h ▸ (Ch.refl _ _).drewN n
theorem Ex.below {w w' : World} (h : Ex w w') : Below w.heap.size w w' := ⟨h.os, h.tape, h.output, h.size, fun k hk => h.block k hk (fun h => h)⟩
theorem Ex.of_below {w w' : World} (h : Below w.heap.size w w') : Ex w w' := ⟨h.os, h.tape, h.output, h.size, fun k hk _ => h.block k hk⟩
theorem Ch.cell {S : Nat → Prop} {w w' : World} (h : Ch S w w') {p : Addr} (hp : p.block < w.heap.size) (hS : ¬ S p.block) : w'.cell? p = w.cell? p :=
  World.cell?_of_block (w := w) (h.block p.block hp hS)
theorem Ch.frozen {S : Nat → Prop} {w w' : World} (h : Ch S w w') {p : Addr} (hp : p.block < w.heap.size) (hS : ¬ S p.block) : w'.frozen? p = w.frozen? p :=
  World.frozen?_of_block (w := w) (h.block p.block hp hS)

/-- How a walk reads on behind a call: the side conditions are equations between addresses, which simp's procedure decides by omega. -/
theorem Ex.rules {W w1 : World} {B : Nat} (hb : Ex W w1) (hB : W.heap.size = B) :
    (∀ b o, ¬ ((⟨b, 0, none⟩ : Addr) = ⟨b - B + B, 0, none⟩) → w1.cell? ⟨b, o, none⟩ = W.cell? ⟨b, o, none⟩) ∧
    (∀ b o, ¬ ((⟨b, 0, none⟩ : Addr) = ⟨b - B + B, 0, none⟩) → w1.frozen? ⟨b, o, none⟩ = W.frozen? ⟨b, o, none⟩) ∧ B ≤ w1.heap.size := by
  subst hB
  refine ⟨fun b o h => hb.cell (p := ⟨b, o, none⟩) ?_ (fun h => h), fun b o h => hb.frozen (p := ⟨b, o, none⟩) ?_ (fun h => h), hb.size⟩ <;>
  · simp at h
    show b < _
    omega
theorem Ch.rules {W w1 : World} {B g : Nat} (hb : Ch (· = g) W w1) (hB : W.heap.size = B) :
    (∀ b o, ¬ ((⟨b, 0, none⟩ : Addr) = ⟨b - B + B, 0, none⟩) → ¬ ((⟨b, 0, none⟩ : Addr) = ⟨g, 0, none⟩) → w1.cell? ⟨b, o, none⟩ = W.cell? ⟨b, o, none⟩) ∧
    (∀ b o, ¬ ((⟨b, 0, none⟩ : Addr) = ⟨b - B + B, 0, none⟩) → ¬ ((⟨b, 0, none⟩ : Addr) = ⟨g, 0, none⟩) → w1.frozen? ⟨b, o, none⟩ = W.frozen? ⟨b, o, none⟩) ∧ B ≤ w1.heap.size := by
  subst hB
  refine ⟨fun b o h h' => hb.cell (p := ⟨b, o, none⟩) ?_ ?_, fun b o h h' => hb.frozen (p := ⟨b, o, none⟩) ?_ ?_, hb.size⟩
  all_goals first | (simp at h; show b < _; omega) | (simp at h'; exact h')

/-- A world gets a name: a walk's world, and nothing has turned. -/
theorem wp_name {P : Program} {c : Code} {Q : Exit → Act → World → Prop} {a : Act} {w : World} (h : ∀ W, Ex w W → c.wp P Q a W) : c.wp P Q a w := h w (Ch.refl _ _)
/-- Inside a region that draws its order: the cells of the world W in which it began. -/
abbrev Held (W w : World) : Prop :=
  (∀ b o, ¬ ((⟨b, 0, none⟩ : Addr) = ⟨b - W.heap.size + W.heap.size, 0, none⟩) → w.cell? ⟨b, o, none⟩ = W.cell? ⟨b, o, none⟩) ∧ Ex W w
theorem Held.of {W w : World} (h : Ex W w) : Held W w := ⟨(Ex.rules h rfl).1, h⟩
theorem Held.refl (W : World) : Held W W := .of (Ch.refl _ _)
theorem Held.start (W : World) : Held W W.drew := .of (Ch.refl _ _).drew
theorem Held.ex {W w w' : World} (h : Held W w) (k : Ex w w') : Held W w' := .of (h.2.trans' k (fun _ _ h => h))
theorem Held.alloc {W w : World} (h : Held W w) (o : Obj) : Held W (w.alloc o) := .of (h.2.alloc o)
theorem Held.drew {W w : World} (h : Held W w) : Held W w.drew := .of h.2.drew
theorem Held.set {W w : World} {p : Addr} {u : Value} (h : Held W w) (hp : W.heap.size ≤ p.block) : Held W (w.setCell p u) := .of (h.2.setCell (.inr hp) u)
/-- The same where a reader's block rb may turn. -/
abbrev HeldR (rb : Nat) (W w : World) : Prop :=
  (∀ b o, ¬ ((⟨b, 0, none⟩ : Addr) = ⟨b - W.heap.size + W.heap.size, 0, none⟩) → ¬ ((⟨b, 0, none⟩ : Addr) = ⟨rb, 0, none⟩) → w.cell? ⟨b, o, none⟩ = W.cell? ⟨b, o, none⟩) ∧ Ch (· = rb) W w
theorem HeldR.of {rb : Nat} {W w : World} (h : Ch (· = rb) W w) : HeldR rb W w := ⟨(Ch.rules h rfl).1, h⟩
theorem HeldR.start (rb : Nat) (W : World) : HeldR rb W W.drew := .of (Ch.refl _ _).drew
theorem HeldR.ex {rb : Nat} {W w w' : World} (h : HeldR rb W w) (k : Ex w w') : HeldR rb W w' := .of (h.2.ex k)
theorem HeldR.ch {rb : Nat} {W w w' : World} (h : HeldR rb W w) (k : Ch (· = rb) w w') : HeldR rb W w' := .of (h.2.trans k)
theorem HeldR.alloc {rb : Nat} {W w : World} (h : HeldR rb W w) (o : Obj) : HeldR rb W (w.alloc o) := .of (h.2.alloc o)
theorem HeldR.set {rb : Nat} {W w : World} {p : Addr} {u : Value} (h : HeldR rb W w) (hp : W.heap.size ≤ p.block) : HeldR rb W (w.setCell p u) := .of (h.2.setCell (.inr hp) u)

theorem Calls.quiet_same {P : Program} {f : FuncId} {args : Array Value} {w : World} {n : Nat} {v : Value} (h : Calls P f args (w.drewN n) fun E w' => E = .returned v ∧ w.drewN n = w') :
    Calls P f args (w.drewN n) fun e w'' => e = .returned v ∧ ∃ m, w'' = w.drewN m := h.mono fun _ _ ⟨he, hm⟩ => ⟨he, n, hm.symm⟩

/-! ### A block of the call's own that a region writes at its end (a struct result) -/
/-- Block g is n cells, none frozen. -/
def Lb (w : World) (g n : Nat) : Prop := ∃ cs T, w.heap[g]? = some (.cells cs T (0, 0)) ∧ cs.size = n
theorem Lb.lt {w : World} {g n : Nat} (h : Lb w g n) : g < w.heap.size := by
  obtain ⟨cs, T, h, _⟩ := h
  exact (Array.getElem?_eq_some_iff.1 h).1
theorem Lb.new {w : World} {g n : Nat} {cs : Array Value} {T : TypeId} (hg : g = w.heap.size) (hn : cs.size = n) : Lb (w.alloc (.cells cs T)) g n := by
  subst hg; exact ⟨cs, T, heap_alloc_new w _, hn⟩
theorem Lb.alloc {w : World} {g n : Nat} {o : Obj} (h : Lb w g n) : Lb (w.alloc o) g n := by
  have := h.lt
  obtain ⟨cs, T, h, hn⟩ := h
  exact ⟨cs, T, (Below.heap_alloc w o g this).trans h, hn⟩
theorem Lb.drew {w : World} {g n : Nat} (h : Lb w g n) : Lb w.drew g n := h
theorem Lb.ex {w w' : World} {g n : Nat} (h : Lb w g n) (hb : Ex w w') : Lb w' g n := by
  have := h.lt
  obtain ⟨cs, T, h, hn⟩ := h
  exact ⟨cs, T, (hb.block g this (fun h => h)).trans h, hn⟩
theorem Lb.chk {S : Nat → Prop} {w w' : World} {g n : Nat} (hb : Ch S w w') (h : Lb w g n) (hS : ¬ S g) : Lb w' g n := by
  have := h.lt
  obtain ⟨cs, T, h, hn⟩ := h
  exact ⟨cs, T, (hb.block g this hS).trans h, hn⟩
theorem Lb.low {w w' : World} {g n lo : Nat} (hb : ∀ b, b < lo → w'.heap[b]? = w.heap[b]?) (hg : g < lo) (h : Lb w g n) : Lb w' g n := by
  obtain ⟨cs, T, h, hn⟩ := h
  exact ⟨cs, T, (hb g hg).trans h, hn⟩
theorem Lb.set {w : World} {g n : Nat} {p : Addr} {u : Value} (h : Lb w g n) : Lb (w.setCell p u) g n := by
  obtain ⟨cs, T, h, hn⟩ := h
  by_cases hp : p.block = g
  · subst hp
    refine ⟨if p.spot.isSome then cs else cs.setIfInBounds p.off u, T, ?_, ?_⟩
    · simp [World.setCell, Array.getElem?_modify, h]
    · split <;> simp [hn]
  · exact ⟨cs, T, (Below.heap_setCell w p u g (fun e => hp e.symm)).trans h, hn⟩
theorem Lb.unset {w : World} {g n : Nat} {p : Addr} {u : Value} (h : Lb (w.setCell p u) g n) : Lb w g n := by
  obtain ⟨cs, T, h, hn⟩ := h
  by_cases hp : p.block = g
  · subst hp
    simp only [World.setCell, Array.getElem?_modify, if_true] at h
    cases hh : w.heap[p.block]? with
    | none => simp [hh] at h
    | some o =>
      rw [hh] at h
      cases o with
      | cells c T' fz =>
        simp only [Option.map_some, Option.some.injEq, Obj.cells.injEq] at h
        obtain ⟨h1, h2, h3⟩ := h
        subst h2 h3
        refine ⟨c, _, hh, ?_⟩
        rw [← hn, ← h1]
        split <;> simp
      | _ => simp at h
  · exact ⟨cs, T, (Below.heap_setCell w p u g (fun e => hp e.symm)).symm.trans h, hn⟩
theorem Lb.undrew {w : World} {g n : Nat} (h : Lb w.drew g n) : Lb w g n := h
/-- What a cell holds, whatever it is: a name that simp does not open. -/
def peek (w : World) (a : Addr) : Value := (w.cell? a).getD undef
theorem Lb.rules {w : World} {g n : Nat} (h : Lb w g n) :
    (∀ i, ¬ ((⟨i, 0, none⟩ : Addr) = ⟨i - n + n, 0, none⟩) → w.cell? ⟨g, i, none⟩ = some (peek w ⟨g, i, none⟩)) ∧ (∀ i, w.frozen? ⟨g, i, none⟩ = false) := by
  obtain ⟨cs, T, h, hn⟩ := h
  refine ⟨fun i hi => ?_, fun i => by simp [World.frozen?, h]⟩
  have hlt : i < cs.size := by simp at hi; omega
  simp [peek, World.cell?, h, hlt]
abbrev HeldB (g n : Nat) (W w : World) : Prop :=
  (∀ b o, ¬ ((⟨b, 0, none⟩ : Addr) = ⟨b - W.heap.size + W.heap.size, 0, none⟩) → ¬ ((⟨b, 0, none⟩ : Addr) = ⟨g, 0, none⟩) → w.cell? ⟨b, o, none⟩ = W.cell? ⟨b, o, none⟩) ∧
  (∀ i, ¬ ((⟨i, 0, none⟩ : Addr) = ⟨i - n + n, 0, none⟩) → w.cell? ⟨g, i, none⟩ = some (peek w ⟨g, i, none⟩)) ∧ (∀ i, w.frozen? ⟨g, i, none⟩ = false) ∧ Ch (· = g) W w ∧ Lb w g n
theorem HeldB.of {g n : Nat} {W w : World} (h : Ch (· = g) W w) (k : Lb w g n) : HeldB g n W w := ⟨(Ch.rules h rfl).1, k.rules.1, k.rules.2, h, k⟩
theorem HeldB.ch {g n : Nat} {W w : World} (h : HeldB g n W w) : Ch (· = g) W w := h.2.2.2.1
theorem HeldB.lb {g n : Nat} {W w : World} (h : HeldB g n W w) : Lb w g n := h.2.2.2.2
theorem HeldB.refl {g n : Nat} {W : World} (k : Lb W g n) : HeldB g n W W := .of (Ch.refl _ _) k
theorem HeldB.drew {g n : Nat} {W w : World} (h : HeldB g n W w) : HeldB g n W w.drew := .of h.2.2.2.1.drew h.2.2.2.2.drew
theorem HeldB.start {g n : Nat} {W : World} (k : Lb W g n) : HeldB g n W W.drew := .of (Ch.refl _ _).drew k.drew
theorem HeldB.ex {g n : Nat} {W w w' : World} (h : HeldB g n W w) (k : Ex w w') : HeldB g n W w' := .of (h.ch.ex k) (h.lb.ex k)
theorem HeldB.alloc {g n : Nat} {W w : World} (h : HeldB g n W w) (o : Obj) : HeldB g n W (w.alloc o) := .of (h.ch.alloc o) h.lb.alloc
theorem HeldB.set {g n : Nat} {W w : World} {p : Addr} {u : Value} (h : HeldB g n W w) (hp : p.block = g ∨ W.heap.size ≤ p.block) : HeldB g n W (w.setCell p u) := .of (h.ch.setCell hp u) h.lb.set

/-- The same with two blocks. -/
abbrev HeldC (g n h m : Nat) (W w : World) : Prop :=
  (∀ b o, ¬ ((⟨b, 0, none⟩ : Addr) = ⟨b - W.heap.size + W.heap.size, 0, none⟩) → ¬ ((⟨b, 0, none⟩ : Addr) = ⟨g, 0, none⟩) → ¬ ((⟨b, 0, none⟩ : Addr) = ⟨h, 0, none⟩) → w.cell? ⟨b, o, none⟩ = W.cell? ⟨b, o, none⟩) ∧
  (∀ i, ¬ ((⟨i, 0, none⟩ : Addr) = ⟨i - n + n, 0, none⟩) → w.cell? ⟨g, i, none⟩ = some (peek w ⟨g, i, none⟩)) ∧ (∀ i, w.frozen? ⟨g, i, none⟩ = false) ∧
  (∀ i, ¬ ((⟨i, 0, none⟩ : Addr) = ⟨i - m + m, 0, none⟩) → w.cell? ⟨h, i, none⟩ = some (peek w ⟨h, i, none⟩)) ∧ (∀ i, w.frozen? ⟨h, i, none⟩ = false) ∧ Ch (fun k => k = g ∨ k = h) W w ∧ Lb w g n ∧ Lb w h m
theorem HeldC.of {g n h m : Nat} {W w : World} (c : Ch (fun k => k = g ∨ k = h) W w) (k : Lb w g n) (l : Lb w h m) : HeldC g n h m W w := by
  refine ⟨fun b o h1 h2 h3 => c.cell (p := ⟨b, o, none⟩) ?_ ?_, k.rules.1, k.rules.2, l.rules.1, l.rules.2, c, k, l⟩
  · simp at h1
    show b < _
    omega
  · simp at h2 h3
    show ¬ (b = g ∨ b = h)
    omega
theorem HeldC.ch {g n h m : Nat} {W w : World} (k : HeldC g n h m W w) : Ch (fun k => k = g ∨ k = h) W w := k.2.2.2.2.2.1
theorem HeldC.lb {g n h m : Nat} {W w : World} (k : HeldC g n h m W w) : Lb w g n := k.2.2.2.2.2.2.1
theorem HeldC.lc {g n h m : Nat} {W w : World} (k : HeldC g n h m W w) : Lb w h m := k.2.2.2.2.2.2.2
theorem HeldC.refl {g n h m : Nat} {W : World} (k : Lb W g n) (l : Lb W h m) : HeldC g n h m W W := .of (Ch.refl _ _) k l
theorem HeldC.start {g n h m : Nat} {W : World} (k : Lb W g n) (l : Lb W h m) : HeldC g n h m W W.drew := .of (Ch.refl _ _).drew k.drew l.drew
theorem HeldC.drew {g n h m : Nat} {W w : World} (k : HeldC g n h m W w) : HeldC g n h m W w.drew := .of k.ch.drew k.lb.drew k.lc.drew
theorem HeldC.ex {g n h m : Nat} {W w w' : World} (k : HeldC g n h m W w) (e : Ex w w') : HeldC g n h m W w' := .of (k.ch.ex e) (k.lb.ex e) (k.lc.ex e)
theorem HeldC.alloc {g n h m : Nat} {W w : World} (k : HeldC g n h m W w) (o : Obj) : HeldC g n h m W (w.alloc o) := .of (k.ch.alloc o) k.lb.alloc k.lc.alloc
theorem HeldC.set {g n h m : Nat} {W w : World} {p : Addr} {u : Value} (k : HeldC g n h m W w) (hp : (p.block = g ∨ p.block = h) ∨ W.heap.size ≤ p.block) : HeldC g n h m W (w.setCell p u) := .of (k.ch.setCell hp u) k.lb.set k.lc.set

/-! ### Cells of an older block, behind new ones: the side condition is decided by omega -/
theorem lt_of_addr {b B : Nat} (h : ¬ ((⟨b, 0, none⟩ : Addr) = ⟨b - B + B, 0, none⟩)) : b < B := by
  simp at h; omega
@[go_sem] theorem size_set_ (w : World) (p : Addr) (u : Value) : (w.setCell p u).heap.size = w.heap.size := World.size_setCell _ _ _
@[go_sem] theorem size_drewN_ (w : World) (n : Nat) : (w.drewN n).heap.size = w.heap.size := rfl
@[go_sem] theorem size_drew_ (w : World) : w.drew.heap.size = w.heap.size := rfl
@[go_sem] theorem far_cell1 (w : World) (o0 : Obj) (b i : Nat) (h : ¬ ((⟨b, 0, none⟩ : Addr) = ⟨b - w.heap.size + w.heap.size, 0, none⟩)) : (w.alloc o0).cell? ⟨b, i, none⟩ = w.cell? ⟨b, i, none⟩ := by
  have hb := lt_of_addr h
  rw [World.cell?_alloc_lt _ _ _ (by (try simp only [World.size_alloc]); omega)]
@[go_sem] theorem far_frozen1 (w : World) (o0 : Obj) (b i : Nat) (h : ¬ ((⟨b, 0, none⟩ : Addr) = ⟨b - w.heap.size + w.heap.size, 0, none⟩)) : (w.alloc o0).frozen? ⟨b, i, none⟩ = w.frozen? ⟨b, i, none⟩ := by
  have hb := lt_of_addr h
  rw [World.frozen?_alloc_past _ _ _ (by (try simp only [World.size_alloc]); omega)]
@[go_sem] theorem far_cell2 (w : World) (o0 o1 : Obj) (b i : Nat) (h : ¬ ((⟨b, 0, none⟩ : Addr) = ⟨b - w.heap.size + w.heap.size, 0, none⟩)) : ((w.alloc o0).alloc o1).cell? ⟨b, i, none⟩ = w.cell? ⟨b, i, none⟩ := by
  have hb := lt_of_addr h
  rw [World.cell?_alloc_lt _ _ _ (by (try simp only [World.size_alloc]); omega)]
  rw [World.cell?_alloc_lt _ _ _ (by (try simp only [World.size_alloc]); omega)]
@[go_sem] theorem far_frozen2 (w : World) (o0 o1 : Obj) (b i : Nat) (h : ¬ ((⟨b, 0, none⟩ : Addr) = ⟨b - w.heap.size + w.heap.size, 0, none⟩)) : ((w.alloc o0).alloc o1).frozen? ⟨b, i, none⟩ = w.frozen? ⟨b, i, none⟩ := by
  have hb := lt_of_addr h
  rw [World.frozen?_alloc_past _ _ _ (by (try simp only [World.size_alloc]); omega)]
  rw [World.frozen?_alloc_past _ _ _ (by (try simp only [World.size_alloc]); omega)]
@[go_sem] theorem far_cell3 (w : World) (o0 o1 o2 : Obj) (b i : Nat) (h : ¬ ((⟨b, 0, none⟩ : Addr) = ⟨b - w.heap.size + w.heap.size, 0, none⟩)) : (((w.alloc o0).alloc o1).alloc o2).cell? ⟨b, i, none⟩ = w.cell? ⟨b, i, none⟩ := by
  have hb := lt_of_addr h
  rw [World.cell?_alloc_lt _ _ _ (by (try simp only [World.size_alloc]); omega)]
  rw [World.cell?_alloc_lt _ _ _ (by (try simp only [World.size_alloc]); omega)]
  rw [World.cell?_alloc_lt _ _ _ (by (try simp only [World.size_alloc]); omega)]
@[go_sem] theorem far_frozen3 (w : World) (o0 o1 o2 : Obj) (b i : Nat) (h : ¬ ((⟨b, 0, none⟩ : Addr) = ⟨b - w.heap.size + w.heap.size, 0, none⟩)) : (((w.alloc o0).alloc o1).alloc o2).frozen? ⟨b, i, none⟩ = w.frozen? ⟨b, i, none⟩ := by
  have hb := lt_of_addr h
  rw [World.frozen?_alloc_past _ _ _ (by (try simp only [World.size_alloc]); omega)]
  rw [World.frozen?_alloc_past _ _ _ (by (try simp only [World.size_alloc]); omega)]
  rw [World.frozen?_alloc_past _ _ _ (by (try simp only [World.size_alloc]); omega)]
@[go_sem] theorem far_cell4 (w : World) (o0 o1 o2 o3 : Obj) (b i : Nat) (h : ¬ ((⟨b, 0, none⟩ : Addr) = ⟨b - w.heap.size + w.heap.size, 0, none⟩)) : ((((w.alloc o0).alloc o1).alloc o2).alloc o3).cell? ⟨b, i, none⟩ = w.cell? ⟨b, i, none⟩ := by
  have hb := lt_of_addr h
  rw [World.cell?_alloc_lt _ _ _ (by (try simp only [World.size_alloc]); omega)]
  rw [World.cell?_alloc_lt _ _ _ (by (try simp only [World.size_alloc]); omega)]
  rw [World.cell?_alloc_lt _ _ _ (by (try simp only [World.size_alloc]); omega)]
  rw [World.cell?_alloc_lt _ _ _ (by (try simp only [World.size_alloc]); omega)]
@[go_sem] theorem far_frozen4 (w : World) (o0 o1 o2 o3 : Obj) (b i : Nat) (h : ¬ ((⟨b, 0, none⟩ : Addr) = ⟨b - w.heap.size + w.heap.size, 0, none⟩)) : ((((w.alloc o0).alloc o1).alloc o2).alloc o3).frozen? ⟨b, i, none⟩ = w.frozen? ⟨b, i, none⟩ := by
  have hb := lt_of_addr h
  rw [World.frozen?_alloc_past _ _ _ (by (try simp only [World.size_alloc]); omega)]
  rw [World.frozen?_alloc_past _ _ _ (by (try simp only [World.size_alloc]); omega)]
  rw [World.frozen?_alloc_past _ _ _ (by (try simp only [World.size_alloc]); omega)]
  rw [World.frozen?_alloc_past _ _ _ (by (try simp only [World.size_alloc]); omega)]
@[go_sem] theorem far_cell5 (w : World) (o0 o1 o2 o3 o4 : Obj) (b i : Nat) (h : ¬ ((⟨b, 0, none⟩ : Addr) = ⟨b - w.heap.size + w.heap.size, 0, none⟩)) : (((((w.alloc o0).alloc o1).alloc o2).alloc o3).alloc o4).cell? ⟨b, i, none⟩ = w.cell? ⟨b, i, none⟩ := by
  have hb := lt_of_addr h
  rw [World.cell?_alloc_lt _ _ _ (by (try simp only [World.size_alloc]); omega)]
  rw [World.cell?_alloc_lt _ _ _ (by (try simp only [World.size_alloc]); omega)]
  rw [World.cell?_alloc_lt _ _ _ (by (try simp only [World.size_alloc]); omega)]
  rw [World.cell?_alloc_lt _ _ _ (by (try simp only [World.size_alloc]); omega)]
  rw [World.cell?_alloc_lt _ _ _ (by (try simp only [World.size_alloc]); omega)]
@[go_sem] theorem far_frozen5 (w : World) (o0 o1 o2 o3 o4 : Obj) (b i : Nat) (h : ¬ ((⟨b, 0, none⟩ : Addr) = ⟨b - w.heap.size + w.heap.size, 0, none⟩)) : (((((w.alloc o0).alloc o1).alloc o2).alloc o3).alloc o4).frozen? ⟨b, i, none⟩ = w.frozen? ⟨b, i, none⟩ := by
  have hb := lt_of_addr h
  rw [World.frozen?_alloc_past _ _ _ (by (try simp only [World.size_alloc]); omega)]
  rw [World.frozen?_alloc_past _ _ _ (by (try simp only [World.size_alloc]); omega)]
  rw [World.frozen?_alloc_past _ _ _ (by (try simp only [World.size_alloc]); omega)]
  rw [World.frozen?_alloc_past _ _ _ (by (try simp only [World.size_alloc]); omega)]
  rw [World.frozen?_alloc_past _ _ _ (by (try simp only [World.size_alloc]); omega)]
@[go_sem] theorem far_cell6 (w : World) (o0 o1 o2 o3 o4 o5 : Obj) (b i : Nat) (h : ¬ ((⟨b, 0, none⟩ : Addr) = ⟨b - w.heap.size + w.heap.size, 0, none⟩)) : ((((((w.alloc o0).alloc o1).alloc o2).alloc o3).alloc o4).alloc o5).cell? ⟨b, i, none⟩ = w.cell? ⟨b, i, none⟩ := by
  have hb := lt_of_addr h
  rw [World.cell?_alloc_lt _ _ _ (by (try simp only [World.size_alloc]); omega)]
  rw [World.cell?_alloc_lt _ _ _ (by (try simp only [World.size_alloc]); omega)]
  rw [World.cell?_alloc_lt _ _ _ (by (try simp only [World.size_alloc]); omega)]
  rw [World.cell?_alloc_lt _ _ _ (by (try simp only [World.size_alloc]); omega)]
  rw [World.cell?_alloc_lt _ _ _ (by (try simp only [World.size_alloc]); omega)]
  rw [World.cell?_alloc_lt _ _ _ (by (try simp only [World.size_alloc]); omega)]
@[go_sem] theorem far_frozen6 (w : World) (o0 o1 o2 o3 o4 o5 : Obj) (b i : Nat) (h : ¬ ((⟨b, 0, none⟩ : Addr) = ⟨b - w.heap.size + w.heap.size, 0, none⟩)) : ((((((w.alloc o0).alloc o1).alloc o2).alloc o3).alloc o4).alloc o5).frozen? ⟨b, i, none⟩ = w.frozen? ⟨b, i, none⟩ := by
  have hb := lt_of_addr h
  rw [World.frozen?_alloc_past _ _ _ (by (try simp only [World.size_alloc]); omega)]
  rw [World.frozen?_alloc_past _ _ _ (by (try simp only [World.size_alloc]); omega)]
  rw [World.frozen?_alloc_past _ _ _ (by (try simp only [World.size_alloc]); omega)]
  rw [World.frozen?_alloc_past _ _ _ (by (try simp only [World.size_alloc]); omega)]
  rw [World.frozen?_alloc_past _ _ _ (by (try simp only [World.size_alloc]); omega)]
  rw [World.frozen?_alloc_past _ _ _ (by (try simp only [World.size_alloc]); omega)]
@[go_sem] theorem far_set1 (w : World) (p : Addr) (u : Value) (o0 : Obj) (b i : Nat) (h : ¬ ((⟨b, 0, none⟩ : Addr) = ⟨b - w.heap.size + w.heap.size, 0, none⟩)) : ((w.setCell p u).alloc o0).cell? ⟨b, i, none⟩ = (w.setCell p u).cell? ⟨b, i, none⟩ := by
  have hb := lt_of_addr h
  rw [World.cell?_alloc_lt _ _ _ (by (try simp only [World.size_alloc, World.size_setCell]); omega)]
@[go_sem] theorem far_set2 (w : World) (p : Addr) (u : Value) (o0 o1 : Obj) (b i : Nat) (h : ¬ ((⟨b, 0, none⟩ : Addr) = ⟨b - w.heap.size + w.heap.size, 0, none⟩)) : (((w.setCell p u).alloc o0).alloc o1).cell? ⟨b, i, none⟩ = (w.setCell p u).cell? ⟨b, i, none⟩ := by
  have hb := lt_of_addr h
  rw [World.cell?_alloc_lt _ _ _ (by (try simp only [World.size_alloc, World.size_setCell]); omega)]
  rw [World.cell?_alloc_lt _ _ _ (by (try simp only [World.size_alloc, World.size_setCell]); omega)]
@[go_sem] theorem far_set3 (w : World) (p : Addr) (u : Value) (o0 o1 o2 : Obj) (b i : Nat) (h : ¬ ((⟨b, 0, none⟩ : Addr) = ⟨b - w.heap.size + w.heap.size, 0, none⟩)) : ((((w.setCell p u).alloc o0).alloc o1).alloc o2).cell? ⟨b, i, none⟩ = (w.setCell p u).cell? ⟨b, i, none⟩ := by
  have hb := lt_of_addr h
  rw [World.cell?_alloc_lt _ _ _ (by (try simp only [World.size_alloc, World.size_setCell]); omega)]
  rw [World.cell?_alloc_lt _ _ _ (by (try simp only [World.size_alloc, World.size_setCell]); omega)]
  rw [World.cell?_alloc_lt _ _ _ (by (try simp only [World.size_alloc, World.size_setCell]); omega)]

@[go_sem] theorem far_s11f (w : World) (p0 : Addr) (u0 : Value) (o0 : Obj) (b i : Nat) (h : ¬ ((⟨b, 0, none⟩ : Addr) = ⟨b - w.heap.size + w.heap.size, 0, none⟩)) : ((w.setCell p0 u0).alloc o0).frozen? ⟨b, i, none⟩ = (w.setCell p0 u0).frozen? ⟨b, i, none⟩ := by
  have hb := lt_of_addr h
  rw [World.frozen?_alloc_past _ _ _ (by (try simp only [World.size_alloc, World.size_setCell]); omega)]
@[go_sem] theorem far_s12f (w : World) (p0 : Addr) (u0 : Value) (o0 o1 : Obj) (b i : Nat) (h : ¬ ((⟨b, 0, none⟩ : Addr) = ⟨b - w.heap.size + w.heap.size, 0, none⟩)) : (((w.setCell p0 u0).alloc o0).alloc o1).frozen? ⟨b, i, none⟩ = (w.setCell p0 u0).frozen? ⟨b, i, none⟩ := by
  have hb := lt_of_addr h
  rw [World.frozen?_alloc_past _ _ _ (by (try simp only [World.size_alloc, World.size_setCell]); omega)]
  rw [World.frozen?_alloc_past _ _ _ (by (try simp only [World.size_alloc, World.size_setCell]); omega)]
@[go_sem] theorem far_s13f (w : World) (p0 : Addr) (u0 : Value) (o0 o1 o2 : Obj) (b i : Nat) (h : ¬ ((⟨b, 0, none⟩ : Addr) = ⟨b - w.heap.size + w.heap.size, 0, none⟩)) : ((((w.setCell p0 u0).alloc o0).alloc o1).alloc o2).frozen? ⟨b, i, none⟩ = (w.setCell p0 u0).frozen? ⟨b, i, none⟩ := by
  have hb := lt_of_addr h
  rw [World.frozen?_alloc_past _ _ _ (by (try simp only [World.size_alloc, World.size_setCell]); omega)]
  rw [World.frozen?_alloc_past _ _ _ (by (try simp only [World.size_alloc, World.size_setCell]); omega)]
  rw [World.frozen?_alloc_past _ _ _ (by (try simp only [World.size_alloc, World.size_setCell]); omega)]
@[go_sem] theorem far_s21c (w : World) (p0 : Addr) (u0 : Value) (p1 : Addr) (u1 : Value) (o0 : Obj) (b i : Nat) (h : ¬ ((⟨b, 0, none⟩ : Addr) = ⟨b - w.heap.size + w.heap.size, 0, none⟩)) : (((w.setCell p0 u0).setCell p1 u1).alloc o0).cell? ⟨b, i, none⟩ = ((w.setCell p0 u0).setCell p1 u1).cell? ⟨b, i, none⟩ := by
  have hb := lt_of_addr h
  rw [World.cell?_alloc_lt _ _ _ (by (try simp only [World.size_alloc, World.size_setCell]); omega)]
@[go_sem] theorem far_s21f (w : World) (p0 : Addr) (u0 : Value) (p1 : Addr) (u1 : Value) (o0 : Obj) (b i : Nat) (h : ¬ ((⟨b, 0, none⟩ : Addr) = ⟨b - w.heap.size + w.heap.size, 0, none⟩)) : (((w.setCell p0 u0).setCell p1 u1).alloc o0).frozen? ⟨b, i, none⟩ = ((w.setCell p0 u0).setCell p1 u1).frozen? ⟨b, i, none⟩ := by
  have hb := lt_of_addr h
  rw [World.frozen?_alloc_past _ _ _ (by (try simp only [World.size_alloc, World.size_setCell]); omega)]
@[go_sem] theorem far_s22c (w : World) (p0 : Addr) (u0 : Value) (p1 : Addr) (u1 : Value) (o0 o1 : Obj) (b i : Nat) (h : ¬ ((⟨b, 0, none⟩ : Addr) = ⟨b - w.heap.size + w.heap.size, 0, none⟩)) : ((((w.setCell p0 u0).setCell p1 u1).alloc o0).alloc o1).cell? ⟨b, i, none⟩ = ((w.setCell p0 u0).setCell p1 u1).cell? ⟨b, i, none⟩ := by
  have hb := lt_of_addr h
  rw [World.cell?_alloc_lt _ _ _ (by (try simp only [World.size_alloc, World.size_setCell]); omega)]
  rw [World.cell?_alloc_lt _ _ _ (by (try simp only [World.size_alloc, World.size_setCell]); omega)]
@[go_sem] theorem far_s22f (w : World) (p0 : Addr) (u0 : Value) (p1 : Addr) (u1 : Value) (o0 o1 : Obj) (b i : Nat) (h : ¬ ((⟨b, 0, none⟩ : Addr) = ⟨b - w.heap.size + w.heap.size, 0, none⟩)) : ((((w.setCell p0 u0).setCell p1 u1).alloc o0).alloc o1).frozen? ⟨b, i, none⟩ = ((w.setCell p0 u0).setCell p1 u1).frozen? ⟨b, i, none⟩ := by
  have hb := lt_of_addr h
  rw [World.frozen?_alloc_past _ _ _ (by (try simp only [World.size_alloc, World.size_setCell]); omega)]
  rw [World.frozen?_alloc_past _ _ _ (by (try simp only [World.size_alloc, World.size_setCell]); omega)]
@[go_sem] theorem far_s23c (w : World) (p0 : Addr) (u0 : Value) (p1 : Addr) (u1 : Value) (o0 o1 o2 : Obj) (b i : Nat) (h : ¬ ((⟨b, 0, none⟩ : Addr) = ⟨b - w.heap.size + w.heap.size, 0, none⟩)) : (((((w.setCell p0 u0).setCell p1 u1).alloc o0).alloc o1).alloc o2).cell? ⟨b, i, none⟩ = ((w.setCell p0 u0).setCell p1 u1).cell? ⟨b, i, none⟩ := by
  have hb := lt_of_addr h
  rw [World.cell?_alloc_lt _ _ _ (by (try simp only [World.size_alloc, World.size_setCell]); omega)]
  rw [World.cell?_alloc_lt _ _ _ (by (try simp only [World.size_alloc, World.size_setCell]); omega)]
  rw [World.cell?_alloc_lt _ _ _ (by (try simp only [World.size_alloc, World.size_setCell]); omega)]
@[go_sem] theorem far_s23f (w : World) (p0 : Addr) (u0 : Value) (p1 : Addr) (u1 : Value) (o0 o1 o2 : Obj) (b i : Nat) (h : ¬ ((⟨b, 0, none⟩ : Addr) = ⟨b - w.heap.size + w.heap.size, 0, none⟩)) : (((((w.setCell p0 u0).setCell p1 u1).alloc o0).alloc o1).alloc o2).frozen? ⟨b, i, none⟩ = ((w.setCell p0 u0).setCell p1 u1).frozen? ⟨b, i, none⟩ := by
  have hb := lt_of_addr h
  rw [World.frozen?_alloc_past _ _ _ (by (try simp only [World.size_alloc, World.size_setCell]); omega)]
  rw [World.frozen?_alloc_past _ _ _ (by (try simp only [World.size_alloc, World.size_setCell]); omega)]
  rw [World.frozen?_alloc_past _ _ _ (by (try simp only [World.size_alloc, World.size_setCell]); omega)]
@[go_sem] theorem far_s31c (w : World) (p0 : Addr) (u0 : Value) (p1 : Addr) (u1 : Value) (p2 : Addr) (u2 : Value) (o0 : Obj) (b i : Nat) (h : ¬ ((⟨b, 0, none⟩ : Addr) = ⟨b - w.heap.size + w.heap.size, 0, none⟩)) : ((((w.setCell p0 u0).setCell p1 u1).setCell p2 u2).alloc o0).cell? ⟨b, i, none⟩ = (((w.setCell p0 u0).setCell p1 u1).setCell p2 u2).cell? ⟨b, i, none⟩ := by
  have hb := lt_of_addr h
  rw [World.cell?_alloc_lt _ _ _ (by (try simp only [World.size_alloc, World.size_setCell]); omega)]
@[go_sem] theorem far_s31f (w : World) (p0 : Addr) (u0 : Value) (p1 : Addr) (u1 : Value) (p2 : Addr) (u2 : Value) (o0 : Obj) (b i : Nat) (h : ¬ ((⟨b, 0, none⟩ : Addr) = ⟨b - w.heap.size + w.heap.size, 0, none⟩)) : ((((w.setCell p0 u0).setCell p1 u1).setCell p2 u2).alloc o0).frozen? ⟨b, i, none⟩ = (((w.setCell p0 u0).setCell p1 u1).setCell p2 u2).frozen? ⟨b, i, none⟩ := by
  have hb := lt_of_addr h
  rw [World.frozen?_alloc_past _ _ _ (by (try simp only [World.size_alloc, World.size_setCell]); omega)]
@[go_sem] theorem far_s32c (w : World) (p0 : Addr) (u0 : Value) (p1 : Addr) (u1 : Value) (p2 : Addr) (u2 : Value) (o0 o1 : Obj) (b i : Nat) (h : ¬ ((⟨b, 0, none⟩ : Addr) = ⟨b - w.heap.size + w.heap.size, 0, none⟩)) : (((((w.setCell p0 u0).setCell p1 u1).setCell p2 u2).alloc o0).alloc o1).cell? ⟨b, i, none⟩ = (((w.setCell p0 u0).setCell p1 u1).setCell p2 u2).cell? ⟨b, i, none⟩ := by
  have hb := lt_of_addr h
  rw [World.cell?_alloc_lt _ _ _ (by (try simp only [World.size_alloc, World.size_setCell]); omega)]
  rw [World.cell?_alloc_lt _ _ _ (by (try simp only [World.size_alloc, World.size_setCell]); omega)]
@[go_sem] theorem far_s32f (w : World) (p0 : Addr) (u0 : Value) (p1 : Addr) (u1 : Value) (p2 : Addr) (u2 : Value) (o0 o1 : Obj) (b i : Nat) (h : ¬ ((⟨b, 0, none⟩ : Addr) = ⟨b - w.heap.size + w.heap.size, 0, none⟩)) : (((((w.setCell p0 u0).setCell p1 u1).setCell p2 u2).alloc o0).alloc o1).frozen? ⟨b, i, none⟩ = (((w.setCell p0 u0).setCell p1 u1).setCell p2 u2).frozen? ⟨b, i, none⟩ := by
  have hb := lt_of_addr h
  rw [World.frozen?_alloc_past _ _ _ (by (try simp only [World.size_alloc, World.size_setCell]); omega)]
  rw [World.frozen?_alloc_past _ _ _ (by (try simp only [World.size_alloc, World.size_setCell]); omega)]
@[go_sem] theorem far_s33c (w : World) (p0 : Addr) (u0 : Value) (p1 : Addr) (u1 : Value) (p2 : Addr) (u2 : Value) (o0 o1 o2 : Obj) (b i : Nat) (h : ¬ ((⟨b, 0, none⟩ : Addr) = ⟨b - w.heap.size + w.heap.size, 0, none⟩)) : ((((((w.setCell p0 u0).setCell p1 u1).setCell p2 u2).alloc o0).alloc o1).alloc o2).cell? ⟨b, i, none⟩ = (((w.setCell p0 u0).setCell p1 u1).setCell p2 u2).cell? ⟨b, i, none⟩ := by
  have hb := lt_of_addr h
  rw [World.cell?_alloc_lt _ _ _ (by (try simp only [World.size_alloc, World.size_setCell]); omega)]
  rw [World.cell?_alloc_lt _ _ _ (by (try simp only [World.size_alloc, World.size_setCell]); omega)]
  rw [World.cell?_alloc_lt _ _ _ (by (try simp only [World.size_alloc, World.size_setCell]); omega)]
@[go_sem] theorem far_s33f (w : World) (p0 : Addr) (u0 : Value) (p1 : Addr) (u1 : Value) (p2 : Addr) (u2 : Value) (o0 o1 o2 : Obj) (b i : Nat) (h : ¬ ((⟨b, 0, none⟩ : Addr) = ⟨b - w.heap.size + w.heap.size, 0, none⟩)) : ((((((w.setCell p0 u0).setCell p1 u1).setCell p2 u2).alloc o0).alloc o1).alloc o2).frozen? ⟨b, i, none⟩ = (((w.setCell p0 u0).setCell p1 u1).setCell p2 u2).frozen? ⟨b, i, none⟩ := by
  have hb := lt_of_addr h
  rw [World.frozen?_alloc_past _ _ _ (by (try simp only [World.size_alloc, World.size_setCell]); omega)]
  rw [World.frozen?_alloc_past _ _ _ (by (try simp only [World.size_alloc, World.size_setCell]); omega)]
  rw [World.frozen?_alloc_past _ _ _ (by (try simp only [World.size_alloc, World.size_setCell]); omega)]
@[go_sem] theorem far_s41c (w : World) (p0 : Addr) (u0 : Value) (p1 : Addr) (u1 : Value) (p2 : Addr) (u2 : Value) (p3 : Addr) (u3 : Value) (o0 : Obj) (b i : Nat) (h : ¬ ((⟨b, 0, none⟩ : Addr) = ⟨b - w.heap.size + w.heap.size, 0, none⟩)) : (((((w.setCell p0 u0).setCell p1 u1).setCell p2 u2).setCell p3 u3).alloc o0).cell? ⟨b, i, none⟩ = ((((w.setCell p0 u0).setCell p1 u1).setCell p2 u2).setCell p3 u3).cell? ⟨b, i, none⟩ := by
  have hb := lt_of_addr h
  rw [World.cell?_alloc_lt _ _ _ (by (try simp only [World.size_alloc, World.size_setCell]); omega)]
@[go_sem] theorem far_s41f (w : World) (p0 : Addr) (u0 : Value) (p1 : Addr) (u1 : Value) (p2 : Addr) (u2 : Value) (p3 : Addr) (u3 : Value) (o0 : Obj) (b i : Nat) (h : ¬ ((⟨b, 0, none⟩ : Addr) = ⟨b - w.heap.size + w.heap.size, 0, none⟩)) : (((((w.setCell p0 u0).setCell p1 u1).setCell p2 u2).setCell p3 u3).alloc o0).frozen? ⟨b, i, none⟩ = ((((w.setCell p0 u0).setCell p1 u1).setCell p2 u2).setCell p3 u3).frozen? ⟨b, i, none⟩ := by
  have hb := lt_of_addr h
  rw [World.frozen?_alloc_past _ _ _ (by (try simp only [World.size_alloc, World.size_setCell]); omega)]
@[go_sem] theorem far_s42c (w : World) (p0 : Addr) (u0 : Value) (p1 : Addr) (u1 : Value) (p2 : Addr) (u2 : Value) (p3 : Addr) (u3 : Value) (o0 o1 : Obj) (b i : Nat) (h : ¬ ((⟨b, 0, none⟩ : Addr) = ⟨b - w.heap.size + w.heap.size, 0, none⟩)) : ((((((w.setCell p0 u0).setCell p1 u1).setCell p2 u2).setCell p3 u3).alloc o0).alloc o1).cell? ⟨b, i, none⟩ = ((((w.setCell p0 u0).setCell p1 u1).setCell p2 u2).setCell p3 u3).cell? ⟨b, i, none⟩ := by
  have hb := lt_of_addr h
  rw [World.cell?_alloc_lt _ _ _ (by (try simp only [World.size_alloc, World.size_setCell]); omega)]
  rw [World.cell?_alloc_lt _ _ _ (by (try simp only [World.size_alloc, World.size_setCell]); omega)]
@[go_sem] theorem far_s42f (w : World) (p0 : Addr) (u0 : Value) (p1 : Addr) (u1 : Value) (p2 : Addr) (u2 : Value) (p3 : Addr) (u3 : Value) (o0 o1 : Obj) (b i : Nat) (h : ¬ ((⟨b, 0, none⟩ : Addr) = ⟨b - w.heap.size + w.heap.size, 0, none⟩)) : ((((((w.setCell p0 u0).setCell p1 u1).setCell p2 u2).setCell p3 u3).alloc o0).alloc o1).frozen? ⟨b, i, none⟩ = ((((w.setCell p0 u0).setCell p1 u1).setCell p2 u2).setCell p3 u3).frozen? ⟨b, i, none⟩ := by
  have hb := lt_of_addr h
  rw [World.frozen?_alloc_past _ _ _ (by (try simp only [World.size_alloc, World.size_setCell]); omega)]
  rw [World.frozen?_alloc_past _ _ _ (by (try simp only [World.size_alloc, World.size_setCell]); omega)]
@[go_sem] theorem far_s43c (w : World) (p0 : Addr) (u0 : Value) (p1 : Addr) (u1 : Value) (p2 : Addr) (u2 : Value) (p3 : Addr) (u3 : Value) (o0 o1 o2 : Obj) (b i : Nat) (h : ¬ ((⟨b, 0, none⟩ : Addr) = ⟨b - w.heap.size + w.heap.size, 0, none⟩)) : (((((((w.setCell p0 u0).setCell p1 u1).setCell p2 u2).setCell p3 u3).alloc o0).alloc o1).alloc o2).cell? ⟨b, i, none⟩ = ((((w.setCell p0 u0).setCell p1 u1).setCell p2 u2).setCell p3 u3).cell? ⟨b, i, none⟩ := by
  have hb := lt_of_addr h
  rw [World.cell?_alloc_lt _ _ _ (by (try simp only [World.size_alloc, World.size_setCell]); omega)]
  rw [World.cell?_alloc_lt _ _ _ (by (try simp only [World.size_alloc, World.size_setCell]); omega)]
  rw [World.cell?_alloc_lt _ _ _ (by (try simp only [World.size_alloc, World.size_setCell]); omega)]
@[go_sem] theorem far_s43f (w : World) (p0 : Addr) (u0 : Value) (p1 : Addr) (u1 : Value) (p2 : Addr) (u2 : Value) (p3 : Addr) (u3 : Value) (o0 o1 o2 : Obj) (b i : Nat) (h : ¬ ((⟨b, 0, none⟩ : Addr) = ⟨b - w.heap.size + w.heap.size, 0, none⟩)) : (((((((w.setCell p0 u0).setCell p1 u1).setCell p2 u2).setCell p3 u3).alloc o0).alloc o1).alloc o2).frozen? ⟨b, i, none⟩ = ((((w.setCell p0 u0).setCell p1 u1).setCell p2 u2).setCell p3 u3).frozen? ⟨b, i, none⟩ := by
  have hb := lt_of_addr h
  rw [World.frozen?_alloc_past _ _ _ (by (try simp only [World.size_alloc, World.size_setCell]); omega)]
  rw [World.frozen?_alloc_past _ _ _ (by (try simp only [World.size_alloc, World.size_setCell]); omega)]
  rw [World.frozen?_alloc_past _ _ _ (by (try simp only [World.size_alloc, World.size_setCell]); omega)]
@[go_sem] theorem far_s51c (w : World) (p0 : Addr) (u0 : Value) (p1 : Addr) (u1 : Value) (p2 : Addr) (u2 : Value) (p3 : Addr) (u3 : Value) (p4 : Addr) (u4 : Value) (o0 : Obj) (b i : Nat) (h : ¬ ((⟨b, 0, none⟩ : Addr) = ⟨b - w.heap.size + w.heap.size, 0, none⟩)) : ((((((w.setCell p0 u0).setCell p1 u1).setCell p2 u2).setCell p3 u3).setCell p4 u4).alloc o0).cell? ⟨b, i, none⟩ = (((((w.setCell p0 u0).setCell p1 u1).setCell p2 u2).setCell p3 u3).setCell p4 u4).cell? ⟨b, i, none⟩ := by
  have hb := lt_of_addr h
  rw [World.cell?_alloc_lt _ _ _ (by (try simp only [World.size_alloc, World.size_setCell]); omega)]
@[go_sem] theorem far_s51f (w : World) (p0 : Addr) (u0 : Value) (p1 : Addr) (u1 : Value) (p2 : Addr) (u2 : Value) (p3 : Addr) (u3 : Value) (p4 : Addr) (u4 : Value) (o0 : Obj) (b i : Nat) (h : ¬ ((⟨b, 0, none⟩ : Addr) = ⟨b - w.heap.size + w.heap.size, 0, none⟩)) : ((((((w.setCell p0 u0).setCell p1 u1).setCell p2 u2).setCell p3 u3).setCell p4 u4).alloc o0).frozen? ⟨b, i, none⟩ = (((((w.setCell p0 u0).setCell p1 u1).setCell p2 u2).setCell p3 u3).setCell p4 u4).frozen? ⟨b, i, none⟩ := by
  have hb := lt_of_addr h
  rw [World.frozen?_alloc_past _ _ _ (by (try simp only [World.size_alloc, World.size_setCell]); omega)]
@[go_sem] theorem far_s52c (w : World) (p0 : Addr) (u0 : Value) (p1 : Addr) (u1 : Value) (p2 : Addr) (u2 : Value) (p3 : Addr) (u3 : Value) (p4 : Addr) (u4 : Value) (o0 o1 : Obj) (b i : Nat) (h : ¬ ((⟨b, 0, none⟩ : Addr) = ⟨b - w.heap.size + w.heap.size, 0, none⟩)) : (((((((w.setCell p0 u0).setCell p1 u1).setCell p2 u2).setCell p3 u3).setCell p4 u4).alloc o0).alloc o1).cell? ⟨b, i, none⟩ = (((((w.setCell p0 u0).setCell p1 u1).setCell p2 u2).setCell p3 u3).setCell p4 u4).cell? ⟨b, i, none⟩ := by
  have hb := lt_of_addr h
  rw [World.cell?_alloc_lt _ _ _ (by (try simp only [World.size_alloc, World.size_setCell]); omega)]
  rw [World.cell?_alloc_lt _ _ _ (by (try simp only [World.size_alloc, World.size_setCell]); omega)]
@[go_sem] theorem far_s52f (w : World) (p0 : Addr) (u0 : Value) (p1 : Addr) (u1 : Value) (p2 : Addr) (u2 : Value) (p3 : Addr) (u3 : Value) (p4 : Addr) (u4 : Value) (o0 o1 : Obj) (b i : Nat) (h : ¬ ((⟨b, 0, none⟩ : Addr) = ⟨b - w.heap.size + w.heap.size, 0, none⟩)) : (((((((w.setCell p0 u0).setCell p1 u1).setCell p2 u2).setCell p3 u3).setCell p4 u4).alloc o0).alloc o1).frozen? ⟨b, i, none⟩ = (((((w.setCell p0 u0).setCell p1 u1).setCell p2 u2).setCell p3 u3).setCell p4 u4).frozen? ⟨b, i, none⟩ := by
  have hb := lt_of_addr h
  rw [World.frozen?_alloc_past _ _ _ (by (try simp only [World.size_alloc, World.size_setCell]); omega)]
  rw [World.frozen?_alloc_past _ _ _ (by (try simp only [World.size_alloc, World.size_setCell]); omega)]
@[go_sem] theorem far_s53c (w : World) (p0 : Addr) (u0 : Value) (p1 : Addr) (u1 : Value) (p2 : Addr) (u2 : Value) (p3 : Addr) (u3 : Value) (p4 : Addr) (u4 : Value) (o0 o1 o2 : Obj) (b i : Nat) (h : ¬ ((⟨b, 0, none⟩ : Addr) = ⟨b - w.heap.size + w.heap.size, 0, none⟩)) : ((((((((w.setCell p0 u0).setCell p1 u1).setCell p2 u2).setCell p3 u3).setCell p4 u4).alloc o0).alloc o1).alloc o2).cell? ⟨b, i, none⟩ = (((((w.setCell p0 u0).setCell p1 u1).setCell p2 u2).setCell p3 u3).setCell p4 u4).cell? ⟨b, i, none⟩ := by
  have hb := lt_of_addr h
  rw [World.cell?_alloc_lt _ _ _ (by (try simp only [World.size_alloc, World.size_setCell]); omega)]
  rw [World.cell?_alloc_lt _ _ _ (by (try simp only [World.size_alloc, World.size_setCell]); omega)]
  rw [World.cell?_alloc_lt _ _ _ (by (try simp only [World.size_alloc, World.size_setCell]); omega)]
@[go_sem] theorem far_s53f (w : World) (p0 : Addr) (u0 : Value) (p1 : Addr) (u1 : Value) (p2 : Addr) (u2 : Value) (p3 : Addr) (u3 : Value) (p4 : Addr) (u4 : Value) (o0 o1 o2 : Obj) (b i : Nat) (h : ¬ ((⟨b, 0, none⟩ : Addr) = ⟨b - w.heap.size + w.heap.size, 0, none⟩)) : ((((((((w.setCell p0 u0).setCell p1 u1).setCell p2 u2).setCell p3 u3).setCell p4 u4).alloc o0).alloc o1).alloc o2).frozen? ⟨b, i, none⟩ = (((((w.setCell p0 u0).setCell p1 u1).setCell p2 u2).setCell p3 u3).setCell p4 u4).frozen? ⟨b, i, none⟩ := by
  have hb := lt_of_addr h
  rw [World.frozen?_alloc_past _ _ _ (by (try simp only [World.size_alloc, World.size_setCell]); omega)]
  rw [World.frozen?_alloc_past _ _ _ (by (try simp only [World.size_alloc, World.size_setCell]); omega)]
  rw [World.frozen?_alloc_past _ _ _ (by (try simp only [World.size_alloc, World.size_setCell]); omega)]
@[go_sem] theorem far_s61c (w : World) (p0 : Addr) (u0 : Value) (p1 : Addr) (u1 : Value) (p2 : Addr) (u2 : Value) (p3 : Addr) (u3 : Value) (p4 : Addr) (u4 : Value) (p5 : Addr) (u5 : Value) (o0 : Obj) (b i : Nat) (h : ¬ ((⟨b, 0, none⟩ : Addr) = ⟨b - w.heap.size + w.heap.size, 0, none⟩)) : (((((((w.setCell p0 u0).setCell p1 u1).setCell p2 u2).setCell p3 u3).setCell p4 u4).setCell p5 u5).alloc o0).cell? ⟨b, i, none⟩ = ((((((w.setCell p0 u0).setCell p1 u1).setCell p2 u2).setCell p3 u3).setCell p4 u4).setCell p5 u5).cell? ⟨b, i, none⟩ := by
  have hb := lt_of_addr h
  rw [World.cell?_alloc_lt _ _ _ (by (try simp only [World.size_alloc, World.size_setCell]); omega)]
@[go_sem] theorem far_s61f (w : World) (p0 : Addr) (u0 : Value) (p1 : Addr) (u1 : Value) (p2 : Addr) (u2 : Value) (p3 : Addr) (u3 : Value) (p4 : Addr) (u4 : Value) (p5 : Addr) (u5 : Value) (o0 : Obj) (b i : Nat) (h : ¬ ((⟨b, 0, none⟩ : Addr) = ⟨b - w.heap.size + w.heap.size, 0, none⟩)) : (((((((w.setCell p0 u0).setCell p1 u1).setCell p2 u2).setCell p3 u3).setCell p4 u4).setCell p5 u5).alloc o0).frozen? ⟨b, i, none⟩ = ((((((w.setCell p0 u0).setCell p1 u1).setCell p2 u2).setCell p3 u3).setCell p4 u4).setCell p5 u5).frozen? ⟨b, i, none⟩ := by
  have hb := lt_of_addr h
  rw [World.frozen?_alloc_past _ _ _ (by (try simp only [World.size_alloc, World.size_setCell]); omega)]
@[go_sem] theorem far_s62c (w : World) (p0 : Addr) (u0 : Value) (p1 : Addr) (u1 : Value) (p2 : Addr) (u2 : Value) (p3 : Addr) (u3 : Value) (p4 : Addr) (u4 : Value) (p5 : Addr) (u5 : Value) (o0 o1 : Obj) (b i : Nat) (h : ¬ ((⟨b, 0, none⟩ : Addr) = ⟨b - w.heap.size + w.heap.size, 0, none⟩)) : ((((((((w.setCell p0 u0).setCell p1 u1).setCell p2 u2).setCell p3 u3).setCell p4 u4).setCell p5 u5).alloc o0).alloc o1).cell? ⟨b, i, none⟩ = ((((((w.setCell p0 u0).setCell p1 u1).setCell p2 u2).setCell p3 u3).setCell p4 u4).setCell p5 u5).cell? ⟨b, i, none⟩ := by
  have hb := lt_of_addr h
  rw [World.cell?_alloc_lt _ _ _ (by (try simp only [World.size_alloc, World.size_setCell]); omega)]
  rw [World.cell?_alloc_lt _ _ _ (by (try simp only [World.size_alloc, World.size_setCell]); omega)]
@[go_sem] theorem far_s62f (w : World) (p0 : Addr) (u0 : Value) (p1 : Addr) (u1 : Value) (p2 : Addr) (u2 : Value) (p3 : Addr) (u3 : Value) (p4 : Addr) (u4 : Value) (p5 : Addr) (u5 : Value) (o0 o1 : Obj) (b i : Nat) (h : ¬ ((⟨b, 0, none⟩ : Addr) = ⟨b - w.heap.size + w.heap.size, 0, none⟩)) : ((((((((w.setCell p0 u0).setCell p1 u1).setCell p2 u2).setCell p3 u3).setCell p4 u4).setCell p5 u5).alloc o0).alloc o1).frozen? ⟨b, i, none⟩ = ((((((w.setCell p0 u0).setCell p1 u1).setCell p2 u2).setCell p3 u3).setCell p4 u4).setCell p5 u5).frozen? ⟨b, i, none⟩ := by
  have hb := lt_of_addr h
  rw [World.frozen?_alloc_past _ _ _ (by (try simp only [World.size_alloc, World.size_setCell]); omega)]
  rw [World.frozen?_alloc_past _ _ _ (by (try simp only [World.size_alloc, World.size_setCell]); omega)]
@[go_sem] theorem far_s63c (w : World) (p0 : Addr) (u0 : Value) (p1 : Addr) (u1 : Value) (p2 : Addr) (u2 : Value) (p3 : Addr) (u3 : Value) (p4 : Addr) (u4 : Value) (p5 : Addr) (u5 : Value) (o0 o1 o2 : Obj) (b i : Nat) (h : ¬ ((⟨b, 0, none⟩ : Addr) = ⟨b - w.heap.size + w.heap.size, 0, none⟩)) : (((((((((w.setCell p0 u0).setCell p1 u1).setCell p2 u2).setCell p3 u3).setCell p4 u4).setCell p5 u5).alloc o0).alloc o1).alloc o2).cell? ⟨b, i, none⟩ = ((((((w.setCell p0 u0).setCell p1 u1).setCell p2 u2).setCell p3 u3).setCell p4 u4).setCell p5 u5).cell? ⟨b, i, none⟩ := by
  have hb := lt_of_addr h
  rw [World.cell?_alloc_lt _ _ _ (by (try simp only [World.size_alloc, World.size_setCell]); omega)]
  rw [World.cell?_alloc_lt _ _ _ (by (try simp only [World.size_alloc, World.size_setCell]); omega)]
  rw [World.cell?_alloc_lt _ _ _ (by (try simp only [World.size_alloc, World.size_setCell]); omega)]
@[go_sem] theorem far_s63f (w : World) (p0 : Addr) (u0 : Value) (p1 : Addr) (u1 : Value) (p2 : Addr) (u2 : Value) (p3 : Addr) (u3 : Value) (p4 : Addr) (u4 : Value) (p5 : Addr) (u5 : Value) (o0 o1 o2 : Obj) (b i : Nat) (h : ¬ ((⟨b, 0, none⟩ : Addr) = ⟨b - w.heap.size + w.heap.size, 0, none⟩)) : (((((((((w.setCell p0 u0).setCell p1 u1).setCell p2 u2).setCell p3 u3).setCell p4 u4).setCell p5 u5).alloc o0).alloc o1).alloc o2).frozen? ⟨b, i, none⟩ = ((((((w.setCell p0 u0).setCell p1 u1).setCell p2 u2).setCell p3 u3).setCell p4 u4).setCell p5 u5).frozen? ⟨b, i, none⟩ := by
  have hb := lt_of_addr h
  rw [World.frozen?_alloc_past _ _ _ (by (try simp only [World.size_alloc, World.size_setCell]); omega)]
  rw [World.frozen?_alloc_past _ _ _ (by (try simp only [World.size_alloc, World.size_setCell]); omega)]
  rw [World.frozen?_alloc_past _ _ _ (by (try simp only [World.size_alloc, World.size_setCell]); omega)]
/-! ### What may be read -/
/-- The slice '.slice A n c' shows the cells cs, of sz cells an element; it lies in blocks from lo on. -/
structure Rd (w : World) (lo : Nat) (A : Option Addr) (c sz n : Nat) (cs : List Value) : Prop where
  len : cs.length = n * sz
  le : n ≤ c
  cap : c ≤ maxLen
  nil : A = none → c = 0
  cells : ∀ a, A = some a → 0 < n → a.spot = none ∧ lo ≤ a.block ∧ a.block < w.heap.size ∧ ∀ j u, cs[j]? = some u → w.cell? ⟨a.block, a.off + j, none⟩ = some u

theorem Rd.none_ (w : World) (lo sz : Nat) : Rd w lo none 0 sz 0 [] := ⟨by simp, Nat.le_refl _, Nat.zero_le _, fun _ => rfl, fun _ h => by cases h⟩

/-- Blocks from lo on that were there are as they were. -/
structure KF (lo : Nat) (w w' : World) : Prop where
  size : w.heap.size ≤ w'.heap.size
  block : ∀ b, lo ≤ b → b < w.heap.size → w'.heap[b]? = w.heap[b]?
theorem KF.refl (lo : Nat) (w : World) : KF lo w w := ⟨Nat.le_refl _, fun _ _ _ => rfl⟩
theorem KF.alloc {lo : Nat} {a w : World} {o : Obj} (h : KF lo a w) : KF lo a (w.alloc o) :=
  ⟨by simp; have := h.size; omega, fun i hl hi => (Below.heap_alloc _ _ _ (Nat.lt_of_lt_of_le hi h.size)).trans (h.block i hl hi)⟩
theorem KF.drew {lo : Nat} {a w : World} (h : KF lo a w) : KF lo a w.drew := ⟨h.size, h.block⟩
theorem KF.drewN {lo : Nat} {a w : World} {n : Nat} (h : KF lo a w) : KF lo a (w.drewN n) := ⟨h.size, h.block⟩
theorem KF.setCell {lo : Nat} {a w : World} {p : Addr} {u : Value} (h : KF lo a w) (hp : p.block < lo ∨ a.heap.size ≤ p.block) : KF lo a (w.setCell p u) :=
  ⟨by simpa [World.setCell] using h.size, fun i hl hi => (Below.heap_setCell _ _ _ _ (by rintro rfl; omega)).trans (h.block i hl hi)⟩
theorem KF.ex {lo : Nat} {a w w' : World} (hb : Ex w w') (h : KF lo a w) : KF lo a w' :=
  ⟨Nat.le_trans h.size hb.size, fun i hl hi => (hb.block i (Nat.lt_of_lt_of_le hi h.size) (fun h => h)).trans (h.block i hl hi)⟩
theorem KF.ch {S : Nat → Prop} {lo : Nat} {a w w' : World} (hb : Ch S w w') (h : KF lo a w) (hS : ∀ i, S i → i < lo ∨ a.heap.size ≤ i) : KF lo a w' :=
  ⟨Nat.le_trans h.size hb.size, fun i hl hi => (hb.block i (Nat.lt_of_lt_of_le hi h.size) (fun hs => by have := hS i hs; omega)).trans (h.block i hl hi)⟩
theorem KF.ch1 {g lo : Nat} {a w w' : World} (hb : Ch (· = g) w w') (h : KF lo a w) (hS : g < lo ∨ a.heap.size ≤ g) : KF lo a w' := KF.ch hb h (fun i hi => by rw [show i = g from hi]; exact hS)
theorem KF.grown {lo : Nat} {a w w' : World} {row : Option Nat} (hg : w.grownBy w' row) (h : KF lo a w) (hr : ∀ k, row = some k → k < lo ∨ a.heap.size ≤ k) : KF lo a w' :=
  ⟨Nat.le_trans h.size hg.size, fun i hl hi => (hg.block i (Nat.lt_of_lt_of_le hi h.size) (fun e => by have := hr i e.symm; omega)).trans (h.block i hl hi)⟩

/-! ### short names, for the texts that a program prints -/
theorem zA {w : World} {o : Obj} : (w.alloc o).heap.size = w.heap.size + 1 := World.size_alloc _ _
theorem zC {w : World} {a : Addr} {v : Value} : (w.setCell a v).heap.size = w.heap.size := World.size_setCell _ _ _
theorem zD {w : World} : w.drew.heap.size = w.heap.size := rfl
theorem zN {w : World} {n : Nat} : (w.drewN n).heap.size = w.heap.size := rfl
theorem kR (lo : Nat) (w : World) : KF lo w w := KF.refl lo w
theorem kA {lo : Nat} {a w : World} {o : Obj} (h : KF lo a w) : KF lo a (w.alloc o) := h.alloc
theorem kD {lo : Nat} {a w : World} (h : KF lo a w) : KF lo a w.drew := h.drew
theorem kN {lo : Nat} {a w : World} {n : Nat} (h : KF lo a w) : KF lo a (w.drewN n) := h.drewN
theorem kS {lo : Nat} {a w : World} {p : Addr} {u : Value} (h : KF lo a w) (hp : p.block < lo ∨ a.heap.size ≤ p.block) : KF lo a (w.setCell p u) := h.setCell hp
theorem kE {lo : Nat} {a w w' : World} (hb : Ex w w') (h : KF lo a w) : KF lo a w' := KF.ex hb h
theorem kC {g lo : Nat} {a w w' : World} (hb : Ch (· = g) w w') (h : KF lo a w) (hS : g < lo ∨ a.heap.size ≤ g) : KF lo a w' := KF.ch1 hb h hS
theorem cR (S : Nat → Prop) (w : World) : Ch S w w := Ch.refl S w
theorem cA {S : Nat → Prop} {a w : World} {o : Obj} (h : Ch S a w) : Ch S a (w.alloc o) := h.alloc o
theorem cD {S : Nat → Prop} {a w : World} (h : Ch S a w) : Ch S a w.drew := h.drew
theorem cN {S : Nat → Prop} {a w : World} {n : Nat} (h : Ch S a w) : Ch S a (w.drewN n) := h.drewN n
theorem cS {S : Nat → Prop} {a w : World} {p : Addr} (h : Ch S a w) (hp : S p.block ∨ a.heap.size ≤ p.block) (u : Value) : Ch S a (w.setCell p u) := h.setCell hp u
theorem cE {S : Nat → Prop} {a b c : World} (k : Ex b c) (h : Ch S a b) : Ch S a c := h.ex k
theorem cK {S : Nat → Prop} {a b c : World} (k : Ch S b c) (h : Ch S a b) : Ch S a c := h.trans k
theorem cG {S : Nat → Prop} {g : Nat} {a b c : World} (k : Ch (· = g) b c) (h : Ch S a b) (hg : a.heap.size ≤ g) : Ch S a c := Ch.chg k h hg
theorem xr {W w1 : World} (hb : Ex W w1) :
    (∀ b o, ¬ ((⟨b, 0, none⟩ : Addr) = ⟨b - W.heap.size + W.heap.size, 0, none⟩) → w1.cell? ⟨b, o, none⟩ = W.cell? ⟨b, o, none⟩) ∧
    (∀ b o, ¬ ((⟨b, 0, none⟩ : Addr) = ⟨b - W.heap.size + W.heap.size, 0, none⟩) → w1.frozen? ⟨b, o, none⟩ = W.frozen? ⟨b, o, none⟩) ∧ W.heap.size ≤ w1.heap.size := Ex.rules hb rfl
theorem xc {W w1 : World} {g : Nat} (hb : Ch (· = g) W w1) :
    (∀ b o, ¬ ((⟨b, 0, none⟩ : Addr) = ⟨b - W.heap.size + W.heap.size, 0, none⟩) → ¬ ((⟨b, 0, none⟩ : Addr) = ⟨g, 0, none⟩) → w1.cell? ⟨b, o, none⟩ = W.cell? ⟨b, o, none⟩) ∧
    (∀ b o, ¬ ((⟨b, 0, none⟩ : Addr) = ⟨b - W.heap.size + W.heap.size, 0, none⟩) → ¬ ((⟨b, 0, none⟩ : Addr) = ⟨g, 0, none⟩) → w1.frozen? ⟨b, o, none⟩ = W.frozen? ⟨b, o, none⟩) ∧ W.heap.size ≤ w1.heap.size := Ch.rules hb rfl

section
variable {w w' : World} {lo lo' c sz n : Nat} {A : Option Addr} {cs : List Value}
theorem Rd.keep (h : Rd w lo A c sz n cs) (hk : KF lo w w') : Rd w' lo A c sz n cs :=
  ⟨h.len, h.le, h.cap, h.nil, fun a ha hn => by
    obtain ⟨h1, h2, h3, h4⟩ := h.cells a ha hn
    exact ⟨h1, h2, Nat.lt_of_lt_of_le h3 hk.size, fun j u hu => (World.cell?_of_block (w := w) (a := ⟨a.block, a.off + j, none⟩) (hk.block a.block h2 h3)).trans (h4 j u hu)⟩⟩
theorem Rd.less (h : Rd w lo A c sz n cs) (hl : lo' ≤ lo) : Rd w lo' A c sz n cs :=
  ⟨h.len, h.le, h.cap, h.nil, fun a ha hn => by
    obtain ⟨h1, h2, h3, h4⟩ := h.cells a ha hn
    exact ⟨h1, Nat.le_trans hl h2, h3, h4⟩⟩
theorem Rd.of_own {base : Nat} {e : TypeId} (h : w.ownsRow base e sz (.slice A n c) n cs) : Rd w base A c sz n cs := by
  refine ⟨h.1, ?_, ?_, ?_, ?_⟩
  · rcases h.2 with ⟨hv, h0⟩ | ⟨g, cap, cur, hv, hb, hh, hn, hm, hs, ht⟩
    · injection hv; omega
    · injection hv; omega
  · rcases h.2 with ⟨hv, h0⟩ | ⟨g, cap, cur, hv, hb, hh, hn, hm, hs, ht⟩
    · injection hv with _ _ h; subst h; exact Nat.zero_le _
    · injection hv with _ _ h; subst h; exact hm
  · intro hA
    rcases h.2 with ⟨hv, h0⟩ | ⟨g, cap, cur, hv, hb, hh, hn, hm, hs, ht⟩
    · injection hv
    · injection hv with h; rw [hA] at h; cases h
  · intro a hA _
    subst hA
    rcases h.2 with ⟨hv, h0⟩ | ⟨g, cap, cur, hv, hb, hh, hn, hm, hs, ht⟩
    · injection hv with h; cases h
    · injection hv with h1 h2 h3
      obtain rfl := Option.some.inj h1
      refine ⟨rfl, hb, (Array.getElem?_eq_some_iff.1 hh).1, fun j u hu => ?_⟩
      have := h.cells (g := g) rfl j u hu
      rw [Addr.add_lit] at this
      exact this
end

/-! ### what a tactic finds: the last argument of each is found where it is used -/
theorem kf_ {p : Prop} (h : p := by with_reducible repeat (first | exact kR _ _ | apply kA | apply kD | apply kN | (refine kS ?_ (by first | omega | (simp only [zA, zC, zD, zN]; omega))) | (apply kE; assumption) | (refine kC (by assumption) ?_ (by first | omega | (simp only [zA, zC, zD, zN]; omega))))) : p := h
theorem ext_ {p : Prop} (h : p := by (with_reducible repeat (first | exact cR _ _ | apply cA | apply cD | apply cN | (refine cS ?_ (Or.inr (by first | omega | (simp only [zA, zC, zD, zN]; omega))) _) | (apply cE; assumption) | (apply cK; assumption) | (refine cG (by assumption) ?_ (by first | omega | (simp only [zA, zC, zD, zN]; omega)))))) : p := h
theorem sz_ {p : Prop} (h : p := by (first | omega | (simp only [zA, zC, zD, zN]; omega) | (simp only [zA, zC, zD, zN] at *; omega))) : p := h
theorem lbc_ {p : Prop} (h : p := by (repeat (first | with_reducible assumption | with_reducible exact Lb.new (by first | rfl | (simp only [zA, zC, zD, zN]; done)) (by with_unfolding_all rfl) | with_reducible apply Lb.alloc | with_reducible apply Lb.set | with_reducible apply Lb.drew | (with_reducible refine Lb.ex ?_ (by assumption))))) : p := h
end Go.Proofs.Ytimpagcanengoaa

namespace Go.Proofs.Ytimpagcanengoaa.Sw
set_option maxRecDepth 100000
set_option linter.unusedSimpArgs false
set_option linter.unusedVariables false
open Go.RowKit (wrap64)

/-! ### numbers -/
def inR (n lo hi : Int) : Bool := decide (lo ≤ n) && decide (n ≤ hi)
def mixOk (n : Int) : Bool := inR n 0 65520
def pair (a b : Int) : Int := (a * 8191 + b * 127 + a * b + 31) % 65521
def mixPair (a b : Int) : Int := if mixOk a && mixOk b then pair a b else 0
def leafStep (x n : Int) : Int := (x * 4099 + n % 65521 + 11) % 65521
def mixLeafFrom (x : Int) (l : List Int) : Int := l.foldl leafStep x
def mixLeaf (l : List Int) : Int := (mixLeafFrom 7 l * 31 + l.length) % 65521

/-! ### trees -/
def treOk (l : List Int) : Bool := decide (l.length ≤ 40) && l.all mixOk
def split (n : Nat) : Nat := 2 ^ Nat.log2 (n - 1)
def treSplit (n : Int) : Int := if inR n 2 40 then split n.toNat else 0
theorem split_lt {n : Nat} (h : 2 ≤ n) : split n < n := by
  unfold split
  have := Nat.log2_self_le (n := n - 1) (by omega)
  omega
theorem split_pos (n : Nat) : 0 < split n := by unfold split; exact Nat.two_pow_pos _
def root : List Int → Int
  | [] => 5
  | [x] => x
  | x :: y :: r =>
    pair (root ((x :: y :: r).take (split (r.length + 2)))) (root ((x :: y :: r).drop (split (r.length + 2))))
termination_by l => l.length
decreasing_by
  · have := split_lt (n := r.length + 2) (by omega); simp only [List.length_take, List.length_cons]; omega
  · have := split_pos (r.length + 2); simp only [List.length_drop, List.length_cons]; omega
def treRoot (l : List Int) : Int := if treOk l then root l else 0
/-- The proof of leaf i; n bounds the length. -/
def incl : Nat → List Int → Nat → List Int
  | 0, _, _ => []
  | n + 1, l, i =>
    if l.length ≤ 1 then []
    else if i < split l.length then incl n (l.take (split l.length)) i ++ [root (l.drop (split l.length))]
    else incl n (l.drop (split l.length)) (i - split l.length) ++ [root (l.take (split l.length))]
def inclusion (l : List Int) (i : Nat) : List Int := incl l.length l i
def treProof (l : List Int) (i : Int) : List Int := if treOk l && inR i 0 (l.length - 1) then inclusion l i.toNat else []
/-- What a leaf leads to; the proof from its end. -/
def upR : Nat → Nat → Int → List Int → Int × Bool
  | n, _, leaf, [] => if n ≤ 1 then (leaf, true) else (0, false)
  | n, i, leaf, last :: rest =>
    if n ≤ 1 then (leaf, false)
    else if i < split n then (pair (upR (split n) i leaf rest).1 last, (upR (split n) i leaf rest).2)
    else (pair last (upR (n - split n) (i - split n) leaf rest).1, (upR (n - split n) (i - split n) leaf rest).2)
def up (n i : Nat) (leaf : Int) (proof : List Int) : Int × Bool := upR n i leaf proof.reverse
def treUp (n i leaf : Int) (proof : List Int) : Option Int :=
  if inR n 1 40 && inR i 0 (n - 1) && mixOk leaf && treOk proof && (up n.toNat i.toNat leaf proof).2 then some (up n.toNat i.toNat leaf proof).1 else none
def treCheck (r n i leaf : Int) (proof : List Int) : Bool := treUp n i leaf proof == some r

/-! ### growth -/
def grow : Nat → List Int → Nat → Bool → List Int
  | 0, _, _, _ => []
  | n + 1, l, m, known =>
    if m = l.length then (if known then [] else [root l])
    else if m ≤ split l.length then grow n (l.take (split l.length)) m known ++ [root (l.drop (split l.length))]
    else grow n (l.drop (split l.length)) (m - split l.length) false ++ [root (l.take (split l.length))]
def growth (l : List Int) (m : Nat) (known : Bool) : List Int := grow l.length l m known
def conProof (l : List Int) (m : Int) : List Int := if treOk l && inR m 1 l.length then growth l m.toNat true else []
/-- The old root and the new one that a proof, from its end, leads to. -/
def grR : Nat → Nat → Int → List Int → Bool → Option (Int × Int)
  | m, n, old, [], known => if m = n ∧ known = true then some (old, old) else none
  | m, n, old, last :: rest, known =>
    if m = n then (if known = true then none else if rest = [] then some (last, last) else none)
    else if m ≤ split n then (grR m (split n) old rest known).map fun r => (r.1, pair r.2 last)
    else (grR (m - split n) (n - split n) old rest false).map fun r => (pair last r.1, pair last r.2)
def conCheck (m old n r : Int) (proof : List Int) : Bool :=
  inR n 1 40 && inR m 1 n && mixOk old && mixOk r && treOk proof && grR m.toNat n.toNat old proof.reverse true == some (old, r)

/-! ### entries and rows -/
structure Ent where
  kind : Int
  ticket : Int
  who : Int
  price : Int
  deriving DecidableEq
structure Row where
  who : Int
  face : Int
  used : Bool
  deriving DecidableEq
def rowZ : Row := ⟨0, 0, false⟩
def entCap (f : Int) : Int := if inR f 1 50 then f + f / 5 else 0
def entOk (e : Ent) : Bool :=
  inR e.ticket 0 7 && inR e.who 1 5 &&
    (if e.kind = 1 then inR e.price 1 50 else if e.kind = 2 then inR e.price 1 60 else decide (e.kind = 3) && decide (e.price = 0))
def entLeaf (e : Ent) : Int := mixLeaf [e.kind, e.ticket, e.who, e.price]
def rowOk (r : Row) : Bool := (decide (r.who = 0) && decide (r.face = 0) && !r.used) || (inR r.who 1 5 && inR r.face 1 50)
def ownOk (rows : List Row) : Bool := rows.all rowOk && decide (rows.length = 8)
def rowAt (rows : List Row) (t : Int) : Row := rows.getD t.toNat rowZ
def fitsRow (r : Row) (e : Ent) : Bool :=
  if e.kind = 1 then decide (r.who = 0)
  else if e.kind = 2 then decide (r.who ≠ 0) && decide (r.who ≠ e.who) && !r.used && decide (e.price ≤ entCap r.face)
  else decide (r.who = e.who) && !r.used
def ownFits (rows : List Row) (e : Ent) : Bool := ownOk rows && entOk e && fitsRow (rowAt rows e.ticket) e
def putRow (r : Row) (e : Ent) : Row :=
  if e.kind = 1 then ⟨e.who, e.price, r.used⟩ else if e.kind = 2 then ⟨e.who, r.face, r.used⟩ else ⟨r.who, r.face, true⟩
def putRows (rows : List Row) (e : Ent) : List Row := rows.set e.ticket.toNat (putRow (rowAt rows e.ticket) e)
def ownPut (rows : List Row) (e : Ent) : List Row := if ownFits rows e then putRows rows e else rows
def rows0 : List Row := List.replicate 8 rowZ
def foldFrom : List Row → List Ent → Option (List Row)
  | rows, [] => some rows
  | rows, e :: es => if ownFits rows e then foldFrom (putRows rows e) es else none
def ownFold (l : List Ent) : Option (List Row) := if l.length ≤ 40 then foldFrom rows0 l else none
def ownLeaf (t : Int) (r : Row) : Int := if inR t 0 7 then mixLeaf [1000 + t, r.who, r.face, if r.used then 1 else 0] else 0
def leavesFrom : Int → List Row → List Int
  | _, [] => []
  | t, r :: rs => ownLeaf t r :: leavesFrom (t + 1) rs
def ownLeaves (rows : List Row) : List Int := leavesFrom 0 rows
def ownRoot (rows : List Row) : Int := if ownOk rows then root (ownLeaves rows) else 0
def ownProof (rows : List Row) (t : Int) : List Int := if ownOk rows && inR t 0 7 then inclusion (ownLeaves rows) t.toNat else []
def ownCheck (r t : Int) (row : Row) (proof : List Int) : Bool := inR t 0 7 && treCheck r 8 t (ownLeaf t row) proof

/-! ### heads -/
structure Head where
  size : Int
  log : Int
  own : Int
  deriving DecidableEq
def headZ : Head := ⟨0, 0, 0⟩
def hedOk (h : Head) : Bool := inR h.size 0 40 && mixOk h.log && mixOk h.own
def hedOf (l : List Ent) : Option Head := (ownFold l).map fun rows => ⟨l.length, root (l.map entLeaf), ownRoot rows⟩
def hedFork (a b : Head) : Bool := hedOk a && hedOk b && decide (a.size = b.size) && decide (a ≠ b)
def hedFollows (old h : Head) (proof : List Int) : Bool :=
  hedOk old && hedOk h && decide (old.size ≤ h.size) && (decide (old.size ≠ h.size) || decide (old = h)) &&
    (if old.size = 0 then proof.isEmpty else conCheck old.size old.log h.size h.log proof)
def hedProof (l : List Ent) (size : Int) : List Int := if decide (l.length ≤ 40) then conProof (l.map entLeaf) size else []
def hedAt (l : List Ent) (size : Int) : Option Head := if inR size 0 l.length then hedOf (l.take size.toNat) else none

/-! ### gates -/
structure Gate where
  head : Head
  done : List Int
  deriving DecidableEq
def gateZ : Gate := ⟨headZ, []⟩
/-- Rising tickets behind a number. -/
def risesFrom : Int → List Int → Bool
  | _, [] => true
  | p, x :: xs => inR x 0 7 && decide (p < x) && risesFrom x xs
def gatOk (g : Gate) : Bool := hedOk g.head && risesFrom (-1) g.done
def gatSync (g : Gate) (h : Head) (proof : List Int) : Gate × Bool :=
  if gatOk g then (if hedFollows g.head h proof then (⟨h, g.done⟩, true) else (g, false)) else (gateZ, false)
def insert (x : Int) : List Int → List Int
  | [] => [x]
  | y :: ys => if x < y then x :: y :: ys else y :: insert x ys
def gatMay (g : Gate) (t who : Int) (r : Row) (proof : List Int) : Bool :=
  inR who 1 5 && decide (who = r.who) && !r.used && !g.done.contains t && ownCheck g.head.own t r proof
def gatShow (g : Gate) (t who : Int) (r : Row) (proof : List Int) : Gate × Bool :=
  if gatOk g then (if gatMay g t who r proof then (⟨g.head, insert t g.done⟩, true) else (g, false)) else (gateZ, false)

end Go.Proofs.Ytimpagcanengoaa.Sw

namespace Go.Proofs.Ytimpagcanengoaa
set_option maxRecDepth 100000
set_option linter.unusedSimpArgs false
set_option linter.unusedVariables false
open Go.RowKit Go

theorem Rd.at0 {w0 W : World} {lo c sz n : Nat} {A : Option Addr} {cs : List Value} (h : Rd w0 lo A c sz n cs) (hk : KF lo w0 W) : Rd W 0 A c sz n cs := (h.keep hk).less (Nat.zero_le _)

/-- A slice of elements of type α, an element's cells by enc. -/
def Rs {α : Type} (enc : α → List Value) (sz : Nat) (w : World) (lo : Nat) (A : Option Addr) (c n : Nat) (xs : List α) : Prop :=
  n = xs.length ∧ Rd w lo A c sz n (xs.flatMap enc)

section
variable {α : Type} {enc : α → List Value} {sz : Nat} {w w0 W : World} {lo lo' c n : Nat} {A : Option Addr} {xs : List α}
theorem Rs.at0 (h : Rs enc sz w0 lo A c n xs) (hk : KF lo w0 W) : Rs enc sz W 0 A c n xs := ⟨h.1, h.2.at0 hk⟩
theorem Rs.keep (h : Rs enc sz w0 lo A c n xs) (hk : KF lo w0 W) : Rs enc sz W lo A c n xs := ⟨h.1, h.2.keep hk⟩
theorem Rs.less (h : Rs enc sz w0 lo A c n xs) (hl : lo' ≤ lo) : Rs enc sz w0 lo' A c n xs := ⟨h.1, h.2.less hl⟩

theorem flat_get (hsz : ∀ x, (enc x).length = sz) : ∀ (xs : List α) (k j : Nat) (hk : k < xs.length), j < sz → (xs.flatMap enc)[k * sz + j]? = (enc xs[k])[j]? := by
  intro xs
  induction xs with
  | nil => intro k j h; simp at h
  | cons x xs ih =>
    intro k j h hj
    cases k with
    | zero =>
      simp only [List.flatMap_cons, Nat.zero_mul, Nat.zero_add, List.getElem_cons_zero]
      rw [List.getElem?_append_left (by rw [hsz]; exact hj)]
    | succ k =>
      simp only [List.flatMap_cons, List.getElem_cons_succ]
      rw [List.getElem?_append_right (by rw [hsz]; simp only [Nat.succ_mul]; omega)]
      rw [show (k + 1) * sz + j - (enc x).length = k * sz + j from by rw [hsz]; simp only [Nat.succ_mul]; omega]
      exact ih k j (by simpa using h) hj

/-- Element k: where it lies, and what its cells hold. -/
theorem Rs.at_ (h : Rs enc sz w lo A c n xs) (hsz : ∀ x, (enc x).length = sz) {k : Nat} (hk : k < n) :
    ∃ g off x, A = some ⟨g, off, none⟩ ∧ lo ≤ g ∧ g < w.heap.size ∧ xs.drop k = x :: xs.drop (k + 1) ∧ xs[k]? = some x ∧
      ∀ j u, j < sz → (enc x)[j]? = some u → w.cell? ⟨g, off + (k * sz + j), none⟩ = some u := by
  obtain ⟨rfl, h⟩ := h
  cases A with
  | none => have := h.nil rfl; have := h.le; omega
  | some a =>
    obtain ⟨h1, h2, h3, h4⟩ := h.cells a rfl (by omega)
    obtain ⟨g, off, spot⟩ := a
    dsimp only at h1 h2 h3 h4
    subst h1
    refine ⟨g, off, xs[k], rfl, h2, h3, List.drop_eq_getElem_cons hk, List.getElem?_eq_getElem hk, fun j u hj hu => h4 (k * sz + j) u ?_⟩
    rw [flat_get hsz xs k j hk hj]
    exact hu
end

/-- A slice that has just been written out. -/
theorem Rs.new {α : Type} {enc : α → List Value} {sz : Nat} {w : World} {cs : Array Value} {T : TypeId} {g n : Nat} (xs : List α) (hg : g = w.heap.size) (hcs : cs = (xs.flatMap enc).toArray) (hn : n = xs.length)
    (hsz : ∀ x, (enc x).length = sz) (hm : n ≤ 4194304) : Rs enc sz (w.alloc (.cells cs T)) 0 (some ⟨g, 0, none⟩) n n xs := by
  subst hg hcs hn
  refine ⟨rfl, ?_, Nat.le_refl _, (by unfold maxLen; omega), (fun h => by cases h), fun a ha _ => ?_⟩
  · clear hm
    induction xs with
    | nil => simp
    | cons x xs ih => simp only [List.flatMap_cons, List.length_append, hsz, ih, List.length_cons, Nat.succ_mul]; omega
  · obtain rfl := Option.some.inj ha
    refine ⟨rfl, Nat.zero_le _, by simp, fun j u hu => ?_⟩
    simpa using hu

def encI (x : Int) : List Value := [.int .i64 x]
def encB (x : Int) : List Value := [.int .u8 x]
def Sw.Ent.enc (e : Sw.Ent) : List Value := [.int .i64 e.kind, .int .i64 e.ticket, .int .i64 e.who, .int .i64 e.price]
def Sw.Row.enc (r : Sw.Row) : List Value := [.int .i64 r.who, .int .i64 r.face, .bool r.used]
def Sw.Head.enc (h : Sw.Head) : List Value := [.int .i64 h.size, .int .i64 h.log, .int .i64 h.own]
abbrev RI := Rs encI 1
abbrev RB := Rs encB 1
abbrev RE := Rs Sw.Ent.enc 4
abbrev RR := Rs Sw.Row.enc 3
abbrev RH := Rs Sw.Head.enc 3

section
variable {w : World} {lo c n k : Nat} {A : Option Addr}
theorem at_I {xs : List Int} (h : RI w lo A c n xs) (hk : k < n) :
    ∃ g off x, A = some ⟨g, off, none⟩ ∧ lo ≤ g ∧ g < w.heap.size ∧ xs.drop k = x :: xs.drop (k + 1) ∧ xs[k]? = some x ∧ w.cell? ⟨g, off + k, none⟩ = some (.int .i64 x) := by
  obtain ⟨g, off, x, h1, h2, h3, h4, h5, h6⟩ := Rs.at_ h (fun _ => rfl) hk
  exact ⟨g, off, x, h1, h2, h3, h4, h5, by simpa using h6 0 _ (by omega) rfl⟩
theorem at_B {xs : List Int} (h : RB w lo A c n xs) (hk : k < n) :
    ∃ g off x, A = some ⟨g, off, none⟩ ∧ lo ≤ g ∧ g < w.heap.size ∧ xs.drop k = x :: xs.drop (k + 1) ∧ xs[k]? = some x ∧ w.cell? ⟨g, off + k, none⟩ = some (.int .u8 x) := by
  obtain ⟨g, off, x, h1, h2, h3, h4, h5, h6⟩ := Rs.at_ h (fun _ => rfl) hk
  exact ⟨g, off, x, h1, h2, h3, h4, h5, by simpa using h6 0 _ (by omega) rfl⟩
theorem at_E {xs : List Sw.Ent} (h : RE w lo A c n xs) (hk : k < n) :
    ∃ g off x, A = some ⟨g, off, none⟩ ∧ lo ≤ g ∧ g < w.heap.size ∧ xs.drop k = x :: xs.drop (k + 1) ∧ xs[k]? = some x ∧
      w.cell? ⟨g, off + k * 4, none⟩ = some (.int .i64 x.kind) ∧ w.cell? ⟨g, off + k * 4 + 1, none⟩ = some (.int .i64 x.ticket) ∧
      w.cell? ⟨g, off + k * 4 + 2, none⟩ = some (.int .i64 x.who) ∧ w.cell? ⟨g, off + k * 4 + 3, none⟩ = some (.int .i64 x.price) := by
  obtain ⟨g, off, x, h1, h2, h3, h4, h5, h6⟩ := Rs.at_ h (fun _ => rfl) hk
  exact ⟨g, off, x, h1, h2, h3, h4, h5, by simpa using h6 0 _ (by omega) rfl, h6 1 _ (by omega) rfl, h6 2 _ (by omega) rfl, h6 3 _ (by omega) rfl⟩
theorem at_R {xs : List Sw.Row} (h : RR w lo A c n xs) (hk : k < n) :
    ∃ g off x, A = some ⟨g, off, none⟩ ∧ lo ≤ g ∧ g < w.heap.size ∧ xs.drop k = x :: xs.drop (k + 1) ∧ xs[k]? = some x ∧
      w.cell? ⟨g, off + k * 3, none⟩ = some (.int .i64 x.who) ∧ w.cell? ⟨g, off + k * 3 + 1, none⟩ = some (.int .i64 x.face) ∧
      w.cell? ⟨g, off + k * 3 + 2, none⟩ = some (.bool x.used) := by
  obtain ⟨g, off, x, h1, h2, h3, h4, h5, h6⟩ := Rs.at_ h (fun _ => rfl) hk
  exact ⟨g, off, x, h1, h2, h3, h4, h5, by simpa using h6 0 _ (by omega) rfl, h6 1 _ (by omega) rfl, h6 2 _ (by omega) rfl⟩
theorem at_H {xs : List Sw.Head} (h : RH w lo A c n xs) (hk : k < n) :
    ∃ g off x, A = some ⟨g, off, none⟩ ∧ lo ≤ g ∧ g < w.heap.size ∧ xs.drop k = x :: xs.drop (k + 1) ∧ xs[k]? = some x ∧
      w.cell? ⟨g, off + k * 3, none⟩ = some (.int .i64 x.size) ∧ w.cell? ⟨g, off + k * 3 + 1, none⟩ = some (.int .i64 x.log) ∧
      w.cell? ⟨g, off + k * 3 + 2, none⟩ = some (.int .i64 x.own) := by
  obtain ⟨g, off, x, h1, h2, h3, h4, h5, h6⟩ := Rs.at_ h (fun _ => rfl) hk
  exact ⟨g, off, x, h1, h2, h3, h4, h5, by simpa using h6 0 _ (by omega) rfl, h6 1 _ (by omega) rfl, h6 2 _ (by omega) rfl⟩
end

theorem head_ext {a b : Sw.Head} : a = b ↔ a.size = b.size ∧ a.log = b.log ∧ a.own = b.own := by
  cases a; cases b; simp
theorem b_ne {x : Bool} (h : ¬ x = true) : x = false := by simpa using h

theorem rises_len : ∀ (xs : List Int) (p : Int), Sw.risesFrom p xs = true → -1 ≤ p → p ≤ 7 → (xs.length : Int) ≤ 7 - p
  | [], p, h, hp, hq => by simp only [List.length_nil]; omega
  | x :: xs, p, h, hp, hq => by
    simp only [Sw.risesFrom, Bool.and_eq_true, decide_eq_true_eq, Sw.inR] at h
    have := rises_len xs x h.2 (by omega) (by omega)
    simp only [List.length_cons]
    omega

theorem gatOk_len {g : Sw.Gate} (h : Sw.gatOk g = true) : g.done.length ≤ 8 := by
  simp only [Sw.gatOk, Bool.and_eq_true] at h
  have := rises_len g.done (-1) h.2 (by omega) (by omega)
  omega

end Go.Proofs.Ytimpagcanengoaa

namespace Go.Proofs.Ytimpagcanengoaa
set_option maxRecDepth 100000
set_option linter.unusedSimpArgs false
set_option linter.unusedVariables false
open Go.RowKit Go

theorem beqI (a b : Int) : (a == b) = decide (a = b) := rfl
theorem ret_b {a b : Bool} (h : a = b) : Ending.returned (.bool a) = .returned (.bool b) := by rw [h]
theorem ret_i {k : IntKind} {a b : Int} (h : a = b) : Ending.returned (.int k a) = .returned (.int k b) := by rw [h]
theorem int_i {k : IntKind} {a b : Int} (h : a = b) : Value.int k a = .int k b := by rw [h]

set_option maxHeartbeats 400000
theorem in_c (n lo top : Int) (w : World) : Calls Try.prog 56 #[.int .i64 n, .int .i64 lo, .int .i64 top] w fun E w' => E = .returned (.bool (Sw.inR n lo top)) ∧ w = w' := by
  go_enter Try.func56, Try.ntmps56
  go_wp2
  all_goals (go_ret; refine ⟨ret_b (by simp [Sw.inR]; omega), rfl⟩)

theorem l1In_c (n lo top : Int) (w : World) : Calls Try.prog 51 #[.int .i64 n, .int .i64 lo, .int .i64 top] w fun E w' => E = .returned (.bool (Sw.inR n lo top)) ∧ w = w' := by
  go_enter Try.func51, Try.ntmps51
  go_wp2
  all_goals (go_ret; refine ⟨ret_b (by simp [Sw.inR]; omega), rfl⟩)

theorem iMixOk_c (n : Int) (w : World) : Calls Try.prog 55 #[.int .i64 n] w fun E w' => E = .returned (.bool (Sw.mixOk n)) ∧ w = w' := by
  go_enter Try.func55, Try.ntmps55
  go_wp2_with (first | (go_at_call 56; refine (in_c _ _ _ _).mono ?_; rintro E w' ⟨rfl, rfl⟩))
  all_goals (go_ret; refine ⟨ret_b (by simp [Sw.mixOk]), rfl⟩)

theorem isTicket_c (n : Int) (w : World) : Calls Try.prog 79 #[.int .i64 n] w fun E w' => E = .returned (.bool (Sw.inR n 0 7)) ∧ w = w' := by
  go_enter Try.func79, Try.ntmps79
  go_wp2_with (first | (go_at_call 56; refine (in_c _ _ _ _).mono ?_; rintro E w' ⟨rfl, rfl⟩))
  all_goals (go_ret; exact ⟨rfl, rfl⟩)

theorem mul_bd {a b : Int} (ha : 0 ≤ a ∧ a ≤ 65520) (hb : 0 ≤ b ∧ b ≤ 65520) : 0 ≤ a * b ∧ a * b ≤ 4292870400 :=
  ⟨Int.mul_nonneg ha.1 hb.1, Int.le_trans (Int.mul_le_mul ha.2 hb.2 hb.1 (by omega)) (by decide)⟩
theorem mixOk_bd {a : Int} : Sw.mixOk a = true ↔ 0 ≤ a ∧ a ≤ 65520 := by simp [Sw.mixOk, Sw.inR]

theorem sEntCap_c (f : Int) (w : World) : Calls Try.prog 52 #[.int .i64 f] w fun E w' => E = .returned (.int .i64 (Sw.entCap f)) ∧ w = w' := by
  by_cases h : Sw.inR f 1 50 = true
  · have h' : 1 ≤ f ∧ f ≤ 50 := by simpa [Sw.inR] using h
    obtain ⟨a, b⟩ := h'
    go_enter Try.func52, Try.ntmps52
    go_wp2_with (first | (go_at_call 51; refine (l1In_c _ _ _ _).mono ?_; rintro E w' ⟨rfl, rfl⟩))
    all_goals (go_ret; refine ⟨ret_i (by simp [Sw.entCap, h]), rfl⟩)
  · go_enter Try.func52, Try.ntmps52
    go_wp2_with (first | (go_at_call 51; refine (l1In_c _ _ _ _).mono ?_; rintro E w' ⟨rfl, rfl⟩))
    all_goals (go_ret; refine ⟨ret_i (by simp [Sw.entCap, h]), rfl⟩)

/-! ### a list of numbers mixed -/
theorem leafStep_bd (x n : Int) : 0 ≤ Sw.leafStep x n ∧ Sw.leafStep x n ≤ 65520 := by unfold Sw.leafStep; omega
theorem tmod_bd (y : Int) : -65520 ≤ y.tmod 65521 ∧ y.tmod 65521 ≤ 65520 := by
  rw [Int.tmod_eq_emod]; split <;> omega
theorem leafStep_eq (x y : Int) : (x * 4099 + y.tmod 65521 % 65521 + 11) % 65521 = Sw.leafStep x y := by
  unfold Sw.leafStep
  rw [Int.tmod_eq_emod]; split <;> omega

end Go.Proofs.Ytimpagcanengoaa

namespace Go.Proofs.Ytimpagcanengoaa
set_option maxRecDepth 100000
set_option linter.unusedSimpArgs false
set_option linter.unusedVariables false
open Go.RowKit Go
set_option maxHeartbeats 400000

theorem sEntOk_c (e : Sw.Ent) (w : World) : Calls Try.prog 109 #[.agg #[.int .i64 e.kind, .int .i64 e.ticket, .int .i64 e.who, .int .i64 e.price]] w fun E w' => E = .returned (.bool (Sw.entOk e)) ∧ Ex w w' := by
  go_enter Try.func109, Try.ntmps109
  go_wp2_with (first | (go_at_call 51; refine (l1In_c _ _ _ _).mono ?_; rintro E w' ⟨rfl, rfl⟩) | (go_at_call 52; refine (sEntCap_c _ _).mono ?_; rintro E w' ⟨rfl, rfl⟩))
  all_goals (try (refine wp_name ?_; intro W0 hb0; have hst := xr hb0; (try simp only [zA, zC, zD, zN] at hst); obtain ⟨hc0, hf0, hz0⟩ := hst; go_region_held3 (fun w' => Held W0 w') ((first | with_reducible assumption | with_reducible exact Held.start _ | with_reducible exact Held.of (by assumption) | with_reducible exact Held.ex (by assumption) (by assumption) | ((repeat (first | with_reducible refine Held.set ?_ (by simp only [zA, zC, zD, zN]; omega) | with_reducible refine Held.alloc ?_ _ | with_reducible refine Held.drew ?_)); (first | with_reducible assumption | with_reducible exact Held.refl _ | with_reducible exact Held.of (by assumption) | with_reducible exact Held.ex (by assumption) (by assumption))) | exact Held.of (by exact ext_))) ((first | (go_at_call 51; refine (l1In_c _ _ _ _).mono ?_; rintro E w' ⟨rfl, rfl⟩) | (go_at_call 52; refine (sEntCap_c _ _).mono ?_; rintro E w' ⟨rfl, rfl⟩))); all_goals (have hb := And.right (by assumption : Held W0 _); have hst := xr hb; (try simp only [zA, zC, zD, zN] at hst); obtain ⟨hc, hf, hz⟩ := hst)))
  go_wp2
  all_goals (go_ret; refine ⟨ret_b ?_, (by first | rfl | exact ext_)⟩; go_tidy; (try simp only [Bool.not_eq_true', Bool.not_eq_false', Bool.not_eq_true, Bool.not_eq_false, beq_iff_eq, bne_iff_ne, ne_eq, beq_eq_false_iff_ne, bne_eq_false_iff_eq] at *); (first | rfl | (simp [Sw.entOk, Sw.entCap, show Sw.inR 50 1 50 = true from by decide, *]; done) | (simp [Sw.entOk, Sw.entCap, show Sw.inR 50 1 50 = true from by decide, *]; omega) | (simp [Sw.entOk, Sw.entCap, show Sw.inR 50 1 50 = true from by decide, beqI, *]; done) | (simp_all [Sw.entOk, Sw.entCap, show Sw.inR 50 1 50 = true from by decide, beqI]; done) | (simp_all [Sw.entOk, Sw.entCap, show Sw.inR 50 1 50 = true from by decide, beqI] <;> omega) | simp_all [Sw.entOk, Sw.entCap, show Sw.inR 50 1 50 = true from by decide, beqI]))

end Go.Proofs.Ytimpagcanengoaa

namespace Go.Proofs.Ytimpagcanengoaa
set_option maxRecDepth 100000
set_option linter.unusedSimpArgs false
set_option linter.unusedVariables false
open Go.RowKit Go
set_option maxHeartbeats 400000

theorem split_eq {n j : Nat} (h1 : 2 ^ j < n) (h2 : n ≤ 2 * 2 ^ j) : Sw.split n = 2 ^ j := by
  unfold Sw.split
  have : (n - 1).log2 = j := (Nat.log2_eq_iff (by omega)).2 ⟨by omega, by rw [Nat.pow_succ]; omega⟩
  rw [this]

/-! ### parts of a slice -/
theorem Rs.take {α : Type} {enc : α → List Value} {sz : Nat} {w : World} {lo c n : Nat} {A : Option Addr} {xs : List α} (h : Rs enc sz w lo A c n xs) (hsz : ∀ x, (enc x).length = sz) {k : Nat} (hk : k ≤ n) :
    Rs enc sz w lo A c k (xs.take k) := by
  obtain ⟨rfl, h⟩ := h
  have hf : ∀ (xs : List α) (k : Nat), k ≤ xs.length → (xs.take k).flatMap enc = (xs.flatMap enc).take (k * sz) := by
    intro xs
    induction xs with
    | nil => intro k hk; simp
    | cons x xs ih =>
      intro k hk
      cases k with
      | zero => simp
      | succ k =>
        simp only [List.take_succ_cons, List.flatMap_cons]
        have hx : (enc x).length ≤ (k + 1) * sz := by rw [hsz, Nat.succ_mul]; omega
        rw [ih k (by simpa using hk), List.take_append, List.take_of_length_le hx, hsz]
        rw [show (k + 1) * sz - sz = k * sz from by rw [Nat.succ_mul]; omega]
  have hl : ((xs.take k).flatMap enc).length = k * sz := by
    rw [hf xs k hk, List.length_take, h.len]
    exact Nat.min_eq_left (Nat.mul_le_mul_right _ hk)
  refine ⟨by simp; omega, hl, Nat.le_trans hk h.le, h.cap, h.nil, fun a ha hk0 => ?_⟩
  obtain ⟨h1, h2, h3, h4⟩ := h.cells a ha (by omega)
  refine ⟨h1, h2, h3, fun j u hu => h4 j u ?_⟩
  rw [hf xs k hk, List.getElem?_take] at hu
  split at hu
  · exact hu
  · cases hu
theorem Rs.drop {α : Type} {enc : α → List Value} {sz : Nat} {w : World} {lo c n : Nat} {A : Option Addr} {xs : List α} (h : Rs enc sz w lo A c n xs) (hsz : ∀ x, (enc x).length = sz) {k : Nat} (hk : k ≤ n) :
    Rs enc sz w lo (if c = k then A else A.map (·.add (k * sz))) (c - k) (n - k) (xs.drop k) := by
  obtain ⟨rfl, h⟩ := h
  have hf : ∀ (xs : List α) (k : Nat), k ≤ xs.length → (xs.drop k).flatMap enc = (xs.flatMap enc).drop (k * sz) := by
    intro xs
    induction xs with
    | nil => intro k hk; simp
    | cons x xs ih =>
      intro k hk
      cases k with
      | zero => simp
      | succ k =>
        simp only [List.drop_succ_cons, List.flatMap_cons]
        have hx : (enc x).length ≤ (k + 1) * sz := by rw [hsz, Nat.succ_mul]; omega
        rw [ih k (by simpa using hk), List.drop_append, List.drop_of_length_le hx, hsz]
        rw [show (k + 1) * sz - sz = k * sz from by rw [Nat.succ_mul]; omega]
        simp
  have hl : ((xs.drop k).flatMap enc).length = (xs.length - k) * sz := by
    rw [hf xs k hk, List.length_drop, h.len, Nat.sub_mul]
  have hle := h.le
  refine ⟨by simp, hl, by omega, Nat.le_trans (Nat.sub_le _ _) h.cap, fun hA => ?_, fun a ha hn0 => ?_⟩
  · cases A with
    | none => have := h.nil rfl; omega
    | some a => by_cases hck : c = k <;> simp [hck] at hA
  · by_cases hc : c = k
    · omega
    · rw [if_neg hc] at ha
      cases A with
      | none => simp at ha
      | some a0 =>
        obtain ⟨g, off, spot⟩ := a0
        obtain ⟨h1, h2, h3, h4⟩ := h.cells _ rfl (by omega)
        dsimp only at h1 h2 h3 h4
        subst h1
        simp only [Option.map_some, Addr.add_lit] at ha
        obtain rfl := Option.some.inj ha
        refine ⟨rfl, h2, h3, fun j u hu => ?_⟩
        rw [hf xs k hk, List.getElem?_drop] at hu
        have := h4 _ u hu
        rw [← Nat.add_assoc] at this
        exact this

theorem RI_drop {w : World} {lo c n k : Nat} {A : Option Addr} {xs : List Int} (h : RI w lo A c n xs) (hk : k < n) : RI w lo (A.map (fun x => x.add k)) (c - k) (n - k) (xs.drop k) := by
  have := Rs.drop h (fun _ => rfl) (Nat.le_of_lt hk)
  rw [if_neg (by have := h.2.le; omega)] at this
  simpa using this
theorem RI_take {w : World} {lo c n k : Nat} {A : Option Addr} {xs : List Int} (h : RI w lo A c n xs) (hk : k ≤ n) : RI w lo A c k (xs.take k) := Rs.take h (fun _ => rfl) hk

theorem root_two {xs : List Int} (h : 2 ≤ xs.length) : Sw.root xs = Sw.pair (Sw.root (xs.take (Sw.split xs.length))) (Sw.root (xs.drop (Sw.split xs.length))) := by
  match xs, h with
  | x :: y :: r, _ => rw [Sw.root]; rfl
theorem List.all_take {p : Int → Bool} {xs : List Int} {k : Nat} (h : xs.all p = true) : (xs.take k).all p = true := by
  rw [List.all_eq_true] at *; exact fun x hx => h x (List.mem_of_mem_take hx)
theorem List.all_drop {p : Int → Bool} {xs : List Int} {k : Nat} (h : xs.all p = true) : (xs.drop k).all p = true := by
  rw [List.all_eq_true] at *; exact fun x hx => h x (List.mem_of_mem_drop hx)
theorem pair_ok (a b : Int) : Sw.mixOk (Sw.pair a b) = true := by
  rw [mixOk_bd]; unfold Sw.pair
  exact ⟨Int.emod_nonneg _ (by omega), by have := Int.emod_lt_of_pos (a * 8191 + b * 127 + a * b + 31) (show (0 : Int) < 65521 by omega); omega⟩
theorem root_ok : ∀ (xs : List Int), xs.all Sw.mixOk = true → Sw.mixOk (Sw.root xs) = true
  | [], _ => by simp [Sw.root]; decide
  | [x], h => by simpa [Sw.root] using h
  | x :: y :: r, _ => by rw [Sw.root]; exact pair_ok _ _
theorem mixPair_ok {a b : Int} (ha : Sw.mixOk a = true) (hb : Sw.mixOk b = true) : Sw.mixPair a b = Sw.pair a b := by simp [Sw.mixPair, ha, hb]

end Go.Proofs.Ytimpagcanengoaa

namespace Go.Proofs.Ytimpagcanengoaa.Sw
set_option maxRecDepth 100000
set_option linter.unusedSimpArgs false
set_option linter.unusedVariables false
open Go.RowKit (wrap64)

/-! ### money -/
def monOk (p : List Int) : Bool := decide (p.length = 5) && p.all (fun n => inR n 0 100000)
def purse (p : List Int) (who : Int) : Int := p.getD (who - 1).toNat 0
def monHas (p : List Int) (who : Int) : Int := if monOk p && inR who 1 5 then purse p who else 0
def turnMay (p : List Int) (who n : Int) : Bool := monOk p && inR who 1 5 && inR n (-100000) 100000 && inR (purse p who + n) 0 100000
def turned (p : List Int) (who n : Int) : List Int := p.set (who - 1).toNat (purse p who + n)
def monTurn (p : List Int) (who n : Int) : List Int := if turnMay p who n then turned p who n else p
def moveMay (p : List Int) (a b n : Int) : Bool := inR n 0 100000 && decide (a ≠ b) && turnMay p a (-n) && turnMay (turned p a (-n)) b n
def monMove (p : List Int) (a b n : Int) : List Int := if moveMay p a b n then turned (turned p a (-n)) b n else p
def sumFrom (s : Int) (p : List Int) : Int := p.foldl (fun s n => wrap64 (s + n)) s
def monSum (p : List Int) : Int := sumFrom 0 p

/-! ### the market -/
structure Deal where
  ticket : Int
  seller : Int
  price : Int
  buyer : Int
  due : Int
  deriving DecidableEq
structure Req where
  user : Int
  n : Int
  kind : Int
  ticket : Int
  who : Int
  price : Int
  deriving DecidableEq
structure Mkt where
  log : List Ent
  purses : List Int
  deals : List Deal
  clock : Int
  nums : List Int
  said : List Int
  deriving DecidableEq
def dealZ : Deal := ⟨0, 0, 0, 0, 0⟩
def reqZ : Req := ⟨0, 0, 0, 0, 0, 0⟩
def mktZ : Mkt := ⟨[], [], [], 0, [], []⟩
def mktNew (p : List Int) : Mkt :=
  if monOk p && decide (monSum p ≤ 100000) then ⟨[], p, [], 0, [0, 0, 0, 0, 0], [0, 0, 0, 0, 0]⟩ else mktZ
def held (d : Deal) : Bool := decide (0 < d.buyer)
def heldStep (s : Int) (d : Deal) : Int := if held d then wrap64 (s + d.price) else s
def heldFrom (s : Int) (ds : List Deal) : Int := ds.foldl heldStep s
def heldOf (ds : List Deal) : Int := heldFrom 0 ds
def mktHeld (m : Mkt) : Int := heldOf m.deals
def dealOk (clock : Int) (rows : List Row) (d : Deal) : Bool :=
  inR d.ticket 0 7 && inR d.seller 1 5 && decide ((rowAt rows d.ticket).who = d.seller) && !(rowAt rows d.ticket).used &&
    inR d.price 1 (entCap (rowAt rows d.ticket).face) &&
    (if d.buyer = 0 then decide (d.due = 0) else inR d.buyer 1 5 && decide (d.buyer ≠ d.seller) && inR d.due clock (clock + 5))
/-- Deals that are ok, of rising tickets behind a number. -/
def dealsOk (clock : Int) (rows : List Row) : Int → List Deal → Bool
  | _, [] => true
  | p, d :: ds => dealOk clock rows d && decide (p < d.ticket) && dealsOk clock rows d.ticket ds
def numOk (n s : Int) : Bool := inR n 0 99999 && inR s 0 6 && (decide (n = 0) == decide (s = 0))
def numsOk : List Int → List Int → Bool
  | [], _ => true
  | _ :: _, [] => false
  | n :: ns, s :: ss => numOk n s && numsOk ns ss
def mktRows (m : Mkt) : List Row := (ownFold m.log).getD []
def mktOk (m : Mkt) : Bool :=
  (ownFold m.log).isSome && monOk m.purses && decide (m.deals.length ≤ 8) && inR m.clock 0 99999 && decide (m.nums.length = 5) && decide (m.said.length = 5) &&
    dealsOk m.clock (mktRows m) (-1) m.deals && numsOk m.nums m.said && decide (monSum m.purses + mktHeld m ≤ 100000)
def dealAt (ds : List Deal) (t : Int) : Option Nat := ds.findIdx? (fun d => decide (d.ticket = t))
def dealIx (ds : List Deal) (t : Int) : Int := match dealAt ds t with
  | some k => k
  | none => -1
def dealOf (ds : List Deal) (t : Int) : Option Deal := ds.find? (fun d => decide (d.ticket = t))
def reqOk (r : Req) : Bool :=
  inR r.user 1 5 && inR r.n 1 99999 && inR r.kind 1 6 && inR r.ticket 0 7 &&
    (if r.kind = 1 then inR r.who 1 5 && inR r.price 1 50 else decide (r.who = 0) && (if r.kind = 2 then inR r.price 1 999 else decide (r.price = 0)))
def insertDeal (d : Deal) : List Deal → List Deal
  | [] => [d]
  | x :: xs => if d.ticket < x.ticket then d :: x :: xs else x :: insertDeal d xs
/-- What a request does to the log, the purses and the deals, and its answer; row: how its ticket stands; k: the deal about it. -/
def issue (m : Mkt) (r : Req) (row : Row) : Mkt × Int :=
  if r.user ≠ 1 ∨ r.who = 1 then (m, 2)
  else if row.who ≠ 0 then (m, 3)
  else if m.log.length = 40 then (m, 6)
  else if moveMay m.purses r.who 1 r.price then ({ m with purses := turned (turned m.purses r.who (-r.price)) 1 r.price, log := m.log ++ [⟨1, r.ticket, r.who, r.price⟩] }, 1)
  else (m, 5)
def offer (m : Mkt) (r : Req) (row : Row) (k : Option Nat) : Mkt × Int :=
  if row.who ≠ r.user then (m, 2)
  else if k.isSome ∨ row.used = true then (m, 3)
  else if entCap row.face < r.price then (m, 4)
  else ({ m with deals := insertDeal ⟨r.ticket, r.user, r.price, 0, 0⟩ m.deals }, 1)
def dropIt (m : Mkt) (r : Req) (row : Row) (k : Option Nat) : Mkt × Int :=
  if row.who ≠ r.user then (m, 2)
  else match k with
  | none => (m, 3)
  | some k => if held (m.deals.getD k dealZ) then (m, 3) else ({ m with deals := m.deals.eraseIdx k }, 1)
def fund (m : Mkt) (r : Req) (k : Option Nat) : Mkt × Int :=
  match k with
  | none => (m, 3)
  | some k =>
    if held (m.deals.getD k dealZ) then (m, 3)
    else if (m.deals.getD k dealZ).seller = r.user then (m, 2)
    else if turnMay m.purses r.user (-(m.deals.getD k dealZ).price) then
      ({ m with purses := turned m.purses r.user (-(m.deals.getD k dealZ).price), deals := m.deals.set k { m.deals.getD k dealZ with buyer := r.user, due := m.clock + 5 } }, 1)
    else (m, 5)
def settle (m : Mkt) (r : Req) (k : Option Nat) : Mkt × Int :=
  match k with
  | none => (m, 3)
  | some k =>
    if held (m.deals.getD k dealZ) = false then (m, 3)
    else if (m.deals.getD k dealZ).seller ≠ r.user then (m, 2)
    else if m.log.length = 40 then (m, 6)
    else ({ m with purses := monTurn m.purses (m.deals.getD k dealZ).seller (m.deals.getD k dealZ).price,
                   log := m.log ++ [⟨2, r.ticket, (m.deals.getD k dealZ).buyer, (m.deals.getD k dealZ).price⟩],
                   deals := m.deals.eraseIdx k }, 1)
def enter (m : Mkt) (r : Req) (row : Row) (k : Option Nat) : Mkt × Int :=
  if row.who ≠ r.user then (m, 2)
  else if row.used = true ∨ k.isSome then (m, 3)
  else if m.log.length = 40 then (m, 6)
  else ({ m with log := m.log ++ [⟨3, r.ticket, r.user, 0⟩] }, 1)
def effect (m : Mkt) (r : Req) : Mkt × Int :=
  if r.kind = 1 then issue m r (rowAt (mktRows m) r.ticket)
  else if r.kind = 2 then offer m r (rowAt (mktRows m) r.ticket) (dealAt m.deals r.ticket)
  else if r.kind = 3 then dropIt m r (rowAt (mktRows m) r.ticket) (dealAt m.deals r.ticket)
  else if r.kind = 4 then fund m r (dealAt m.deals r.ticket)
  else if r.kind = 5 then settle m r (dealAt m.deals r.ticket)
  else enter m r (rowAt (mktRows m) r.ticket) (dealAt m.deals r.ticket)
def lastOf (l : List Int) (user : Int) : Int := l.getD (user - 1).toNat 0
def noted (m : Mkt) (r : Req) (a : Int) : Mkt := { m with nums := m.nums.set (r.user - 1).toNat r.n, said := m.said.set (r.user - 1).toNat a }
/-- A request that is ok, of a market that is. -/
def doIt (m : Mkt) (r : Req) : Mkt × Int :=
  if r.n = lastOf m.nums r.user then (m, lastOf m.said r.user)
  else if r.n < lastOf m.nums r.user then (m, 7)
  else (noted (effect m r).1 r (effect m r).2, (effect m r).2)
def mktDo (m : Mkt) (r : Req) : Mkt × Int := if mktOk m && reqOk r then doIt m r else (mktZ, 0)
/-- What is held longer than may be goes back: purses and deals. -/
def backDeal (clock : Int) (d : Deal) : Deal := if held d && decide (d.due < clock) then { d with buyer := 0, due := 0 } else d
def backPurse (clock : Int) (p : List Int) (d : Deal) : List Int := if held d && decide (d.due < clock) then monTurn p d.buyer d.price else p
def tick (m : Mkt) : Mkt := { m with clock := m.clock + 1, purses := m.deals.foldl (backPurse (m.clock + 1)) m.purses, deals := m.deals.map (backDeal (m.clock + 1)) }
def mktTick (m : Mkt) : Mkt × Bool := if mktOk m then (if m.clock = 99999 then (m, false) else (tick m, true)) else (mktZ, false)
def mktOffers (m : Mkt) : List Int := (m.deals.filter fun d => !held d).map (·.ticket)
def mktFor (m : Mkt) (who : Int) : List Int := (m.deals.filter fun d => held d && decide (d.buyer = who)).map (·.ticket)

/-! ### watching -/
def watFrom : Int → List Head → Bool
  | _, [] => true
  | p, h :: hs => hedOk h && decide (p < h.size) && watFrom h.size hs
def watOk (l : List Head) : Bool := decide (l.length ≤ 12) && watFrom (-1) l
def insertHead (h : Head) : List Head → List Head
  | [] => [h]
  | x :: xs => if h.size < x.size then h :: x :: xs else x :: insertHead h xs
def watSee (l : List Head) (h : Head) : List Head × Head × Bool :=
  if watOk l && hedOk h then
    match l.find? (fun x => decide (x.size = h.size)) with
    | some x => (l, x, hedFork x h)
    | none => if l.length = 12 then (l, headZ, false) else (insertHead h l, headZ, false)
  else (l, headZ, false)
def forkIn (a : Head) (l : List Head) : Option (Head × Head) := (l.find? (fun b => hedFork a b)).map fun b => (a, b)
def watMeet (a b : List Head) : Option (Head × Head) := if watOk a && watOk b then a.findSome? (fun x => forkIn x b) else none
def watAll (l : List Head) (log : List Ent) : Bool := watOk l && l.all (fun h => decide (hedAt log h.size = some h))

/-! ### the world -/
structure Msg where
  gate : Int
  head : Head
  proof : List Int
  deriving DecidableEq
structure World where
  first : List Int
  market : Mkt
  lines : List Req
  gates : List Gate
  bag : List Msg
  deriving DecidableEq
structure Ev where
  kind : Int
  req : Req
  at_ : Int
  ticket : Int
  who : Int
  deriving DecidableEq
def worldZ : World := ⟨[], mktZ, [], [], []⟩
def gatNew : Gate := ⟨(hedOf []).getD headZ, []⟩
def wldNew (p : List Int) : World := if monOk p && decide (monSum p ≤ 100000) then ⟨p, mktNew p, [], [gatNew, gatNew], []⟩ else worldZ
def lineOk (r : Req) : Bool := decide (r = reqZ) || reqOk r
def msgOk (x : Msg) : Bool := inR x.gate 0 1 && hedOk x.head && treOk x.proof
def wldOk (w : World) : Bool :=
  mktOk w.market && monOk w.first && decide (w.lines.length ≤ 300) && decide (w.gates.length = 2) && decide (w.bag.length ≤ 6) &&
    w.lines.all lineOk && w.gates.all gatOk && w.bag.all msgOk
def foldLines : Mkt → List Req → Option Mkt
  | m, [] => some m
  | m, r :: rs =>
    if r = reqZ then (if m.clock = 99999 then none else foldLines (tick m) rs)
    else if reqOk r then foldLines (doIt m r).1 rs else none
def wldFold (first : List Int) (lines : List Req) : Option Mkt :=
  if monOk first && decide (monSum first ≤ 100000) && decide (lines.length ≤ 300) then foldLines (mktNew first) lines else none
def ask (w : World) (r : Req) : World × Int :=
  if reqOk r && decide (w.lines.length < 300) then ({ w with market := (doIt w.market r).1, lines := w.lines ++ [r] }, (doIt w.market r).2) else (w, 0)
def tickW (w : World) : World :=
  if decide (w.market.clock ≠ 99999) && decide (w.lines.length < 300) then { w with market := tick w.market, lines := w.lines ++ [reqZ] } else w
def fall (w : World) : World := { w with market := (wldFold w.first w.lines).getD w.market, bag := [] }
def gateAt (w : World) (k : Int) : Gate := w.gates.getD k.toNat gateZ
def send (w : World) (k : Int) : World :=
  if inR k 0 1 && decide (w.bag.length < 6) then { w with bag := w.bag ++ [⟨k, (hedOf w.market.log).getD headZ, hedProof w.market.log (gateAt w k).head.size⟩] } else w
def msgZ : Msg := ⟨0, headZ, []⟩
def msgAt (w : World) (i : Int) : Msg := w.bag.getD i.toNat msgZ
def lose (w : World) (i : Int) : World := { w with bag := w.bag.eraseIdx i.toNat }
def heard (w : World) (x : Msg) : World := { w with gates := w.gates.set x.gate.toNat (gatSync (gateAt w x.gate) x.head x.proof).1 }
def hear (w : World) (i : Int) : World := heard (lose w i) (msgAt w i)
def twice (w : World) (i : Int) : World := if w.bag.length < 6 then { w with bag := w.bag ++ [msgAt w i] } else w
def showIt (w : World) (k t who : Int) : World × Int :=
  if inR k 0 1 && inR t 0 7 && decide ((gateAt w k).head.size ≤ w.market.log.length) then
    match ownFold (w.market.log.take (gateAt w k).head.size.toNat) with
    | none => (w, 0)
    | some rows =>
      if (gatShow (gateAt w k) t who (rowAt rows t) (ownProof rows t)).2 then
        ({ w with gates := w.gates.set k.toNat (gatShow (gateAt w k) t who (rowAt rows t) (ownProof rows t)).1 }, 1)
      else (w, 3)
  else (w, 0)
def tellOne (w : World) (t : Int) : World :=
  if decide (0 < (rowAt (mktRows w.market) t).who) && !(rowAt (mktRows w.market) t).used && decide (lastOf w.market.nums (rowAt (mktRows w.market) t).who < 99999) then
    (ask w ⟨(rowAt (mktRows w.market) t).who, lastOf w.market.nums (rowAt (mktRows w.market) t).who + 1, 6, t, 0, 0⟩).1
  else w
def tell (w : World) (k : Int) : World := if inR k 0 1 then (gateAt w k).done.foldl tellOne w else w
/-- One event, of a world that is ok. -/
def step (w : World) (e : Ev) : World × Int :=
  if e.kind = 1 then ask w e.req
  else if e.kind = 2 then (tickW w, 0)
  else if e.kind = 3 then (fall w, 0)
  else if e.kind = 4 then (send w e.at_, 0)
  else if e.kind = 5 then (if inR e.at_ 0 (w.bag.length - 1) then hear w e.at_ else w, 0)
  else if e.kind = 6 then (if inR e.at_ 0 (w.bag.length - 1) then lose w e.at_ else w, 0)
  else if e.kind = 7 then (if inR e.at_ 0 (w.bag.length - 1) then twice w e.at_ else w, 0)
  else if e.kind = 8 then showIt w e.at_ e.ticket e.who
  else if e.kind = 9 then (tell w e.at_, 0)
  else (w, 0)
def wldStep (w : World) (e : Ev) : World × Int := if wldOk w then step w e else (worldZ, 0)
def runFrom (w : World) (es : List Ev) : World := es.foldl (fun w e => (step w e).1) w
def wldRun (w : World) (es : List Ev) : World := if wldOk w && decide (es.length ≤ 300) then runFrom w es else worldZ
def wldMoney (w : World) : Int := wrap64 (monSum w.market.purses + mktHeld w.market)
end Go.Proofs.Ytimpagcanengoaa.Sw

namespace Go.Proofs.Ytimpagcanengoaa.Sw
set_option maxRecDepth 100000
set_option linter.unusedSimpArgs false
set_option linter.unusedVariables false
open Go.RowKit (wrap64)

theorem inR_iff {n a b : Int} : inR n a b = true ↔ a ≤ n ∧ n ≤ b := by simp [inR]
theorem inR_no {n a b : Int} : inR n a b = false ↔ n < a ∨ b < n := by simp [inR]; omega

/-! ### rows -/
theorem rowAt_ok {rows : List Row} (h : ownOk rows = true) (t : Int) : rowOk (rowAt rows t) = true := by
  simp only [ownOk, Bool.and_eq_true] at h
  unfold rowAt
  rw [List.getD_eq_getElem?_getD]
  cases he : rows[t.toNat]? with
  | none => rfl
  | some r => exact List.all_eq_true.1 h.1 r (List.mem_of_getElem? he)
theorem ownOk_len {rows : List Row} (h : ownOk rows = true) : rows.length = 8 := by
  simp only [ownOk, Bool.and_eq_true, decide_eq_true_eq] at h; exact h.2
theorem entOk_iff {e : Ent} : entOk e = true ↔ (0 ≤ e.ticket ∧ e.ticket ≤ 7) ∧ (1 ≤ e.who ∧ e.who ≤ 5) ∧ ((e.kind = 1 ∧ 1 ≤ e.price ∧ e.price ≤ 50) ∨ (e.kind = 2 ∧ 1 ≤ e.price ∧ e.price ≤ 60) ∨ (e.kind = 3 ∧ e.price = 0)) := by
  unfold entOk
  rw [Bool.and_eq_true, Bool.and_eq_true, inR_iff, inR_iff, and_assoc]
  refine and_congr_right fun _ => and_congr_right fun _ => ?_
  split
  · rw [inR_iff]; omega
  · split
    · rw [inR_iff]; omega
    · simp only [Bool.and_eq_true, decide_eq_true_eq]; omega
theorem rowOk_iff {r : Row} : rowOk r = true ↔ (r.who = 0 ∧ r.face = 0 ∧ r.used = false) ∨ ((1 ≤ r.who ∧ r.who ≤ 5) ∧ 1 ≤ r.face ∧ r.face ≤ 50) := by
  unfold rowOk
  rw [Bool.or_eq_true, Bool.and_eq_true, Bool.and_eq_true, Bool.and_eq_true, inR_iff, inR_iff]
  simp [and_assoc]
theorem fitsRow_iff {r : Row} {e : Ent} (hk : e.kind = 1 ∨ e.kind = 2 ∨ e.kind = 3) : fitsRow r e = true ↔
    (e.kind = 1 ∧ r.who = 0) ∨ (e.kind = 2 ∧ r.who ≠ 0 ∧ r.who ≠ e.who ∧ r.used = false ∧ e.price ≤ entCap r.face) ∨ (e.kind = 3 ∧ r.who = e.who ∧ r.used = false) := by
  unfold fitsRow
  rcases hk with h | h | h <;> simp [h, and_assoc]
theorem ownFits_iff {rows : List Row} {e : Ent} : ownFits rows e = true ↔ ownOk rows = true ∧ entOk e = true ∧ fitsRow (rowAt rows e.ticket) e = true := by
  simp [ownFits, and_assoc]
theorem putRow_ok {r : Row} {e : Ent} (hr : rowOk r = true) (he : entOk e = true) (hf : fitsRow r e = true) : rowOk (putRow r e) = true := by
  have he' := entOk_iff.1 he
  have hk : e.kind = 1 ∨ e.kind = 2 ∨ e.kind = 3 := by omega
  rw [fitsRow_iff hk] at hf
  rw [rowOk_iff] at hr
  rw [rowOk_iff]
  unfold putRow
  rcases hk with h | h | h <;> simp only [h] at hf he' ⊢ <;> simp <;> omega
theorem putRows_ok {rows : List Row} {e : Ent} (h : ownFits rows e = true) : ownOk (putRows rows e) = true := by
  rw [ownFits_iff] at h
  obtain ⟨h1, h2, h3⟩ := h
  have hr := putRow_ok (rowAt_ok h1 e.ticket) h2 h3
  have h8 := ownOk_len h1
  simp only [ownOk, Bool.and_eq_true, decide_eq_true_eq, putRows, List.length_set] at h1 ⊢
  refine ⟨?_, h8⟩
  rw [List.all_eq_true] at h1 ⊢
  intro x hx
  rcases List.mem_or_eq_of_mem_set hx with hx | rfl
  · exact h1.1 x hx
  · exact hr
theorem rows0_ok : ownOk rows0 = true := by decide
theorem foldFrom_ok : ∀ (es : List Ent) (rows r : List Row), foldFrom rows es = some r → ownOk rows = true → ownOk r = true
  | [], rows, r, h, h8 => by simp [foldFrom] at h; rw [← h]; exact h8
  | e :: es, rows, r, h, h8 => by
    rw [foldFrom] at h
    split at h
    · exact foldFrom_ok es _ r h (putRows_ok ‹_›)
    · cases h
theorem ownFold_some {es : List Ent} {rows : List Row} : ownFold es = some rows ↔ es.length ≤ 40 ∧ foldFrom rows0 es = some rows := by
  unfold ownFold
  split <;> simp [*]
theorem ownFold_ok {es : List Ent} {rows : List Row} (h : ownFold es = some rows) : ownOk rows = true := foldFrom_ok es _ _ (ownFold_some.1 h).2 rows0_ok
theorem foldFrom_append : ∀ (es fs : List Ent) (rows : List Row), foldFrom rows (es ++ fs) = (foldFrom rows es).bind fun r => foldFrom r fs
  | [], fs, rows => rfl
  | e :: es, fs, rows => by
    rw [List.cons_append, foldFrom, foldFrom]
    split
    · exact foldFrom_append es fs _
    · rfl
theorem ownFold_snoc {es : List Ent} {rows : List Row} {e : Ent} (h : ownFold es = some rows) (hl : es.length < 40) (hf : ownFits rows e = true) : ownFold (es ++ [e]) = some (putRows rows e) := by
  rw [ownFold_some] at h ⊢
  refine ⟨by simp; omega, ?_⟩
  rw [foldFrom_append, h.2]
  simp [foldFrom, hf]
theorem ownFold_take {es : List Ent} {rows : List Row} (h : ownFold es = some rows) (k : Nat) : ∃ r, ownFold (es.take k) = some r := by
  rw [ownFold_some] at h
  obtain ⟨h1, h2⟩ := h
  rw [← List.take_append_drop k es, foldFrom_append] at h2
  cases hh : foldFrom rows0 (es.take k) with
  | none => rw [hh] at h2; cases h2
  | some r => exact ⟨r, ownFold_some.2 ⟨by rw [List.length_take]; omega, hh⟩⟩
theorem rowAt_put {rows : List Row} {e : Ent} {t : Int} (h8 : rows.length = 8) (he : 0 ≤ e.ticket ∧ e.ticket ≤ 7) (ht : 0 ≤ t) : rowAt (putRows rows e) t = if t = e.ticket then putRow (rowAt rows e.ticket) e else rowAt rows t := by
  unfold rowAt putRows
  rw [List.getD_eq_getElem?_getD, List.getElem?_set]
  by_cases h : t = e.ticket
  · subst h
    rw [if_pos rfl, if_pos rfl, if_pos (by omega)]
    rfl
  · rw [if_neg (by omega), if_neg h, List.getD_eq_getElem?_getD]

/-! ### money -/
theorem wrap64_in {n : Int} (h : -9223372036854775808 ≤ n ∧ n ≤ 9223372036854775807) : wrap64 n = n := by unfold wrap64; omega
theorem monOk_iff {p : List Int} : monOk p = true ↔ p.length = 5 ∧ ∀ n ∈ p, 0 ≤ n ∧ n ≤ 100000 := by
  simp [monOk, List.all_eq_true, inR_iff]
theorem sum_bd : ∀ (p : List Int) (b : Int), 0 ≤ b → (∀ n ∈ p, 0 ≤ n ∧ n ≤ b) → 0 ≤ p.sum ∧ p.sum ≤ b * p.length
  | [], b, hb, h => by simp
  | x :: xs, b, hb, h => by
    have h1 := h x (List.mem_cons_self ..)
    have h2 := sum_bd xs b hb (fun n hn => h n (List.mem_cons_of_mem _ hn))
    have e : b * ((x :: xs).length : Int) = b * (xs.length : Int) + b := by rw [List.length_cons, Int.natCast_add, Int.mul_add]; simp
    rw [e, List.sum_cons]
    omega
theorem sumFrom_eq : ∀ (p : List Int) (s : Int), 0 ≤ s → s + 100000 * p.length ≤ 9223372036854775807 → (∀ n ∈ p, 0 ≤ n ∧ n ≤ 100000) → sumFrom s p = s + p.sum
  | [], s, _, _, _ => by simp [sumFrom]
  | x :: xs, s, h0, h1, h => by
    have hx := h x (List.mem_cons_self ..)
    have e : (100000 : Int) * ((x :: xs).length : Int) = 100000 * (xs.length : Int) + 100000 := by rw [List.length_cons, Int.natCast_add, Int.mul_add]; simp
    rw [e] at h1
    have := sumFrom_eq xs (s + x) (by omega) (by omega) (fun n hn => h n (List.mem_cons_of_mem _ hn))
    unfold sumFrom at this ⊢
    rw [List.foldl_cons, wrap64_in (by omega), this, List.sum_cons]
    omega
theorem monSum_eq {p : List Int} (h : monOk p = true) : monSum p = p.sum := by
  rw [monOk_iff] at h
  have := sumFrom_eq p 0 (by omega) (by rw [h.1]; decide) h.2
  rw [monSum, this]; omega
theorem monSum_bd {p : List Int} (h : monOk p = true) : 0 ≤ monSum p ∧ monSum p ≤ 500000 := by
  rw [monSum_eq h]
  rw [monOk_iff] at h
  have := sum_bd p 100000 (by omega) h.2
  rw [h.1] at this
  omega
theorem sum_set : ∀ (p : List Int) (k : Nat) (v : Int), k < p.length → (p.set k v).sum = p.sum - p.getD k 0 + v
  | [], k, v, h => by simp at h
  | x :: xs, 0, v, h => by simp; omega
  | x :: xs, k + 1, v, h => by
    have := sum_set xs k v (by simpa using h)
    simp only [List.set_cons_succ, List.sum_cons, this, List.getD_cons_succ]
    omega
theorem turnMay_iff {p : List Int} {who n : Int} : turnMay p who n = true ↔ monOk p = true ∧ (1 ≤ who ∧ who ≤ 5) ∧ (-100000 ≤ n ∧ n ≤ 100000) ∧ (0 ≤ purse p who + n ∧ purse p who + n ≤ 100000) := by
  simp [turnMay, inR_iff, and_assoc]
theorem turned_ok {p : List Int} {who n : Int} (h : turnMay p who n = true) : monOk (turned p who n) = true := by
  rw [turnMay_iff] at h
  obtain ⟨h1, h2, h3, h4⟩ := h
  rw [monOk_iff] at h1 ⊢
  refine ⟨by simp [turned, h1.1], fun x hx => ?_⟩
  rcases List.mem_or_eq_of_mem_set hx with hx | rfl
  · exact h1.2 x hx
  · exact h4
theorem turned_sum {p : List Int} {who n : Int} (h : turnMay p who n = true) : (turned p who n).sum = p.sum + n := by
  rw [turnMay_iff, monOk_iff] at h
  rw [turned, sum_set p _ _ (by omega)]
  unfold purse
  omega
theorem purse_turned {p : List Int} {who n u : Int} (h : turnMay p who n = true) (hu : 1 ≤ u) : purse (turned p who n) u = if u = who then purse p who + n else purse p u := by
  rw [turnMay_iff, monOk_iff] at h
  unfold turned purse
  rw [List.getD_eq_getElem?_getD, List.getElem?_set]
  by_cases hw : u = who
  · subst hw
    rw [if_pos rfl, if_pos rfl, if_pos (by omega)]
    rfl
  · rw [if_neg (by omega), if_neg hw, List.getD_eq_getElem?_getD]
theorem purse_bd {p : List Int} (h : monOk p = true) (who : Int) : 0 ≤ purse p who ∧ purse p who ≤ 100000 := by
  rw [monOk_iff] at h
  unfold purse
  rw [List.getD_eq_getElem?_getD]
  cases he : p[(who - 1).toNat]? with
  | none => simp
  | some x => exact h.2 x (List.mem_of_getElem? he)
/-- One purse is no more than all together. -/
theorem purse_le_sum {p : List Int} (h : monOk p = true) (who : Int) : purse p who ≤ p.sum := by
  rw [monOk_iff] at h
  have key : ∀ (l : List Int) (k : Nat), (∀ n ∈ l, 0 ≤ n) → l.getD k 0 ≤ l.sum := by
    intro l
    induction l with
    | nil => intro k _; simp
    | cons x xs ih =>
      intro k hl
      have h1 := hl x (List.mem_cons_self ..)
      have h2 : 0 ≤ xs.sum := by
        clear ih
        induction xs with
        | nil => simp
        | cons y ys ih2 =>
          have := hl y (by simp)
          have := ih2 (fun n hn => hl n (by
            rcases List.mem_cons.1 hn with rfl | hn
            · exact List.mem_cons_self ..
            · exact List.mem_cons_of_mem _ (List.mem_cons_of_mem _ hn)))
          rw [List.sum_cons]; omega
      cases k with
      | zero => simp only [List.getD_cons_zero, List.sum_cons]; omega
      | succ k =>
        have := ih k (fun n hn => hl n (List.mem_cons_of_mem _ hn))
        simp only [List.getD_cons_succ, List.sum_cons]; omega
  exact key p _ (fun n hn => (h.2 n hn).1)
theorem turnMay_in {p : List Int} {who n : Int} (h : monOk p = true) (hw : 1 ≤ who ∧ who ≤ 5) (hn : 0 ≤ n) (hs : p.sum + n ≤ 100000) : turnMay p who n = true := by
  rw [turnMay_iff]
  have h1 := purse_bd h who
  have h2 := purse_le_sum h who
  have h3 := sum_bd p 100000 (by omega) (monOk_iff.1 h).2
  exact ⟨h, hw, by omega, by omega⟩
theorem moveMay_iff {p : List Int} {a b n : Int} : moveMay p a b n = true ↔ (0 ≤ n ∧ n ≤ 100000) ∧ a ≠ b ∧ turnMay p a (-n) = true ∧ turnMay (turned p a (-n)) b n = true := by
  simp [moveMay, inR_iff, and_assoc]
end Go.Proofs.Ytimpagcanengoaa.Sw

namespace Go.Proofs.Ytimpagcanengoaa.Sw
set_option maxRecDepth 100000
set_option linter.unusedSimpArgs false
set_option linter.unusedVariables false
open Go.RowKit (wrap64)

/-! ### deals -/
theorem dealOk_iff {clock : Int} {rows : List Row} {d : Deal} : dealOk clock rows d = true ↔ (0 ≤ d.ticket ∧ d.ticket ≤ 7) ∧ (1 ≤ d.seller ∧ d.seller ≤ 5) ∧ (rowAt rows d.ticket).who = d.seller ∧ (rowAt rows d.ticket).used = false ∧
    (1 ≤ d.price ∧ d.price ≤ entCap (rowAt rows d.ticket).face) ∧ ((d.buyer = 0 ∧ d.due = 0) ∨ ((1 ≤ d.buyer ∧ d.buyer ≤ 5) ∧ d.buyer ≠ d.seller ∧ (clock ≤ d.due ∧ d.due ≤ clock + 5))) := by
  unfold dealOk
  by_cases h : d.buyer = 0
  · rw [if_pos h]
    simp only [Bool.and_eq_true, inR_iff, decide_eq_true_eq, Bool.not_eq_true', and_assoc]
    simp [h]
  · rw [if_neg h]
    simp only [Bool.and_eq_true, inR_iff, decide_eq_true_eq, Bool.not_eq_true', and_assoc]
    simp [h]
theorem entCap_le (f : Int) : entCap f ≤ 60 := by
  unfold entCap
  split
  · have := inR_iff.1 ‹_›; omega
  · omega
def DOk (clock : Int) (rows : List Row) (ds : List Deal) : Prop := (∀ d ∈ ds, dealOk clock rows d = true) ∧ ds.Pairwise (fun a b => a.ticket < b.ticket)
theorem dealsOk_iff {clock : Int} {rows : List Row} : ∀ (ds : List Deal) (p : Int), dealsOk clock rows p ds = true ↔ DOk clock rows ds ∧ ∀ d ∈ ds, p < d.ticket
  | [], p => by simp [dealsOk, DOk]
  | d :: ds, p => by
    rw [dealsOk, Bool.and_eq_true, Bool.and_eq_true, dealsOk_iff ds, decide_eq_true_eq]
    unfold DOk
    simp only [List.mem_cons, forall_eq_or_imp, List.pairwise_cons]
    constructor
    · rintro ⟨⟨h1, h2⟩, ⟨h3, h4⟩, h5⟩
      exact ⟨⟨⟨h1, h3⟩, h5, h4⟩, h2, fun x hx => Int.lt_trans h2 (h5 x hx)⟩
    · rintro ⟨⟨⟨h1, h3⟩, h5, h4⟩, h2, _⟩
      exact ⟨⟨h1, h2⟩, ⟨h3, h4⟩, h5⟩
theorem dealsOk_iff' {clock : Int} {rows : List Row} {ds : List Deal} : dealsOk clock rows (-1) ds = true ↔ DOk clock rows ds := by
  rw [dealsOk_iff]
  exact ⟨fun h => h.1, fun h => ⟨h, fun d hd => by have := (dealOk_iff.1 (h.1 d hd)).1; omega⟩⟩
theorem DOk.get {clock : Int} {rows : List Row} {ds : List Deal} (h : DOk clock rows ds) {k : Nat} {d : Deal} (hk : ds[k]? = some d) : dealOk clock rows d = true := h.1 d (List.mem_of_getElem? hk)
theorem DOk.inj {clock : Int} {rows : List Row} {ds : List Deal} (h : DOk clock rows ds) {i j : Nat} {a b : Deal} (hi : ds[i]? = some a) (hj : ds[j]? = some b) (e : a.ticket = b.ticket) : i = j := by
  have hp := List.pairwise_iff_getElem.1 h.2
  obtain ⟨hi', rfl⟩ := List.getElem?_eq_some_iff.1 hi
  obtain ⟨hj', rfl⟩ := List.getElem?_eq_some_iff.1 hj
  rcases Nat.lt_trichotomy i j with hij | hij | hij
  · have := hp i j hi' hj' hij; omega
  · exact hij
  · have := hp j i hj' hi' hij; omega
theorem DOk.sub {clock : Int} {rows : List Row} {ds es : List Deal} (h : DOk clock rows ds) (hs : es.Sublist ds) : DOk clock rows es :=
  ⟨fun d hd => h.1 d (hs.subset hd), h.2.sublist hs⟩
/-- Rows that stand alike at all deals' tickets. -/
theorem DOk.rows {clock : Int} {rows rows' : List Row} {ds : List Deal} (h : DOk clock rows ds) (hr : ∀ d ∈ ds, rowAt rows' d.ticket = rowAt rows d.ticket) : DOk clock rows' ds :=
  ⟨fun d hd => by have := h.1 d hd; rw [dealOk_iff] at this ⊢; rw [hr d hd]; exact this, h.2⟩
theorem erase_other {clock : Int} {rows : List Row} {ds : List Deal} (h : DOk clock rows ds) {k : Nat} {d : Deal} (hk : ds[k]? = some d) : ∀ x ∈ ds.eraseIdx k, x.ticket ≠ d.ticket := by
  intro x hx e
  rw [List.mem_eraseIdx_iff_getElem?] at hx
  obtain ⟨i, hi, hx⟩ := hx
  exact hi (h.inj hx hk e)
theorem DOk.set {clock : Int} {rows : List Row} {ds : List Deal} (h : DOk clock rows ds) {k : Nat} {d e : Deal} (hk : ds[k]? = some d) (ht : e.ticket = d.ticket) (he : dealOk clock rows e = true) : DOk clock rows (ds.set k e) := by
  refine ⟨fun x hx => ?_, ?_⟩
  · rcases List.mem_or_eq_of_mem_set hx with hx | rfl
    · exact h.1 x hx
    · exact he
  · rw [List.pairwise_iff_getElem]
    obtain ⟨hk', rfl⟩ := List.getElem?_eq_some_iff.1 hk
    intro i j hi hj hij
    have hp := List.pairwise_iff_getElem.1 h.2 i j (by simpa using hi) (by simpa using hj) hij
    rw [List.getElem_set, List.getElem_set]
    split <;> split <;> subst_vars <;> (try rw [ht]) <;> (try exact hp) <;> omega
theorem insertDeal_mem {d x : Deal} : ∀ {ds : List Deal}, x ∈ insertDeal d ds ↔ x = d ∨ x ∈ ds
  | [] => by simp [insertDeal]
  | y :: ys => by
    rw [insertDeal]
    split
    · simp
    · rw [List.mem_cons, insertDeal_mem, List.mem_cons]
      constructor
      · rintro (h | h | h)
        · exact .inr (.inl h)
        · exact .inl h
        · exact .inr (.inr h)
      · rintro (h | h | h)
        · exact .inr (.inl h)
        · exact .inl h
        · exact .inr (.inr h)
theorem insertDeal_len {d : Deal} : ∀ {ds : List Deal}, (insertDeal d ds).length = ds.length + 1
  | [] => rfl
  | y :: ys => by
    rw [insertDeal]
    split
    · rfl
    · rw [List.length_cons, insertDeal_len, List.length_cons]
theorem insertDeal_rises {d : Deal} : ∀ {ds : List Deal}, ds.Pairwise (fun a b => a.ticket < b.ticket) → (∀ x ∈ ds, x.ticket ≠ d.ticket) → (insertDeal d ds).Pairwise (fun a b => a.ticket < b.ticket)
  | [], _, _ => by simp [insertDeal]
  | y :: ys, h, hn => by
    rw [List.pairwise_cons] at h
    have hy := hn y (List.mem_cons_self ..)
    rw [insertDeal]
    split
    · rw [List.pairwise_cons, List.pairwise_cons]
      refine ⟨fun x hx => ?_, h.1, h.2⟩
      rcases List.mem_cons.1 hx with rfl | hx
      · assumption
      · have := h.1 x hx; omega
    · rw [List.pairwise_cons]
      refine ⟨fun x hx => ?_, insertDeal_rises h.2 (fun x hx => hn x (List.mem_cons_of_mem _ hx))⟩
      rcases insertDeal_mem.1 hx with rfl | hx
      · omega
      · exact h.1 x hx
theorem dealAt_some {ds : List Deal} {t : Int} {k : Nat} (h : dealAt ds t = some k) : ∃ d, ds[k]? = some d ∧ d.ticket = t := by
  unfold dealAt at h
  rw [List.findIdx?_eq_some_iff_getElem] at h
  obtain ⟨hk, h1, _⟩ := h
  exact ⟨ds[k], List.getElem?_eq_getElem hk, by simpa using h1⟩
theorem dealAt_none {ds : List Deal} {t : Int} (h : dealAt ds t = none) : ∀ d ∈ ds, d.ticket ≠ t := by
  unfold dealAt at h
  rw [List.findIdx?_eq_none_iff] at h
  intro d hd e
  have := h d hd
  simp [e] at this
theorem getD_of {α : Type} {l : List α} {k : Nat} {x z : α} (h : l[k]? = some x) : l.getD k z = x := by rw [List.getD_eq_getElem?_getD, h]; rfl

/-! ### what is held -/
def heldIn (d : Deal) : Int := if held d then d.price else 0
def heldSum (ds : List Deal) : Int := (ds.map heldIn).sum
theorem heldIn_bd {clock : Int} {rows : List Row} {d : Deal} (h : dealOk clock rows d = true) : 0 ≤ heldIn d ∧ heldIn d ≤ 60 := by
  have := (dealOk_iff.1 h).2.2.2.2.1
  have := entCap_le (rowAt rows d.ticket).face
  unfold heldIn
  split <;> omega
theorem heldSum_bd {clock : Int} {rows : List Row} : ∀ {ds : List Deal}, (∀ d ∈ ds, dealOk clock rows d = true) → 0 ≤ heldSum ds ∧ heldSum ds ≤ 60 * ds.length
  | [], _ => by simp [heldSum]
  | d :: ds, h => by
    have h1 := heldIn_bd (h d (List.mem_cons_self ..))
    have h2 := heldSum_bd (fun x hx => h x (List.mem_cons_of_mem _ hx))
    unfold heldSum at h2 ⊢
    rw [List.map_cons, List.sum_cons, List.length_cons]
    omega
theorem heldFrom_eq {clock : Int} {rows : List Row} : ∀ (ds : List Deal) (s : Int), 0 ≤ s → s + 60 * ds.length ≤ 9223372036854775807 → (∀ d ∈ ds, dealOk clock rows d = true) → heldFrom s ds = s + heldSum ds
  | [], s, _, _, _ => by simp [heldFrom, heldSum]
  | d :: ds, s, h0, h1, h => by
    have hd := heldIn_bd (h d (List.mem_cons_self ..))
    rw [List.length_cons] at h1
    have := heldFrom_eq ds (s + heldIn d) (by omega) (by omega) (fun x hx => h x (List.mem_cons_of_mem _ hx))
    unfold heldFrom at this ⊢
    rw [List.foldl_cons]
    have e : heldStep s d = s + heldIn d := by
      unfold heldStep heldIn
      unfold heldIn at hd
      split
      · rw [if_pos ‹_›] at hd
        rw [wrap64_in (by omega)]
      · omega
    rw [e, this]
    unfold heldSum
    rw [List.map_cons, List.sum_cons]
    omega
theorem heldOf_eq {clock : Int} {rows : List Row} {ds : List Deal} (h : DOk clock rows ds) (h8 : ds.length ≤ 8) : heldOf ds = heldSum ds := by
  rw [heldOf, heldFrom_eq ds 0 (by omega) (by omega) h.1]; omega
theorem heldSum_erase : ∀ {ds : List Deal} {k : Nat} {d : Deal}, ds[k]? = some d → heldSum (ds.eraseIdx k) = heldSum ds - heldIn d
  | [], k, d, h => by simp at h
  | x :: xs, 0, d, h => by
    obtain rfl : x = d := by simpa using h
    unfold heldSum
    simp only [List.eraseIdx_cons_zero, List.map_cons, List.sum_cons]
    omega
  | x :: xs, k + 1, d, h => by
    have := heldSum_erase (ds := xs) (k := k) (d := d) (by simpa using h)
    unfold heldSum at this ⊢
    simp only [List.eraseIdx_cons_succ, List.map_cons, List.sum_cons, this]
    omega
theorem heldSum_set : ∀ {ds : List Deal} {k : Nat} {d e : Deal}, ds[k]? = some d → heldSum (ds.set k e) = heldSum ds - heldIn d + heldIn e
  | [], k, d, e, h => by simp at h
  | x :: xs, 0, d, e, h => by
    obtain rfl : x = d := by simpa using h
    unfold heldSum
    simp only [List.set_cons_zero, List.map_cons, List.sum_cons]
    omega
  | x :: xs, k + 1, d, e, h => by
    have := heldSum_set (ds := xs) (k := k) (d := d) (e := e) (by simpa using h)
    unfold heldSum at this ⊢
    simp only [List.set_cons_succ, List.map_cons, List.sum_cons, this]
    omega
theorem heldSum_insert {d : Deal} : ∀ {ds : List Deal}, heldSum (insertDeal d ds) = heldIn d + heldSum ds
  | [] => by simp [insertDeal, heldSum]
  | x :: xs => by
    have := heldSum_insert (d := d) (ds := xs)
    unfold heldSum at this ⊢
    rw [insertDeal]
    split
    · simp
    · simp only [List.map_cons, List.sum_cons, this]
      omega

/-! ### a market that is ok -/
structure MOk (m : Mkt) (rows : List Row) : Prop where
  fold : ownFold m.log = some rows
  mon : monOk m.purses = true
  dlen : m.deals.length ≤ 8
  clk : 0 ≤ m.clock ∧ m.clock ≤ 99999
  nlen : m.nums.length = 5
  slen : m.said.length = 5
  deals : DOk m.clock rows m.deals
  nums : numsOk m.nums m.said = true
  sum : m.purses.sum + heldSum m.deals ≤ 100000
theorem mktRows_of {m : Mkt} {rows : List Row} (h : ownFold m.log = some rows) : mktRows m = rows := by rw [mktRows, h]; rfl
theorem mktOk_iff {m : Mkt} : mktOk m = true ↔ ∃ rows, MOk m rows := by
  unfold mktOk
  simp only [Bool.and_eq_true, decide_eq_true_eq, inR_iff, dealsOk_iff']
  constructor
  · rintro ⟨⟨⟨⟨⟨⟨⟨⟨h1, h2⟩, h3⟩, h4⟩, h5⟩, h6⟩, h7⟩, h8⟩, h9⟩
    obtain ⟨rows, hr⟩ := Option.isSome_iff_exists.1 h1
    rw [mktRows_of hr] at h7
    refine ⟨rows, hr, h2, h3, h4, h5, h6, h7, h8, ?_⟩
    rw [monSum_eq h2, mktHeld, heldOf_eq h7 h3] at h9
    exact h9
  · rintro ⟨rows, hr, h2, h3, h4, h5, h6, h7, h8, h9⟩
    rw [mktRows_of hr]
    refine ⟨⟨⟨⟨⟨⟨⟨⟨by rw [hr]; rfl, h2⟩, h3⟩, h4⟩, h5⟩, h6⟩, h7⟩, h8⟩, ?_⟩
    rw [monSum_eq h2, mktHeld, heldOf_eq h7 h3]
    exact h9
def total (m : Mkt) : Int := m.purses.sum + heldSum m.deals
theorem MOk.total {m : Mkt} {rows : List Row} (h : MOk m rows) : monSum m.purses + mktHeld m = m.purses.sum + heldSum m.deals := by
  rw [monSum_eq h.mon, mktHeld, heldOf_eq h.deals h.dlen]
theorem reqOk_iff {r : Req} : reqOk r = true ↔ (1 ≤ r.user ∧ r.user ≤ 5) ∧ (1 ≤ r.n ∧ r.n ≤ 99999) ∧ (1 ≤ r.kind ∧ r.kind ≤ 6) ∧ (0 ≤ r.ticket ∧ r.ticket ≤ 7) ∧
    ((r.kind = 1 ∧ (1 ≤ r.who ∧ r.who ≤ 5) ∧ (1 ≤ r.price ∧ r.price ≤ 50)) ∨ (r.kind = 2 ∧ r.who = 0 ∧ (1 ≤ r.price ∧ r.price ≤ 999)) ∨ (r.kind ≠ 1 ∧ r.kind ≠ 2 ∧ r.who = 0 ∧ r.price = 0)) := by
  unfold reqOk
  by_cases h1 : r.kind = 1
  · rw [if_pos h1]; simp only [Bool.and_eq_true, inR_iff, and_assoc]; simp [h1]
  · by_cases h2 : r.kind = 2
    · rw [if_neg h1, if_pos h2]; simp only [Bool.and_eq_true, inR_iff, and_assoc, decide_eq_true_eq]; simp [h2]
    · rw [if_neg h1, if_neg h2]; simp only [Bool.and_eq_true, inR_iff, and_assoc, decide_eq_true_eq]; simp [h1, h2]

/-- What an effect leaves: the market but its numbers is ok; as many numbers; money as it was. -/
structure Eff (m x : Mkt) : Prop where
  rows : ∃ rows, ownFold x.log = some rows ∧ DOk x.clock rows x.deals
  mon : monOk x.purses = true
  dlen : x.deals.length ≤ 8
  clk : x.clock = m.clock
  nums : x.nums = m.nums
  said : x.said = m.said
  sum : x.purses.sum + heldSum x.deals = m.purses.sum + heldSum m.deals
theorem Eff.refl {m : Mkt} {rows : List Row} (h : MOk m rows) : Eff m m := ⟨⟨rows, h.fold, h.deals⟩, h.mon, h.dlen, rfl, rfl, rfl, rfl⟩
theorem rises_len8 {clock : Int} {rows : List Row} {ds : List Deal} (h : DOk clock rows ds) : ds.length ≤ 8 := by
  have key : ∀ (ds : List Deal) (p : Int), ds.Pairwise (fun a b => a.ticket < b.ticket) → (∀ d ∈ ds, p < d.ticket ∧ d.ticket ≤ 7) → -1 ≤ p → p ≤ 7 → (ds.length : Int) ≤ 7 - p := by
    intro ds
    induction ds with
    | nil => intro p _ _ h0 h1; simp; omega
    | cons d ds ih =>
      intro p hp hd h0 h1
      rw [List.pairwise_cons] at hp
      have h2 := hd d (List.mem_cons_self ..)
      have := ih d.ticket hp.2 (fun x hx => ⟨hp.1 x hx, (hd x (List.mem_cons_of_mem _ hx)).2⟩) (by omega) h2.2
      rw [List.length_cons]
      omega
  have := key ds (-1) h.2 (fun d hd => by have := (dealOk_iff.1 (h.1 d hd)).1; omega) (by omega) (by omega)
  omega
theorem issue_eff {m : Mkt} {rows : List Row} {r : Req} (h : MOk m rows) (hr : reqOk r = true) (hk : r.kind = 1) : Eff m (issue m r (rowAt rows r.ticket)).1 := by
  have hr := reqOk_iff.1 hr
  unfold issue
  split
  · exact .refl h
  split
  · exact .refl h
  split
  · exact .refl h
  split
  case isFalse => exact .refl h
  rename_i h1 h2 h3 h4
  rw [moveMay_iff] at h4
  obtain ⟨h4, h5, h6, h7⟩ := h4
  have hl : m.log.length < 40 := by have := (ownFold_some.1 h.fold).1; omega
  have hf : ownFits rows ⟨1, r.ticket, r.who, r.price⟩ = true := by
    rw [ownFits_iff]
    refine ⟨ownFold_ok h.fold, entOk_iff.2 ?_, (fitsRow_iff (.inl rfl)).2 (.inl ⟨rfl, by simpa using h2⟩)⟩
    dsimp only
    omega
  have hno : ∀ d ∈ m.deals, d.ticket ≠ r.ticket := fun d hd e => by
    have := (dealOk_iff.1 (h.deals.1 d hd))
    rw [e] at this
    omega
  refine ⟨⟨_, ownFold_snoc h.fold hl hf, h.deals.rows fun d hd => ?_⟩, turned_ok h7, h.dlen, rfl, rfl, rfl, ?_⟩
  · rw [rowAt_put (ownOk_len (ownFold_ok h.fold)) ⟨hr.2.2.2.1.1, hr.2.2.2.1.2⟩ (dealOk_iff.1 (h.deals.1 d hd)).1.1, if_neg (hno d hd)]
  · show (turned _ _ _).sum + heldSum m.deals = _
    rw [turned_sum h7, turned_sum h6]
    omega
theorem none_of {α : Type} {o : Option α} (h : o.isSome = false) : o = none := by cases o <;> simp_all
theorem offer_eff {m : Mkt} {rows : List Row} {r : Req} (h : MOk m rows) (hr : reqOk r = true) (hk : r.kind = 2) : Eff m (offer m r (rowAt rows r.ticket) (dealAt m.deals r.ticket)).1 := by
  have hr := reqOk_iff.1 hr
  unfold offer
  split
  · exact .refl h
  split
  · exact .refl h
  split
  · exact .refl h
  rename_i h1 h2 h3
  simp only [not_or, Bool.not_eq_true] at h2
  have hno := dealAt_none (none_of h2.1)
  have hd : DOk m.clock rows (insertDeal ⟨r.ticket, r.user, r.price, 0, 0⟩ m.deals) := by
    refine ⟨fun d hd => ?_, insertDeal_rises h.deals.2 hno⟩
    rcases insertDeal_mem.1 hd with rfl | hd
    · rw [dealOk_iff]
      dsimp only
      refine ⟨hr.2.2.2.1, hr.1, by simpa using h1, h2.2, by omega, .inl ⟨rfl, rfl⟩⟩
    · exact h.deals.1 d hd
  refine ⟨⟨rows, h.fold, hd⟩, h.mon, rises_len8 hd, rfl, rfl, rfl, ?_⟩
  show _ + heldSum (insertDeal _ _) = _
  rw [heldSum_insert]
  simp [heldIn, held]
theorem drop_eff {m : Mkt} {rows : List Row} {r : Req} (h : MOk m rows) : Eff m (dropIt m r (rowAt rows r.ticket) (dealAt m.deals r.ticket)).1 := by
  unfold dropIt
  split
  · exact .refl h
  split
  · exact .refl h
  rename_i k hk
  obtain ⟨d, hd, ht⟩ := dealAt_some hk
  rw [getD_of hd]
  split
  · exact .refl h
  rename_i h2
  have hs := List.eraseIdx_sublist m.deals k
  refine ⟨⟨rows, h.fold, h.deals.sub hs⟩, h.mon, Nat.le_trans hs.length_le h.dlen, rfl, rfl, rfl, ?_⟩
  show _ + heldSum (m.deals.eraseIdx k) = _
  rw [heldSum_erase hd]
  simp [heldIn, h2]
theorem fund_eff {m : Mkt} {rows : List Row} {r : Req} (h : MOk m rows) (hr : reqOk r = true) : Eff m (fund m r (dealAt m.deals r.ticket)).1 := by
  have hr := reqOk_iff.1 hr
  unfold fund
  split
  · exact .refl h
  rename_i k hk
  obtain ⟨d, hd, ht⟩ := dealAt_some hk
  rw [getD_of hd]
  split
  · exact .refl h
  split
  · exact .refl h
  split
  case isFalse => exact .refl h
  rename_i h1 h2 h3
  have hdo := dealOk_iff.1 (h.deals.get hd)
  have he : DOk m.clock rows (m.deals.set k { d with buyer := r.user, due := m.clock + 5 }) := by
    refine h.deals.set hd rfl (dealOk_iff.2 ?_)
    dsimp only
    refine ⟨hdo.1, hdo.2.1, hdo.2.2.1, hdo.2.2.2.1, hdo.2.2.2.2.1, .inr ⟨hr.1, fun e => h2 e.symm, by omega⟩⟩
  refine ⟨⟨rows, h.fold, he⟩, turned_ok h3, by simpa using h.dlen, rfl, rfl, rfl, ?_⟩
  show (turned _ _ _).sum + heldSum (m.deals.set k _) = _
  rw [turned_sum h3, heldSum_set hd]
  have hu : heldIn { d with buyer := r.user, due := m.clock + 5 } = d.price := if_pos (by simp [held]; omega)
  have hb : heldIn d = 0 := if_neg h1
  rw [hu, hb]
  omega
theorem settle_eff {m : Mkt} {rows : List Row} {r : Req} (h : MOk m rows) (hr : reqOk r = true) : Eff m (settle m r (dealAt m.deals r.ticket)).1 := by
  have hr := reqOk_iff.1 hr
  unfold settle
  split
  · exact .refl h
  rename_i k hk
  obtain ⟨d, hd, ht⟩ := dealAt_some hk
  rw [getD_of hd]
  split
  · exact .refl h
  split
  · exact .refl h
  split
  · exact .refl h
  rename_i h1 h2 h3
  have hdo := dealOk_iff.1 (h.deals.get hd)
  have hh : held d = true := by simpa using h1
  have hb : 0 < d.buyer := by simpa [held] using hh
  have hl : m.log.length < 40 := by have := (ownFold_some.1 h.fold).1; omega
  have hp := hdo.2.2.2.2.1
  have hcap := entCap_le (rowAt rows d.ticket).face
  have hf : ownFits rows ⟨2, r.ticket, d.buyer, d.price⟩ = true := by
    rw [ownFits_iff]
    refine ⟨ownFold_ok h.fold, entOk_iff.2 ?_, (fitsRow_iff (.inr (.inl rfl))).2 (.inr (.inl ⟨rfl, ?_⟩))⟩ <;> dsimp only
    · omega
    · rw [← ht]
      refine ⟨by omega, ?_, hdo.2.2.2.1, hp.2⟩
      rw [hdo.2.2.1]; omega
  have hs := List.eraseIdx_sublist m.deals k
  have hsum : turnMay m.purses d.seller d.price = true := by
    refine turnMay_in h.mon hdo.2.1 (by omega) ?_
    have h4 := h.sum
    have h5 := heldSum_erase hd
    have h6 := (heldSum_bd (h.deals.sub hs).1).1
    have : heldIn d = d.price := by simp [heldIn, hh]
    omega
  have e : monTurn m.purses d.seller d.price = turned m.purses d.seller d.price := by simp [monTurn, hsum]
  refine ⟨⟨_, ownFold_snoc h.fold hl hf, (h.deals.sub hs).rows fun x hx => ?_⟩, by dsimp only; rw [e]; exact turned_ok hsum, Nat.le_trans hs.length_le h.dlen, rfl, rfl, rfl, ?_⟩
  · have := erase_other h.deals hd x hx
    rw [rowAt_put (ownOk_len (ownFold_ok h.fold)) ⟨hr.2.2.2.1.1, hr.2.2.2.1.2⟩ (dealOk_iff.1 ((h.deals.sub hs).1 x hx)).1.1, if_neg (by dsimp only; omega)]
  · show (monTurn _ _ _).sum + heldSum (m.deals.eraseIdx k) = _
    rw [e, turned_sum hsum, heldSum_erase hd]
    simp only [heldIn, hh, if_true]
    omega
theorem enter_eff {m : Mkt} {rows : List Row} {r : Req} (h : MOk m rows) (hr : reqOk r = true) : Eff m (enter m r (rowAt rows r.ticket) (dealAt m.deals r.ticket)).1 := by
  have hr := reqOk_iff.1 hr
  unfold enter
  split
  · exact .refl h
  split
  · exact .refl h
  split
  · exact .refl h
  rename_i h1 h2 h3
  simp only [not_or, Bool.not_eq_true] at h2
  have hno := dealAt_none (none_of h2.2)
  have hl : m.log.length < 40 := by have := (ownFold_some.1 h.fold).1; omega
  have hf : ownFits rows ⟨3, r.ticket, r.user, 0⟩ = true := by
    rw [ownFits_iff]
    refine ⟨ownFold_ok h.fold, entOk_iff.2 ?_, (fitsRow_iff (.inr (.inr rfl))).2 (.inr (.inr ⟨rfl, by simpa using h1, h2.1⟩))⟩
    dsimp only
    omega
  refine ⟨⟨_, ownFold_snoc h.fold hl hf, h.deals.rows fun d hd => ?_⟩, h.mon, h.dlen, rfl, rfl, rfl, rfl⟩
  rw [rowAt_put (ownOk_len (ownFold_ok h.fold)) ⟨hr.2.2.2.1.1, hr.2.2.2.1.2⟩ (dealOk_iff.1 (h.deals.1 d hd)).1.1, if_neg (hno d hd)]
theorem effect_eff {m : Mkt} {rows : List Row} {r : Req} (h : MOk m rows) (hr : reqOk r = true) : Eff m (effect m r).1 := by
  unfold effect
  rw [mktRows_of h.fold]
  split
  · exact issue_eff h hr ‹_›
  split
  · exact offer_eff h hr ‹_›
  split
  · exact drop_eff h
  split
  · exact fund_eff h hr
  split
  · exact settle_eff h hr
  · exact enter_eff h hr
theorem effect_ans (m : Mkt) (r : Req) : 1 ≤ (effect m r).2 ∧ (effect m r).2 ≤ 6 := by
  have key : ∀ (P : Mkt × Int → Prop) (c : Prop) [Decidable c] (a b : Mkt × Int), P a → P b → P (if c then a else b) := by
    intro P c _ a b ha hb; split <;> assumption
  unfold effect issue offer dropIt fund settle enter
  repeat' (first | (split) | decide)
  all_goals (first | decide | (dsimp only; omega))
theorem numsOk_iff : ∀ {ns ss : List Int}, ns.length = ss.length → (numsOk ns ss = true ↔ ∀ (k : Nat) (n s : Int), ns[k]? = some n → ss[k]? = some s → numOk n s = true)
  | [], [], _ => by simp [numsOk]
  | [], _ :: _, h => by simp at h
  | _ :: _, [], h => by simp at h
  | n :: ns, s :: ss, h => by
    rw [numsOk, Bool.and_eq_true, numsOk_iff (by simpa using h)]
    constructor
    · rintro ⟨h1, h2⟩ k a b ha hb
      cases k with
      | zero => simp at ha hb; subst ha hb; exact h1
      | succ k => exact h2 k a b (by simpa using ha) (by simpa using hb)
    · intro h
      exact ⟨h 0 n s rfl rfl, fun k a b ha hb => h (k + 1) a b (by simpa using ha) (by simpa using hb)⟩
theorem numOk_iff {n s : Int} : numOk n s = true ↔ (0 ≤ n ∧ n ≤ 99999) ∧ (0 ≤ s ∧ s ≤ 6) ∧ (n = 0 ↔ s = 0) := by
  unfold numOk
  simp only [Bool.and_eq_true, inR_iff, and_assoc]
  simp
theorem noted_nums {ns ss : List Int} (hn : ns.length = 5) (hs : ss.length = 5) (h : numsOk ns ss = true) {k : Nat} {n s : Int} (ho : numOk n s = true) : numsOk (ns.set k n) (ss.set k s) = true := by
  rw [numsOk_iff (by rw [hn, hs])] at h
  rw [numsOk_iff (by simp [hn, hs])]
  intro j a b ha hb
  rw [List.getElem?_set] at ha hb
  by_cases hj : k = j
  · rw [if_pos hj] at ha hb
    split at ha
    · split at hb
      · cases ha; cases hb; exact ho
      · cases hb
    · cases ha
  · rw [if_neg hj] at ha hb
    exact h j a b ha hb
theorem Eff.noted {m x : Mkt} {rows : List Row} {r : Req} {a : Int} (h : MOk m rows) (he : Eff m x) (hr : reqOk r = true) (ha : 1 ≤ a ∧ a ≤ 6) : ∃ rows', MOk (noted x r a) rows' := by
  have hr := reqOk_iff.1 hr
  obtain ⟨rows', h1, h2⟩ := he.rows
  have hck := h.clk
  refine ⟨rows', h1, he.mon, he.dlen, by show 0 ≤ x.clock ∧ x.clock ≤ 99999; rw [he.clk]; exact hck, by simp [Sw.noted, he.nums, h.nlen], by simp [Sw.noted, he.said, h.slen], h2, ?_, by show x.purses.sum + heldSum x.deals ≤ _; rw [he.sum]; exact h.sum⟩
  show numsOk (x.nums.set _ _) (x.said.set _ _) = true
  rw [he.nums, he.said]
  exact noted_nums h.nlen h.slen h.nums (numOk_iff.2 ⟨by omega, by omega, by omega⟩)
theorem doIt_ok {m : Mkt} {rows : List Row} {r : Req} (h : MOk m rows) (hr : reqOk r = true) : ∃ rows', MOk (doIt m r).1 rows' := by
  unfold doIt
  split
  · exact ⟨rows, h⟩
  split
  · exact ⟨rows, h⟩
  · exact (effect_eff h hr).noted h hr (effect_ans m r)
theorem doIt_mktOk {m : Mkt} {r : Req} (h : mktOk m = true) (hr : reqOk r = true) : mktOk (doIt m r).1 = true := by
  obtain ⟨rows, h⟩ := mktOk_iff.1 h
  exact mktOk_iff.2 (doIt_ok h hr)
theorem doIt_total {m : Mkt} {rows : List Row} {r : Req} (h : MOk m rows) (hr : reqOk r = true) : total (doIt m r).1 = total m := by
  unfold doIt
  split
  · rfl
  split
  · rfl
  · exact (effect_eff h hr).sum

/-! ### the clock -/
theorem backDeal_ok {clock : Int} {rows : List Row} {d : Deal} (h : dealOk clock rows d = true) : dealOk (clock + 1) rows (backDeal (clock + 1) d) = true := by
  rw [dealOk_iff] at h ⊢
  unfold backDeal
  split
  · exact ⟨h.1, h.2.1, h.2.2.1, h.2.2.2.1, h.2.2.2.2.1, .inl ⟨rfl, rfl⟩⟩
  · rename_i hh
    refine ⟨h.1, h.2.1, h.2.2.1, h.2.2.2.1, h.2.2.2.2.1, ?_⟩
    simp only [held, Bool.and_eq_true, decide_eq_true_eq, not_and] at hh
    rcases h.2.2.2.2.2 with h6 | h6
    · exact .inl h6
    · have := hh (by omega)
      exact .inr ⟨h6.1, h6.2.1, by omega⟩
theorem backDeal_ticket (clock : Int) (d : Deal) : (backDeal clock d).ticket = d.ticket := by unfold backDeal; split <;> rfl
theorem backs {clock ck : Int} {rows : List Row} : ∀ (ds : List Deal) (p : List Int), monOk p = true → (∀ d ∈ ds, dealOk ck rows d = true) → p.sum + heldSum ds ≤ 100000 →
    monOk (ds.foldl (backPurse clock) p) = true ∧ (ds.foldl (backPurse clock) p).sum + heldSum (ds.map (backDeal clock)) = p.sum + heldSum ds
  | [], p, hp, _, _ => ⟨hp, rfl⟩
  | d :: ds, p, hp, hd, hs => by
    have hdo := dealOk_iff.1 (hd d (List.mem_cons_self ..))
    have hb := (heldSum_bd (fun x hx => hd x (List.mem_cons_of_mem _ hx))).1
    have hd' := fun x hx => hd x (List.mem_cons_of_mem d hx)
    have e1 : heldSum (d :: ds) = heldIn d + heldSum ds := by simp [heldSum]
    have e2 : heldSum ((d :: ds).map (backDeal clock)) = heldIn (backDeal clock d) + heldSum (ds.map (backDeal clock)) := by simp [heldSum]
    rw [e1] at hs
    rw [e1, e2, List.foldl_cons]
    unfold backPurse backDeal
    by_cases hc : (held d && decide (d.due < clock)) = true
    · rw [if_pos hc, if_pos hc]
      simp only [Bool.and_eq_true] at hc
      have hi : heldIn d = d.price := by simp [heldIn, hc.1]
      have hb0 : 0 < d.buyer := by simpa [held] using hc.1
      have hm := turnMay_in hp (who := d.buyer) (n := d.price) (by omega) (by omega) (by omega)
      have e : monTurn p d.buyer d.price = turned p d.buyer d.price := by simp [monTurn, hm]
      rw [e]
      have ih := backs (clock := clock) ds (turned p d.buyer d.price) (turned_ok hm) hd' (by rw [turned_sum hm]; omega)
      refine ⟨ih.1, ?_⟩
      have h0 : heldIn { d with buyer := 0, due := 0 } = 0 := by simp [heldIn, held]
      rw [h0]
      have := ih.2
      rw [turned_sum hm] at this
      unfold backPurse at this
      unfold backDeal at this
      omega
    · rw [if_neg hc, if_neg hc]
      have hi := (heldIn_bd (hd d (List.mem_cons_self ..))).1
      have ih := backs (clock := clock) ds p hp hd' (by omega)
      refine ⟨ih.1, ?_⟩
      have := ih.2
      unfold backPurse at this
      unfold backDeal at this
      omega
theorem tick_ok {m : Mkt} {rows : List Row} (h : MOk m rows) (hc : m.clock ≠ 99999) : MOk (tick m) rows := by
  have hb := backs (clock := m.clock + 1) m.deals m.purses h.mon h.deals.1 h.sum
  have hck := h.clk
  refine ⟨h.fold, hb.1, by simpa [tick] using h.dlen, by show 0 ≤ m.clock + 1 ∧ m.clock + 1 ≤ 99999; omega, h.nlen, h.slen, ⟨fun d hd => ?_, ?_⟩, h.nums, ?_⟩
  · simp only [tick, List.mem_map] at hd
    obtain ⟨x, hx, rfl⟩ := hd
    exact backDeal_ok (h.deals.1 x hx)
  · show (m.deals.map _).Pairwise _
    rw [List.pairwise_map]
    refine h.deals.2.imp fun {a b} hab => ?_
    rw [backDeal_ticket, backDeal_ticket]
    exact hab
  · show (m.deals.foldl (backPurse (m.clock + 1)) m.purses).sum + heldSum (m.deals.map (backDeal (m.clock + 1))) ≤ _
    rw [hb.2]
    exact h.sum
theorem tick_total {m : Mkt} {rows : List Row} (h : MOk m rows) : total (tick m) = total m := (backs (clock := m.clock + 1) m.deals m.purses h.mon h.deals.1 h.sum).2
theorem tick_mktOk {m : Mkt} (h : mktOk m = true) (hc : m.clock ≠ 99999) : mktOk (tick m) = true := by
  obtain ⟨rows, h⟩ := mktOk_iff.1 h
  exact mktOk_iff.2 ⟨rows, tick_ok h hc⟩
theorem mktNew_ok {p : List Int} (hp : monOk p = true) (hs : monSum p ≤ 100000) : MOk (mktNew p) rows0 := by
  have e : mktNew p = ⟨[], p, [], 0, [0, 0, 0, 0, 0], [0, 0, 0, 0, 0]⟩ := by simp [mktNew, hp, hs]
  rw [e]
  refine ⟨rfl, hp, by simp, by simp, rfl, rfl, ⟨by simp, by simp⟩, rfl, ?_⟩
  rw [monSum_eq hp] at hs
  simpa [heldSum] using hs
end Go.Proofs.Ytimpagcanengoaa.Sw

