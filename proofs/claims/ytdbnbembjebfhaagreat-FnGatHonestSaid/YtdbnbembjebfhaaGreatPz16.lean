/-
  Texts joined: Draw2, Reg.
-/
import Derived.Test.YtdbnbembjebfhaaGreatPz10
import Derived.Test.YtdbnbembjebfhaaGreatPz13
import Derived.Test.YtdbnbembjebfhaaGreatPz15
import Derived.Deep.RegionHeld3
namespace Go.Proofs.YtdbnbembjebfhaaGreat
set_option maxRecDepth 100000
set_option linter.unusedSimpArgs false
set_option linter.unusedVariables false
open Go.RowKit Go
set_option maxHeartbeats 2000000

/-- What lies in another block than the one that an append may turn. -/
theorem Ow.keepApp {α : Type} {enc : α → List Value} {sz : Nat} {e : TypeId} {w w' : World} {lo c n : Nat} {A B : Option Addr} {xs : List α} (h : Ow enc sz e w lo B c n xs) (hch : Ch (atA A) w w') (hs : ∀ a b, A = some a → B = some b → a.block ≠ b.block) : Ow enc sz e w' lo B c n xs :=
  h.keep_ fun b hb => hch.block b.block (h.blk hb).2 (fun ⟨a, ha, hk⟩ => hs a b ha hb hk.symm)
/-- Two slices, a block of its own each. -/
def Sep (A B : Option Addr) : Prop := ∀ a b, A = some a → B = some b → a.block ≠ b.block
theorem Sep.fresh {α β : Type} {enc : α → List Value} {sz : Nat} {e : TypeId} {enc' : β → List Value} {sz' : Nat} {e' : TypeId} {w w' : World} {lo lo' c n d m : Nat} {A B : Option Addr} {xs : List α} {ys : List β} (h : Ow enc sz e w lo A c n xs) (k : Ow enc' sz' e' w' lo' B d m ys) (hl : w.heap.size ≤ lo') : Sep A B := by
  intro a b ha hb
  have := (h.blk ha).2
  have := (k.blk hb).1
  omega
theorem Sep.grown {α : Type} {enc : α → List Value} {sz : Nat} {e : TypeId} {w : World} {lo c n : Nat} {A A' B : Option Addr} {ys : List α} (h : Sep A B) (k : Ow enc sz e w lo B c n ys) (hat : ∀ b, A' = some b → A = some b ∨ w.heap.size ≤ b.block) : Sep A' B := by
  intro a b ha hb
  rcases hat a ha with h1 | h1
  · exact h a b h1 hb
  · have := (k.blk hb).2
    omega
theorem sOwnPutA_c (A : Option Addr) (c n : Nat) (xs : List Sw.Row) (p q r s : Int) (w : World) (hxs : RR w 0 A c n xs) (hn : n ≤ 4194304) : Calls Tryz.prog 101 #[.slice A n c, .agg #[.int .i64 p, .int .i64 q, .int .i64 r, .int .i64 s]] w fun E w' => ∃ A' c', E = .returned (.tuple #[.slice A' n c', .bool (Sw.ownFits xs ⟨p, q, r, s⟩)]) ∧ OwR w' w.heap.size A' c' n (Sw.ownPut xs ⟨p, q, r, s⟩) ∧ Ex w w' :=
  sOwnPut_c A c n xs ⟨p, q, r, s⟩ w hxs hn
theorem ownPut_len (xs : List Sw.Row) (e : Sw.Ent) : (Sw.ownPut xs e).length = xs.length := by
  unfold Sw.ownPut
  split
  · simp [Sw.putRows]
  · rfl
theorem entCap_bd (f : Int) : 0 ≤ Sw.entCap f ∧ Sw.entCap f ≤ 60 := by
  unfold Sw.entCap
  split
  · rename_i h
    simp only [Sw.inR, Bool.and_eq_true, decide_eq_true_eq] at h
    omega
  · omega

/-- A reader in a later world, where it alone has turned. -/
structure RdCh (w0 w : World) (rb P : Nat) : Prop where
  rd : Rdp w rb P
  ch : Ch (· = rb) w0 w
theorem OI_put {w : World} {lo c n g k : Nat} {A : Option Addr} {xs : List Int} (h : OwI w lo A c n xs) (hA : A = some ⟨g, 0, none⟩) (hk : k < xs.length) (u : Int) : OwI (w.setCell ⟨g, k, none⟩ (.int .i64 u)) lo A c n (xs.set k u) := by
  have := Ow.set h (fun _ => rfl) (j := 0) (u := .int .i64 u) (y := u) hA (List.getElem?_eq_getElem hk) (by omega) rfl
  rwa [Nat.mul_one] at this
theorem pickN_c (rb P N : Nat) (n : Int) (w : World) (hr : Rdp w rb P) (hP : P ≤ 1000000) (hn : n = (N : Int)) (h1 : 1 ≤ N) : Calls Tryz.prog 35 #[.pointer (some ⟨rb, 0, none⟩), .int .i64 n] w fun E w' => ∃ v : Nat, E = .returned (.int .i64 (v : Int)) ∧ v < N ∧ Rdp w' rb (P + 1) ∧ Ch (· = rb) w w' := by
  subst hn
  refine (pick_c rb P N w hr hP (by omega)).mono ?_
  rintro E w' ⟨v, rfl, ⟨h0, h2⟩, h3, h4⟩
  exact ⟨v.toNat, by rw [show ((v.toNat : Nat) : Int) = v by omega], by omega, h3, h4⟩
end Go.Proofs.YtdbnbembjebfhaaGreat

namespace Go.Proofs.YtdbnbembjebfhaaGreat
set_option maxRecDepth 100000
set_option linter.unusedSimpArgs false
set_option linter.unusedVariables false
open Go
section
variable {P : Program} {ops : Array Oper} {Q : Exit → Act → World → Prop} {md : Region.Mode} {S : World → Prop}
/-- An operation that is not wanted. -/
theorem regU (i d : Nat) {oi : Oper} {fuel : Nat} {listed : Array Bool} {a : Act} {w : World} (hi : ops[i]? = some oi) (hd : oi.dst = some d)
    (hs : Region.noSelect ops = true) (hf : Region.free md ops listed i = true) (hr : (Region.ready md ops listed).contains i = true)
    (hQ : ∀ c a w, Q (.panic c) (a.put (some d) undef) w → Q (.panic c) a w) (hw : Region.wanted oi (yielded ops a.tmps) = false) (hS : S w)
    (h : wpAnyH P md ops Q S fuel (listed.setIfInBounds i true) (a.put (some d) undef) w) : wpAnyH P md ops Q S (fuel + 1) listed a w :=
  wpAnyH_take (v := undef) hi hs hf hr (by rw [hd]; exact hQ) (Or.inr ⟨hw, rfl⟩) hS (by rw [hd]; exact h)
/-- One that is wanted, and yields v wherever S holds. -/
theorem regT (i d : Nat) {v : Value} {oi : Oper} {fuel : Nat} {listed : Array Bool} {a : Act} {w : World} (hi : ops[i]? = some oi) (hd : oi.dst = some d)
    (hs : Region.noSelect ops = true) (hf : Region.free md ops listed i = true) (hr : (Region.ready md ops listed).contains i = true)
    (hQ : ∀ c a w, Q (.panic c) (a.put (some d) v) w → Q (.panic c) a w) (hw : Region.wanted oi (yielded ops a.tmps) = true) (hy : ∀ w, S w → (execOp a.eval oi).run P w = .ok (.value v) w) (hS : S w)
    (h : wpAnyH P md ops Q S fuel (listed.setIfInBounds i true) (a.put (some d) v) w) : wpAnyH P md ops Q S (fuel + 1) listed a w :=
  wpAnyH_take (v := v) hi hs hf hr (by rw [hd]; exact hQ) (Or.inl ⟨hw, hy⟩) hS (by rw [hd]; exact h)
/-- A region walked by what holds behind so many more operations, in whatever order they come up. -/
theorem wpAnyH_inv {Inv : Nat → Array Bool → Act → World → Prop} {k : Nat}
    (h0 : ∀ l a w, Inv 0 l a w → wpAnyH P md ops Q S k l a w)
    (hd : ∀ n l a w, Inv (n + 1) l a w → Region.ready md ops l ≠ [])
    (hs : ∀ n l a w, Inv (n + 1) l a w → ∀ i ∈ Region.ready md ops l, wpOp P ops Q i (fun a' w' => S w' ∧ Inv n (l.setIfInBounds i true) a' w') a w) :
    ∀ n l a w, Inv n l a w → wpAnyH P md ops Q S (n + k) l a w
  | 0, l, a, w, h => by rw [Nat.zero_add]; exact h0 l a w h
  | n + 1, l, a, w, h => by
    rw [show n + 1 + k = n + k + 1 by omega]
    exact ⟨fun he => absurd he (hd n l a w h), fun i hi => wpOp_mono (fun a' w' h' => ⟨h'.1, wpAnyH_inv h0 hd hs n _ _ _ h'.2⟩) (hs n l a w h i hi)⟩
end
end Go.Proofs.YtdbnbembjebfhaaGreat

