/-
  Texts joined: LawEq3, LawTo2, LawTo3, Reg, Mkt2, Mkt3, Impl1, Grow, Both, Impl2, Impl3, Impl4, ImpA, ImpB, ImpC, Plain4, Plain5, Plain6, Plain7.
-/
import Derived.Test.YtimpagcanengoaaPk2
import Derived.Deep.RegionHeld3
import Derived.Test.YtimpagcanengoaaPk1
namespace Go.Proofs.Ytimpagcanengoaa
set_option maxRecDepth 100000
set_option linter.unusedSimpArgs false
set_option linter.unusedVariables false
open Go.RowKit Go
set_option maxHeartbeats 400000

theorem mkt_ext {a b : Sw.Mkt} : a = b ↔ a.log = b.log ∧ a.purses = b.purses ∧ a.deals = b.deals ∧ a.clock = b.clock ∧ a.nums = b.nums ∧ a.said = b.said := by cases a; cases b; simp
theorem gate_ext {a b : Sw.Gate} : a = b ↔ a.head = b.head ∧ a.done = b.done := by cases a; cases b; simp
theorem msg_ext {a b : Sw.Msg} : a = b ↔ a.gate = b.gate ∧ a.head = b.head ∧ a.proof = b.proof := by cases a; cases b; simp
theorem world_ext {a b : Sw.World} : a = b ↔ a.first = b.first ∧ a.market = b.market ∧ a.lines = b.lines ∧ a.gates = b.gates ∧ a.bag = b.bag := by cases a; cases b; simp
theorem gate_dec (y z : Sw.Gate) : decide (y = z) = (decide (y.head = z.head) && decide (y.done = z.done)) := by rw [Bool.eq_iff_iff]; simp [gate_ext]
theorem msg_dec (y z : Sw.Msg) : decide (y = z) = (decide (y.gate = z.gate) && (decide (y.head = z.head) && decide (y.proof = z.proof))) := by rw [Bool.eq_iff_iff]; simp [msg_ext]

end Go.Proofs.Ytimpagcanengoaa

namespace Go.Proofs.Ytimpagcanengoaa
set_option maxRecDepth 100000
set_option linter.unusedSimpArgs false
set_option linter.unusedVariables false
open Go.RowKit Go
set_option maxHeartbeats 400000

theorem set_cells_heap {g b : Nat} (h : b ≠ g) : ∀ (vs : List Value) (w : World) (i : Nat), (setCells w g i vs).heap[b]? = w.heap[b]?
  | [], _, _ => rfl
  | v :: vs, w, i => by rw [setCells, set_cells_heap h vs]; exact Below.heap_setCell _ _ _ _ h
theorem set_cells_size {g : Nat} : ∀ (vs : List Value) (w : World) (i : Nat), (setCells w g i vs).heap.size = w.heap.size
  | [], _, _ => rfl
  | v :: vs, w, i => by rw [setCells, set_cells_size vs]; simp
end Go.Proofs.Ytimpagcanengoaa

namespace Go.Proofs.Ytimpagcanengoaa
set_option maxRecDepth 100000
set_option linter.unusedSimpArgs false
set_option linter.unusedVariables false
open Go.RowKit Go
set_option maxHeartbeats 400000

def tau5 (a b c d : Nat) : Nat → Nat := fun x => if x = a then 1 else if x = b then 2 else if x = c then 3 else if x = d then 4 else 5
section
variable {a b c d e : Nat}
theorem tau5_1 : tau5 a b c d a = 1 := if_pos rfl
theorem tau5_2 (h : a < b) : tau5 a b c d b = 2 := by unfold tau5; rw [if_neg (by omega), if_pos rfl]
theorem tau5_3 (h : a < c) (h2 : b < c) : tau5 a b c d c = 3 := by unfold tau5; rw [if_neg (by omega), if_neg (by omega), if_pos rfl]
theorem tau5_4 (h : a < d) (h2 : b < d) (h3 : c < d) : tau5 a b c d d = 4 := by unfold tau5; rw [if_neg (by omega), if_neg (by omega), if_neg (by omega), if_pos rfl]
theorem tau5_5 (h : a < e) (h2 : b < e) (h3 : c < e) (h4 : d < e) : tau5 a b c d e = 5 := by unfold tau5; rw [if_neg (by omega), if_neg (by omega), if_neg (by omega), if_neg (by omega)]
end
section
variable {α : Type} {enc : α → List Value} {sz : Nat} {e : TypeId} {fd fp τ τ' : Nat → Nat} {t : Nat} {w w' : World} {lo lo' c n k : Nat} {A : Option Addr} {xs : List α}
theorem OwT.one {g : Nat} (h : Ow enc sz e w lo (some ⟨g, 0, none⟩) c n xs) (ht : τ g = t) : OwT enc sz e τ t w lo (some ⟨g, 0, none⟩) c n xs := ⟨h, fun a ha => by cases ha; exact ht⟩
theorem OwT.keepF (h : OwT enc sz e τ t w lo A c n xs) (hk : KF lo w w') : OwT enc sz e τ t w' lo A c n xs := h.keep (.of hk)
theorem OwM.keepF {aL : Option Addr} {aLc aLn : Nat} {aP : Option Addr} {aPc aPn : Nat} {aD : Option Addr} {aDc aDn : Nat} {aN : Option Addr} {aNc aNn : Nat} {aS : Option Addr} {aSc aSn : Nat} {m : Sw.Mkt} (h : OwM τ w lo aL aLc aLn aP aPc aPn aD aDc aDn aN aNc aNn aS aSc aSn m) (hk : KF lo w w') : OwM τ w' lo aL aLc aLn aP aPc aPn aD aDc aDn aN aNc aNn aS aSc aSn m := h.keep fun _ _ _ => .of hk
theorem OwM.glueL {aL : Option Addr} {aLc aLn : Nat} {aP : Option Addr} {aPc aPn : Nat} {aD : Option Addr} {aDc aDn : Nat} {aN : Option Addr} {aNc aNn : Nat} {aS : Option Addr} {aSc aSn : Nat} {m : Sw.Mkt} (h : OwM τ w lo aL aLc aLn aP aPc aPn aD aDc aDn aN aNc aNn aS aSc aSn m) (hk : w.heap.size ≤ k) : OwM (glue τ k τ') w lo aL aLc aLn aP aPc aPn aD aDc aDn aN aNc aNn aS aSc aSn m := h.retag fun b hb => if_pos (by omega)
theorem OwT.rs0 (h : OwT enc sz e τ t w lo A c n xs) (hk : KF lo w w') : Rs enc sz w' 0 A c n xs := h.rs.at0 hk
theorem OwM.rm0 {aL : Option Addr} {aLc aLn : Nat} {aP : Option Addr} {aPc aPn : Nat} {aD : Option Addr} {aDc aDn : Nat} {aN : Option Addr} {aNc aNn : Nat} {aS : Option Addr} {aSc aSn : Nat} {m : Sw.Mkt} (h : OwM τ w lo aL aLc aLn aP aPc aPn aD aDc aDn aN aNc aNn aS aSc aSn m) (hk : KF lo w w') : RM w' 0 aL aLc aLn aP aPc aPn aD aDc aDn aN aNc aNn aS aSc aSn m := h.rm.at0 hk
end

end Go.Proofs.Ytimpagcanengoaa

namespace Go.Proofs.Ytimpagcanengoaa
set_option maxRecDepth 100000
set_option linter.unusedSimpArgs false
set_option linter.unusedVariables false
open Go
section
variable {P : Program} {ops : Array Oper} {Q : Exit → Act → World → Prop} {md : Region.Mode} {S : World → Prop}
/-- An operation that is not wanted. -/
theorem regU (i d : Nat) {oi : Oper} {fuel : Nat} {listed : Array Bool} {a : Act} {w : World} (hi : ops[i]? = some oi) (hd : oi.dst = some d)
    (hs : Region.noSelect ops = true) (hf : Region.free md ops listed i = true) (hr : (Region.ready md ops listed).contains i = true)
    (hQ : ∀ c a w, Q (.panic c) (a.put (some d) undef) w → Q (.panic c) a w) (hw : Region.wanted oi (yielded ops a.tmps) = false) (hS : S w)
    (h : wpAnyH P md ops Q S fuel (listed.setIfInBounds i true) (a.put (some d) undef) w) : wpAnyH P md ops Q S (fuel + 1) listed a w :=
  wpAnyH_take (v := undef) hi hs hf hr (by rw [hd]; exact hQ) (Or.inr ⟨hw, rfl⟩) hS (by rw [hd]; exact h)
/-- One that is wanted, and yields v wherever S holds. -/
theorem regT (i d : Nat) {v : Value} {oi : Oper} {fuel : Nat} {listed : Array Bool} {a : Act} {w : World} (hi : ops[i]? = some oi) (hd : oi.dst = some d)
    (hs : Region.noSelect ops = true) (hf : Region.free md ops listed i = true) (hr : (Region.ready md ops listed).contains i = true)
    (hQ : ∀ c a w, Q (.panic c) (a.put (some d) v) w → Q (.panic c) a w) (hw : Region.wanted oi (yielded ops a.tmps) = true) (hy : ∀ w, S w → (execOp a.eval oi).run P w = .ok (.value v) w) (hS : S w)
    (h : wpAnyH P md ops Q S fuel (listed.setIfInBounds i true) (a.put (some d) v) w) : wpAnyH P md ops Q S (fuel + 1) listed a w :=
  wpAnyH_take (v := v) hi hs hf hr (by rw [hd]; exact hQ) (Or.inl ⟨hw, hy⟩) hS (by rw [hd]; exact h)
/-- A region walked by what holds behind so many more operations, in whatever order they come up. -/
theorem wpAnyH_inv {Inv : Nat → Array Bool → Act → World → Prop} {k : Nat}
    (h0 : ∀ l a w, Inv 0 l a w → wpAnyH P md ops Q S k l a w)
    (hd : ∀ n l a w, Inv (n + 1) l a w → Region.ready md ops l ≠ [])
    (hs : ∀ n l a w, Inv (n + 1) l a w → ∀ i ∈ Region.ready md ops l, wpOp P ops Q i (fun a' w' => S w' ∧ Inv n (l.setIfInBounds i true) a' w') a w) :
    ∀ n l a w, Inv n l a w → wpAnyH P md ops Q S (n + k) l a w
  | 0, l, a, w, h => by rw [Nat.zero_add]; exact h0 l a w h
  | n + 1, l, a, w, h => by
    rw [show n + 1 + k = n + k + 1 by omega]
    exact ⟨fun he => absurd he (hd n l a w h), fun i hi => wpOp_mono (fun a' w' h' => ⟨h'.1, wpAnyH_inv h0 hd hs n _ _ _ h'.2⟩) (hs n l a w h i hi)⟩
end
end Go.Proofs.Ytimpagcanengoaa

namespace Go.Proofs.Ytimpagcanengoaa
set_option maxRecDepth 100000
set_option linter.unusedSimpArgs false
set_option linter.unusedVariables false
open Go.RowKit Go
set_option maxHeartbeats 1000000

/-- Behind an append to what lies from lo on, all that was below is as it was. -/
theorem kL {lo l0 : Nat} {w0 w w' : World} (h : w.heap.size ≤ w'.heap.size ∧ ∀ b, b < lo → w'.heap[b]? = w.heap[b]?) (k : KF l0 w0 w) (hl : w0.heap.size ≤ lo) : KF l0 w0 w' :=
  ⟨Nat.le_trans k.size h.1, fun b h1 h2 => (h.2 b (by omega)).trans (k.block b h1 h2)⟩
/-- Five pieces that were made one behind the other are a market. -/
theorem OwM.build {w1 w2 w3 w4 w5 W : World} {lo l1 l2 l3 l4 l5 : Nat} {aL : Option Addr} {aLc aLn : Nat} {aP : Option Addr} {aPc aPn : Nat} {aD : Option Addr} {aDc aDn : Nat} {aN : Option Addr} {aNc aNn : Nat} {aS : Option Addr} {aSc aSn : Nat} {m : Sw.Mkt}
    (h1 : OwE w1 l1 aL aLc aLn m.log) (h2 : OwI w2 l2 aP aPc aPn m.purses) (h3 : OwD w3 l3 aD aDc aDn m.deals) (h4 : OwI w4 l4 aN aNc aNn m.nums) (h5 : OwI w5 l5 aS aSc aSn m.said)
    (g2 : w1.heap.size ≤ l2) (g3 : w2.heap.size ≤ l3) (g4 : w3.heap.size ≤ l4) (g5 : w4.heap.size ≤ l5) (b1 : l1 ≤ w1.heap.size) (b2 : l2 ≤ w2.heap.size) (b3 : l3 ≤ w3.heap.size) (b4 : l4 ≤ w4.heap.size) (hl : lo ≤ l1)
    (k1 : KF l1 w1 W) (k2 : KF l2 w2 W) (k3 : KF l3 w3 W) (k4 : KF l4 w4 W) (k5 : KF l5 w5 W) :
    OwM (glue (fun _ => 1) w1.heap.size (glue (fun _ => 2) w2.heap.size (glue (fun _ => 3) w3.heap.size (glue (fun _ => 4) w4.heap.size (fun _ => 5))))) W lo aL aLc aLn aP aPc aPn aD aDc aDn aN aNc aNn aS aSc aSn m := by
  have p1 : OwTE (fun _ => 1) 1 w1 l1 aL aLc aLn m.log := ⟨h1, fun _ _ => rfl⟩
  have p2 : OwTI (fun _ => 2) 2 w2 l2 aP aPc aPn m.purses := ⟨h2, fun _ _ => rfl⟩
  have p3 : OwTD (fun _ => 3) 3 w3 l3 aD aDc aDn m.deals := ⟨h3, fun _ _ => rfl⟩
  have p4 : OwTI (fun _ => 4) 4 w4 l4 aN aNc aNn m.nums := ⟨h4, fun _ _ => rfl⟩
  have p5 : OwTI (fun _ => 5) 5 w5 l5 aS aSc aSn m.said := ⟨h5, fun _ _ => rfl⟩
  refine ⟨((p1.glueL (Nat.le_refl _)).keepF k1).less (by omega), ?_, ?_, ?_, ?_⟩
  · exact (((p2.glueL (Nat.le_refl _)).glueR g2).keepF k2).less (by omega)
  · exact ((((p3.glueL (Nat.le_refl _)).glueR g3).glueR (by omega)).keepF k3).less (by omega)
  · exact (((((p4.glueL (Nat.le_refl _)).glueR g4).glueR (by omega)).glueR (by omega)).keepF k4).less (by omega)
  · exact (((((p5.glueR g5).glueR (by omega)).glueR (by omega)).glueR (by omega)).keepF k5).less (by omega)
/-- How far one copy has come: nothing, an empty slice, all of it. -/
inductive CopySt {α : Type} (enc : α → List Value) (sz : Nat) (e : TypeId) (τ : Nat → Nat) (t : Nat) (w : World) (lo n : Nat) (xs : List α) : Bool → Bool → Value → Value → Prop
  | none (v u : Value) : CopySt enc sz e τ t w lo n xs false false v u
  | made (A : Option Addr) (c : Nat) (u : Value) (h : OwT enc sz e τ t w lo A c 0 []) : CopySt enc sz e τ t w lo n xs true false (.slice A 0 c) u
  | done (v : Value) (A : Option Addr) (c : Nat) (h : OwT enc sz e τ t w lo A c n xs) : CopySt enc sz e τ t w lo n xs true true v (.slice A n c)
section
variable {α : Type} {enc : α → List Value} {sz : Nat} {e : TypeId} {τ τ' : Nat → Nat} {t s : Nat} {w w' : World} {lo n c : Nat} {xs : List α} {l r : Bool} {v u : Value} {A A' : Option Addr}
theorem CopySt.mv (h : CopySt enc sz e τ t w lo n xs l r v u) (f : ∀ A c k ys, OwT enc sz e τ t w lo A c k ys → OwT enc sz e τ' t w' lo A c k ys) : CopySt enc sz e τ' t w' lo n xs l r v u := by
  cases h with
  | none => exact .none _ _
  | made A c u h => exact .made _ _ _ (f _ _ _ _ h)
  | done v A c h => exact .done _ _ _ (f _ _ _ _ h)
/-- Another copy has been begun. -/
theorem CopySt.alloc {o : Obj} (h : CopySt enc sz e τ t w lo n xs l r v u) : CopySt enc sz e (glue τ w.heap.size (fun _ => s)) t (w.alloc o) lo n xs l r v u :=
  h.mv fun _ _ _ _ h => (h.glueL (Nat.le_refl _)).keep (KT.refl _ _ _ _).alloc
theorem glue_tag {b k : Nat} (h : τ b = s) : glue τ k (fun _ => s) b = s := by
  unfold glue
  split
  · exact h
  · rfl
/-- Another copy has been filled. -/
theorem CopySt.app (h : CopySt enc sz e τ t w lo n xs l r v u) (hb : Ch (atA A) w w') (ht : ∀ a, A = some a → τ a.block = s) (hne : t ≠ s) : CopySt enc sz e (glue τ w.heap.size (fun _ => s)) t w' lo n xs l r v u :=
  h.mv fun _ _ _ _ h => (h.glueL (Nat.le_refl _)).keep (KT.ch hb (KT.refl _ _ _ _) fun i ⟨a, ha, hi⟩ => .inr (by rw [hi, glue_tag (ht a ha)]; exact Ne.symm hne))
theorem OwT.begun {T : TypeId} (h : Ow enc sz e (w.alloc (.cells #[] T)) lo (some ⟨w.heap.size, 0, Option.none⟩) 0 0 []) : OwT enc sz e (glue τ w.heap.size (fun _ => t)) t (w.alloc (.cells #[] T)) lo (some ⟨w.heap.size, 0, Option.none⟩) 0 0 [] :=
  ⟨h, fun a ha => by cases ha; simp [glue]⟩
theorem OwT.full {ys : List α} {m d lo' : Nat} (h : Ow enc sz e w' lo' A' c n xs) (k : OwT enc sz e τ t w lo A d m ys) (hat : ∀ b, A' = some b → A = some b ∨ w.heap.size ≤ b.block) : OwT enc sz e (glue τ w.heap.size (fun _ => t)) t w' lo' A' c n xs :=
  ⟨h, fun a ha => by
    rcases hat a ha with h1 | h1
    · unfold glue; rw [if_pos (k.ow.blk h1).2]; exact k.tag a h1
    · unfold glue; rw [if_neg (by omega)]⟩
end
theorem ready_ne {md : Region.Mode} {ops : Array Oper} {l : Array Bool} {i : Nat} (h : (Region.ready md ops l).contains i = true) : Region.ready md ops l ≠ [] := by
  intro he; rw [he] at h; simp at h
def cb (b : Bool) : Nat := if b then 0 else 1
/-- The five copies' state, where so many operations are still to come. -/
structure Copy5 (aL : Option Addr) (aLc aLn : Nat) (aP : Option Addr) (aPc aPn : Nat) (aD : Option Addr) (aDc aDn : Nat) (aN : Option Addr) (aNc aNn : Nat) (aS : Option Addr) (aSc aSn : Nat) (m : Sw.Mkt) (w W0 : World) (n : Nat) (l : Array Bool) (a : Act) (wx : World) : Prop where
  keep : KF 0 w wx
  held : HeldB (w.heap.size + 1) 6 W0 wx
  up : W0.heap.size ≤ wx.heap.size
  st : ∃ (l0 l1 l2 l3 l4 r0 r1 r2 r3 r4 : Bool) (v0 v1 v2 v3 v4 u0 u1 u2 u3 u4 : Value) (τ : Nat → Nat), n = cb l0 + cb l1 + cb l2 + cb l3 + cb l4 + cb r0 + cb r1 + cb r2 + cb r3 + cb r4 ∧ l = #[l0, true, true, r0, l1, true, true, r1, l2, true, true, r2, true, true, l3, true, true, r3, l4, true, true, r4, false, false] ∧ a = ⟨#[.agg #[.slice aL aLn aLc, .slice aP aPn aPc, .slice aD aDn aDc, .int .i64 m.clock, .slice aN aNn aNc, .slice aS aSn aSc], .pointer (some ⟨w.heap.size, 0, none⟩), .pointer (some ⟨w.heap.size + 1, 0, none⟩), v0, .pointer (some ⟨w.heap.size, 0, none⟩), .slice aL aLn aLc, u0, v1, .pointer (some ⟨w.heap.size, 1, none⟩), .slice aP aPn aPc, u1, v2, .pointer (some ⟨w.heap.size, 2, none⟩), .slice aD aDn aDc, u2, .pointer (some ⟨w.heap.size, 3, none⟩), .int .i64 m.clock, v3, .pointer (some ⟨w.heap.size, 4, none⟩), .slice aN aNn aNc, u3, v4, .pointer (some ⟨w.heap.size, 5, none⟩), .slice aS aSn aSc, u4, undef], []⟩ ∧ CopySt Sw.Ent.enc 4 60 τ 1 wx W0.heap.size aLn m.log l0 r0 v0 u0 ∧ CopySt encI 1 3 τ 2 wx W0.heap.size aPn m.purses l1 r1 v1 u1 ∧ CopySt Sw.Deal.enc 5 38 τ 3 wx W0.heap.size aDn m.deals l2 r2 v2 u2 ∧ CopySt encI 1 3 τ 4 wx W0.heap.size aNn m.nums l3 r3 v3 u3 ∧ CopySt encI 1 3 τ 5 wx W0.heap.size aSn m.said l4 r4 v4 u4

/-- Five pieces with a mark each are a market. -/
theorem OwM.of5 {W : World} {lo l0 : Nat} {τ : Nat → Nat} {aL : Option Addr} {aLc aLn : Nat} {aP : Option Addr} {aPc aPn : Nat} {aD : Option Addr} {aDc aDn : Nat} {aN : Option Addr} {aNc aNn : Nat} {aS : Option Addr} {aSc aSn : Nat} {m : Sw.Mkt} (h1 : OwT Sw.Ent.enc 4 60 τ 1 W l0 aL aLc aLn m.log) (h2 : OwT encI 1 3 τ 2 W l0 aP aPc aPn m.purses) (h3 : OwT Sw.Deal.enc 5 38 τ 3 W l0 aD aDc aDn m.deals) (h4 : OwT encI 1 3 τ 4 W l0 aN aNc aNn m.nums) (h5 : OwT encI 1 3 τ 5 W l0 aS aSc aSn m.said) (hl : lo ≤ l0) : OwM τ W lo aL aLc aLn aP aPc aPn aD aDc aDn aN aNc aNn aS aSc aSn m :=
  ⟨h1.less hl, h2.less hl, h3.less hl, h4.less hl, h5.less hl⟩

theorem sMktCopy_c (aL : Option Addr) (aLc aLn : Nat) (aP : Option Addr) (aPc aPn : Nat) (aD : Option Addr) (aDc aDn : Nat) (aN : Option Addr) (aNc aNn : Nat) (aS : Option Addr) (aSc aSn : Nat) (m : Sw.Mkt) (w : World) (hm : RM w 0 aL aLc aLn aP aPc aPn aD aDc aDn aN aNc aNn aS aSc aSn m) (hn : aLn + aPn + aDn + aNn + aSn ≤ 1048576) : Calls Try.prog 46 #[.agg #[.slice aL aLn aLc, .slice aP aPn aPc, .slice aD aDn aDc, .int .i64 m.clock, .slice aN aNn aNc, .slice aS aSn aSc]] w fun E w' => ∃ bL bLc bLn bP bPc bPn bD bDc bDn bN bNc bNn bS bSc bSn τ, E = .returned (.agg #[.slice bL bLn bLc, .slice bP bPn bPc, .slice bD bDn bDc, .int .i64 m.clock, .slice bN bNn bNc, .slice bS bSn bSc]) ∧ OwM τ w' w.heap.size bL bLc bLn bP bPc bPn bD bDc bDn bN bNc bNn bS bSc bSn m ∧ Ex w w' := by
  obtain ⟨m1, m2, m3, m4, m5⟩ := hm
  go_enter Try.func46, Try.ntmps46
  go_wp2_with fail
  (refine wp_name ?_; intro W0 hb0; have hst := xr hb0; (try simp only [zA, zC, zD, zN] at hst); obtain ⟨hc0, hf0, hz0⟩ := hst; have hLb : Lb W0 (w.heap.size + 1) 6 := Lb.ex (by exact lbc_) hb0; refine wp_region_held_drew (S := fun w' => HeldB (w.heap.size + 1) 6 W0 w') (by kernel_rfl) ?_ (fun hHeld => ?_); (focus ((try dsimp only); (first | with_reducible assumption | with_reducible exact HeldB.start hLb | with_reducible exact HeldB.of (by assumption) (by assumption) | ((repeat (first | with_reducible refine HeldB.set ?_ (by first | exact Or.inl rfl | exact Or.inr (by simp only [zA, zC, zD, zN]; omega) | exact Or.inr (by omega)) | with_reducible refine HeldB.alloc ?_ _ | with_reducible refine HeldB.drew ?_)); (first | with_reducible assumption | with_reducible exact HeldB.refl hLb | with_reducible exact HeldB.of (by assumption) (by assumption) | with_reducible exact HeldB.ex (by assumption) (by assumption)))))); refine regT 1 4 (v := ?_) rfl rfl (by kernel_rfl) (by kernel_rfl) (by kernel_rfl) (fun _ _ _ h => h) (by rfl) ?_ (by assumption) ?_; rotate_left; (focus (intro w hSw; (try dsimp only at hSw); (try (have hst := xc (HeldB.ch hSw); (try simp only [zA, zC, zD, zN] at hst); obtain ⟨hcS, hfS, hzS⟩ := hst)); go_simp; (try with_reducible rfl))); (try simp only [Act.put, List.setIfInBounds_toArray, List.set_cons_zero, List.set_cons_succ]); refine regT 2 5 (v := ?_) rfl rfl (by kernel_rfl) (by kernel_rfl) (by kernel_rfl) (fun _ _ _ h => h) (by rfl) ?_ (by assumption) ?_; rotate_left; (focus (intro w hSw; (try dsimp only at hSw); (try (have hst := xc (HeldB.ch hSw); (try simp only [zA, zC, zD, zN] at hst); obtain ⟨hcS, hfS, hzS⟩ := hst)); go_simp; (try with_reducible rfl))); (try simp only [Act.put, List.setIfInBounds_toArray, List.set_cons_zero, List.set_cons_succ]); refine regT 5 8 (v := ?_) rfl rfl (by kernel_rfl) (by kernel_rfl) (by kernel_rfl) (fun _ _ _ h => h) (by rfl) ?_ (by assumption) ?_; rotate_left; (focus (intro w hSw; (try dsimp only at hSw); (try (have hst := xc (HeldB.ch hSw); (try simp only [zA, zC, zD, zN] at hst); obtain ⟨hcS, hfS, hzS⟩ := hst)); go_simp; (try with_reducible rfl))); (try simp only [Act.put, List.setIfInBounds_toArray, List.set_cons_zero, List.set_cons_succ]); refine regT 6 9 (v := ?_) rfl rfl (by kernel_rfl) (by kernel_rfl) (by kernel_rfl) (fun _ _ _ h => h) (by rfl) ?_ (by assumption) ?_; rotate_left; (focus (intro w hSw; (try dsimp only at hSw); (try (have hst := xc (HeldB.ch hSw); (try simp only [zA, zC, zD, zN] at hst); obtain ⟨hcS, hfS, hzS⟩ := hst)); go_simp; (try with_reducible rfl))); (try simp only [Act.put, List.setIfInBounds_toArray, List.set_cons_zero, List.set_cons_succ]); refine regT 9 12 (v := ?_) rfl rfl (by kernel_rfl) (by kernel_rfl) (by kernel_rfl) (fun _ _ _ h => h) (by rfl) ?_ (by assumption) ?_; rotate_left; (focus (intro w hSw; (try dsimp only at hSw); (try (have hst := xc (HeldB.ch hSw); (try simp only [zA, zC, zD, zN] at hst); obtain ⟨hcS, hfS, hzS⟩ := hst)); go_simp; (try with_reducible rfl))); (try simp only [Act.put, List.setIfInBounds_toArray, List.set_cons_zero, List.set_cons_succ]); refine regT 10 13 (v := ?_) rfl rfl (by kernel_rfl) (by kernel_rfl) (by kernel_rfl) (fun _ _ _ h => h) (by rfl) ?_ (by assumption) ?_; rotate_left; (focus (intro w hSw; (try dsimp only at hSw); (try (have hst := xc (HeldB.ch hSw); (try simp only [zA, zC, zD, zN] at hst); obtain ⟨hcS, hfS, hzS⟩ := hst)); go_simp; (try with_reducible rfl))); (try simp only [Act.put, List.setIfInBounds_toArray, List.set_cons_zero, List.set_cons_succ]); refine regT 12 15 (v := ?_) rfl rfl (by kernel_rfl) (by kernel_rfl) (by kernel_rfl) (fun _ _ _ h => h) (by rfl) ?_ (by assumption) ?_; rotate_left; (focus (intro w hSw; (try dsimp only at hSw); (try (have hst := xc (HeldB.ch hSw); (try simp only [zA, zC, zD, zN] at hst); obtain ⟨hcS, hfS, hzS⟩ := hst)); go_simp; (try with_reducible rfl))); (try simp only [Act.put, List.setIfInBounds_toArray, List.set_cons_zero, List.set_cons_succ]); refine regT 13 16 (v := ?_) rfl rfl (by kernel_rfl) (by kernel_rfl) (by kernel_rfl) (fun _ _ _ h => h) (by rfl) ?_ (by assumption) ?_; rotate_left; (focus (intro w hSw; (try dsimp only at hSw); (try (have hst := xc (HeldB.ch hSw); (try simp only [zA, zC, zD, zN] at hst); obtain ⟨hcS, hfS, hzS⟩ := hst)); go_simp; (try with_reducible rfl))); (try simp only [Act.put, List.setIfInBounds_toArray, List.set_cons_zero, List.set_cons_succ]); refine regT 15 18 (v := ?_) rfl rfl (by kernel_rfl) (by kernel_rfl) (by kernel_rfl) (fun _ _ _ h => h) (by rfl) ?_ (by assumption) ?_; rotate_left; (focus (intro w hSw; (try dsimp only at hSw); (try (have hst := xc (HeldB.ch hSw); (try simp only [zA, zC, zD, zN] at hst); obtain ⟨hcS, hfS, hzS⟩ := hst)); go_simp; (try with_reducible rfl))); (try simp only [Act.put, List.setIfInBounds_toArray, List.set_cons_zero, List.set_cons_succ]); refine regT 16 19 (v := ?_) rfl rfl (by kernel_rfl) (by kernel_rfl) (by kernel_rfl) (fun _ _ _ h => h) (by rfl) ?_ (by assumption) ?_; rotate_left; (focus (intro w hSw; (try dsimp only at hSw); (try (have hst := xc (HeldB.ch hSw); (try simp only [zA, zC, zD, zN] at hst); obtain ⟨hcS, hfS, hzS⟩ := hst)); go_simp; (try with_reducible rfl))); (try simp only [Act.put, List.setIfInBounds_toArray, List.set_cons_zero, List.set_cons_succ]); refine regT 19 22 (v := ?_) rfl rfl (by kernel_rfl) (by kernel_rfl) (by kernel_rfl) (fun _ _ _ h => h) (by rfl) ?_ (by assumption) ?_; rotate_left; (focus (intro w hSw; (try dsimp only at hSw); (try (have hst := xc (HeldB.ch hSw); (try simp only [zA, zC, zD, zN] at hst); obtain ⟨hcS, hfS, hzS⟩ := hst)); go_simp; (try with_reducible rfl))); (try simp only [Act.put, List.setIfInBounds_toArray, List.set_cons_zero, List.set_cons_succ]); refine regT 20 23 (v := ?_) rfl rfl (by kernel_rfl) (by kernel_rfl) (by kernel_rfl) (fun _ _ _ h => h) (by rfl) ?_ (by assumption) ?_; rotate_left; (focus (intro w hSw; (try dsimp only at hSw); (try (have hst := xc (HeldB.ch hSw); (try simp only [zA, zC, zD, zN] at hst); obtain ⟨hcS, hfS, hzS⟩ := hst)); go_simp; (try with_reducible rfl))); (try simp only [Act.put, List.setIfInBounds_toArray, List.set_cons_zero, List.set_cons_succ]))
  have hlt0 : w.heap.size + 1 < W0.heap.size := hLb.lt
  refine wpAnyH_inv (Inv := Copy5 aL aLc aLn aP aPc aPn aD aDc aDn aN aNc aNn aS aSc aSn m w W0) (k := 2) ?_ ?_ ?_ 10 _ _ _ ?_
  case refine_4 =>
    exact ⟨by (exact kf_), hHeld, Nat.le_refl _, false, false, false, false, false, false, false, false, false, false, undef, undef, undef, undef, undef, undef, undef, undef, undef, undef, fun _ => 0, rfl, by kernel_rfl, rfl, .none _ _, .none _ _, .none _ _, .none _ _, .none _ _⟩
  case refine_1 =>
    rintro l a wx ⟨hk, hHeld, hup, l0, l1, l2, l3, l4, r0, r1, r2, r3, r4, v0, v1, v2, v3, v4, u0, u1, u2, u3, u4, τ, hn0, rfl, rfl, C0, C1, C2, C3, C4⟩
    obtain rfl : l0 = true := by cases l0 <;> first | rfl | (exfalso; revert hn0; simp [cb]; done) | (exfalso; revert hn0; simp [cb]; omega)
    obtain rfl : l1 = true := by cases l1 <;> first | rfl | (exfalso; revert hn0; simp [cb]; done) | (exfalso; revert hn0; simp [cb]; omega)
    obtain rfl : l2 = true := by cases l2 <;> first | rfl | (exfalso; revert hn0; simp [cb]; done) | (exfalso; revert hn0; simp [cb]; omega)
    obtain rfl : l3 = true := by cases l3 <;> first | rfl | (exfalso; revert hn0; simp [cb]; done) | (exfalso; revert hn0; simp [cb]; omega)
    obtain rfl : l4 = true := by cases l4 <;> first | rfl | (exfalso; revert hn0; simp [cb]; done) | (exfalso; revert hn0; simp [cb]; omega)
    obtain rfl : r0 = true := by cases r0 <;> first | rfl | (exfalso; revert hn0; simp [cb]; done) | (exfalso; revert hn0; simp [cb]; omega)
    obtain rfl : r1 = true := by cases r1 <;> first | rfl | (exfalso; revert hn0; simp [cb]; done) | (exfalso; revert hn0; simp [cb]; omega)
    obtain rfl : r2 = true := by cases r2 <;> first | rfl | (exfalso; revert hn0; simp [cb]; done) | (exfalso; revert hn0; simp [cb]; omega)
    obtain rfl : r3 = true := by cases r3 <;> first | rfl | (exfalso; revert hn0; simp [cb]; done) | (exfalso; revert hn0; simp [cb]; omega)
    obtain rfl : r4 = true := by cases r4 <;> first | rfl | (exfalso; revert hn0; simp [cb]; done) | (exfalso; revert hn0; simp [cb]; omega)
    obtain ⟨A0, c0, rfl, t0⟩ : ∃ A c, u0 = .slice A aLn c ∧ OwT Sw.Ent.enc 4 60 τ 1 wx W0.heap.size A c aLn m.log := by (cases C0; exact ⟨_, _, rfl, by assumption⟩)
    obtain ⟨A1, c1, rfl, t1⟩ : ∃ A c, u1 = .slice A aPn c ∧ OwT encI 1 3 τ 2 wx W0.heap.size A c aPn m.purses := by (cases C1; exact ⟨_, _, rfl, by assumption⟩)
    obtain ⟨A2, c2, rfl, t2⟩ : ∃ A c, u2 = .slice A aDn c ∧ OwT Sw.Deal.enc 5 38 τ 3 wx W0.heap.size A c aDn m.deals := by (cases C2; exact ⟨_, _, rfl, by assumption⟩)
    obtain ⟨A3, c3, rfl, t3⟩ : ∃ A c, u3 = .slice A aNn c ∧ OwT encI 1 3 τ 4 wx W0.heap.size A c aNn m.nums := by (cases C3; exact ⟨_, _, rfl, by assumption⟩)
    obtain ⟨A4, c4, rfl, t4⟩ : ∃ A c, u4 = .slice A aSn c ∧ OwT encI 1 3 τ 5 wx W0.heap.size A c aSn m.said := by (cases C4; exact ⟨_, _, rfl, by assumption⟩)
    clear C0 C1 C2 C3 C4 hn0
    refine regT 22 25 (v := ?_) rfl rfl (by kernel_rfl) (by kernel_rfl) (by kernel_rfl) (fun _ _ _ h => h) (by rfl) ?_ (by assumption) ?_
    rotate_left
    focus (intro w hSw; (try dsimp only at hSw); go_simp; (try with_reducible rfl))
    try simp only [Act.put, List.setIfInBounds_toArray, List.set_cons_zero, List.set_cons_succ]
    refine wpAnyH_ready (rs := [23]) (by kernel_rfl) (by simp) ?_
    refine AllReadyH.cons rfl (fun K hK => ?_) ?_
    rotate_left
    focus exact AllReadyH.nil
    have hLbx := hHeld.lb
    obtain ⟨hcx, hfx⟩ := Lb.rules hLbx
    go_simp
    refine hK.out _ _ ?_ (fun hHx => ?_)
    focus ((first | with_reducible assumption | with_reducible exact HeldB.start hLb | with_reducible exact HeldB.of (by assumption) (by assumption) | ((repeat (first | with_reducible refine HeldB.set ?_ (by first | exact Or.inl rfl | exact Or.inr (by simp only [zA, zC, zD, zN]; omega) | exact Or.inr (by omega)) | with_reducible refine HeldB.alloc ?_ _ | with_reducible refine HeldB.drew ?_)); (first | with_reducible assumption | with_reducible exact HeldB.refl hLb | with_reducible exact HeldB.of (by assumption) (by assumption) | with_reducible exact HeldB.ex (by assumption) (by assumption)))))
    have hb := hHeld.ch
    clear hK K hHeld hcx hfx hLbx
    (have hst := xc hb; (try simp only [zA, zC, zD, zN] at hst); obtain ⟨hc, hf, hz⟩ := hst)
    have hLb3 := HeldB.lb hHx
    repeat (replace hLb3 := Lb.unset hLb3)
    obtain ⟨hcb, hfb⟩ := Lb.rules hLb3
    clear hHx
    refine wpAnyH_done (by kernel_rfl) ?_ _
    go_wp2
    refine bodyPost_ret (v := .agg #[.slice A0 aLn c0, .slice A1 aPn c1, .slice A2 aDn c2, .int .i64 m.clock, .slice A3 aNn c3, .slice A4 aSn c4]) (by simp [results, Try.results46, go_sem, *]) rfl ?_
    refine ⟨_, _, _, _, _, _, _, _, _, _, _, _, _, _, _, τ, rfl, OwM.of5 (t0.keepF (by (exact kf_))) (t1.keepF (by (exact kf_))) (t2.keepF (by (exact kf_))) (t3.keepF (by (exact kf_))) (t4.keepF (by (exact kf_))) (by omega), ext_⟩
  case refine_2 =>
    rintro n l a wx ⟨hk, hHeld, hup, l0, l1, l2, l3, l4, r0, r1, r2, r3, r4, v0, v1, v2, v3, v4, u0, u1, u2, u3, u4, τ, hn0, rfl, rfl, C0, C1, C2, C3, C4⟩ he
    obtain rfl : l0 = true := by (cases l0 with | true => rfl | false => exact absurd he (ready_ne (i := 0) (by kernel_rfl)))
    obtain rfl : r0 = true := by (cases r0 with | true => rfl | false => exact absurd he (ready_ne (i := 3) (by kernel_rfl)))
    obtain rfl : l1 = true := by (cases l1 with | true => rfl | false => exact absurd he (ready_ne (i := 4) (by kernel_rfl)))
    obtain rfl : r1 = true := by (cases r1 with | true => rfl | false => exact absurd he (ready_ne (i := 7) (by kernel_rfl)))
    obtain rfl : l2 = true := by (cases l2 with | true => rfl | false => exact absurd he (ready_ne (i := 8) (by kernel_rfl)))
    obtain rfl : r2 = true := by (cases r2 with | true => rfl | false => exact absurd he (ready_ne (i := 11) (by kernel_rfl)))
    obtain rfl : l3 = true := by (cases l3 with | true => rfl | false => exact absurd he (ready_ne (i := 14) (by kernel_rfl)))
    obtain rfl : r3 = true := by (cases r3 with | true => rfl | false => exact absurd he (ready_ne (i := 17) (by kernel_rfl)))
    obtain rfl : l4 = true := by (cases l4 with | true => rfl | false => exact absurd he (ready_ne (i := 18) (by kernel_rfl)))
    obtain rfl : r4 = true := by (cases r4 with | true => rfl | false => exact absurd he (ready_ne (i := 21) (by kernel_rfl)))
    simp [cb] at hn0
  case refine_3 =>
    rintro n l a wx ⟨hk, hHeld, hup, l0, l1, l2, l3, l4, r0, r1, r2, r3, r4, v0, v1, v2, v3, v4, u0, u1, u2, u3, u4, τ, hn0, rfl, rfl, C0, C1, C2, C3, C4⟩ i hi
    obtain ⟨hi0, oi, ho, hdep⟩ := mem_ready.1 hi
    clear hi
    have hi24 : i < 24 := (Array.getElem?_eq_some_iff.1 ho).1
    rcases (show i = 0 ∨ i = 1 ∨ i = 2 ∨ i = 3 ∨ i = 4 ∨ i = 5 ∨ i = 6 ∨ i = 7 ∨ i = 8 ∨ i = 9 ∨ i = 10 ∨ i = 11 ∨ i = 12 ∨ i = 13 ∨ i = 14 ∨ i = 15 ∨ i = 16 ∨ i = 17 ∨ i = 18 ∨ i = 19 ∨ i = 20 ∨ i = 21 ∨ i = 22 ∨ i = 23 by omega) with rfl | rfl | rfl | rfl | rfl | rfl | rfl | rfl | rfl | rfl | rfl | rfl | rfl | rfl | rfl | rfl | rfl | rfl | rfl | rfl | rfl | rfl | rfl | rfl
    · -- 0
      obtain rfl : l0 = false := hi0
      cases C0
      clear ho hdep
      refine wpOp_step rfl fun K hK => ?_
      go_simp
      refine hK _ _ ⟨hHeld.alloc _, hk.alloc, hHeld.alloc _, (by simp; omega), true, l1, l2, l3, l4, false, r1, r2, r3, r4, .slice (some ⟨wx.heap.size, 0, none⟩) 0 0, v1, v2, v3, v4, u0, u1, u2, u3, u4, glue τ wx.heap.size (fun _ => 1), ?_, rfl, rfl, .made _ _ _ (OwT.begun (Ow.new [] rfl rfl rfl (fun _ => rfl) (by omega) (by omega))), C1.alloc, C2.alloc, C3.alloc, C4.alloc⟩
      simp only [cb] at hn0 ⊢; simp at hn0 ⊢; omega
    · -- 1
      exact Bool.noConfusion (show true = false from hi0)
    · -- 2
      exact Bool.noConfusion (show true = false from hi0)
    · -- 3
      obtain rfl : r0 = false := hi0
      obtain rfl := Option.some.inj (show some _ = some oi from ho)
      have d := hdep ⟨0, .data⟩ (by simp) rfl
      obtain rfl : l0 = true := d
      clear ho hdep
      obtain ⟨A, c, rfl, ht⟩ : ∃ A c, v0 = .slice A 0 c ∧ OwT Sw.Ent.enc 4 60 τ 1 wx W0.heap.size A c 0 [] := by (cases C0; exact ⟨_, _, rfl, by assumption⟩)
      clear C0
      refine wpOp_step rfl fun K hK => ?_
      apply step_app el_E one_E rfl rfl rfl rfl ht.ow (Rs.at0 m1 hk) (by omega) hup
      intro A1 c1 w2 ho1 hch1 hat1 hex1 hlow1
      rw [List.nil_append] at ho1; simp only [Nat.zero_add] at ho1
      have hbx := hex1 (· = (w.heap.size + 1)) W0 hHeld.ch (Nat.le_refl _)
      have hlbx := Lb.low hlow1 hlt0 hHeld.lb
      simp only [Nat.zero_add]
      have hKF : KF 0 w w2 := kL ⟨hch1.size, hlow1⟩ hk (by omega)
      refine hK _ _ ⟨HeldB.of hbx hlbx, hKF, HeldB.of hbx hlbx, Nat.le_trans hup hch1.size, true, l1, l2, l3, l4, true, r1, r2, r3, r4, .slice A 0 c, v1, v2, v3, v4, .slice A1 aLn c1, u1, u2, u3, u4, glue τ wx.heap.size (fun _ => 1), ?_, rfl, rfl, .done _ _ _ (OwT.full ho1 ht hat1), C1.app hch1 ht.tag (by decide), C2.app hch1 ht.tag (by decide), C3.app hch1 ht.tag (by decide), C4.app hch1 ht.tag (by decide)⟩
      simp only [cb] at hn0 ⊢; simp at hn0 ⊢; omega
    · -- 4
      obtain rfl : l1 = false := hi0
      cases C1
      clear ho hdep
      refine wpOp_step rfl fun K hK => ?_
      go_simp
      refine hK _ _ ⟨hHeld.alloc _, hk.alloc, hHeld.alloc _, (by simp; omega), l0, true, l2, l3, l4, r0, false, r2, r3, r4, v0, .slice (some ⟨wx.heap.size, 0, none⟩) 0 0, v2, v3, v4, u0, u1, u2, u3, u4, glue τ wx.heap.size (fun _ => 2), ?_, rfl, rfl, C0.alloc, .made _ _ _ (OwT.begun (Ow.new [] rfl rfl rfl (fun _ => rfl) (by omega) (by omega))), C2.alloc, C3.alloc, C4.alloc⟩
      simp only [cb] at hn0 ⊢; simp at hn0 ⊢; omega
    · -- 5
      exact Bool.noConfusion (show true = false from hi0)
    · -- 6
      exact Bool.noConfusion (show true = false from hi0)
    · -- 7
      obtain rfl : r1 = false := hi0
      obtain rfl := Option.some.inj (show some _ = some oi from ho)
      have d := hdep ⟨4, .data⟩ (by simp) rfl
      obtain rfl : l1 = true := d
      clear ho hdep
      obtain ⟨A, c, rfl, ht⟩ : ∃ A c, v1 = .slice A 0 c ∧ OwT encI 1 3 τ 2 wx W0.heap.size A c 0 [] := by (cases C1; exact ⟨_, _, rfl, by assumption⟩)
      clear C1
      refine wpOp_step rfl fun K hK => ?_
      apply step_app el_I one_I rfl rfl rfl rfl ht.ow (Rs.at0 m2 hk) (by omega) hup
      intro A1 c1 w2 ho1 hch1 hat1 hex1 hlow1
      rw [List.nil_append] at ho1; simp only [Nat.zero_add] at ho1
      have hbx := hex1 (· = (w.heap.size + 1)) W0 hHeld.ch (Nat.le_refl _)
      have hlbx := Lb.low hlow1 hlt0 hHeld.lb
      simp only [Nat.zero_add]
      have hKF : KF 0 w w2 := kL ⟨hch1.size, hlow1⟩ hk (by omega)
      refine hK _ _ ⟨HeldB.of hbx hlbx, hKF, HeldB.of hbx hlbx, Nat.le_trans hup hch1.size, l0, true, l2, l3, l4, r0, true, r2, r3, r4, v0, .slice A 0 c, v2, v3, v4, u0, .slice A1 aPn c1, u2, u3, u4, glue τ wx.heap.size (fun _ => 2), ?_, rfl, rfl, C0.app hch1 ht.tag (by decide), .done _ _ _ (OwT.full ho1 ht hat1), C2.app hch1 ht.tag (by decide), C3.app hch1 ht.tag (by decide), C4.app hch1 ht.tag (by decide)⟩
      simp only [cb] at hn0 ⊢; simp at hn0 ⊢; omega
    · -- 8
      obtain rfl : l2 = false := hi0
      cases C2
      clear ho hdep
      refine wpOp_step rfl fun K hK => ?_
      go_simp
      refine hK _ _ ⟨hHeld.alloc _, hk.alloc, hHeld.alloc _, (by simp; omega), l0, l1, true, l3, l4, r0, r1, false, r3, r4, v0, v1, .slice (some ⟨wx.heap.size, 0, none⟩) 0 0, v3, v4, u0, u1, u2, u3, u4, glue τ wx.heap.size (fun _ => 3), ?_, rfl, rfl, C0.alloc, C1.alloc, .made _ _ _ (OwT.begun (Ow.new [] rfl rfl rfl (fun _ => rfl) (by omega) (by omega))), C3.alloc, C4.alloc⟩
      simp only [cb] at hn0 ⊢; simp at hn0 ⊢; omega
    · -- 9
      exact Bool.noConfusion (show true = false from hi0)
    · -- 10
      exact Bool.noConfusion (show true = false from hi0)
    · -- 11
      obtain rfl : r2 = false := hi0
      obtain rfl := Option.some.inj (show some _ = some oi from ho)
      have d := hdep ⟨8, .data⟩ (by simp) rfl
      obtain rfl : l2 = true := d
      clear ho hdep
      obtain ⟨A, c, rfl, ht⟩ : ∃ A c, v2 = .slice A 0 c ∧ OwT Sw.Deal.enc 5 38 τ 3 wx W0.heap.size A c 0 [] := by (cases C2; exact ⟨_, _, rfl, by assumption⟩)
      clear C2
      refine wpOp_step rfl fun K hK => ?_
      apply step_app el_D one_D rfl rfl rfl rfl ht.ow (Rs.at0 m3 hk) (by omega) hup
      intro A1 c1 w2 ho1 hch1 hat1 hex1 hlow1
      rw [List.nil_append] at ho1; simp only [Nat.zero_add] at ho1
      have hbx := hex1 (· = (w.heap.size + 1)) W0 hHeld.ch (Nat.le_refl _)
      have hlbx := Lb.low hlow1 hlt0 hHeld.lb
      simp only [Nat.zero_add]
      have hKF : KF 0 w w2 := kL ⟨hch1.size, hlow1⟩ hk (by omega)
      refine hK _ _ ⟨HeldB.of hbx hlbx, hKF, HeldB.of hbx hlbx, Nat.le_trans hup hch1.size, l0, l1, true, l3, l4, r0, r1, true, r3, r4, v0, v1, .slice A 0 c, v3, v4, u0, u1, .slice A1 aDn c1, u3, u4, glue τ wx.heap.size (fun _ => 3), ?_, rfl, rfl, C0.app hch1 ht.tag (by decide), C1.app hch1 ht.tag (by decide), .done _ _ _ (OwT.full ho1 ht hat1), C3.app hch1 ht.tag (by decide), C4.app hch1 ht.tag (by decide)⟩
      simp only [cb] at hn0 ⊢; simp at hn0 ⊢; omega
    · -- 12
      exact Bool.noConfusion (show true = false from hi0)
    · -- 13
      exact Bool.noConfusion (show true = false from hi0)
    · -- 14
      obtain rfl : l3 = false := hi0
      cases C3
      clear ho hdep
      refine wpOp_step rfl fun K hK => ?_
      go_simp
      refine hK _ _ ⟨hHeld.alloc _, hk.alloc, hHeld.alloc _, (by simp; omega), l0, l1, l2, true, l4, r0, r1, r2, false, r4, v0, v1, v2, .slice (some ⟨wx.heap.size, 0, none⟩) 0 0, v4, u0, u1, u2, u3, u4, glue τ wx.heap.size (fun _ => 4), ?_, rfl, rfl, C0.alloc, C1.alloc, C2.alloc, .made _ _ _ (OwT.begun (Ow.new [] rfl rfl rfl (fun _ => rfl) (by omega) (by omega))), C4.alloc⟩
      simp only [cb] at hn0 ⊢; simp at hn0 ⊢; omega
    · -- 15
      exact Bool.noConfusion (show true = false from hi0)
    · -- 16
      exact Bool.noConfusion (show true = false from hi0)
    · -- 17
      obtain rfl : r3 = false := hi0
      obtain rfl := Option.some.inj (show some _ = some oi from ho)
      have d := hdep ⟨14, .data⟩ (by simp) rfl
      obtain rfl : l3 = true := d
      clear ho hdep
      obtain ⟨A, c, rfl, ht⟩ : ∃ A c, v3 = .slice A 0 c ∧ OwT encI 1 3 τ 4 wx W0.heap.size A c 0 [] := by (cases C3; exact ⟨_, _, rfl, by assumption⟩)
      clear C3
      refine wpOp_step rfl fun K hK => ?_
      apply step_app el_I one_I rfl rfl rfl rfl ht.ow (Rs.at0 m4 hk) (by omega) hup
      intro A1 c1 w2 ho1 hch1 hat1 hex1 hlow1
      rw [List.nil_append] at ho1; simp only [Nat.zero_add] at ho1
      have hbx := hex1 (· = (w.heap.size + 1)) W0 hHeld.ch (Nat.le_refl _)
      have hlbx := Lb.low hlow1 hlt0 hHeld.lb
      simp only [Nat.zero_add]
      have hKF : KF 0 w w2 := kL ⟨hch1.size, hlow1⟩ hk (by omega)
      refine hK _ _ ⟨HeldB.of hbx hlbx, hKF, HeldB.of hbx hlbx, Nat.le_trans hup hch1.size, l0, l1, l2, true, l4, r0, r1, r2, true, r4, v0, v1, v2, .slice A 0 c, v4, u0, u1, u2, .slice A1 aNn c1, u4, glue τ wx.heap.size (fun _ => 4), ?_, rfl, rfl, C0.app hch1 ht.tag (by decide), C1.app hch1 ht.tag (by decide), C2.app hch1 ht.tag (by decide), .done _ _ _ (OwT.full ho1 ht hat1), C4.app hch1 ht.tag (by decide)⟩
      simp only [cb] at hn0 ⊢; simp at hn0 ⊢; omega
    · -- 18
      obtain rfl : l4 = false := hi0
      cases C4
      clear ho hdep
      refine wpOp_step rfl fun K hK => ?_
      go_simp
      refine hK _ _ ⟨hHeld.alloc _, hk.alloc, hHeld.alloc _, (by simp; omega), l0, l1, l2, l3, true, r0, r1, r2, r3, false, v0, v1, v2, v3, .slice (some ⟨wx.heap.size, 0, none⟩) 0 0, u0, u1, u2, u3, u4, glue τ wx.heap.size (fun _ => 5), ?_, rfl, rfl, C0.alloc, C1.alloc, C2.alloc, C3.alloc, .made _ _ _ (OwT.begun (Ow.new [] rfl rfl rfl (fun _ => rfl) (by omega) (by omega)))⟩
      simp only [cb] at hn0 ⊢; simp at hn0 ⊢; omega
    · -- 19
      exact Bool.noConfusion (show true = false from hi0)
    · -- 20
      exact Bool.noConfusion (show true = false from hi0)
    · -- 21
      obtain rfl : r4 = false := hi0
      obtain rfl := Option.some.inj (show some _ = some oi from ho)
      have d := hdep ⟨18, .data⟩ (by simp) rfl
      obtain rfl : l4 = true := d
      clear ho hdep
      obtain ⟨A, c, rfl, ht⟩ : ∃ A c, v4 = .slice A 0 c ∧ OwT encI 1 3 τ 5 wx W0.heap.size A c 0 [] := by (cases C4; exact ⟨_, _, rfl, by assumption⟩)
      clear C4
      refine wpOp_step rfl fun K hK => ?_
      apply step_app el_I one_I rfl rfl rfl rfl ht.ow (Rs.at0 m5 hk) (by omega) hup
      intro A1 c1 w2 ho1 hch1 hat1 hex1 hlow1
      rw [List.nil_append] at ho1; simp only [Nat.zero_add] at ho1
      have hbx := hex1 (· = (w.heap.size + 1)) W0 hHeld.ch (Nat.le_refl _)
      have hlbx := Lb.low hlow1 hlt0 hHeld.lb
      simp only [Nat.zero_add]
      have hKF : KF 0 w w2 := kL ⟨hch1.size, hlow1⟩ hk (by omega)
      refine hK _ _ ⟨HeldB.of hbx hlbx, hKF, HeldB.of hbx hlbx, Nat.le_trans hup hch1.size, l0, l1, l2, l3, true, r0, r1, r2, r3, true, v0, v1, v2, v3, .slice A 0 c, u0, u1, u2, u3, .slice A1 aSn c1, glue τ wx.heap.size (fun _ => 5), ?_, rfl, rfl, C0.app hch1 ht.tag (by decide), C1.app hch1 ht.tag (by decide), C2.app hch1 ht.tag (by decide), C3.app hch1 ht.tag (by decide), .done _ _ _ (OwT.full ho1 ht hat1)⟩
      simp only [cb] at hn0 ⊢; simp at hn0 ⊢; omega
    · -- 22
      obtain rfl := Option.some.inj (show some _ = some oi from ho)
      obtain rfl : r0 = true := hdep ⟨3, .data⟩ (by simp) rfl
      obtain rfl : l0 = true := by (cases C0; rfl)
      obtain rfl : r1 = true := hdep ⟨7, .data⟩ (by simp) rfl
      obtain rfl : l1 = true := by (cases C1; rfl)
      obtain rfl : r2 = true := hdep ⟨11, .data⟩ (by simp) rfl
      obtain rfl : l2 = true := by (cases C2; rfl)
      obtain rfl : r3 = true := hdep ⟨17, .data⟩ (by simp) rfl
      obtain rfl : l3 = true := by (cases C3; rfl)
      obtain rfl : r4 = true := hdep ⟨21, .data⟩ (by simp) rfl
      obtain rfl : l4 = true := by (cases C4; rfl)
      simp [cb] at hn0
    · -- 23
      obtain rfl := Option.some.inj (show some _ = some oi from ho)
      exact Bool.noConfusion (show false = true from hdep ⟨22, .data⟩ (by simp) rfl)
end Go.Proofs.Ytimpagcanengoaa

namespace Go.Proofs.Ytimpagcanengoaa
set_option maxRecDepth 100000
set_option linter.unusedSimpArgs false
set_option linter.unusedVariables false
open Go.RowKit Go
set_option maxHeartbeats 1000000

section
variable {τ : Nat → Nat} {t lo : Nat} {a w w' : World}
theorem tR (τ : Nat → Nat) (t lo : Nat) (w : World) : KT τ t lo w w := KT.refl τ t lo w
theorem tA {o : Obj} (h : KT τ t lo a w) : KT τ t lo a (w.alloc o) := h.alloc
theorem tD (h : KT τ t lo a w) : KT τ t lo a w.drew := h.drew
theorem tN {n : Nat} (h : KT τ t lo a w) : KT τ t lo a (w.drewN n) := h.drewN
theorem tS {p : Addr} {u : Value} (h : KT τ t lo a w) (hp : a.heap.size ≤ p.block ∨ τ p.block ≠ t) : KT τ t lo a (w.setCell p u) := h.setCell hp
theorem tE (hb : Ex w w') (h : KT τ t lo a w) : KT τ t lo a w' := h.ex hb
end
/-- What a request or the clock may turn of a market. -/
def SM (lo : Nat) (τ : Nat → Nat) : Nat → Prop := fun k => lo ≤ k ∧ 1 ≤ τ k ∧ τ k ≤ 5
/-- Block g holds, from o on, a market's six cells. -/
structure MktAt (w : World) (g o : Nat) (aL : Option Addr) (aLc aLn : Nat) (aP : Option Addr) (aPc aPn : Nat) (aD : Option Addr) (aDc aDn : Nat) (aN : Option Addr) (aNc aNn : Nat) (aS : Option Addr) (aSc aSn : Nat) (clock : Int) : Prop where
  lt : g < w.heap.size
  log : w.cell? ⟨g, o, none⟩ = some (.slice aL aLn aLc)
  purses : w.cell? ⟨g, o + 1, none⟩ = some (.slice aP aPn aPc)
  deals : w.cell? ⟨g, o + 2, none⟩ = some (.slice aD aDn aDc)
  clk : w.cell? ⟨g, o + 3, none⟩ = some (.int .i64 clock)
  nums : w.cell? ⟨g, o + 4, none⟩ = some (.slice aN aNn aNc)
  said : w.cell? ⟨g, o + 5, none⟩ = some (.slice aS aSn aSc)
  free : ∀ i, w.frozen? ⟨g, i, none⟩ = false
theorem MktAt.keep {w w' : World} {g o : Nat} {aL : Option Addr} {aLc aLn : Nat} {aP : Option Addr} {aPc aPn : Nat} {aD : Option Addr} {aDc aDn : Nat} {aN : Option Addr} {aNc aNn : Nat} {aS : Option Addr} {aSc aSn : Nat} {clock : Int} (h : MktAt w g o aL aLc aLn aP aPc aPn aD aDc aDn aN aNc aNn aS aSc aSn clock) (hk : KF 0 w w') : MktAt w' g o aL aLc aLn aP aPc aPn aD aDc aDn aN aNc aNn aS aSc aSn clock := by
  have hb := hk.block g (Nat.zero_le _) h.lt
  have hc : ∀ i, w'.cell? ⟨g, i, none⟩ = w.cell? ⟨g, i, none⟩ := fun i => World.cell?_of_block (w := w) (a := ⟨g, i, none⟩) hb
  exact ⟨Nat.lt_of_lt_of_le h.lt hk.size, (hc _).trans h.log, (hc _).trans h.purses, (hc _).trans h.deals, (hc _).trans h.clk, (hc _).trans h.nums, (hc _).trans h.said, fun i => (World.frozen?_of_block (w := w) (a := ⟨g, i, none⟩) hb).trans (h.free i)⟩
/-- A store of the purses. -/
theorem MktAt.setP {w : World} {g o : Nat} {aL : Option Addr} {aLc aLn : Nat} {aP : Option Addr} {aPc aPn : Nat} {aD : Option Addr} {aDc aDn : Nat} {aN : Option Addr} {aNc aNn : Nat} {aS : Option Addr} {aSc aSn : Nat} {clock : Int} (h : MktAt w g o aL aLc aLn aP aPc aPn aD aDc aDn aN aNc aNn aS aSc aSn clock) (B : Option Addr) (n d : Nat) : MktAt (w.setCell ⟨g, o + 1, none⟩ (.slice B n d)) g o aL aLc aLn B d n aD aDc aDn aN aNc aNn aS aSc aSn clock := by
  have ne : ∀ i j : Nat, i ≠ j → (⟨g, i, none⟩ : Addr) ≠ ⟨g, j, none⟩ := fun i j hij e => hij (by injection e)
  exact ⟨by simpa [World.setCell] using h.lt, (World.cell?_setCell_other _ _ _ _ (ne _ _ (by omega))).trans h.log, World.cell?_setCell_same _ _ _ h.purses, (World.cell?_setCell_other _ _ _ _ (ne _ _ (by omega))).trans h.deals, (World.cell?_setCell_other _ _ _ _ (ne _ _ (by omega))).trans h.clk,
    (World.cell?_setCell_other _ _ _ _ (ne _ _ (by omega))).trans h.nums, (World.cell?_setCell_other _ _ _ _ (ne _ _ (by omega))).trans h.said, fun i => by simpa using h.free i⟩
/-- A store of the clock. -/
theorem MktAt.setK {w : World} {g o : Nat} {aL : Option Addr} {aLc aLn : Nat} {aP : Option Addr} {aPc aPn : Nat} {aD : Option Addr} {aDc aDn : Nat} {aN : Option Addr} {aNc aNn : Nat} {aS : Option Addr} {aSc aSn : Nat} {clock : Int} (h : MktAt w g o aL aLc aLn aP aPc aPn aD aDc aDn aN aNc aNn aS aSc aSn clock) (t : Int) : MktAt (w.setCell ⟨g, o + 3, none⟩ (.int .i64 t)) g o aL aLc aLn aP aPc aPn aD aDc aDn aN aNc aNn aS aSc aSn t := by
  have ne : ∀ i j : Nat, i ≠ j → (⟨g, i, none⟩ : Addr) ≠ ⟨g, j, none⟩ := fun i j hij e => hij (by injection e)
  exact ⟨by simpa [World.setCell] using h.lt, (World.cell?_setCell_other _ _ _ _ (ne _ _ (by omega))).trans h.log, (World.cell?_setCell_other _ _ _ _ (ne _ _ (by omega))).trans h.purses, (World.cell?_setCell_other _ _ _ _ (ne _ _ (by omega))).trans h.deals, World.cell?_setCell_same _ _ _ h.clk,
    (World.cell?_setCell_other _ _ _ _ (ne _ _ (by omega))).trans h.nums, (World.cell?_setCell_other _ _ _ _ (ne _ _ (by omega))).trans h.said, fun i => by simpa using h.free i⟩
/-- A store into another block. -/
theorem MktAt.other {w : World} {g o : Nat} {aL : Option Addr} {aLc aLn : Nat} {aP : Option Addr} {aPc aPn : Nat} {aD : Option Addr} {aDc aDn : Nat} {aN : Option Addr} {aNc aNn : Nat} {aS : Option Addr} {aSc aSn : Nat} {clock : Int} (h : MktAt w g o aL aLc aLn aP aPc aPn aD aDc aDn aN aNc aNn aS aSc aSn clock) {p : Addr} (v : Value) (hp : p.block ≠ g) : MktAt (w.setCell p v) g o aL aLc aLn aP aPc aPn aD aDc aDn aN aNc aNn aS aSc aSn clock := by
  have ne : ∀ i : Nat, p ≠ ⟨g, i, none⟩ := fun i e => hp (by rw [e])
  exact ⟨by simpa [World.setCell] using h.lt, (World.cell?_setCell_other _ _ _ _ (ne _)).trans h.log, (World.cell?_setCell_other _ _ _ _ (ne _)).trans h.purses, (World.cell?_setCell_other _ _ _ _ (ne _)).trans h.deals, (World.cell?_setCell_other _ _ _ _ (ne _)).trans h.clk,
    (World.cell?_setCell_other _ _ _ _ (ne _)).trans h.nums, (World.cell?_setCell_other _ _ _ _ (ne _)).trans h.said, fun i => by simpa using h.free i⟩
theorem MktAt.drew {w : World} {g o : Nat} {aL : Option Addr} {aLc aLn : Nat} {aP : Option Addr} {aPc aPn : Nat} {aD : Option Addr} {aDc aDn : Nat} {aN : Option Addr} {aNc aNn : Nat} {aS : Option Addr} {aSc aSn : Nat} {clock : Int} (h : MktAt w g o aL aLc aLn aP aPc aPn aD aDc aDn aN aNc aNn aS aSc aSn clock) : MktAt w.drew g o aL aLc aLn aP aPc aPn aD aDc aDn aN aNc aNn aS aSc aSn clock := ⟨h.1, h.2, h.3, h.4, h.5, h.6, h.7, h.8⟩
/-- The block of an owned slice. -/
theorem Ow.lbA {α : Type} {enc : α → List Value} {sz : Nat} {e : TypeId} {w : World} {lo c n g : Nat} {xs : List α} (h : Ow enc sz e w lo (some ⟨g, 0, none⟩) c n xs) : Lb w g (c * sz) := by
  rcases h.form with ⟨h1, _⟩ | ⟨g', cur, h1, h2, h3, h4, h5, h6, h7, h8⟩
  · cases h1
  · cases h1; exact ⟨cur, e, h4, h7⟩
theorem OD_set3 {w : World} {lo c n k g : Nat} {A : Option Addr} {xs : List Sw.Deal} (h : OwD w lo A c n xs) (hA : A = some ⟨g, 0, none⟩) {x : Sw.Deal} (hx : xs[k]? = some x) (v : Int) :
    OwD (w.setCell ⟨g, k * 5 + 3, none⟩ (.int .i64 v)) lo A c n (xs.set k { x with buyer := v }) := by
  obtain ⟨a, b, c', d, e⟩ := x
  exact Ow.set h (fun _ => rfl) (j := 3) (u := .int .i64 v) hA hx (by omega) (y := ⟨a, b, c', v, e⟩) rfl
theorem OD_set4 {w : World} {lo c n k g : Nat} {A : Option Addr} {xs : List Sw.Deal} (h : OwD w lo A c n xs) (hA : A = some ⟨g, 0, none⟩) {x : Sw.Deal} (hx : xs[k]? = some x) (v : Int) :
    OwD (w.setCell ⟨g, k * 5 + 4, none⟩ (.int .i64 v)) lo A c n (xs.set k { x with due := v }) := by
  obtain ⟨a, b, c', d, e⟩ := x
  exact Ow.set h (fun _ => rfl) (j := 4) (u := .int .i64 v) hA hx (by omega) (y := ⟨a, b, c', d, v⟩) rfl
/-- Deals of which the first k have been asked. -/
def backs (clock : Int) (ds : List Sw.Deal) (k : Nat) : List Sw.Deal := (ds.take k).map (Sw.backDeal clock) ++ ds.drop k
theorem backs_at {clock : Int} {ds : List Sw.Deal} {k : Nat} {y : Sw.Deal} (h : ds[k]? = some y) : (backs clock ds k)[k]? = some y := by
  have hk := (List.getElem?_eq_some_iff.1 h).1
  unfold backs
  rw [List.getElem?_append_right (by simp; omega), List.length_map, List.length_take, Nat.min_eq_left (by omega), Nat.sub_self, List.getElem?_drop]
  exact h
theorem backs_step {clock : Int} {ds : List Sw.Deal} {k : Nat} {y : Sw.Deal} (h : ds[k]? = some y) : (backs clock ds k).set k (Sw.backDeal clock y) = backs clock ds (k + 1) := by
  have hk := (List.getElem?_eq_some_iff.1 h).1
  unfold backs
  rw [List.set_append_right _ _ (by simp; omega), List.length_map, List.length_take, Nat.min_eq_left (by omega), Nat.sub_self, List.take_add_one, h]
  simp only [List.map_append, List.map_cons, List.append_assoc, Option.toList_some, List.map_nil, List.cons_append, List.nil_append]
  rw [List.drop_eq_getElem_cons hk]
  rfl
theorem set_atM {α : Type} {xs : List α} {k : Nat} {x y : α} (h : xs[k]? = some x) : (xs.set k y)[k]? = some y := by
  rw [List.getElem?_set, if_pos rfl, if_pos (List.getElem?_eq_some_iff.1 h).1]
theorem backs_same {clock : Int} {ds : List Sw.Deal} {k : Nat} {y : Sw.Deal} (h : ds[k]? = some y) (hb : Sw.backDeal clock y = y) : backs clock ds (k + 1) = backs clock ds k := by
  rw [← backs_step h, hb]
  have h1 := backs_at (clock := clock) h
  apply List.ext_getElem?
  intro i
  rw [List.getElem?_set]
  split
  · rename_i e
    subst e
    rw [h1, if_pos (List.getElem?_eq_some_iff.1 h1).1]
  · rfl
theorem backs_all {clock : Int} {ds : List Sw.Deal} {k : Nat} (h : ds.length ≤ k) : backs clock ds k = ds.map (Sw.backDeal clock) := by
  unfold backs
  rw [List.take_of_length_le h, List.drop_of_length_le h, List.append_nil]
def pursesTo (clock : Int) (m : Sw.Mkt) (k : Nat) : List Int := (m.deals.take k).foldl (Sw.backPurse clock) m.purses
theorem pursesTo_step {clock : Int} {m : Sw.Mkt} {k : Nat} {y : Sw.Deal} (h : m.deals[k]? = some y) : pursesTo clock m (k + 1) = Sw.backPurse clock (pursesTo clock m k) y := by
  unfold pursesTo
  rw [List.take_add_one, h]
  simp

/-- A price goes back: new purses, and one deal that is free again. -/
theorem OwM.backed {τ : Nat → Nat} {wr w1 w2 : World} {lo g0 o gD k A3c : Nat} {A3 : Option Addr} {aL aP aN aS : Option Addr} {aLc aLn aPc aPn aDc aDn aNc aNn aSc aSn : Nat} {m : Sw.Mkt} {ps : List Int} {y : Sw.Deal} {v : Value}
    (h : OwM τ wr lo aL aLc aLn aP aPc aPn (some ⟨gD, 0, none⟩) aDc aDn aN aNc aNn aS aSc aSn m) (hb : Ex wr w1) (hb2 : Ex (w1.setCell ⟨g0, o, none⟩ v) w2) (ho : OwI w1 wr.heap.size A3 A3c aPn ps) (t0 : τ g0 = 0) (hg0 : g0 < wr.heap.size) (hx : m.deals[k]? = some y) (hlo : lo ≤ wr.heap.size) :
    OwM (glue τ wr.heap.size (fun _ => 2)) ((w2.setCell ⟨gD, k * 5 + 3, none⟩ (.int .i64 0)).setCell ⟨gD, k * 5 + 4, none⟩ (.int .i64 0)) lo aL aLc aLn A3 A3c aPn (some ⟨gD, 0, none⟩) aDc aDn aN aNc aNn aS aSc aSn
      ⟨m.log, ps, m.deals.set k { y with buyer := 0, due := 0 }, m.clock, m.nums, m.said⟩ := by
  have hgD := h.deals.ow.blk rfl
  dsimp only at hgD
  have tD : τ gD = 3 := h.deals.tag _ rfl
  have tD' : glue τ wr.heap.size (fun _ => 2) gD = 3 := by unfold glue; rw [if_pos hgD.2]; exact tD
  have t0' : glue τ wr.heap.size (fun _ => 2) g0 = 0 := by unfold glue; rw [if_pos hg0]; exact t0
  have hne : g0 ≠ gD := by rintro rfl; omega
  have hz1 := hb.size
  have hz2 : w1.heap.size ≤ w2.heap.size := by have := hb2.size; simpa [World.setCell] using this
  have K : ∀ t, t ≠ 0 → t ≠ 3 → KT (glue τ wr.heap.size (fun _ => 2)) t lo wr ((w2.setCell ⟨gD, k * 5 + 3, none⟩ (.int .i64 0)).setCell ⟨gD, k * 5 + 4, none⟩ (.int .i64 0)) := by
    intro t h0 h3
    refine ((KT.ex hb2 ((KT.ex hb (KT.refl _ _ _ _)).setCell ?_)).setCell ?_).setCell ?_
    · exact Or.inr (by rw [t0']; exact Ne.symm h0)
    · exact Or.inr (by rw [tD']; exact Ne.symm h3)
    · exact Or.inr (by rw [tD']; exact Ne.symm h3)
  have k2 : ∀ b, b < w1.heap.size → b ≠ g0 → w2.heap[b]? = w1.heap[b]? := fun b hb1 hb0 =>
    (hb2.block b (by simpa [World.setCell] using hb1) (fun h => h)).trans (Below.heap_setCell _ _ _ _ hb0)
  refine ⟨(h.log.glueL (Nat.le_refl _)).keep (K 1 (by omega) (by omega)), ⟨?_, fun a ha => ?_⟩, ⟨?_, fun a ha => ?_⟩, (h.nums.glueL (Nat.le_refl _)).keep (K 4 (by omega) (by omega)), (h.said.glueL (Nat.le_refl _)).keep (K 5 (by omega) (by omega))⟩
  · refine (ho.less hlo).keep_ fun a ha => ?_
    have := ho.blk ha
    rw [Below.heap_setCell _ _ _ _ (show a.block ≠ gD by omega), Below.heap_setCell _ _ _ _ (show a.block ≠ gD by omega)]
    exact k2 _ this.2 (by omega)
  · have := (ho.blk ha).1
    unfold glue; rw [if_neg (by omega)]
  · have h1 : OwD w2 lo (some ⟨gD, 0, none⟩) aDc aDn m.deals := h.deals.ow.keep_ fun a ha => by
      cases ha
      exact (k2 gD (by omega) (Ne.symm hne)).trans (hb.block gD hgD.2 (fun h => h))
    have h2 := OD_set4 (OD_set3 h1 rfl hx 0) rfl (set_atM hx) 0
    rw [List.set_set] at h2
    exact h2
  · cases ha
    exact tD'
theorem OwM.clocked {τ : Nat → Nat} {w : World} {lo : Nat} {aL : Option Addr} {aLc aLn : Nat} {aP : Option Addr} {aPc aPn : Nat} {aD : Option Addr} {aDc aDn : Nat} {aN : Option Addr} {aNc aNn : Nat} {aS : Option Addr} {aSc aSn : Nat} {m : Sw.Mkt} (h : OwM τ w lo aL aLc aLn aP aPc aPn aD aDc aDn aN aNc aNn aS aSc aSn m) (t : Int) : OwM τ w lo aL aLc aLn aP aPc aPn aD aDc aDn aN aNc aNn aS aSc aSn { m with clock := t } := ⟨h.1, h.2, h.3, h.4, h.5⟩
theorem back_y {clock : Int} {y : Sw.Deal} (h1 : 0 < y.buyer) (h2 : y.due < clock) : Sw.backDeal clock y = { y with buyer := 0, due := 0 } := by simp [Sw.backDeal, Sw.held, h1, h2]
theorem back_n {clock : Int} {y : Sw.Deal} (h : ¬ (0 < y.buyer ∧ y.due < clock)) : Sw.backDeal clock y = y := by
  have : (Sw.held y && decide (y.due < clock)) = false := by
    rw [Sw.held, ← Bool.decide_and, decide_eq_false_iff_not]; exact h
  simp [Sw.backDeal, this]
theorem backp_y {clock : Int} {p : List Int} {y : Sw.Deal} (h1 : 0 < y.buyer) (h2 : y.due < clock) : Sw.backPurse clock p y = Sw.monTurn p y.buyer y.price := by simp [Sw.backPurse, Sw.held, h1, h2]
theorem backp_n {clock : Int} {p : List Int} {y : Sw.Deal} (h : ¬ (0 < y.buyer ∧ y.due < clock)) : Sw.backPurse clock p y = p := by
  have : (Sw.held y && decide (y.due < clock)) = false := by
    rw [Sw.held, ← Bool.decide_and, decide_eq_false_iff_not]; exact h
  simp [Sw.backPurse, this]
/-- A market whose first k deals have been asked. -/
def ticked (m : Sw.Mkt) (k : Nat) : Sw.Mkt := ⟨m.log, pursesTo (m.clock + 1) m k, backs (m.clock + 1) m.deals k, m.clock + 1, m.nums, m.said⟩
theorem ticked_all {m : Sw.Mkt} {k : Nat} (h : m.deals.length ≤ k) : ticked m k = Sw.tick m := by
  unfold ticked Sw.tick
  rw [backs_all h]
  unfold pursesTo
  rw [List.take_of_length_le h]

theorem sTick_c (aL : Option Addr) (aLc aLn : Nat) (aP : Option Addr) (aPc aPn : Nat) (aD : Option Addr) (aDc aDn : Nat) (aN : Option Addr) (aNc aNn : Nat) (aS : Option Addr) (aSc aSn : Nat) (m : Sw.Mkt) (lo : Nat) (τ : Nat → Nat) (w : World) (hM : OwM τ w lo aL aLc aLn aP aPc aPn aD aDc aDn aN aNc aNn aS aSc aSn m) (hck0 : 0 ≤ m.clock) (hck1 : m.clock ≤ 99999) (hn : aDn ≤ 4194304) (hp : aPn ≤ 4194304) (hlo : lo ≤ w.heap.size) : Calls Try.prog 47 #[.agg #[.slice aL aLn aLc, .slice aP aPn aPc, .slice aD aDn aDc, .int .i64 m.clock, .slice aN aNn aNc, .slice aS aSn aSc]] w fun E w' => ∃ A c, ∃ τ' : Nat → Nat, E = .returned (.agg #[.slice aL aLn aLc, .slice A aPn c, .slice aD aDn aDc, .int .i64 (m.clock + 1), .slice aN aNn aNc, .slice aS aSn aSc]) ∧ OwM τ' w' lo aL aLc aLn A c aPn aD aDc aDn aN aNc aNn aS aSc aSn (Sw.tick m) ∧ (∀ b, b < w.heap.size → τ' b = τ b) ∧ Ch (SM lo τ) w w' := by
  have l3 := Lib.hid hM.deals.ow.1
  go_enter Try.func47, Try.ntmps47
  go_wp2_with fail
  go_loopw [3] (fun i wr => ∃ (k : Nat) (B : Option Addr) (d : Nat) (τr : Nat → Nat), k ≤ aDn ∧ i = .int .i64 k ∧ Ch (SM lo τ) w wr ∧ (∀ b, b < w.heap.size → τr b = τ b) ∧ τr w.heap.size = 0 ∧ τr (w.heap.size + 1) = 0 ∧
    MktAt wr w.heap.size 0 aL aLc aLn B d aPn aD aDc aDn aN aNc aNn aS aSc aSn (m.clock + 1) ∧ w.heap.size + 2 ≤ wr.heap.size ∧ Lb wr (w.heap.size + 1) 6 ∧
    OwM τr wr lo aL aLc aLn B d aPn aD aDc aDn aN aNc aNn aS aSc aSn (ticked m k)) (fun i _ => aDn - (intOf i).toNat)
  case atStart =>
    have g0 : glue τ w.heap.size (fun _ => 0) w.heap.size = 0 := by unfold glue; rw [if_neg (by omega)]
    refine ⟨0, aP, aPc, glue τ w.heap.size (fun _ => 0), Nat.zero_le _, rfl, (by (exact ext_)), fun b hb => if_pos hb, g0, (by unfold glue; rw [if_neg (by omega)]), ⟨by simp; omega, ?_, ?_, ?_, ?_, ?_, ?_, ?_⟩, by simp, (by exact lbc_), ?_⟩
    case refine_8 =>
      refine OwM.keep (OwM.glueL (m := ticked m 0) (OwM.clocked hM _) (Nat.le_refl _)) fun t h1 h5 => ?_
      have g0' : glue τ w.heap.size (fun _ => 0) w.heap.size ≠ t := by rw [g0]; omega
      (with_reducible repeat (first | exact tR _ _ _ _ | apply tA | apply tD | apply tN | (apply tE; assumption) | (refine tS ?_ (by first | exact Or.inl (by first | omega | (simp only [zA, zC, zD, zN]; omega)) | exact Or.inr (by rw [g0]; decide) | exact Or.inr g0))))
    all_goals first | (simp [go_sem]; done) | (intro i; simp [go_sem]; done)
  case round =>
    obtain ⟨k, B, d, τr, hk, rfl, hb2, hτ, h0, h01, hmk, hsz, hLr, ho⟩ := hrel
    obtain ⟨k0, k1, k2, k3, k4, k5, k6, kf⟩ := hmk
    have hmk : MktAt wr w.heap.size 0 aL aLc aLn B d aPn aD aDc aDn aN aNc aNn aS aSc aSn (m.clock + 1) := ⟨k0, k1, k2, k3, k4, k5, k6, kf⟩
    simp only [Nat.zero_add] at k1 k2 k3 k4 k5 k6
    have Hτ := Lib.hid hτ
    clear hτ
    by_cases hlt : k < aDn
    · obtain ⟨y, hy⟩ : ∃ y, m.deals[k]? = some y := ⟨_, List.getElem?_eq_getElem (by have := l3.out; omega)⟩
      have hyb := backs_at (clock := m.clock + 1) hy
      obtain ⟨gD, x, hA, hloD, hltD, hx, q0, q1, q2, q3, q4, hfz⟩ := at_OD ho.deals.ow hlt
      obtain rfl : x = y := by rw [show (ticked m k).deals = backs (m.clock + 1) m.deals k from rfl, hyb] at hx; exact (Option.some.inj hx).symm
      subst hA
      have HX := Lib.hid hx
      have HY := Lib.hid hy
      clear hx hy hyb
      by_cases hh : 0 < x.buyer ∧ x.due < m.clock + 1
      case neg =>
        have e : ticked m (k + 1) = ticked m k := by
          unfold ticked
          rw [pursesTo_step HY.out, backp_n hh, backs_same HY.out (back_n hh)]
        have He := Lib.hid e; clear e
        by_cases hb1 : 0 < x.buyer
        · have hdu : ¬ x.due < m.clock + 1 := fun h => hh ⟨hb1, h⟩
          clear hh
          go_wp2_with fail
          go_roundw
          case rel =>
            exact ⟨k + 1, B, d, τr, by omega, by go_num, (by (exact ext_)), Hτ.out, h0, h01, hmk.keep (by (exact kf_)), by exact sz_, (by exact lbc_), by rw [He.out]; exact ho.keepF (by (exact kf_))⟩
          case measure => simp [intOf]; omega
        · clear hh
          go_wp2_with fail
          go_roundw
          case rel =>
            exact ⟨k + 1, B, d, τr, by omega, by go_num, (by (exact ext_)), Hτ.out, h0, h01, hmk.keep (by (exact kf_)), by exact sz_, (by exact lbc_), by rw [He.out]; exact ho.keepF (by (exact kf_))⟩
          case measure => simp [intOf]; omega
      case pos =>
        obtain ⟨hb1, hdu⟩ := hh
        go_wp2_with (go_at_call 76; apply Calls.mono; apply sMonTurn_c; (apply Rs.at0 ho.purses.rs; (exact kf_)); omega; rintro E w3 ⟨A3, c3, rfl, ho3, hb⟩; have hst := xr hb; (try simp only [zA, zC, zD, zN] at hst); obtain ⟨hc, hf, hz⟩ := hst)
        have e : ticked m (k + 1) = ⟨m.log, Sw.monTurn (ticked m k).purses x.buyer x.price, (ticked m k).deals.set k { x with buyer := 0, due := 0 }, m.clock + 1, m.nums, m.said⟩ := by
          unfold ticked
          dsimp only
          rw [pursesTo_step HY.out, backp_y hb1 hdu, ← backs_step HY.out, back_y hb1 hdu]
        have He := Lib.hid e; clear e
        have tD : τr gD = 3 := ho.deals.tag _ rfl
        have hne : gD ≠ w.heap.size := by rintro rfl; rw [h0] at tD; cases tD
        have hgS : SM lo τ gD ∨ w.heap.size ≤ gD := by
          by_cases hg : gD < w.heap.size
          · exact .inl ⟨hloD, by rw [← Hτ.out gD hg, tD]; omega, by rw [← Hτ.out gD hg, tD]; omega⟩
          · exact .inr (by omega)
        have hex : Ex wr w3 := ext_
        go_roundw
        case rel =>
          refine ⟨k + 1, A3, c3, glue τr wr.heap.size (fun _ => 2), by omega, by go_num, (by (with_reducible repeat (first | exact cR _ _ | apply cA | apply cD | apply cN | (refine cS ?_ (Or.inr (by first | omega | (simp only [zA, zC, zD, zN]; omega))) _) | (refine cS ?_ hgS _) | (apply cE; assumption) | (apply cK; assumption)))), fun b hb => (if_pos (by omega)).trans (Hτ.out b hb), (if_pos k0).trans h0, (if_pos (by omega)).trans h01, ?_, by exact sz_, (by exact lbc_), ?_⟩
          · exact (((hmk.keep (by (exact kf_))).setP A3 aPn c3).other _ hne).other _ hne
          · rw [He.out]
            exact OwM.backed ho hex (Ch.refl _ _) (ho3.less (by simp)) h0 k0 (backs_at HY.out) (by omega)
        case measure => simp [intOf]; omega
    · obtain ⟨hcr, hfr⟩ := Lb.rules hLr
      go_wp2_with fail
      refine bodyPost_ret (v := .agg #[.slice aL aLn aLc, .slice B aPn d, .slice aD aDn aDc, .int .i64 (m.clock + 1), .slice aN aNn aNc, .slice aS aSn aSc]) (by simp [results, Try.results47, go_sem, *]) rfl ?_
      obtain rfl : k = aDn := by omega
      refine ⟨B, d, τr, rfl, ?_, Hτ.out, (by (exact ext_))⟩
      rw [← ticked_all (Nat.le_of_eq l3.out.symm)]
      refine ho.keep fun t t1 t5 => ?_
      have hnt : τr (w.heap.size + 1) ≠ t := by rw [h01]; omega
      (with_reducible repeat (first | exact tR _ _ _ _ | apply tA | apply tD | apply tN | (apply tE; assumption) | (refine tS ?_ (by first | exact Or.inl (by first | omega | (simp only [zA, zC, zD, zN]; omega)) | exact Or.inr (by rw [hnt]; decide) | exact Or.inr hnt))))
end Go.Proofs.Ytimpagcanengoaa

namespace Go.Proofs.Ytimpagcanengoaa
set_option maxRecDepth 100000
set_option linter.unusedSimpArgs false
set_option linter.unusedVariables false
open Go.RowKit Go
set_option maxHeartbeats 400000

/-- Where the first one stands that is no leaf; -1 if there is none. -/
def badAt (xs : List Int) : Int := match xs.findIdx? (fun x => !Sw.mixOk x) with
  | some i => i
  | none => -1
theorem badAt_iff (xs : List Int) : decide (0 ≤ badAt xs) = !xs.all Sw.mixOk := by
  unfold badAt
  cases h : xs.findIdx? (fun x => !Sw.mixOk x) with
  | none =>
    rw [List.findIdx?_eq_none_iff] at h
    have : xs.all Sw.mixOk = true := by
      rw [List.all_eq_true]
      intro x hx
      have := h x hx
      simpa using this
    rw [this]; rfl
  | some i =>
    have : xs.all Sw.mixOk = false := by
      rw [List.findIdx?_eq_some_iff_getElem] at h
      obtain ⟨h1, h2, _⟩ := h
      rw [List.all_eq_false]
      exact ⟨xs[i], List.getElem_mem h1, by simpa using h2⟩
    rw [this]
    simp
theorem badAt_here {xs : List Int} {k : Nat} {y : Int} (hy : xs[k]? = some y) (h : ∀ j, j < k → ∀ z, xs[j]? = some z → Sw.mixOk z = true) (hm : Sw.mixOk y = false) : badAt xs = k := by
  unfold badAt
  have hk := (List.getElem?_eq_some_iff.1 hy)
  obtain ⟨hk, rfl⟩ := hk
  have : xs.findIdx? (fun x => !Sw.mixOk x) = some k := by
    rw [List.findIdx?_eq_some_iff_getElem]
    refine ⟨hk, by simp [hm], fun j hj => ?_⟩
    have := h j hj xs[j] (by simp)
    simp [this]
  rw [this]
theorem badAt_none {xs : List Int} {k : Nat} (hk : xs.length ≤ k) (h : ∀ j, j < k → ∀ z, xs[j]? = some z → Sw.mixOk z = true) : badAt xs = -1 := by
  unfold badAt
  have : xs.findIdx? (fun x => !Sw.mixOk x) = none := by
    rw [List.findIdx?_eq_none_iff]
    intro x hx
    obtain ⟨i, hi, rfl⟩ := List.getElem_of_mem hx
    have := h i (by omega) xs[i] (by simp)
    simp [this]
  rw [this]

end Go.Proofs.Ytimpagcanengoaa

namespace Go.Proofs.Ytimpagcanengoaa
set_option maxRecDepth 100000
set_option linter.unusedSimpArgs false
set_option linter.unusedVariables false
open Go.RowKit Go
set_option maxHeartbeats 400000

theorem grow_len {N : Nat} {l : List Int} {m : Nat} {k : Bool} (h : m ≠ l.length) (hN : l.length ≤ N + 1) : Sw.grow (N + 1) l m k =
    if m ≤ Sw.split l.length then Sw.grow N (l.take (Sw.split l.length)) m k ++ [Sw.root (l.drop (Sw.split l.length))]
    else Sw.grow N (l.drop (Sw.split l.length)) (m - Sw.split l.length) false ++ [Sw.root (l.take (Sw.split l.length))] := by
  rw [Sw.grow, if_neg h]

theorem empty_len {xs : List Int} {N : Nat} (h : xs.length ≤ N) : xs.length ≤ N := h
theorem grow_N : ∀ (N M : Nat) (xs : List Int) (m : Nat) (kn : Bool), xs.length ≤ N → xs.length ≤ M → 1 ≤ m → m ≤ xs.length → Sw.grow N xs m kn = Sw.grow M xs m kn
  | 0, _, xs, m, kn, h1, h2, h3, h4 => by omega
  | _ + 1, 0, xs, m, kn, h1, h2, h3, h4 => by omega
  | N + 1, M + 1, xs, m, kn, h1, h2, h3, h4 => by
    rw [Sw.grow, Sw.grow]
    by_cases e : m = xs.length
    · rw [if_pos e, if_pos e]
    · have l2 : 2 ≤ xs.length := by omega
      have s1 := Sw.split_lt l2
      have s0 := Sw.split_pos xs.length
      rw [if_neg e, if_neg e]
      by_cases g : m ≤ Sw.split xs.length
      · rw [if_pos g, if_pos g, grow_N N M _ m kn (by rw [List.length_take]; omega) (by rw [List.length_take]; omega) h3 (by rw [List.length_take]; omega)]
      · rw [if_neg g, if_neg g, grow_N N M _ (m - Sw.split xs.length) false (by rw [List.length_drop]; omega) (by rw [List.length_drop]; omega) (by omega) (by rw [List.length_drop]; omega)]

end Go.Proofs.Ytimpagcanengoaa

namespace Go.Proofs.Ytimpagcanengoaa
set_option maxRecDepth 100000
set_option linter.unusedSimpArgs false
set_option linter.unusedVariables false
open Go.RowKit Go
set_option maxHeartbeats 400000

theorem snoc_of {α : Type} {xs : List α} {n : Nat} {y : α} (hn : n + 1 = xs.length) (h : xs[n]? = some y) : xs = xs.take n ++ [y] := by
  rw [← take_snoc h, List.take_of_length_le (by omega)]
theorem rev_snoc {α : Type} {xs : List α} {n : Nat} {y : α} (hn : n + 1 = xs.length) (h : xs[n]? = some y) : xs.reverse = y :: (xs.take n).reverse := by
  conv => lhs; rw [snoc_of hn h]
  simp

end Go.Proofs.Ytimpagcanengoaa

namespace Go.Proofs.Ytimpagcanengoaa
set_option maxRecDepth 100000
set_option linter.unusedSimpArgs false
set_option linter.unusedVariables false
open Go.RowKit Go
set_option maxHeartbeats 400000

end Go.Proofs.Ytimpagcanengoaa

namespace Go.Proofs.Ytimpagcanengoaa
set_option maxRecDepth 100000
set_option linter.unusedSimpArgs false
set_option linter.unusedVariables false
open Go.RowKit Go
set_option maxHeartbeats 400000

theorem iCloneInts_c (A : Option Addr) (c n : Nat) (xs : List Int) (w : World) (hxs : RI w 0 A c n xs) (hn : n ≤ 4194304) : Calls Try.prog 74 #[.slice A n c] w fun E w' => ∃ A' c', E = .returned (.slice A' n c') ∧ OwI w' w.heap.size A' c' n xs ∧ Ex w w' := by
  go_enter Try.func74, Try.ntmps74
  go_wp2_with (at_builtin; apply wpList_app (lo := w.heap.size) el_I one_I rfl rfl rfl rfl; (first | assumption | exact Ow.nil _ _ | (apply Ow.keep; assumption; exact kf_) | (refine Ow.new [] (by (first | rfl | (simp only [zA, zC, zD, zN]; done) | omega)) rfl rfl (fun _ => rfl) (by exact sz_) (by omega))); (first | ((first | (apply Rs.at0; assumption) | (apply Ow.rs0; assumption)); exact kf_)); omega; exact sz_; intro A1 c1 w2 ho1 hch1 hat1 hex1 hlow1; have hb := hex1 (fun _ => False) w (by exact ext_) (by exact sz_); have hz := hch1.size; (try simp only [zA, zC, zD, zN] at hz); obtain ⟨hc, hf⟩ := low_rules hlow1; clear hlow1 hex1)
  go_ret
  rw [Nat.zero_add, List.nil_append] at ho1
  exact ⟨A1, c1, rfl, ho1, ext_⟩
end Go.Proofs.Ytimpagcanengoaa

namespace Go.Proofs.Ytimpagcanengoaa
set_option maxRecDepth 100000
set_option linter.unusedSimpArgs false
set_option linter.unusedVariables false
open Go.RowKit Go
set_option maxHeartbeats 400000

end Go.Proofs.Ytimpagcanengoaa

namespace Go.Proofs.Ytimpagcanengoaa
set_option maxRecDepth 100000
set_option linter.unusedSimpArgs false
set_option linter.unusedVariables false
open Go.RowKit Go
set_option maxHeartbeats 400000

theorem isUser_c (n : Int) (w : World) : Calls Try.prog 69 #[.int .i64 n] w fun E w' => E = .returned (.bool (Sw.inR n 1 5)) ∧ w = w' := by
  go_enter Try.func69, Try.ntmps69
  go_wp2_with (first | (go_at_call 56; refine (in_c _ _ _ _).mono ?_; rintro E w' ⟨rfl, rfl⟩))
  all_goals (go_ret; exact ⟨rfl, rfl⟩)
theorem isFace_c (n : Int) (w : World) : Calls Try.prog 61 #[.int .i64 n] w fun E w' => E = .returned (.bool (Sw.inR n 1 50)) ∧ w = w' := by
  go_enter Try.func61, Try.ntmps61
  go_wp2_with (first | (go_at_call 56; refine (in_c _ _ _ _).mono ?_; rintro E w' ⟨rfl, rfl⟩))
  all_goals (go_ret; exact ⟨rfl, rfl⟩)
theorem iEntCap_c (f : Int) (w : World) : Calls Try.prog 28 #[.int .i64 f] w fun E w' => E = .returned (.int .i64 (Sw.entCap f)) ∧ w = w' := by
  by_cases h : Sw.inR f 1 50 = true
  · have h' : 1 ≤ f ∧ f ≤ 50 := by simpa [Sw.inR] using h
    obtain ⟨a, b⟩ := h'
    go_enter Try.func28, Try.ntmps28
    go_wp2_with (first | (go_at_call 61; refine (isFace_c _ _).mono ?_; rintro E w' ⟨rfl, rfl⟩))
    all_goals (go_ret; refine ⟨ret_i (by simp [Sw.entCap, h]), rfl⟩)
  · go_enter Try.func28, Try.ntmps28
    go_wp2_with (first | (go_at_call 61; refine (isFace_c _ _).mono ?_; rintro E w' ⟨rfl, rfl⟩))
    all_goals (go_ret; refine ⟨ret_i (by simp [Sw.entCap, h]), rfl⟩)
theorem iEntOk_c (e : Sw.Ent) (w : World) : Calls Try.prog 99 #[.agg #[.int .i64 e.kind, .int .i64 e.ticket, .int .i64 e.who, .int .i64 e.price]] w fun E w' => E = .returned (.bool (Sw.entOk e)) ∧ Ex w w' := by
  go_enter Try.func99, Try.ntmps99
  go_wp2_with (first | (go_at_call 79; refine (isTicket_c _ _).mono ?_; rintro E w' ⟨rfl, rfl⟩) | (go_at_call 69; refine (isUser_c _ _).mono ?_; rintro E w' ⟨rfl, rfl⟩) | (go_at_call 61; refine (isFace_c _ _).mono ?_; rintro E w' ⟨rfl, rfl⟩) | (go_at_call 56; refine (in_c _ _ _ _).mono ?_; rintro E w' ⟨rfl, rfl⟩) | (go_at_call 28; refine (iEntCap_c _ _).mono ?_; rintro E w' ⟨rfl, rfl⟩))
  all_goals (try (refine wp_name ?_; intro W0 hb0; have hst := xr hb0; (try simp only [zA, zC, zD, zN] at hst); obtain ⟨hc0, hf0, hz0⟩ := hst; go_region_held3 (fun w' => Held W0 w') ((first | with_reducible assumption | with_reducible exact Held.start _ | with_reducible exact Held.of (by assumption) | with_reducible exact Held.ex (by assumption) (by assumption) | ((repeat (first | with_reducible refine Held.set ?_ (by simp only [zA, zC, zD, zN]; omega) | with_reducible refine Held.alloc ?_ _ | with_reducible refine Held.drew ?_)); (first | with_reducible assumption | with_reducible exact Held.refl _ | with_reducible exact Held.of (by assumption) | with_reducible exact Held.ex (by assumption) (by assumption))) | exact Held.of (by exact ext_))) ((first | (go_at_call 79; refine (isTicket_c _ _).mono ?_; rintro E w' ⟨rfl, rfl⟩) | (go_at_call 69; refine (isUser_c _ _).mono ?_; rintro E w' ⟨rfl, rfl⟩) | (go_at_call 61; refine (isFace_c _ _).mono ?_; rintro E w' ⟨rfl, rfl⟩) | (go_at_call 56; refine (in_c _ _ _ _).mono ?_; rintro E w' ⟨rfl, rfl⟩) | (go_at_call 28; refine (iEntCap_c _ _).mono ?_; rintro E w' ⟨rfl, rfl⟩))); all_goals (have hb := And.right (by assumption : Held W0 _); have hst := xr hb; (try simp only [zA, zC, zD, zN] at hst); obtain ⟨hc, hf, hz⟩ := hst)))
  all_goals go_wp2
  all_goals (go_ret; refine ⟨ret_b ?_, (by first | rfl | exact ext_)⟩; go_tidy; (try simp only [Bool.not_eq_true', Bool.not_eq_false', Bool.not_eq_true, Bool.not_eq_false, beq_iff_eq, bne_iff_ne, ne_eq, beq_eq_false_iff_ne, bne_eq_false_iff_eq] at *); (first | rfl | (simp [Sw.entOk, Sw.entCap, show Sw.inR 50 1 50 = true from by decide, *]; done) | (simp [Sw.entOk, Sw.entCap, show Sw.inR 50 1 50 = true from by decide, *]; omega) | (simp [Sw.entOk, Sw.entCap, show Sw.inR 50 1 50 = true from by decide, beqI, *]; done) | (simp_all [Sw.entOk, Sw.entCap, show Sw.inR 50 1 50 = true from by decide, beqI]; done) | (simp_all [Sw.entOk, Sw.entCap, show Sw.inR 50 1 50 = true from by decide, beqI] <;> omega) | simp_all [Sw.entOk, Sw.entCap, show Sw.inR 50 1 50 = true from by decide, beqI]))

theorem iOwnOk_c (A : Option Addr) (c n : Nat) (xs : List Sw.Row) (w : World) (hxs : RR w 0 A c n xs) : Calls Try.prog 98 #[.slice A n c] w fun E w' => E = .returned (.bool (Sw.ownOk xs)) ∧ Ex w w' := by
  have hl := Lib.hid hxs.1
  have hbig := Rs.big hxs
  go_enter Try.func98, Try.ntmps98
  go_wp2_with fail
  go_loopw [7] (fun i wr => ∃ (k : Nat), k ≤ n ∧ i = .int .i64 k ∧ Ex w wr ∧ xs.all Sw.rowOk = (xs.drop k).all Sw.rowOk) (fun i _ => n - (intOf i).toNat)
  case atStart => exact ⟨0, Nat.zero_le _, rfl, ext_, rfl⟩
  case round =>
    obtain ⟨k, hk, rfl, hb, hrel⟩ := hrel
    have hst := Ex.rules hb rfl
    obtain ⟨hc, hf, hz⟩ := hst
    by_cases hlt : k < n
    · obtain ⟨g, off, y, rfl, hg0, hg, hd, hy, hc0, hc1, hc2⟩ := at_R hxs hlt
      rw [hd] at hrel
      have Hrel := Lib.hid hrel; clear hd hy hrel
      go_wp2_with (first | (go_at_call 69; refine (isUser_c _ _).mono ?_; rintro E w' ⟨rfl, rfl⟩) | (go_at_call 61; refine (isFace_c _ _).mono ?_; rintro E w' ⟨rfl, rfl⟩))
      all_goals (first | (refine ⟨⟨k + 1, by omega, by go_num, (by exact ext_), ?_⟩, by simp [intOf]; omega⟩; have hh := Hrel.out; clear Hrel; rw [List.all_cons] at hh; rw [hh]; clear hh; go_tidy; (try simp only [Bool.not_eq_true', Bool.not_eq_false', Bool.not_eq_true, Bool.not_eq_false, beq_iff_eq, bne_iff_ne, ne_eq, beq_eq_false_iff_ne, bne_eq_false_iff_eq] at *); have hp : Sw.rowOk y = true := (by (first | (simp [Sw.rowOk, show Sw.inR 0 1 5 = false from rfl, *]; done) | (simp [Sw.rowOk, show Sw.inR 0 1 5 = false from rfl, *]; omega) | (simp [Sw.rowOk, show Sw.inR 0 1 5 = false from rfl, *]; intros; simp_all; done) | (simp_all [Sw.rowOk, show Sw.inR 0 1 5 = false from rfl]; done))); simp [hp]) | (go_ret; refine ⟨ret_b ?_, (by first | rfl | exact ext_)⟩; have hh := Hrel.out; clear Hrel; rw [List.all_cons] at hh; unfold Sw.ownOk; rw [hh]; clear hh; go_tidy; (try simp only [Bool.not_eq_true', Bool.not_eq_false', Bool.not_eq_true, Bool.not_eq_false, beq_iff_eq, bne_iff_ne, ne_eq, beq_eq_false_iff_ne, bne_eq_false_iff_eq] at *); have hp : Sw.rowOk y = false := (by (first | (simp [Sw.rowOk, show Sw.inR 0 1 5 = false from rfl, *]; done) | (simp [Sw.rowOk, show Sw.inR 0 1 5 = false from rfl, *]; omega) | (simp [Sw.rowOk, show Sw.inR 0 1 5 = false from rfl, *]; intros; simp_all; done) | (simp_all [Sw.rowOk, show Sw.inR 0 1 5 = false from rfl]; done))); simp [hp]))
    · have Hrel := Lib.hid hrel; clear hrel
      go_wp2
      go_ret
      refine ⟨ret_b ?_, ext_⟩
      have := Hrel.out
      rw [List.drop_of_length_le (by have := hl.out; omega)] at this
      rw [Sw.ownOk, this, ← hl.out, show ((n : Int) == 8) = decide (n = 8) from by rw [beqI, decide_eq_decide]; omega]
      simp

theorem iFits_c (A : Option Addr) (c : Nat) (xs : List Sw.Row) (e : Sw.Ent) (w : World) (hxs : RR w 0 A c 8 xs) (ht0 : 0 ≤ e.ticket) (ht1 : e.ticket ≤ 7) : Calls Try.prog 100 #[.slice A 8 c, .agg #[.int .i64 e.kind, .int .i64 e.ticket, .int .i64 e.who, .int .i64 e.price]] w fun E w' => E = .returned (.bool (Sw.fitsRow (Sw.rowAt xs e.ticket) e)) ∧ Ex w w' := by
  have hl := Lib.hid hxs.1
  obtain ⟨t, ht'⟩ := Int.eq_ofNat_of_zero_le ht0
  have hlt : t < 8 := by omega
  obtain ⟨g, off, y, rfl, hg0, hg, hd, hy, hc0, hc1, hc2⟩ := at_R hxs hlt
  have hrow : Sw.rowAt xs e.ticket = y := by simp [Sw.rowAt, ht', hy]
  rw [hrow]
  clear hrow hd hy
  have Ht := Lib.hid ht'
  have ht2 : e.ticket < 8 := by omega
  have e0 : e.ticket.toNat = t := by omega
  clear ht'
  obtain ⟨yw, yf, yu⟩ := y
  dsimp only at hc0 hc1 hc2
  by_cases k1 : e.kind = 1
  · have hk1 : (e.kind == 1) = true := by simp [k1]
    have K1 := Lib.hid k1; clear k1
    go_enter Try.func100, Try.ntmps100
    go_wp2_with (first | (go_at_call 28; refine (iEntCap_c _ _).mono ?_; rintro E w' ⟨rfl, rfl⟩))
    go_ret
    exact ⟨ret_b (by simp [Sw.fitsRow, K1.out, beqI]), ext_⟩
  have hk1 : (e.kind == 1) = false := by simp [k1]
  by_cases k2 : e.kind = 2
  · have hk2 : (e.kind == 2) = true := by simp [k2]
    have K2 := Lib.hid k2; clear k2
    cases b1 : (yw == 0)
    case true =>
      have b1' : (yw != 0) = false := by rw [bne, b1]; rfl
      go_enter Try.func100, Try.ntmps100
      go_wp2_with fail
      go_quiet ((first | (go_at_call 28; exact Calls.quiet_same (iEntCap_c _ _))))
      go_wp2
      go_ret
      exact ⟨ret_b (by simp only [Sw.fitsRow, K2.out]; simp only [← beqI, decide_not, ne_eq, b1]; simp), ext_⟩
    have b1' : (yw != 0) = true := by rw [bne, b1]; rfl
    cases b2 : (yw == e.who)
    case true =>
      have b2' : (yw != e.who) = false := by rw [bne, b2]; rfl
      go_enter Try.func100, Try.ntmps100
      go_wp2_with fail
      go_quiet ((first | (go_at_call 28; exact Calls.quiet_same (iEntCap_c _ _))))
      go_wp2
      go_ret
      exact ⟨ret_b (by simp only [Sw.fitsRow, K2.out]; simp only [← beqI, decide_not, ne_eq, b2]; simp), ext_⟩
    have b2' : (yw != e.who) = true := by rw [bne, b2]; rfl
    cases yu
    all_goals
      go_enter Try.func100, Try.ntmps100
      go_wp2_with fail
      go_quiet ((first | (go_at_call 28; exact Calls.quiet_same (iEntCap_c _ _))))
      go_wp2
      go_ret
      exact ⟨ret_b (by simp only [Sw.fitsRow, K2.out]; simp only [← beqI, decide_not, ne_eq, b1, b2]; simp), ext_⟩
  have hk2 : (e.kind == 2) = false := by simp [k2]
  go_enter Try.func100, Try.ntmps100
  go_wp2_with (first | (go_at_call 28; refine (iEntCap_c _ _).mono ?_; rintro E w' ⟨rfl, rfl⟩))
  all_goals (go_ret; refine ⟨ret_b ?_, (by first | rfl | exact ext_)⟩; go_tidy; (try simp only [Bool.not_eq_true', Bool.not_eq_false', Bool.not_eq_true, Bool.not_eq_false, beq_iff_eq, bne_iff_ne, ne_eq, beq_eq_false_iff_ne, bne_eq_false_iff_eq] at *); (first | rfl | (simp [Sw.fitsRow, k1, k2, *]; done) | (simp [Sw.fitsRow, k1, k2, *]; omega) | (simp [Sw.fitsRow, k1, k2, beqI, *]; done) | (simp_all [Sw.fitsRow, k1, k2, beqI]; done) | (simp_all [Sw.fitsRow, k1, k2, beqI] <;> omega) | simp_all [Sw.fitsRow, k1, k2, beqI]))

theorem iOwnFits_c (A : Option Addr) (c n : Nat) (xs : List Sw.Row) (e : Sw.Ent) (w : World) (hxs : RR w 0 A c n xs) : Calls Try.prog 82 #[.slice A n c, .agg #[.int .i64 e.kind, .int .i64 e.ticket, .int .i64 e.who, .int .i64 e.price]] w fun E w' => E = .returned (.bool (Sw.ownFits xs e)) ∧ Ex w w' := by
  have hl := Lib.hid hxs.1
  cases h1 : Sw.ownOk xs
  case false =>
    go_enter Try.func82, Try.ntmps82; go_wp2_with (first | (go_at_call 98; apply Calls.mono; apply iOwnOk_c; ((first | (apply Rs.at0; assumption) | (apply Ow.rs0; assumption)); exact kf_); rintro E w1 ⟨rfl, hb⟩; have hst := xr hb; (try simp only [zA, zC, zD, zN] at hst); obtain ⟨hc, hf, hz⟩ := hst) | (go_at_call 99; refine (iEntOk_c _ _).mono ?_; rintro E w1 ⟨rfl, hb⟩; have hst := xr hb; (try simp only [zA, zC, zD, zN] at hst); obtain ⟨hc, hf, hz⟩ := hst)); go_ret; exact ⟨ret_b (by simp [Sw.ownFits, h1]), ext_⟩
  cases h2 : Sw.entOk e
  case false =>
    go_enter Try.func82, Try.ntmps82; go_wp2_with (first | (go_at_call 98; apply Calls.mono; apply iOwnOk_c; ((first | (apply Rs.at0; assumption) | (apply Ow.rs0; assumption)); exact kf_); rintro E w1 ⟨rfl, hb⟩; have hst := xr hb; (try simp only [zA, zC, zD, zN] at hst); obtain ⟨hc, hf, hz⟩ := hst) | (go_at_call 99; refine (iEntOk_c _ _).mono ?_; rintro E w1 ⟨rfl, hb⟩; have hst := xr hb; (try simp only [zA, zC, zD, zN] at hst); obtain ⟨hc, hf, hz⟩ := hst)); go_ret; exact ⟨ret_b (by simp [Sw.ownFits, h2]), ext_⟩
  obtain ⟨⟨t0, t7⟩, _⟩ := Sw.entOk_iff.1 h2
  have hn8 : n = 8 := by have := hl.out; have := Sw.ownOk_len h1; omega
  subst hn8
  go_enter Try.func82, Try.ntmps82
  go_wp2_with (first | (go_at_call 98; apply Calls.mono; apply iOwnOk_c; ((first | (apply Rs.at0; assumption) | (apply Ow.rs0; assumption)); exact kf_); rintro E w1 ⟨rfl, hb⟩; have hst := xr hb; (try simp only [zA, zC, zD, zN] at hst); obtain ⟨hc, hf, hz⟩ := hst) | (go_at_call 99; refine (iEntOk_c _ _).mono ?_; rintro E w1 ⟨rfl, hb⟩; have hst := xr hb; (try simp only [zA, zC, zD, zN] at hst); obtain ⟨hc, hf, hz⟩ := hst) | (go_at_call 100; apply Calls.mono; apply iFits_c; ((first | (apply Rs.at0; assumption) | (apply Ow.rs0; assumption)); exact kf_); (first | assumption | omega); (first | assumption | omega); rintro E w1 ⟨rfl, hb⟩; have hst := xr hb; (try simp only [zA, zC, zD, zN] at hst); obtain ⟨hc, hf, hz⟩ := hst))
  go_ret
  exact ⟨ret_b (by simp [Sw.ownFits, h1, h2]), ext_⟩

theorem iCloneRows_c (A : Option Addr) (c n : Nat) (xs : List Sw.Row) (w : World) (hxs : RR w 0 A c n xs) (hn : n ≤ 4194304) : Calls Try.prog 81 #[.slice A n c] w fun E w' => ∃ A' c', E = .returned (.slice A' n c') ∧ OwR w' w.heap.size A' c' n xs ∧ Ex w w' := by
  go_enter Try.func81, Try.ntmps81
  go_wp2_with (at_builtin; apply wpList_app (lo := w.heap.size) el_R one_R rfl rfl rfl rfl; (first | assumption | exact Ow.nil _ _ | (apply Ow.keep; assumption; exact kf_) | (refine Ow.new [] (by (first | rfl | (simp only [zA, zC, zD, zN]; done) | omega)) rfl rfl (fun _ => rfl) (by exact sz_) (by omega))); (first | ((first | (apply Rs.at0; assumption) | (apply Ow.rs0; assumption)); exact kf_)); omega; exact sz_; intro A1 c1 w2 ho1 hch1 hat1 hex1 hlow1; have hb := hex1 (fun _ => False) w (by exact ext_) (by exact sz_); have hz := hch1.size; (try simp only [zA, zC, zD, zN] at hz); obtain ⟨hc, hf⟩ := low_rules hlow1; clear hlow1 hex1)
  go_ret
  rw [Nat.zero_add, List.nil_append] at ho1
  exact ⟨A1, c1, rfl, ho1, ext_⟩
end Go.Proofs.Ytimpagcanengoaa

namespace Go.Proofs.Ytimpagcanengoaa
set_option maxRecDepth 100000
set_option linter.unusedSimpArgs false
set_option linter.unusedVariables false
open Go.RowKit Go
set_option maxHeartbeats 1000000

theorem iOwnPut_c (A : Option Addr) (c n : Nat) (xs : List Sw.Row) (e : Sw.Ent) (w : World) (hxs : RR w 0 A c n xs) (hn : n ≤ 4194304) : Calls Try.prog 60 #[.slice A n c, .agg #[.int .i64 e.kind, .int .i64 e.ticket, .int .i64 e.who, .int .i64 e.price]] w fun E w' => ∃ A' c', E = .returned (.tuple #[.slice A' n c', .bool (Sw.ownFits xs e)]) ∧ OwR w' w.heap.size A' c' n (Sw.ownPut xs e) ∧ Ex w w' := by
  by_cases hfit : Sw.ownFits xs e = true
  · have hl := Lib.hid hxs.1
    obtain ⟨h8, t0, t1, hk⟩ := fits_facts hfit
    obtain ⟨t, ht⟩ := Int.eq_ofNat_of_zero_le t0
    have e0 : e.ticket.toNat = t := by omega
    have Ht := Lib.hid ht
    have htn : t < n := by have := hl.out; omega
    have hn8 : n = 8 := by have := hl.out; omega
    subst hn8
    have Hk := Lib.hid hk
    have H8 := Lib.hid h8
    clear ht hk h8
    have key : ∀ (b1 b2 : Bool), (e.kind == 1) = b1 → (e.kind == 2) = b2 → Calls Try.prog 60 #[.slice A 8 c, .agg #[.int .i64 e.kind, .int .i64 e.ticket, .int .i64 e.who, .int .i64 e.price]] w fun E w' => ∃ A' c', E = .returned (.tuple #[.slice A' 8 c', .bool (Sw.ownFits xs e)]) ∧ OwR w' w.heap.size A' c' 8 (Sw.ownPut xs e) ∧ Ex w w' := by
      intro b1 b2 hb1 hb2
      go_enter Try.func60, Try.ntmps60
      go_wp2_with (go_at_call 81; apply Calls.mono; apply iCloneRows_c; ((first | (apply Rs.at0; assumption) | (apply Ow.rs0; assumption)); exact kf_); (first | assumption | omega); rintro E w1 ⟨A1, A1c, rfl, ho1, hb⟩; have hst := xr hb; (try simp only [zA, zC, zD, zN] at hst); obtain ⟨hc, hf, hz⟩ := hst)
      apply Calls.mono; apply iOwnFits_c; (first | assumption | ((first | (apply Rs.at0; assumption) | (apply Ow.rs0; assumption)); exact kf_) | omega); rintro E w3 ⟨rfl, hb3⟩; have hst := xr hb3; (try simp only [zA, zC, zD] at hst); obtain ⟨hc3, hf3, hz3⟩ := hst
      have ho3 := Ow.keep ho1 (KF.ex hb3 (KF.refl _ _))
      obtain ⟨g, x, hA, hlo, hlt, hx, c0, c1, c2, hfz⟩ := at_OR ho3 htn
      obtain ⟨ya, yb, yu⟩ := x
      have Hx := Lib.hid hx
      have hlo' : w.heap.size + 1 ≤ g := by exact sz_
      clear hx
      subst hA
      dsimp only at c0 c1 c2
      cases b1 with
      | true =>
        have hLg : Lb w3 g (A1c * 3) := ho3.lb rfl
        go_wp2_with fail
        (refine wp_name ?_; intro W0 hb0; have hst := xr hb0; (try simp only [zA, zC, zD, zN] at hst); obtain ⟨hc0, hf0, hz0⟩ := hst; have hLb : Lb W0 (g) (A1c * 3) := Lb.ex (by exact lbc_) hb0; go_region_held3 (fun w' => HeldB (g) (A1c * 3) W0 w') ((first | with_reducible assumption | with_reducible exact HeldB.start hLb | with_reducible exact HeldB.of (by assumption) (by assumption) | ((repeat (first | with_reducible refine HeldB.set ?_ (by first | exact Or.inl rfl | exact Or.inr (by simp only [zA, zC, zD, zN]; omega) | exact Or.inr (by omega)) | with_reducible refine HeldB.alloc ?_ _ | with_reducible refine HeldB.drew ?_)); (first | with_reducible assumption | with_reducible exact HeldB.refl hLb | with_reducible exact HeldB.of (by assumption) (by assumption) | with_reducible exact HeldB.ex (by assumption) (by assumption))))) (fail); all_goals (rename HeldB (g) (A1c * 3) W0 _ => hHx; have hb := HeldB.ch hHx; have hst := xc hb; (try simp only [zA, zC, zD, zN] at hst); obtain ⟨hc, hf, hz⟩ := hst; have hLb3 := HeldB.lb hHx; (repeat (first | with_reducible replace hLb3 := Lb.unset hLb3 | with_reducible replace hLb3 := Lb.undrew hLb3)); obtain ⟨hcb, hfb⟩ := Lb.rules hLb3; clear hHx))
        go_wp2
        go_ret2
        refine ⟨_, _, by rw [hfit]; rfl, ?_, ext_⟩
        have k1 : e.kind = 1 := by simpa using hb1
        rw [put_eq hfit Ht.out Hx.out]
        have hu := fits_fresh hfit k1 Ht.out Hx.out
        subst hu
        have hoW := Ow.keep ho3 (KF.ex hb0 (KF.refl _ _))
        have r := OR_set1 (OR_set0 hoW rfl Hx.out e.who) rfl (set_at Hx.out) e.price
        simp only [List.set_set] at r
        simp only [Sw.putRow, k1, if_true]
        exact (r.keep (kD (kR _ _))).less (by exact sz_)
      | false =>
        have k1 : ¬ e.kind = 1 := by simpa using hb1
        cases b2 with
        | true =>
          go_wp2_with fail
          go_ret2
          refine ⟨_, _, by rw [hfit]; rfl, ?_, ext_⟩
          have k2 : e.kind = 2 := by simpa using hb2
          rw [put_eq hfit Ht.out Hx.out]
          have r := OR_set0 ho3 rfl Hx.out e.who
          simp only [Sw.putRow, if_neg k1, k2, if_true]
          exact r.less (by exact sz_)
        | false =>
          go_wp2_with fail
          go_ret2
          refine ⟨_, _, by rw [hfit]; rfl, ?_, ext_⟩
          have k2 : ¬ e.kind = 2 := by simpa using hb2
          rw [put_eq hfit Ht.out Hx.out]
          have r := OR_set2 ho3 rfl Hx.out true
          simp only [Sw.putRow, if_neg k1, if_neg k2]
          exact r.less (by exact sz_)
    exact key _ _ rfl rfl
  · have hf0 : Sw.ownFits xs e = false := by simpa using hfit
    go_enter Try.func60, Try.ntmps60
    go_wp2_with (first | (go_at_call 81; apply Calls.mono; apply iCloneRows_c; ((first | (apply Rs.at0; assumption) | (apply Ow.rs0; assumption)); exact kf_); (first | assumption | omega); rintro E w1 ⟨A', c', rfl, hr, hb⟩; have hst := xr hb; (try simp only [zA, zC, zD, zN] at hst); obtain ⟨hc, hf, hz⟩ := hst) | (go_at_call 82; apply Calls.mono; apply iOwnFits_c; ((first | (apply Rs.at0; assumption) | (apply Ow.rs0; assumption)); exact kf_); rintro E w1 ⟨rfl, hb⟩; have hst := xr hb; (try simp only [zA, zC, zD, zN] at hst); obtain ⟨hc, hf, hz⟩ := hst))
    go_ret2
    refine ⟨_, _, by rw [hf0]; rfl, ?_, ext_⟩
    rw [show Sw.ownPut xs e = xs from by simp [Sw.ownPut, hf0]]
    exact (hr.keep (by (exact kf_))).less (by exact sz_)

theorem z_R : ∀ i z, Try.prog.info? 48 = some i → i.zero = some z → z.cells = (Sw.rowZ.enc).toArray := zero_law (z := .agg #[.int .i64 0, .int .i64 0, .bool false]) (by kernel_rfl) rfl
theorem iOwnFold_c (A : Option Addr) (c n : Nat) (xs : List Sw.Ent) (w : World) (hxs : RE w 0 A c n xs) : Calls Try.prog 27 #[.slice A n c] w fun E w' => ∃ A' c' n', E = .returned (.tuple #[.slice A' n' c', .bool (Sw.ownFold xs).isSome]) ∧ OwR w' w.heap.size A' c' n' ((Sw.ownFold xs).getD []) ∧ Ex w w' := by
  have hl := Lib.hid hxs.1
  have hbig := Rs.big hxs
  by_cases hn : n ≤ 40
  · have hn' : decide (40 < n) = false := by simp; omega
    have hmk : ∀ w, (Instr.makeSlice 44 (.int .i64 8) (.int .i64 8)).run Try.prog w = .ok (.slice (some ⟨w.heap.size, 0, none⟩) 8 8) (w.alloc (.cells (Sw.rows0.flatMap Sw.Row.enc).toArray 48)) := fun _ => by kernel_rfl
    go_enter Try.func27, Try.ntmps27
    go_wp2_with fail
    go_loopw [4, 15] (fun r i wr => ∃ (k : Nat) (B : Option Addr) (d : Nat) (rows : List Sw.Row), k ≤ n ∧ i = .int .i64 k ∧ r = .slice B 8 d ∧ Ex w wr ∧ OwR wr w.heap.size B d 8 rows ∧ Sw.ownFold xs = Sw.foldFrom rows (xs.drop k)) (fun _ i _ => n - (intOf i).toNat)
    case atStart => exact ⟨0, _, _, _, Nat.zero_le _, rfl, rfl, ext_, Ow.new _ rfl rfl rfl (fun _ => rfl) (Nat.le_refl _) (by omega), by rw [Sw.ownFold, if_pos (by have := hl.out; omega)]; rfl⟩
    case round =>
      clear hmk
      obtain ⟨k, B, d, rows, hk, rfl, rfl, hb, ho, hrel⟩ := hrel
      have hst := Ex.rules hb rfl
      obtain ⟨hc, hf, hz⟩ := hst
      by_cases hlt : k < n
      · obtain ⟨g, off, y, rfl, hg0, hg, hd, hy, hc0, hc1, hc2, hc3⟩ := at_E hxs hlt
        rw [hd, Sw.foldFrom] at hrel
        have Hrel := Lib.hid hrel
        clear hd hy hrel
        cases hfit : Sw.ownFits rows y
        case false =>
          go_wp2_with (first | (go_at_call 60; apply Calls.mono; apply iOwnPut_c; (apply Ow.rs0 ho; (exact kf_)); omega; rintro E w1 ⟨A1, c1, rfl, ho1, hb1⟩; have hst := Ex.rules hb1 rfl; obtain ⟨hc1', hf1', hz1'⟩ := hst))
          go_ret2
          have hh := Hrel.out
          rw [if_neg (by simp [hfit])] at hh
          refine ⟨_, _, _, by rw [hh]; rfl, ?_, ext_⟩
          rw [hh]
          exact Ow.nil _ _
        case true =>
          go_wp2_with (first | (go_at_call 60; apply Calls.mono; apply iOwnPut_c; (apply Ow.rs0 ho; (exact kf_)); omega; rintro E w1 ⟨A1, c1, rfl, ho1, hb1⟩; have hst := Ex.rules hb1 rfl; obtain ⟨hc1', hf1', hz1'⟩ := hst))
          have hh := Hrel.out
          rw [if_pos hfit] at hh
          refine ⟨⟨k + 1, _, _, _, by omega, by go_num, rfl, ext_, ho1.less (by exact sz_), ?_⟩, by simp [intOf]; omega⟩
          rw [hh, Sw.ownPut, if_pos hfit]
      · have Hrel := Lib.hid hrel; clear hrel
        go_wp2_with fail
        go_ret2
        obtain rfl : k = n := by omega
        have hh := Hrel.out
        rw [List.drop_of_length_le (by have := hl.out; omega)] at hh
        refine ⟨_, _, _, by rw [hh]; rfl, ?_, ext_⟩
        rw [hh]
        exact ho
  · have hn' : decide (40 < n) = true := by simp; omega
    go_enter Try.func27, Try.ntmps27
    go_wp2_with fail
    go_ret2
    have hh : Sw.ownFold xs = none := by rw [Sw.ownFold, if_neg (by have := hl.out; omega)]
    refine ⟨_, _, _, by rw [hh]; rfl, ?_, ext_⟩
    rw [hh]
    exact Ow.nil _ _

theorem treRoot_own {rows : List Sw.Row} (h : Sw.ownOk rows = true) : Sw.treRoot (Sw.ownLeaves rows) = Sw.root (Sw.ownLeaves rows) := by
  rw [Sw.treRoot, if_pos]
  exact Sw.treOk_iff.2 ⟨by rw [Sw.ownLeaves, leavesFrom_length, Sw.ownOk_len h]; omega, ownLeaves_ok _⟩
theorem treRoot_ent {es : List Sw.Ent} (h : es.length ≤ 40) : Sw.treRoot (es.map Sw.entLeaf) = Sw.root (es.map Sw.entLeaf) := by
  rw [Sw.treRoot, if_pos]
  exact Sw.treOk_iff.2 ⟨by rw [List.length_map]; omega, entLeaves_ok _⟩
end Go.Proofs.Ytimpagcanengoaa

namespace Go.Proofs.Ytimpagcanengoaa
set_option maxRecDepth 100000
set_option linter.unusedSimpArgs false
set_option linter.unusedVariables false
open Go.RowKit Go
set_option maxHeartbeats 1000000

theorem hedOf_n {xs : List Sw.Ent} (h : Sw.ownFold xs = none) : Sw.hedOf xs = none := by simp [Sw.hedOf, h]
theorem hedOf_y {xs : List Sw.Ent} {rows : List Sw.Row} (h : Sw.ownFold xs = some rows) : Sw.hedOf xs = some ⟨xs.length, Sw.root (xs.map Sw.entLeaf), Sw.ownRoot rows⟩ := by simp [Sw.hedOf, h]
/-! ### the first one of which something holds -/
def hitAt {α : Type} (p : α → Bool) (xs : List α) : Int := match xs.findIdx? p with
  | some i => i
  | none => -1
theorem hitAt_iff {α : Type} (p : α → Bool) (xs : List α) : decide (0 ≤ hitAt p xs) = xs.any p := by
  unfold hitAt
  cases h : xs.findIdx? p with
  | none =>
    rw [List.findIdx?_eq_none_iff] at h
    rw [show xs.any p = false from List.any_eq_false.2 fun x hx => by simp [h x hx]]; rfl
  | some i =>
    rw [List.findIdx?_eq_some_iff_getElem] at h
    obtain ⟨h1, h2, _⟩ := h
    rw [show xs.any p = true from List.any_eq_true.2 ⟨xs[i], List.getElem_mem h1, h2⟩]
    simp
theorem hitAt_here {α : Type} {p : α → Bool} {xs : List α} {k : Nat} {y : α} (hy : xs[k]? = some y) (h : ∀ j, j < k → ∀ z, xs[j]? = some z → p z = false) (hm : p y = true) : hitAt p xs = k := by
  unfold hitAt
  obtain ⟨hk, rfl⟩ := List.getElem?_eq_some_iff.1 hy
  have : xs.findIdx? p = some k := by
    rw [List.findIdx?_eq_some_iff_getElem]
    exact ⟨hk, hm, fun j hj => by simp [h j hj xs[j] (by simp)]⟩
  rw [this]
theorem hitAt_none {α : Type} {p : α → Bool} {xs : List α} {k : Nat} (hk : xs.length ≤ k) (h : ∀ j, j < k → ∀ z, xs[j]? = some z → p z = false) : hitAt p xs = -1 := by
  unfold hitAt
  have : xs.findIdx? p = none := by
    rw [List.findIdx?_eq_none_iff]
    intro x hx
    obtain ⟨i, hi, rfl⟩ := List.getElem_of_mem hx
    exact h i (by omega) xs[i] (by simp)
  rw [this]
theorem notHit_step {α : Type} {p : α → Bool} {xs : List α} {k : Nat} {y : α} (hy : xs[k]? = some y) (h : ∀ j, j < k → ∀ z, xs[j]? = some z → p z = false) (hm : p y = false) : ∀ j, j < k + 1 → ∀ z, xs[j]? = some z → p z = false := by
  intro j hj z hz
  rcases Nat.lt_succ_iff_lt_or_eq.1 hj with hj' | rfl
  · exact h j hj' z hz
  · rw [hy] at hz; cases hz; exact hm

def monBad (n : Int) : Bool := !Sw.inR n 0 100000
theorem iMonBad_c (x : Int) (w : World) : Calls Try.prog 63 #[.int .i64 x] w fun E w' => E = .returned (.bool (monBad x)) ∧ w = w' := by
  go_enter Try.func63, Try.ntmps63
  go_wp2_with (first | (go_at_call 56; refine (in_c _ _ _ _).mono ?_; rintro E w' ⟨rfl, rfl⟩))
  go_ret
  exact ⟨ret_b rfl, rfl⟩
theorem iMonBadAt_c (A : Option Addr) (c n : Nat) (xs : List Int) (w : World) (hxs : RI w 0 A c n xs) : Calls Try.prog 83 #[.slice A n c, .func (.func 63) #[] #[]] w fun E w' => E = .returned (.int .i64 (hitAt monBad xs)) ∧ Ex w w' := by

  have hl := Lib.hid hxs.1
  have hbig := Rs.big hxs
  go_enter Try.func83, Try.ntmps83
  go_wp2_with fail
  go_loopw [8] (fun i wr => ∃ k : Nat, k ≤ n ∧ i = .int .i64 k ∧ Ex w wr ∧ ∀ j, j < k → ∀ z, xs[j]? = some z → monBad z = false) (fun i _ => n - (intOf i).toNat)
  case atStart => exact ⟨0, Nat.zero_le _, rfl, (by exact ext_), by omega⟩
  case round =>
    obtain ⟨k, hk, rfl, hb2, hrel⟩ := hrel
    have Hrel := Lib.hid hrel; clear hrel
    have hst := xr hb2
    (try simp only [zA, zC, zD, zN] at hst)
    obtain ⟨hc2, hf2, hz2⟩ := hst
    by_cases hlt : k < n
    · obtain ⟨g, off, y, rfl, hg0, hg, hd, hy, hca0⟩ := at_I hxs hlt
      have Hy := Lib.hid hy; clear hd hy
      cases hmx : monBad y
      case true =>
        go_wp2_with (first | (go_at_call 63; refine (iMonBad_c _ _).mono ?_; rintro E w' ⟨rfl, rfl⟩))
        go_ret
        exact ⟨ret_i (hitAt_here Hy.out Hrel.out hmx).symm, (by exact ext_)⟩
      case false =>
        go_wp2_with (first | (go_at_call 63; refine (iMonBad_c _ _).mono ?_; rintro E w' ⟨rfl, rfl⟩))
        go_roundw
        case rel => exact ⟨k + 1, by omega, by go_num, (by exact ext_), notHit_step Hy.out Hrel.out hmx⟩
        case measure => simp [intOf]; omega
    · go_wp2_with fail
      go_ret
      exact ⟨ret_i (hitAt_none (by have := hl.out; omega) Hrel.out).symm, (by exact ext_)⟩

theorem iMonHasBad_c (A : Option Addr) (c n : Nat) (xs : List Int) (w : World) (hxs : RI w 0 A c n xs) : Calls Try.prog 62 #[.slice A n c, .func (.func 63) #[] #[]] w fun E w' => E = .returned (.bool (xs.any monBad)) ∧ Ex w w' := by
  have Hb := Lib.hid (hitAt_iff monBad xs)
  go_enter Try.func62, Try.ntmps62
  go_wp2_with (first | (go_at_call 83; apply Calls.mono; apply iMonBadAt_c; ((first | (apply Rs.at0; assumption) | (apply Ow.rs0; assumption)); exact kf_); rintro E w1 ⟨rfl, hb⟩; have hst := xr hb; (try simp only [zA, zC, zD, zN] at hst); obtain ⟨hc, hf, hz⟩ := hst))
  go_ret
  exact ⟨ret_b Hb.out, ext_⟩
theorem any_not {α : Type} (p : α → Bool) (xs : List α) : (!xs.any (fun x => !p x)) = xs.all p := by
  rw [List.all_eq_not_any_not]
theorem iMonOk_c (A : Option Addr) (c n : Nat) (xs : List Int) (w : World) (hxs : RI w 0 A c n xs) : Calls Try.prog 29 #[.slice A n c] w fun E w' => E = .returned (.bool (Sw.monOk xs)) ∧ Ex w w' := by
  have hl := Lib.hid hxs.1
  have hbig := Rs.big hxs
  have e : Sw.monOk xs = (decide (n = 5) && !xs.any monBad) := by
    rw [Sw.monOk, ← hl.out, ← any_not]; rfl
  have He := Lib.hid e; clear e
  by_cases hn : n = 5
  · subst hn
    go_enter Try.func29, Try.ntmps29
    go_wp2_with (first | (go_at_call 62; apply Calls.mono; apply iMonHasBad_c; ((first | (apply Rs.at0; assumption) | (apply Ow.rs0; assumption)); exact kf_); rintro E w1 ⟨rfl, hb⟩; have hst := xr hb; (try simp only [zA, zC, zD, zN] at hst); obtain ⟨hc, hf, hz⟩ := hst))
    go_ret
    exact ⟨ret_b (by rw [He.out]; simp), ext_⟩
  · have hb : ((n : Int) == 5) = false := by simp; omega
    go_enter Try.func29, Try.ntmps29
    go_wp2_with (first | (go_at_call 62; apply Calls.mono; apply iMonHasBad_c; ((first | (apply Rs.at0; assumption) | (apply Ow.rs0; assumption)); exact kf_); rintro E w1 ⟨rfl, hb⟩; have hst := xr hb; (try simp only [zA, zC, zD, zN] at hst); obtain ⟨hc, hf, hz⟩ := hst))
    go_ret
    exact ⟨ret_b (by rw [He.out]; simp [hn]), ext_⟩
end Go.Proofs.Ytimpagcanengoaa

namespace Go.Proofs.Ytimpagcanengoaa.Sw
set_option maxRecDepth 100000
set_option linter.unusedSimpArgs false
set_option linter.unusedVariables false
open Go.RowKit (wrap64)

/-- How a request was done: the market behind it, but its numbers. -/
inductive DoneBy (m : Mkt) (rows : List Row) (r : Req) : Mkt → Prop
  | issue : r.kind = 1 → r.user = 1 → r.who ≠ 1 → (rowAt rows r.ticket).who = 0 → m.log.length < 40 → moveMay m.purses r.who 1 r.price = true →
      DoneBy m rows r { m with purses := turned (turned m.purses r.who (-r.price)) 1 r.price, log := m.log ++ [⟨1, r.ticket, r.who, r.price⟩] }
  | offer : r.kind = 2 → (rowAt rows r.ticket).who = r.user → dealAt m.deals r.ticket = none → (rowAt rows r.ticket).used = false → r.price ≤ entCap (rowAt rows r.ticket).face →
      DoneBy m rows r { m with deals := insertDeal ⟨r.ticket, r.user, r.price, 0, 0⟩ m.deals }
  | drop (k : Nat) (d : Deal) : r.kind = 3 → (rowAt rows r.ticket).who = r.user → dealAt m.deals r.ticket = some k → m.deals[k]? = some d → d.ticket = r.ticket → held d = false →
      DoneBy m rows r { m with deals := m.deals.eraseIdx k }
  | fund (k : Nat) (d : Deal) : r.kind = 4 → dealAt m.deals r.ticket = some k → m.deals[k]? = some d → d.ticket = r.ticket → held d = false → d.seller ≠ r.user → turnMay m.purses r.user (-d.price) = true →
      DoneBy m rows r { m with purses := turned m.purses r.user (-d.price), deals := m.deals.set k { d with buyer := r.user, due := m.clock + 5 } }
  | settle (k : Nat) (d : Deal) : r.kind = 5 → dealAt m.deals r.ticket = some k → m.deals[k]? = some d → d.ticket = r.ticket → held d = true → d.seller = r.user → m.log.length < 40 → turnMay m.purses d.seller d.price = true →
      DoneBy m rows r { m with purses := turned m.purses d.seller d.price, log := m.log ++ [⟨2, r.ticket, d.buyer, d.price⟩], deals := m.deals.eraseIdx k }
  | enter : r.kind = 6 → (rowAt rows r.ticket).who = r.user → (rowAt rows r.ticket).used = false → dealAt m.deals r.ticket = none → m.log.length < 40 →
      DoneBy m rows r { m with log := m.log ++ [⟨3, r.ticket, r.user, 0⟩] }
theorem settle_may {m : Mkt} {rows : List Row} (h : MOk m rows) {k : Nat} {d : Deal} (hd : m.deals[k]? = some d) (hh : held d = true) : turnMay m.purses d.seller d.price = true := by
  have hdo := dealOk_iff.1 (h.deals.get hd)
  refine turnMay_in h.mon hdo.2.1 (by have := hdo.2.2.2.2.1; omega) ?_
  have h4 := h.sum
  have h5 := heldSum_erase hd
  have h6 := (heldSum_bd (h.deals.sub (List.eraseIdx_sublist m.deals k)).1).1
  have : heldIn d = d.price := by simp [heldIn, hh]
  omega
/-- A request that is not done turns nothing; one that is done does what its kind does. -/
theorem effect_done {m : Mkt} {rows : List Row} {r : Req} (h : MOk m rows) (hr : reqOk r = true) : ((effect m r).2 ≠ 1 ∧ (effect m r).1 = m) ∨ ((effect m r).2 = 1 ∧ DoneBy m rows r (effect m r).1) := by
  have hr := reqOk_iff.1 hr
  have hlog := (ownFold_some.1 h.fold).1
  unfold effect
  rw [mktRows_of h.fold]
  by_cases k1 : r.kind = 1
  · rw [if_pos k1]
    unfold issue
    split
    · exact .inl ⟨by simp, rfl⟩
    split
    · exact .inl ⟨by simp, rfl⟩
    split
    · exact .inl ⟨by simp, rfl⟩
    split
    · rename_i h1 h2 h3 h4
      exact .inr ⟨rfl, .issue k1 (by omega) (by omega) (by omega) (by omega) h4⟩
    · exact .inl ⟨by simp, rfl⟩
  rw [if_neg k1]
  by_cases k2 : r.kind = 2
  · rw [if_pos k2]
    unfold offer
    split
    · exact .inl ⟨by simp, rfl⟩
    split
    · exact .inl ⟨by simp, rfl⟩
    split
    · exact .inl ⟨by simp, rfl⟩
    · rename_i h1 h2 h3
      simp only [not_or, Bool.not_eq_true] at h2
      exact .inr ⟨rfl, .offer k2 (by simpa using h1) (none_of h2.1) h2.2 (by omega)⟩
  rw [if_neg k2]
  by_cases k3 : r.kind = 3
  · rw [if_pos k3]
    unfold dropIt
    split
    · exact .inl ⟨by simp, rfl⟩
    rename_i h1
    split
    · exact .inl ⟨by simp, rfl⟩
    rename_i k hk
    obtain ⟨d, hd, ht⟩ := dealAt_some hk
    rw [getD_of hd]
    split
    · exact .inl ⟨by simp, rfl⟩
    · exact .inr ⟨rfl, .drop k d k3 (by simpa using h1) hk hd ht (by simpa using ‹¬ held d = true›)⟩
  rw [if_neg k3]
  by_cases k4 : r.kind = 4
  · rw [if_pos k4]
    unfold fund
    split
    · exact .inl ⟨by simp, rfl⟩
    rename_i k hk
    obtain ⟨d, hd, ht⟩ := dealAt_some hk
    rw [getD_of hd]
    split
    · exact .inl ⟨by simp, rfl⟩
    split
    · exact .inl ⟨by simp, rfl⟩
    split
    · exact .inr ⟨rfl, .fund k d k4 hk hd ht (by simpa using ‹¬ held d = true›) ‹_› ‹_›⟩
    · exact .inl ⟨by simp, rfl⟩
  rw [if_neg k4]
  by_cases k5 : r.kind = 5
  · rw [if_pos k5]
    unfold settle
    split
    · exact .inl ⟨by simp, rfl⟩
    rename_i k hk
    obtain ⟨d, hd, ht⟩ := dealAt_some hk
    rw [getD_of hd]
    split
    · exact .inl ⟨by simp, rfl⟩
    split
    · exact .inl ⟨by simp, rfl⟩
    split
    · exact .inl ⟨by simp, rfl⟩
    · rename_i h1 h2 h3
      have hh : held d = true := by simpa using h1
      have hm := settle_may h hd hh
      refine .inr ⟨rfl, ?_⟩
      rw [show monTurn m.purses d.seller d.price = turned m.purses d.seller d.price from by simp [monTurn, hm]]
      exact .settle k d k5 hk hd ht hh (by simpa using h2) (by omega) hm
  rw [if_neg k5]
  unfold enter
  split
  · exact .inl ⟨by simp, rfl⟩
  split
  · exact .inl ⟨by simp, rfl⟩
  split
  · exact .inl ⟨by simp, rfl⟩
  · rename_i h1 h2 h3
    simp only [not_or, Bool.not_eq_true] at h2
    exact .inr ⟨rfl, .enter (by omega) (by simpa using h1) h2.1 (none_of h2.2) (by omega)⟩

/-! ### numbers -/
theorem lastOf_set {l : List Int} {u v x : Int} (h5 : l.length = 5) (hu : 1 ≤ u ∧ u ≤ 5) (hv : 1 ≤ v) : lastOf (l.set (u - 1).toNat x) v = if v = u then x else lastOf l v := by
  unfold lastOf
  rw [List.getD_eq_getElem?_getD, List.getElem?_set]
  by_cases h : v = u
  · subst h
    rw [if_pos rfl, if_pos (by omega), if_pos rfl]; rfl
  · rw [if_neg (by omega), if_neg h, List.getD_eq_getElem?_getD]
theorem said_of {m : Mkt} {rows : List Row} (h : MOk m rows) {u : Int} (hu : 1 ≤ u ∧ u ≤ 5) : numOk (lastOf m.nums u) (lastOf m.said u) = true := by
  have hn := h.nlen
  have hs := h.slen
  obtain ⟨a, ha⟩ : ∃ a, m.nums[(u - 1).toNat]? = some a := ⟨_, List.getElem?_eq_getElem (by omega)⟩
  obtain ⟨b, hb⟩ : ∃ b, m.said[(u - 1).toNat]? = some b := ⟨_, List.getElem?_eq_getElem (by omega)⟩
  unfold lastOf
  rw [getD_of ha, getD_of hb]
  exact (numsOk_iff (by rw [hn, hs])).1 h.nums _ _ _ ha hb
theorem doIt_ans {m : Mkt} {rows : List Row} {r : Req} (h : MOk m rows) (hr : reqOk r = true) : 1 ≤ (doIt m r).2 ∧ (doIt m r).2 ≤ 7 := by
  have hr' := reqOk_iff.1 hr
  unfold doIt
  split
  · have := numOk_iff.1 (said_of h hr'.1)
    dsimp only
    omega
  split
  · simp
  · have := effect_ans m r
    dsimp only
    omega
/-- The log grows by one entry at most. -/
theorem doIt_log {m : Mkt} {rows : List Row} {r : Req} (h : MOk m rows) (hr : reqOk r = true) : (doIt m r).1.log = m.log ∨ ∃ e, (doIt m r).1.log = m.log ++ [e] := by
  unfold doIt
  split
  · exact .inl rfl
  split
  · exact .inl rfl
  · show (effect m r).1.log = m.log ∨ ∃ e, (effect m r).1.log = m.log ++ [e]
    rcases effect_done h hr with ⟨_, e⟩ | ⟨_, d⟩
    · exact .inl (by rw [e])
    · generalize (effect m r).1 = x at d
      cases d
      · exact .inr ⟨_, rfl⟩
      · exact .inl rfl
      · exact .inl rfl
      · exact .inl rfl
      · exact .inr ⟨_, rfl⟩
      · exact .inr ⟨_, rfl⟩
theorem doIt_clock {m : Mkt} {rows : List Row} {r : Req} (h : MOk m rows) (hr : reqOk r = true) : (doIt m r).1.clock = m.clock := by
  unfold doIt
  split
  · rfl
  split
  · rfl
  · exact (effect_eff h hr).clk
end Go.Proofs.Ytimpagcanengoaa.Sw

namespace Go.Proofs.Ytimpagcanengoaa.Sw
set_option maxRecDepth 100000
set_option linter.unusedSimpArgs false
set_option linter.unusedVariables false
open Go.RowKit (wrap64)

theorem foldLines_append : ∀ (a b : List Req) (m : Mkt), foldLines m (a ++ b) = (foldLines m a).bind fun x => foldLines x b
  | [], b, m => rfl
  | r :: a, b, m => by
    rw [List.cons_append, foldLines, foldLines]
    split
    · split
      · rfl
      · exact foldLines_append a b _
    · split
      · exact foldLines_append a b _
      · rfl
theorem reqZ_no : reqOk reqZ = false := rfl
theorem ne_reqZ {r : Req} (h : reqOk r = true) : r ≠ reqZ := by rintro rfl; rw [reqZ_no] at h; cases h
theorem wldFold_snoc {first : List Int} {ls : List Req} {m : Mkt} (h : wldFold first ls = some m) (hl : ls.length < 300) (r : Req) : wldFold first (ls ++ [r]) = foldLines m [r] := by
  unfold wldFold at h ⊢
  split at h
  · rename_i hc
    simp only [Bool.and_eq_true, decide_eq_true_eq] at hc
    rw [if_pos (by simp only [Bool.and_eq_true, decide_eq_true_eq]; exact ⟨hc.1, by simp; omega⟩), foldLines_append, h]
    rfl
  · cases h

/-- A head of the first so many entries. -/
def Of (log : List Ent) (h : Head) : Prop := hedAt log h.size = some h
theorem hedAt_some {log : List Ent} {s : Int} {h : Head} : hedAt log s = some h ↔ (0 ≤ s ∧ s ≤ log.length) ∧ hedOf (log.take s.toNat) = some h := by
  unfold hedAt
  split
  · rename_i hc; rw [inR_iff] at hc; simp [hc]
  · rename_i hc
    have : ¬ (0 ≤ s ∧ s ≤ log.length) := fun h => hc (inR_iff.2 h)
    simp [this]
theorem hedAt_size {log : List Ent} {s : Int} {h : Head} (e : hedAt log s = some h) : h.size = s := by
  rw [hedAt_some] at e
  have := (hedOf_ok e.2).2
  rw [this, List.length_take]
  omega
theorem hedAt_append {log : List Ent} {s : Int} (es : List Ent) (h : 0 ≤ s ∧ s ≤ log.length) : hedAt (log ++ es) s = hedAt log s := by
  unfold hedAt
  rw [if_pos (inR_iff.2 h), if_pos (inR_iff.2 (by rw [List.length_append]; omega)), List.take_append_of_le_length (by omega)]
theorem Of.append {log : List Ent} {h : Head} (e : Of log h) (es : List Ent) : Of (log ++ es) h := by
  unfold Of at *
  rw [hedAt_append es (hedAt_some.1 e).1, e]
theorem Of.whole {log : List Ent} {h : Head} (e : hedOf log = some h) : Of log h := by
  have hs := (hedOf_ok e).2
  unfold Of
  rw [hedAt_some]
  refine ⟨by omega, ?_⟩
  rw [List.take_of_length_le (by omega)]
  exact e
theorem hedOf_of_fold {log : List Ent} {rows : List Row} (h : ownFold log = some rows) : ∃ x, hedOf log = some x := ⟨_, hedOf_some.2 ⟨rows, h, rfl⟩⟩
/-- Two heads of one log never fork. -/
theorem Of.nofork {log : List Ent} {a b : Head} (ha : Of log a) (hb : Of log b) : hedFork a b = false := by
  unfold Of at *
  by_cases h : a.size = b.size
  · rw [h, hb] at ha
    obtain rfl := Option.some.inj ha
    simp [hedFork]
  · simp [hedFork, h]

/-- What holds of a world that events have led to, from purses first on. -/
structure Inv (first : List Int) (w : World) : Prop where
  ok : WOk w
  isFirst : w.first = first
  fold : wldFold first w.lines = some w.market
  money : total w.market = first.sum
  gates : ∀ g ∈ w.gates, Of w.market.log g.head
  bag : ∀ x ∈ w.bag, Of w.market.log x.head
theorem Inv.rows {first : List Int} {w : World} (h : Inv first w) : ∃ rows, MOk w.market rows := mktOk_iff.1 h.ok.mkt
theorem inv_new {p : List Int} (hp : monOk p = true) (hs : monSum p ≤ 100000) : Inv p (wldNew p) := by
  have ok := wldNew_ok hp hs
  have e : wldNew p = ⟨p, mktNew p, [], [gatNew, gatNew], []⟩ := by simp [wldNew, hp, hs]
  have em : mktNew p = ⟨[], p, [], 0, [0, 0, 0, 0, 0], [0, 0, 0, 0, 0]⟩ := by simp [mktNew, hp, hs]
  rw [e] at ok ⊢
  refine ⟨ok, rfl, by simp [wldFold, hp, hs, foldLines], by rw [em]; simp [total, heldSum], fun g hg => ?_, by simp⟩
  have hg : g = gatNew := by simpa using hg
  subst hg
  rw [em]
  obtain ⟨x, hx⟩ := hedOf_of_fold (log := []) (rows := rows0) rfl
  have : gatNew.head = x := by simp [gatNew, hx]
  rw [this]
  exact Of.whole hx
theorem inv_ask {first : List Int} {w : World} (h : Inv first w) (r : Req) : Inv first (ask w r).1 := by
  have hok := ask_ok h.ok r
  unfold ask at hok ⊢
  split at hok
  · rename_i hr
    rw [if_pos hr]
    simp only [Bool.and_eq_true, decide_eq_true_eq] at hr
    obtain ⟨rows, hm⟩ := h.rows
    have hlog : ∃ es, (doIt w.market r).1.log = w.market.log ++ es := by
      rcases doIt_log hm hr.1 with e | ⟨x, e⟩
      · exact ⟨[], by rw [e, List.append_nil]⟩
      · exact ⟨[x], e⟩
    obtain ⟨es, he⟩ := hlog
    refine ⟨hok, h.isFirst, ?_, ?_, fun g hg => ?_, fun x hx => ?_⟩
    · show wldFold first (w.lines ++ [r]) = _
      rw [wldFold_snoc h.fold hr.2, foldLines, if_neg (ne_reqZ hr.1), if_pos hr.1, foldLines]
    · show total (doIt w.market r).1 = _
      rw [doIt_total hm hr.1, h.money]
    · show Of (doIt w.market r).1.log g.head
      rw [he]
      exact (h.gates g hg).append es
    · show Of (doIt w.market r).1.log x.head
      rw [he]
      exact (h.bag x hx).append es
  · rename_i hr
    rw [if_neg hr]
    exact h
theorem inv_tick {first : List Int} {w : World} (h : Inv first w) : Inv first (tickW w) := by
  have hok := tickW_ok h.ok
  unfold tickW at hok ⊢
  split at hok
  · rename_i hr
    rw [if_pos hr]
    simp only [Bool.and_eq_true, decide_eq_true_eq] at hr
    obtain ⟨rows, hm⟩ := h.rows
    refine ⟨hok, h.isFirst, ?_, ?_, h.gates, h.bag⟩
    · show wldFold first (w.lines ++ [reqZ]) = _
      rw [wldFold_snoc h.fold hr.2, foldLines, if_pos rfl, if_neg hr.1, foldLines]
    · show total (tick w.market) = _
      rw [tick_total hm, h.money]
  · rename_i hr
    rw [if_neg hr]
    exact h
theorem fall_market {first : List Int} {w : World} (h : Inv first w) : (fall w).market = w.market := by
  show (wldFold w.first w.lines).getD w.market = _
  rw [h.isFirst, h.fold]
  rfl
theorem inv_fall {first : List Int} {w : World} (h : Inv first w) : Inv first (fall w) := by
  have e := fall_market h
  refine ⟨fall_ok h.ok, h.isFirst, ?_, ?_, fun g hg => ?_, by simp [fall]⟩
  · rw [e]; exact h.fold
  · rw [e]; exact h.money
  · rw [e]; exact h.gates g hg
theorem inv_send {first : List Int} {w : World} (h : Inv first w) (k : Int) : Inv first (send w k) := by
  have hok := send_ok h.ok k
  unfold send at hok ⊢
  split at hok
  · rename_i hr
    rw [if_pos hr]
    refine ⟨hok, h.isFirst, h.fold, h.money, h.gates, fun x hx => ?_⟩
    rcases List.mem_append.1 hx with hx | hx
    · exact h.bag x hx
    · obtain rfl := List.mem_singleton.1 hx
      obtain ⟨rows, hm⟩ := h.rows
      obtain ⟨y, hy⟩ := hedOf_of_fold hm.fold
      show Of _ ((hedOf w.market.log).getD headZ)
      rw [hy]
      exact Of.whole hy
  · rename_i hr
    rw [if_neg hr]
    exact h
theorem inv_lose {first : List Int} {w : World} (h : Inv first w) (i : Int) : Inv first (lose w i) :=
  ⟨lose_ok h.ok i, h.isFirst, h.fold, h.money, h.gates, fun x hx => h.bag x ((List.eraseIdx_sublist w.bag i.toNat).subset hx)⟩
theorem inv_setGate {first : List Int} {w : World} (h : Inv first w) {k : Nat} {g : Gate} (hg : gatOk g = true) (ho : Of w.market.log g.head) : Inv first { w with gates := w.gates.set k g } := by
  refine ⟨setGate_ok h.ok hg, h.isFirst, h.fold, h.money, fun x hx => ?_, h.bag⟩
  rcases List.mem_or_eq_of_mem_set hx with hx | rfl
  · exact h.gates x hx
  · exact ho
theorem gateAt_mem {w : World} (h : WOk w) {k : Int} (hk : 0 ≤ k ∧ k ≤ 1) : gateAt w k ∈ w.gates := by
  unfold gateAt
  have hl := h.glen
  obtain ⟨g, hg⟩ : ∃ g, w.gates[k.toNat]? = some g := ⟨_, List.getElem?_eq_getElem (by omega)⟩
  rw [getD_of hg]
  exact List.mem_of_getElem? hg
theorem msgAt_mem {w : World} {i : Int} (hi : 0 ≤ i ∧ i ≤ (w.bag.length : Int) - 1) : msgAt w i ∈ w.bag := by
  unfold msgAt
  obtain ⟨g, hg⟩ : ∃ g, w.bag[i.toNat]? = some g := ⟨_, List.getElem?_eq_getElem (by omega)⟩
  rw [getD_of hg]
  exact List.mem_of_getElem? hg
theorem gatSync_head (g : Gate) (h : Head) (p : List Int) (hg : gatOk g = true) : (gatSync g h p).1.done = g.done ∧ g.head.size ≤ (gatSync g h p).1.head.size ∧ ((gatSync g h p).1.head = h ∨ (gatSync g h p).1.head = g.head) := by
  unfold gatSync
  rw [if_pos hg]
  split
  · exact ⟨rfl, (hedFollows_ok ‹_›).2.2, .inl rfl⟩
  · exact ⟨rfl, Int.le_refl _, .inr rfl⟩
theorem inv_heard {first : List Int} {w : World} (h : Inv first w) {x : Msg} (hx : msgOk x = true) (ho : Of w.market.log x.head) : Inv first (heard w x) := by
  simp only [msgOk, Bool.and_eq_true, inR_iff] at hx
  have hg := gateAt_ok h.ok hx.1.1
  refine inv_setGate h (gatSync_ok hg) ?_
  rcases (gatSync_head (gateAt w x.gate) x.head x.proof hg).2.2 with e | e
  · rw [e]; exact ho
  · rw [e]; exact h.gates _ (gateAt_mem h.ok hx.1.1)
theorem inv_hear {first : List Int} {w : World} (h : Inv first w) {i : Int} (hi : 0 ≤ i ∧ i ≤ (w.bag.length : Int) - 1) : Inv first (hear w i) :=
  inv_heard (inv_lose h i) (msgAt_ok h.ok hi) (h.bag _ (msgAt_mem hi))
theorem inv_twice {first : List Int} {w : World} (h : Inv first w) {i : Int} (hi : 0 ≤ i ∧ i ≤ (w.bag.length : Int) - 1) : Inv first (twice w i) := by
  have hok := twice_ok h.ok hi
  unfold twice at hok ⊢
  split at hok
  · rename_i hr
    rw [if_pos hr]
    refine ⟨hok, h.isFirst, h.fold, h.money, h.gates, fun x hx => ?_⟩
    rcases List.mem_append.1 hx with hx | hx
    · exact h.bag x hx
    · obtain rfl := List.mem_singleton.1 hx
      exact h.bag _ (msgAt_mem hi)
  · rename_i hr
    rw [if_neg hr]
    exact h
theorem gatShow_head (g : Gate) (t who : Int) (r : Row) (p : List Int) (hg : gatOk g = true) : (gatShow g t who r p).1.head = g.head := by
  unfold gatShow
  rw [if_pos hg]
  split <;> rfl
theorem inv_show {first : List Int} {w : World} (h : Inv first w) (k t who : Int) : Inv first (showIt w k t who).1 := by
  unfold showIt
  split
  · rename_i hr
    simp only [Bool.and_eq_true, decide_eq_true_eq, inR_iff] at hr
    split
    · exact h
    · split
      · have hg := gateAt_ok h.ok hr.1.1
        refine inv_setGate h (gatShow_ok hg) ?_
        rw [gatShow_head _ _ _ _ _ hg]
        exact h.gates _ (gateAt_mem h.ok hr.1.1)
      · exact h
  · exact h
theorem inv_tellOne {first : List Int} {w : World} (h : Inv first w) (t : Int) : Inv first (tellOne w t) := by
  unfold tellOne
  split
  · exact inv_ask h _
  · exact h
theorem inv_tells {first : List Int} : ∀ (ts : List Int) {w : World}, Inv first w → Inv first (ts.foldl tellOne w)
  | [], _, h => h
  | t :: ts, _, h => inv_tells ts (inv_tellOne h t)
theorem inv_tell {first : List Int} {w : World} (h : Inv first w) (k : Int) : Inv first (tell w k) := by
  unfold tell
  split
  · exact inv_tells _ h
  · exact h
theorem inv_step {first : List Int} {w : World} (h : Inv first w) (e : Ev) : Inv first (step w e).1 := by
  unfold step
  split
  · exact inv_ask h _
  split
  · exact inv_tick h
  split
  · exact inv_fall h
  split
  · exact inv_send h _
  split
  · dsimp only; split
    · exact inv_hear h (inR_iff.1 ‹_›)
    · exact h
  split
  · dsimp only; split
    · exact inv_lose h _
    · exact h
  split
  · dsimp only; split
    · exact inv_twice h (inR_iff.1 ‹_›)
    · exact h
  split
  · exact inv_show h _ _ _
  split
  · exact inv_tell h _
  · exact h
theorem inv_run {first : List Int} : ∀ (es : List Ev) {w : World}, Inv first w → Inv first (runFrom w es)
  | [], _, h => h
  | e :: es, _, h => inv_run es (inv_step h e)
theorem Inv.wldMoney {first : List Int} {w : World} (h : Inv first w) : wldMoney w = first.sum := by
  obtain ⟨rows, hm⟩ := h.rows
  unfold Sw.wldMoney
  rw [hm.total]
  have := h.money
  unfold total at this
  rw [this]
  have hs := hm.sum
  have h1 := (sum_bd w.market.purses 100000 (by omega) (monOk_iff.1 hm.mon).2).1
  have h2 := (heldSum_bd hm.deals.1).1
  exact wrap64_in (by omega)
end Go.Proofs.Ytimpagcanengoaa.Sw

namespace Go.Proofs.Ytimpagcanengoaa.Sw
set_option maxRecDepth 100000
set_option linter.unusedSimpArgs false
set_option linter.unusedVariables false
open Go.RowKit (wrap64)

theorem root_parts {xs : List Int} (h : 2 ≤ xs.length) : root xs = pair (root (xs.take (split xs.length))) (root (xs.drop (split xs.length))) := by
  match xs, h with
  | x :: y :: r, _ => rw [root]; rfl
theorem split_mid {m n : Nat} (h1 : split n < m) (h2 : m ≤ n) (h3 : 2 ≤ n) : split m = split n := by
  unfold split at *
  have e : (m - 1).log2 = (n - 1).log2 := by
    have hn := (Nat.log2_eq_iff (n := n - 1) (k := (n - 1).log2) (by omega)).1 rfl
    exact (Nat.log2_eq_iff (by omega)).2 ⟨by omega, by omega⟩
  rw [e]
theorem grow_shows : ∀ (n : Nat) (l : List Int) (m : Nat) (old : Int) (known : Bool), 1 ≤ m → m ≤ l.length → l.length ≤ n → (known = true → old = root (l.take m)) →
    grR m l.length old (grow n l m known).reverse known = some (root (l.take m), root l)
  | 0, l, m, old, known, h1, h2, h3, _ => by omega
  | n + 1, l, m, old, known, h1, h2, h3, ho => by
    rw [grow]
    by_cases hm : m = l.length
    · rw [if_pos hm]
      have ht : l.take m = l := List.take_of_length_le (by omega)
      rw [ht] at ho ⊢
      cases known with
      | true => simp [grR, hm, ho rfl]
      | false => simp [grR, hm]
    · rw [if_neg hm]
      have h2' : 2 ≤ l.length := by omega
      have hs := split_lt h2'
      have hp := split_pos l.length
      have hr := root_parts h2'
      by_cases hk : m ≤ split l.length
      · rw [if_pos hk, List.reverse_append, List.reverse_singleton, List.singleton_append, grR, if_neg hm, if_pos hk]
        have hl : (l.take (split l.length)).length = split l.length := by rw [List.length_take]; omega
        have ht : (l.take (split l.length)).take m = l.take m := by rw [List.take_take, Nat.min_eq_left hk]
        have ih := grow_shows n (l.take (split l.length)) m old known h1 (by omega) (by omega) (by rw [ht]; exact ho)
        rw [hl, ht] at ih
        rw [ih, hr]
        rfl
      · rw [if_neg hk, List.reverse_append, List.reverse_singleton, List.singleton_append, grR, if_neg hm, if_neg hk]
        have hl : (l.drop (split l.length)).length = l.length - split l.length := List.length_drop ..
        have ih := grow_shows n (l.drop (split l.length)) (m - split l.length) old false (by omega) (by omega) (by omega) (by simp)
        rw [hl] at ih
        rw [ih, hr]
        have hlm : (l.take m).length = m := by rw [List.length_take]; omega
        have hrm := root_parts (xs := l.take m) (by omega)
        rw [hlm, split_mid (by omega) h2 h2', List.take_take, Nat.min_eq_left (by omega), List.drop_take] at hrm
        rw [hrm]
        rfl
theorem con_shows {l : List Int} {m : Nat} (h : treOk l = true) (h1 : 1 ≤ m) (h2 : m ≤ l.length) : conCheck m (root (l.take m)) l.length (root l) (conProof l m) = true := by
  have hl := treOk_iff.1 h
  have hp := conProof_ok l m
  have hc : conProof l m = growth l m true := by
    unfold conProof
    rw [if_pos (by simp only [Bool.and_eq_true, inR_iff]; exact ⟨h, by omega⟩)]
    rfl
  have hs := grow_shows l.length l m (root (l.take m)) true h1 h2 (Nat.le_refl _) (fun _ => rfl)
  unfold conCheck
  rw [Bool.and_eq_true, Bool.and_eq_true, Bool.and_eq_true, Bool.and_eq_true, Bool.and_eq_true, inR_iff, inR_iff]
  refine ⟨⟨⟨⟨⟨by omega, by omega⟩, root_mix _ (all_take hl.2)⟩, root_mix _ hl.2⟩, hp⟩, ?_⟩
  rw [hc]
  show (grR (m : Int).toNat (l.length : Int).toNat _ (grow l.length l m true).reverse true == _) = true
  rw [Int.toNat_natCast, Int.toNat_natCast, hs]
  simp
theorem head_shape {log : List Ent} {h : Head} (e : hedOf log = some h) : h.size = log.length ∧ h.log = root (log.map entLeaf) := by
  obtain ⟨rows, _, rfl⟩ := hedOf_some.1 e
  exact ⟨rfl, rfl⟩
/-- The head of all entries is shown to follow that of the first so many. -/
theorem follows {log : List Ent} {h x : Head} (ho : Of log h) (e : hedOf log = some x) : hedFollows h x (hedProof log h.size) = true := by
  obtain ⟨hs, hh⟩ := hedAt_some.1 ho
  have ok1 := hedOf_ok hh
  have ok2 := hedOf_ok e
  have sh1 := head_shape hh
  have sh2 := head_shape e
  have h40 : log.length ≤ 40 := by
    obtain ⟨rows, hr, _⟩ := hedOf_some.1 e
    exact (ownFold_some.1 hr).1
  unfold hedFollows
  rw [ok1.1, ok2.1]
  have hle : h.size ≤ x.size := by omega
  have heq : (decide (h.size ≠ x.size) || decide (h = x)) = true := by
    by_cases hx : h.size = x.size
    · rw [List.take_of_length_le (by omega)] at hh
      rw [hh] at e
      simp [Option.some.inj e]
    · simp [hx]
  rw [heq, decide_eq_true hle]
  simp only [Bool.and_self, Bool.true_and]
  have hp : hedProof log h.size = conProof (log.map entLeaf) h.size := by simp [hedProof, h40]
  rw [hp]
  by_cases h0 : h.size = 0
  · rw [if_pos h0, h0]
    have : inR (0 : Int) 1 ((log.map entLeaf).length) = false := by simp [inR]
    have e0 : conProof (log.map entLeaf) 0 = [] := by unfold conProof; rw [this, Bool.and_false]; rfl
    rw [e0]; rfl
  · rw [if_neg h0]
    have hto : treOk (log.map entLeaf) = true := treOk_iff.2 ⟨by simpa using h40, entLeaves_mix log⟩
    have hc := con_shows (l := log.map entLeaf) (m := h.size.toNat) hto (by omega) (by rw [List.length_map]; omega)
    rw [← List.map_take, List.length_map] at hc
    rw [sh1.2, sh2.2, sh2.1]
    have e1 : ((h.size.toNat : Nat) : Int) = h.size := by omega
    rw [e1] at hc
    exact hc

/-! ### what is there can be shown -/
theorem incl_len : ∀ (n : Nat) (l : List Int) (i : Nat), i < l.length → (incl n l i).length ≤ l.length - 1
  | 0, l, i, h => by simp [incl]
  | n + 1, l, i, h => by
    rw [incl]
    split
    · simp
    · have hs := split_lt (n := l.length) (by omega)
      have hp := split_pos l.length
      split
      · have := incl_len n (l.take (split l.length)) i (by rw [List.length_take]; omega)
        rw [List.length_take] at this
        simp only [List.length_append, List.length_singleton]
        omega
      · have := incl_len n (l.drop (split l.length)) (i - split l.length) (by rw [List.length_drop]; omega)
        rw [List.length_drop] at this
        simp only [List.length_append, List.length_singleton]
        omega
theorem incl_mix : ∀ (n : Nat) (l : List Int) (i : Nat), l.all mixOk = true → (incl n l i).all mixOk = true
  | 0, l, i, h => by simp [incl]
  | n + 1, l, i, h => by
    rw [incl]
    split
    · rfl
    · split
      · simp [incl_mix n _ i (all_take h), root_mix _ (all_drop h)]
      · simp [incl_mix n _ _ (all_drop h), root_mix _ (all_take h)]
theorem incl_shows : ∀ (n : Nat) (l : List Int) (i : Nat) (x : Int), l[i]? = some x → l.length ≤ n → upR l.length i x (incl n l i).reverse = (root l, true)
  | 0, l, i, x, h, hn => by have := (List.getElem?_eq_some_iff.1 h).1; omega
  | n + 1, l, i, x, h, hn => by
    have hi := (List.getElem?_eq_some_iff.1 h).1
    rw [incl]
    by_cases h1 : l.length ≤ 1
    · rw [if_pos h1]
      match l, h, hi, h1 with
      | [y], h, hi, h1 =>
        have : i = 0 := by simpa using hi
        subst this
        have : y = x := by simpa using h
        subst this
        simp [upR, root]
    · rw [if_neg h1]
      have hs := split_lt (n := l.length) (by omega)
      have hp := split_pos l.length
      have hr := root_parts (xs := l) (by omega)
      by_cases hk : i < split l.length
      · rw [if_pos hk, List.reverse_append, List.reverse_singleton, List.singleton_append, upR, if_neg h1, if_pos hk]
        have hl : (l.take (split l.length)).length = split l.length := by rw [List.length_take]; omega
        have ih := incl_shows n (l.take (split l.length)) i x (by rw [List.getElem?_take, if_pos hk]; exact h) (by omega)
        rw [hl] at ih
        rw [ih, hr]
      · rw [if_neg hk, List.reverse_append, List.reverse_singleton, List.singleton_append, upR, if_neg h1, if_neg hk]
        have hl : (l.drop (split l.length)).length = l.length - split l.length := List.length_drop ..
        have ih := incl_shows n (l.drop (split l.length)) (i - split l.length) x (by rw [List.getElem?_drop, show split l.length + (i - split l.length) = i from by omega]; exact h) (by omega)
        rw [hl] at ih
        rw [ih, hr]
theorem leavesFrom_get : ∀ (rows : List Row) (t : Int) (k : Nat) (r : Row), rows[k]? = some r → (leavesFrom t rows)[k]? = some (ownLeaf (t + k) r)
  | [], t, k, r, h => by simp at h
  | x :: xs, t, 0, r, h => by
    simp at h
    subst h
    simp [leavesFrom]
  | x :: xs, t, k + 1, r, h => by
    have := leavesFrom_get xs (t + 1) k r (by simpa using h)
    rw [leavesFrom, List.getElem?_cons_succ, this]
    congr 2
    omega
theorem leavesFrom_len : ∀ (rows : List Row) (t : Int), (leavesFrom t rows).length = rows.length
  | [], _ => rfl
  | r :: rs, t => by simp [leavesFrom, leavesFrom_len rs]
theorem ownLeaves_len (rows : List Row) : (ownLeaves rows).length = rows.length := leavesFrom_len rows 0
theorem rowAt_get {rows : List Row} (h : ownOk rows = true) {t : Int} (ht : 0 ≤ t ∧ t ≤ 7) : rows[t.toNat]? = some (rowAt rows t) := by
  have h8 := ownOk_len h
  obtain ⟨r, hr⟩ : ∃ r, rows[t.toNat]? = some r := ⟨_, List.getElem?_eq_getElem (by omega)⟩
  rw [rowAt, getD_of hr]
  exact hr
/-- How a ticket stands is shown under the root of all rows. -/
theorem own_shows {rows : List Row} (h : ownOk rows = true) {t : Int} (ht : 0 ≤ t ∧ t ≤ 7) : ownCheck (ownRoot rows) t (rowAt rows t) (ownProof rows t) = true := by
  have h8 := ownOk_len h
  have hit : inR t 0 7 = true := inR_iff.2 ht
  have hg := leavesFrom_get rows 0 t.toNat _ (rowAt_get h ht)
  rw [show (0 : Int) + (t.toNat : Nat) = t from by omega] at hg
  have hl := ownLeaves_len rows
  have hs := incl_shows (ownLeaves rows).length (ownLeaves rows) t.toNat _ hg (Nat.le_refl _)
  have hp : ownProof rows t = inclusion (ownLeaves rows) t.toNat := by simp [ownProof, h, hit]
  have hr : ownRoot rows = root (ownLeaves rows) := by simp [ownRoot, h]
  unfold ownCheck treCheck
  rw [hit, Bool.true_and, hp, hr]
  have htp : treOk (inclusion (ownLeaves rows) t.toNat) = true := by
    have hm := incl_mix (ownLeaves rows).length (ownLeaves rows) t.toNat (ownLeaves_mix rows)
    have hn := incl_len (ownLeaves rows).length (ownLeaves rows) t.toNat (by omega)
    exact treOk_iff.2 ⟨by unfold inclusion; omega, hm⟩
  have hu : up 8 t.toNat (ownLeaf t (rowAt rows t)) (inclusion (ownLeaves rows) t.toNat) = (root (ownLeaves rows), true) := by
    unfold up inclusion
    rw [hl, h8] at hs
    rw [hl, h8]
    exact hs
  unfold treUp
  rw [if_pos (by
    simp only [Bool.and_eq_true, inR_iff]
    refine ⟨⟨⟨⟨by omega, by omega⟩, ownLeaf_mix _ _⟩, htp⟩, ?_⟩
    show (up 8 t.toNat _ _).2 = true
    rw [hu])]
  show (some (up 8 t.toNat _ _).1 == _) = true
  rw [hu]
  simp
end Go.Proofs.Ytimpagcanengoaa.Sw

namespace Go.Proofs.Ytimpagcanengoaa.Sw
set_option maxRecDepth 100000
set_option linter.unusedSimpArgs false
set_option linter.unusedVariables false
open Go.RowKit (wrap64)

/-- What came of a request. -/
inductive Did (m : Mkt) (rows : List Row) (r : Req) : Mkt → Int → Prop
  | again : r.n = lastOf m.nums r.user → Did m rows r m (lastOf m.said r.user)
  | old : r.n < lastOf m.nums r.user → Did m rows r m 7
  | no (a : Int) : lastOf m.nums r.user < r.n → 2 ≤ a → a ≤ 6 → Did m rows r (noted m r a) a
  | yes (x : Mkt) : lastOf m.nums r.user < r.n → DoneBy m rows r x → Eff m x → Did m rows r (noted x r 1) 1
theorem did {m : Mkt} {rows : List Row} {r : Req} (h : MOk m rows) (hr : reqOk r = true) : Did m rows r (doIt m r).1 (doIt m r).2 := by
  unfold doIt
  split
  · exact .again ‹_›
  split
  · exact .old ‹_›
  · have ha := effect_ans m r
    have he := effect_eff h hr
    show Did m rows r (noted (effect m r).1 r (effect m r).2) (effect m r).2
    rcases effect_done h hr with ⟨h1, h2⟩ | ⟨h1, h2⟩
    · rw [h2]
      exact .no _ (by omega) (by omega) (by omega)
    · rw [h1]
      exact .yes _ (by omega) h2 he
theorem lastOf_noted {m x : Mkt} {r : Req} {a : Int} {rows : List Row} (h : MOk m rows) (hr : reqOk r = true) (hn : x.nums = m.nums) (hs : x.said = m.said) :
    lastOf (noted x r a).nums r.user = r.n ∧ lastOf (noted x r a).said r.user = a := by
  have hr := reqOk_iff.1 hr
  constructor
  · show lastOf (x.nums.set _ _) _ = _
    rw [lastOf_set (by rw [hn, h.nlen]) hr.1 hr.1.1, if_pos rfl]
  · show lastOf (x.said.set _ _) _ = _
    rw [lastOf_set (by rw [hs, h.slen]) hr.1 hr.1.1, if_pos rfl]

/-! ### deals by their tickets -/
theorem dealOf_iff {clock : Int} {rows : List Row} {ds : List Deal} (h : DOk clock rows ds) {t : Int} {d : Deal} : dealOf ds t = some d ↔ d ∈ ds ∧ d.ticket = t := by
  unfold dealOf
  constructor
  · intro e
    exact ⟨List.mem_of_find?_eq_some e, by have := List.find?_some e; simpa using this⟩
  · rintro ⟨h1, h2⟩
    cases e : ds.find? (fun d => decide (d.ticket = t)) with
    | none =>
      have := List.find?_eq_none.1 e d h1
      simp [h2] at this
    | some d' =>
      have h3 := List.mem_of_find?_eq_some e
      have h4 : d'.ticket = t := by have := List.find?_some e; simpa using this
      obtain ⟨i, hi, rfl⟩ := List.getElem_of_mem h1
      obtain ⟨j, hj, rfl⟩ := List.getElem_of_mem h3
      have := h.inj (List.getElem?_eq_getElem hi) (List.getElem?_eq_getElem hj) (by rw [h2, h4])
      subst this
      rfl
theorem dealOf_none {ds : List Deal} {t : Int} : dealOf ds t = none ↔ ∀ d ∈ ds, d.ticket ≠ t := by
  unfold dealOf
  rw [List.find?_eq_none]
  simp
theorem dealOf_same {c c' : Int} {rows rows' : List Row} {ds es : List Deal} (h : DOk c rows ds) (k : DOk c' rows' es) {t : Int} (he : ∀ d, d.ticket = t → (d ∈ ds ↔ d ∈ es)) : dealOf ds t = dealOf es t := by
  cases e : dealOf ds t with
  | none =>
    symm
    rw [dealOf_none] at e ⊢
    intro d hd ht
    exact e d ((he d ht).2 hd) ht
  | some d =>
    symm
    rw [dealOf_iff h] at e
    rw [dealOf_iff k]
    exact ⟨(he d e.2).1 e.1, e.2⟩
theorem dealOf_at {clock : Int} {rows : List Row} {ds : List Deal} (h : DOk clock rows ds) {k : Nat} {d : Deal} (hk : ds[k]? = some d) : dealOf ds d.ticket = some d := (dealOf_iff h).2 ⟨List.mem_of_getElem? hk, rfl⟩
theorem erase_mem {ds : List Deal} {k : Nat} {d x : Deal} (hk : ds[k]? = some d) (hx : x.ticket ≠ d.ticket) : x ∈ ds.eraseIdx k ↔ x ∈ ds := by
  rw [List.mem_eraseIdx_iff_getElem?]
  constructor
  · rintro ⟨i, _, hi⟩
    exact List.mem_of_getElem? hi
  · intro h
    obtain ⟨i, hi⟩ := List.getElem?_of_mem h
    refine ⟨i, ?_, hi⟩
    rintro rfl
    rw [hk] at hi
    exact hx (by rw [Option.some.inj hi])
theorem set_mem {ds : List Deal} {k : Nat} {d e x : Deal} (hk : ds[k]? = some d) (h1 : x.ticket ≠ d.ticket) (h2 : x.ticket ≠ e.ticket) : x ∈ ds.set k e ↔ x ∈ ds := by
  have hk' := (List.getElem?_eq_some_iff.1 hk).1
  constructor
  · intro h
    rcases List.mem_or_eq_of_mem_set h with h | rfl
    · exact h
    · exact absurd rfl h2
  · intro h
    obtain ⟨i, hi⟩ := List.getElem?_of_mem h
    have hne : k ≠ i := by
      rintro rfl
      rw [hk] at hi
      exact h1 (by rw [Option.some.inj hi])
    exact List.mem_of_getElem? (i := i) (by rw [List.getElem?_set, if_neg hne]; exact hi)

/-! ### what a request leaves apart -/
/-- Rows behind what was done. -/
theorem DoneBy.fold {m x : Mkt} {rows : List Row} {r : Req} (h : MOk m rows) (hr : reqOk r = true) (d : DoneBy m rows r x) :
    ∃ rows', ownFold x.log = some rows' ∧ ∀ t, 0 ≤ t → t ≠ r.ticket → rowAt rows' t = rowAt rows t := by
  have hr := reqOk_iff.1 hr
  have ho := ownFold_ok h.fold
  have put : ∀ (e : Ent), e.ticket = r.ticket → ownFits rows e = true → m.log.length < 40 → ∃ rows', ownFold (m.log ++ [e]) = some rows' ∧ ∀ t, 0 ≤ t → t ≠ r.ticket → rowAt rows' t = rowAt rows t := by
    intro e he hf hl
    refine ⟨_, ownFold_snoc h.fold hl hf, fun t h0 ht => ?_⟩
    rw [rowAt_put (ownOk_len ho) (by rw [he]; exact hr.2.2.2.1) h0, if_neg (by rw [he]; exact ht)]
  cases d with
  | issue k1 h1 h2 h3 hl h4 =>
    refine put ⟨1, r.ticket, r.who, r.price⟩ rfl (ownFits_iff.2 ⟨ho, entOk_iff.2 ?_, (fitsRow_iff (.inl rfl)).2 (.inl ⟨rfl, h3⟩)⟩) hl
    dsimp only
    omega
  | offer => exact ⟨rows, h.fold, fun _ _ _ => rfl⟩
  | drop => exact ⟨rows, h.fold, fun _ _ _ => rfl⟩
  | fund => exact ⟨rows, h.fold, fun _ _ _ => rfl⟩
  | settle k d k5 hk hd ht hh hs hl hm =>
    have hdo := dealOk_iff.1 (h.deals.get hd)
    have hcap := entCap_le (rowAt rows d.ticket).face
    have hb : 0 < d.buyer := by simpa [held] using hh
    refine put ⟨2, r.ticket, d.buyer, d.price⟩ rfl (ownFits_iff.2 ⟨ho, entOk_iff.2 ?_, (fitsRow_iff (.inr (.inl rfl))).2 (.inr (.inl ⟨rfl, ?_⟩))⟩) hl <;> dsimp only
    · omega
    · rw [← ht]
      refine ⟨by omega, ?_, hdo.2.2.2.1, hdo.2.2.2.2.1.2⟩
      rw [hdo.2.2.1]; omega
  | enter k6 h1 h2 h3 hl =>
    refine put ⟨3, r.ticket, r.user, 0⟩ rfl (ownFits_iff.2 ⟨ho, entOk_iff.2 ?_, (fitsRow_iff (.inr (.inr rfl))).2 (.inr (.inr ⟨rfl, h1, h2⟩))⟩) hl
    dsimp only
    omega
/-- Behind what was done all other tickets are offered as they were. -/
theorem DoneBy.apart {m x : Mkt} {rows : List Row} {r : Req} (h : MOk m rows) (d : DoneBy m rows r x) (e : Eff m x) {t : Int} (ht : t ≠ r.ticket) : dealOf m.deals t = dealOf x.deals t := by
  obtain ⟨rows', _, hx⟩ := e.rows
  refine dealOf_same h.deals hx fun y hy => ?_
  cases d with
  | issue => exact Iff.rfl
  | offer =>
    rw [insertDeal_mem]
    constructor
    · exact .inr
    · rintro (rfl | h)
      · exact absurd hy.symm ht
      · exact h
  | drop k d k3 h1 hk hd hdt => exact (erase_mem hd (by rw [hdt, hy]; exact ht)).symm
  | fund k d k4 hk hd hdt => exact (set_mem hd (by rw [hdt, hy]; exact ht) (by dsimp only; rw [hdt, hy]; exact ht)).symm
  | settle k d k5 hk hd hdt => exact (erase_mem hd (by rw [hdt, hy]; exact ht)).symm
  | enter => exact Iff.rfl

/-! ### the clock -/
theorem back_idle {clock : Int} : ∀ (ds : List Deal) (p : List Int), (∀ d ∈ ds, (held d && decide (d.due < clock)) = false) → ds.foldl (backPurse clock) p = p ∧ ds.map (backDeal clock) = ds
  | [], p, _ => ⟨rfl, rfl⟩
  | d :: ds, p, h => by
    have h1 := h d (List.mem_cons_self ..)
    have h2 := back_idle ds p (fun x hx => h x (List.mem_cons_of_mem _ hx))
    rw [List.foldl_cons, List.map_cons]
    have e1 : backPurse clock p d = p := by unfold backPurse; rw [if_neg (by rw [h1]; simp)]
    have e2 : backDeal clock d = d := by unfold backDeal; rw [if_neg (by rw [h1]; simp)]
    rw [e1, e2, h2.1, h2.2]
    exact ⟨rfl, rfl⟩
/-- So many ticks, one behind the other; none, if the clock ends before. -/
def ticks : Nat → Mkt → Option Mkt
  | 0, m => some m
  | n + 1, m => if m.clock = 99999 then none else ticks n (tick m)
theorem tick_held {m : Mkt} {d : Deal} (hd : d ∈ (tick m).deals) (hh : held d = true) : d ∈ m.deals := by
  simp only [tick, List.mem_map] at hd
  obtain ⟨x, hx, rfl⟩ := hd
  unfold backDeal at hh ⊢
  split at hh
  · simp [held] at hh
  · rename_i hc
    rw [if_neg hc]
    exact hx
theorem ticks_ok : ∀ (n : Nat) (m x : Mkt) (rows : List Row), MOk m rows → ticks n m = some x → MOk x rows ∧ x.clock = m.clock + n ∧ total x = total m ∧ x.log = m.log ∧ ∀ d ∈ x.deals, held d = true → d ∈ m.deals
  | 0, m, x, rows, h, e => by
    obtain rfl : m = x := by simpa [ticks] using e
    exact ⟨h, by omega, rfl, rfl, fun d hd _ => hd⟩
  | n + 1, m, x, rows, h, e => by
    rw [ticks] at e
    split at e
    · cases e
    · rename_i hc
      obtain ⟨h1, h2, h3, h4, h5⟩ := ticks_ok n (tick m) x rows (tick_ok h hc) e
      have hck : (tick m).clock = m.clock + 1 := rfl
      rw [hck] at h2
      exact ⟨h1, by omega, by rw [h3, tick_total h], h4, fun d hd hh => tick_held (h5 d hd hh) hh⟩
/-- Behind six ticks nothing is held, and purses have what was. -/
theorem ends {m x : Mkt} {rows : List Row} (h : MOk m rows) (e : ticks 6 m = some x) : mktHeld x = 0 ∧ monSum x.purses = monSum m.purses + mktHeld m := by
  obtain ⟨h1, h2, h3, h4, h5⟩ := ticks_ok 6 m x rows h e
  have hno : ∀ d ∈ x.deals, heldIn d = 0 := by
    intro d hd
    unfold heldIn
    split
    · rename_i hh
      have ha := dealOk_iff.1 (h1.deals.1 d hd)
      have hb := dealOk_iff.1 (h.deals.1 d (h5 d hd hh))
      have hc : 0 < d.buyer := by simpa [held] using hh
      omega
    · rfl
  have h0 : heldSum x.deals = 0 := by
    unfold heldSum
    have key : ∀ ds : List Deal, (∀ d ∈ ds, heldIn d = 0) → (ds.map heldIn).sum = 0 := by
      intro ds
      induction ds with
      | nil => intro _; rfl
      | cons d ds ih =>
        intro hd
        rw [List.map_cons, List.sum_cons, hd d (List.mem_cons_self ..), ih (fun x hx => hd x (List.mem_cons_of_mem _ hx))]
        rfl
    exact key _ hno
  have ht := h.total
  have hs := monSum_eq h1.mon
  unfold total at h3
  refine ⟨by rw [mktHeld, heldOf_eq h1.deals h1.dlen, h0], ?_⟩
  rw [ht, hs]
  omega
end Go.Proofs.Ytimpagcanengoaa.Sw

