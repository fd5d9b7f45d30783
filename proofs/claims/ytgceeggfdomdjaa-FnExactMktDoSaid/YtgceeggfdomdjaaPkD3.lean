/-
  Texts joined: LawTo2, LawTo3, Reg, Mkt2, Mkt3, PtrA, PtrB, RowsW, Rows2, Heads, Impl1.
-/
import Derived.Test.YtgceeggfdomdjaaPkD2
import Derived.Deep.RegionHeld3
import Derived.Shelf.RegionOpenPlain
import Derived.Deep.RegionLaw
import Derived.Lib.AppendZerosOnto
import Derived.Lib.Overlaps
import Derived.Laws.Externs
import Derived.Test.YtgceeggfdomdjaaPkD1
namespace Go.Proofs.Ytgceeggfdomdjaa
set_option maxRecDepth 100000
set_option linter.unusedSimpArgs false
set_option linter.unusedVariables false
open Go.RowKit Go
set_option maxHeartbeats 400000

/-- So many gates have been made: their own slices have marks of their own. -/
def GatesTo (τ : Nat → Nat) (w : World) (lo g0 k n : Nat) (gs : List Sw.Gate) : Prop :=
  ∃ vs : List GV, OwGV w lo (some ⟨g0, 0, none⟩) n n vs ∧ τ g0 = 8 ∧ ∀ (j : Nat) (v : GV) (g : Sw.Gate), j < k → vs[j]? = some v → gs[j]? = some g → v.h = g.head ∧ OwTI τ (fdS j) w lo v.A v.c v.n g.done
def MsgsTo (τ : Nat → Nat) (w : World) (lo g0 k n : Nat) (xs : List Sw.Msg) : Prop :=
  ∃ vs : List XV, OwXV w lo (some ⟨g0, 0, none⟩) n n vs ∧ τ g0 = 9 ∧ ∀ (j : Nat) (v : XV) (x : Sw.Msg), j < k → vs[j]? = some v → xs[j]? = some x → v.g = x.gate ∧ v.h = x.head ∧ OwTI τ (fpS j) w lo v.A v.c v.n x.proof
theorem GatesTo.start {w : World} {lo g0 n : Nat} {gs : List Sw.Gate} {vs : List GV} (h : OwGV w lo (some ⟨g0, 0, none⟩) n n vs) : GatesTo (fun _ => 8) w lo g0 0 n gs := ⟨vs, h, rfl, fun j v g hj => by omega⟩
theorem MsgsTo.start {w : World} {lo g0 n : Nat} {gs : List Sw.Msg} {vs : List XV} (h : OwXV w lo (some ⟨g0, 0, none⟩) n n vs) : MsgsTo (fun _ => 9) w lo g0 0 n gs := ⟨vs, h, rfl, fun j v g hj => by omega⟩
/-- The element's cells, before. -/
theorem GatesTo.at_ {τ : Nat → Nat} {w : World} {lo g0 k n j : Nat} {gs : List Sw.Gate} (h : GatesTo τ w lo g0 k n gs) (hj : j < n) :
    ∃ x : GV, lo ≤ g0 ∧ g0 < w.heap.size ∧ w.cell? ⟨g0, j * 4, none⟩ = some (.int .i64 x.h.size) ∧ w.cell? ⟨g0, j * 4 + 1, none⟩ = some (.int .i64 x.h.log) ∧
      w.cell? ⟨g0, j * 4 + 2, none⟩ = some (.int .i64 x.h.own) ∧ w.cell? ⟨g0, j * 4 + 3, none⟩ = some (.slice x.A x.n x.c) ∧ (∀ i, w.frozen? ⟨g0, i, none⟩ = false) := by
  obtain ⟨vs, h1, _, _⟩ := h
  obtain ⟨g, x, hA, h3, h4, _, h5, h6, h7, h8, h9⟩ := at_OGV h1 hj
  cases hA
  exact ⟨x, h3, h4, h5, h6, h7, h8, h9⟩
theorem MsgsTo.at_ {τ : Nat → Nat} {w : World} {lo g0 k n j : Nat} {gs : List Sw.Msg} (h : MsgsTo τ w lo g0 k n gs) (hj : j < n) :
    ∃ x : XV, lo ≤ g0 ∧ g0 < w.heap.size ∧ w.cell? ⟨g0, j * 5, none⟩ = some (.int .i64 x.g) ∧ w.cell? ⟨g0, j * 5 + 1, none⟩ = some (.int .i64 x.h.size) ∧ w.cell? ⟨g0, j * 5 + 2, none⟩ = some (.int .i64 x.h.log) ∧
      w.cell? ⟨g0, j * 5 + 3, none⟩ = some (.int .i64 x.h.own) ∧ w.cell? ⟨g0, j * 5 + 4, none⟩ = some (.slice x.A x.n x.c) ∧ (∀ i, w.frozen? ⟨g0, i, none⟩ = false) := by
  obtain ⟨vs, h1, _, _⟩ := h
  obtain ⟨g, x, hA, h3, h4, _, h5, h6, h7, h8, h9, h10⟩ := at_OXV h1 hj
  cases hA
  exact ⟨x, h3, h4, h5, h6, h7, h8, h9, h10⟩
theorem set_cells_heap {g b : Nat} (h : b ≠ g) : ∀ (vs : List Value) (w : World) (i : Nat), (setCells w g i vs).heap[b]? = w.heap[b]?
  | [], _, _ => rfl
  | v :: vs, w, i => by rw [setCells, set_cells_heap h vs]; exact Below.heap_setCell _ _ _ _ h
theorem set_cells_size {g : Nat} : ∀ (vs : List Value) (w : World) (i : Nat), (setCells w g i vs).heap.size = w.heap.size
  | [], _, _ => rfl
  | v :: vs, w, i => by rw [setCells, set_cells_size vs]; simp
/-- One gate more. -/
theorem GatesTo.step {τ : Nat → Nat} {w w1 : World} {lo g0 k n g1 m : Nat} {gs : List Sw.Gate} {y : Sw.Gate} (h : GatesTo τ w lo g0 k n gs) (hk : k < n) (hy : gs[k]? = some y) (hb : Ex w w1)
    (ho : OwI w1 w.heap.size (some ⟨g1, 0, none⟩) m m y.done) (hlo : lo ≤ w.heap.size) :
    GatesTo (glue τ w.heap.size (fun _ => fdS k)) (setCells w1 g0 (k * 4) (GV.enc ⟨y.head, some ⟨g1, 0, none⟩, m, m⟩)) lo g0 (k + 1) n gs := by
  obtain ⟨vs, h1, h2, h3⟩ := h
  have hg0 := (h1.blk rfl)
  dsimp only at hg0
  have h1' : OwGV w1 lo (some ⟨g0, 0, none⟩) n n vs := h1.keep (KF.ex hb (KF.refl _ _))
  refine ⟨_, Ow.put h1' (fun _ => rfl) ⟨y.head, some ⟨g1, 0, none⟩, m, m⟩ rfl hk, ?_, ?_⟩
  · unfold glue; rw [if_pos hg0.2]; exact h2
  · intro j v g hj hv hg
    rw [List.getElem?_set] at hv
    by_cases hjk : k = j
    · subst hjk
      rw [if_pos rfl, if_pos (by rw [← h1.1]; exact hk)] at hv
      cases hv
      rw [hy] at hg
      cases hg
      refine ⟨rfl, ⟨?_, ?_⟩⟩
      · refine (ho.less hlo).keep_ fun a ha => ?_
        cases ha
        have := (ho.blk rfl).1
        exact set_cells_heap (show g1 ≠ g0 by dsimp only at this; omega) _ _ _
      · intro a ha
        cases ha
        have := (ho.blk rfl).1
        unfold glue; dsimp only at this ⊢; rw [if_neg (by omega)]
    · rw [if_neg hjk] at hv
      obtain ⟨e, hr⟩ := h3 j v g (by omega) hv hg
      refine ⟨e, ⟨hr.ow.keep_ fun a ha => ?_, fun a ha => ?_⟩⟩
      · have hlt := (hr.ow.blk ha).2
        rw [set_cells_heap, hb.block _ hlt (fun h => h)]
        intro e
        have := hr.tag a ha
        rw [e, h2] at this
        unfold fdS at this; omega
      · unfold glue; rw [if_pos (hr.ow.blk ha).2]; exact hr.tag a ha
theorem MsgsTo.step {τ : Nat → Nat} {w w1 : World} {lo g0 k n g1 m : Nat} {gs : List Sw.Msg} {y : Sw.Msg} (h : MsgsTo τ w lo g0 k n gs) (hk : k < n) (hy : gs[k]? = some y) (hb : Ex w w1)
    (ho : OwI w1 w.heap.size (some ⟨g1, 0, none⟩) m m y.proof) (hlo : lo ≤ w.heap.size) :
    MsgsTo (glue τ w.heap.size (fun _ => fpS k)) (setCells w1 g0 (k * 5) (XV.enc ⟨y.gate, y.head, some ⟨g1, 0, none⟩, m, m⟩)) lo g0 (k + 1) n gs := by
  obtain ⟨vs, h1, h2, h3⟩ := h
  have hg0 := (h1.blk rfl)
  dsimp only at hg0
  have h1' : OwXV w1 lo (some ⟨g0, 0, none⟩) n n vs := h1.keep (KF.ex hb (KF.refl _ _))
  refine ⟨_, Ow.put h1' (fun _ => rfl) ⟨y.gate, y.head, some ⟨g1, 0, none⟩, m, m⟩ rfl hk, ?_, ?_⟩
  · unfold glue; rw [if_pos hg0.2]; exact h2
  · intro j v g hj hv hg
    rw [List.getElem?_set] at hv
    by_cases hjk : k = j
    · subst hjk
      rw [if_pos rfl, if_pos (by rw [← h1.1]; exact hk)] at hv
      cases hv
      rw [hy] at hg
      cases hg
      refine ⟨rfl, rfl, ⟨?_, ?_⟩⟩
      · refine (ho.less hlo).keep_ fun a ha => ?_
        cases ha
        have := (ho.blk rfl).1
        exact set_cells_heap (show g1 ≠ g0 by dsimp only at this; omega) _ _ _
      · intro a ha
        cases ha
        have := (ho.blk rfl).1
        unfold glue; dsimp only at this ⊢; rw [if_neg (by omega)]
    · rw [if_neg hjk] at hv
      obtain ⟨e1, e, hr⟩ := h3 j v g (by omega) hv hg
      refine ⟨e1, e, ⟨hr.ow.keep_ fun a ha => ?_, fun a ha => ?_⟩⟩
      · have hlt := (hr.ow.blk ha).2
        rw [set_cells_heap, hb.block _ hlt (fun h => h)]
        intro e
        have := hr.tag a ha
        rw [e, h2] at this
        unfold fpS at this; omega
      · unfold glue; rw [if_pos (hr.ow.blk ha).2]; exact hr.tag a ha
theorem GatesTo.all {τ : Nat → Nat} {w : World} {lo g0 n : Nat} {gs : List Sw.Gate} (h : GatesTo τ w lo g0 n n gs) (hn : n = gs.length) : OwG fdS τ w lo (some ⟨g0, 0, none⟩) n n gs := by
  obtain ⟨vs, h1, h2, h3⟩ := h
  exact ⟨vs, ⟨h1, fun a ha => by cases ha; exact h2⟩, hn, fun k v g hv hg => h3 k v g (by have := (List.getElem?_eq_some_iff.1 hg).1; omega) hv hg⟩
theorem MsgsTo.all {τ : Nat → Nat} {w : World} {lo g0 n : Nat} {gs : List Sw.Msg} (h : MsgsTo τ w lo g0 n n gs) (hn : n = gs.length) : OwX fpS τ w lo (some ⟨g0, 0, none⟩) n n gs := by
  obtain ⟨vs, h1, h2, h3⟩ := h
  exact ⟨vs, ⟨h1, fun a ha => by cases ha; exact h2⟩, hn, fun k v g hv hg => h3 k v g (by have := (List.getElem?_eq_some_iff.1 hg).1; omega) hv hg⟩

end Go.Proofs.Ytgceeggfdomdjaa

namespace Go.Proofs.Ytgceeggfdomdjaa
set_option maxRecDepth 100000
set_option linter.unusedSimpArgs false
set_option linter.unusedVariables false
open Go.RowKit Go
set_option maxHeartbeats 400000

def tau5 (a b c d : Nat) : Nat → Nat := fun x => if x = a then 1 else if x = b then 2 else if x = c then 3 else if x = d then 4 else 5
section
variable {a b c d e : Nat}
theorem tau5_1 : tau5 a b c d a = 1 := if_pos rfl
theorem tau5_2 (h : a < b) : tau5 a b c d b = 2 := by unfold tau5; rw [if_neg (by omega), if_pos rfl]
theorem tau5_3 (h : a < c) (h2 : b < c) : tau5 a b c d c = 3 := by unfold tau5; rw [if_neg (by omega), if_neg (by omega), if_pos rfl]
theorem tau5_4 (h : a < d) (h2 : b < d) (h3 : c < d) : tau5 a b c d d = 4 := by unfold tau5; rw [if_neg (by omega), if_neg (by omega), if_neg (by omega), if_pos rfl]
theorem tau5_5 (h : a < e) (h2 : b < e) (h3 : c < e) (h4 : d < e) : tau5 a b c d e = 5 := by unfold tau5; rw [if_neg (by omega), if_neg (by omega), if_neg (by omega), if_neg (by omega)]
end
section
variable {α : Type} {enc : α → List Value} {sz : Nat} {e : TypeId} {fd fp τ τ' : Nat → Nat} {t : Nat} {w w' : World} {lo lo' c n k : Nat} {A : Option Addr} {xs : List α}
theorem OwT.one {g : Nat} (h : Ow enc sz e w lo (some ⟨g, 0, none⟩) c n xs) (ht : τ g = t) : OwT enc sz e τ t w lo (some ⟨g, 0, none⟩) c n xs := ⟨h, fun a ha => by cases ha; exact ht⟩
theorem OwT.keepF (h : OwT enc sz e τ t w lo A c n xs) (hk : KF lo w w') : OwT enc sz e τ t w' lo A c n xs := h.keep (.of hk)
theorem OwM.keepF {aL : Option Addr} {aLc aLn : Nat} {aP : Option Addr} {aPc aPn : Nat} {aD : Option Addr} {aDc aDn : Nat} {aN : Option Addr} {aNc aNn : Nat} {aS : Option Addr} {aSc aSn : Nat} {m : Sw.Mkt} (h : OwM τ w lo aL aLc aLn aP aPc aPn aD aDc aDn aN aNc aNn aS aSc aSn m) (hk : KF lo w w') : OwM τ w' lo aL aLc aLn aP aPc aPn aD aDc aDn aN aNc aNn aS aSc aSn m := h.keep fun _ _ _ => .of hk
theorem OwG.keepF {gs : List Sw.Gate} (h : OwG fd τ w lo A c n gs) (hk : KF lo w w') : OwG fd τ w' lo A c n gs := h.keep (.of hk) fun _ => .of hk
theorem OwX.keepF {gs : List Sw.Msg} (h : OwX fp τ w lo A c n gs) (hk : KF lo w w') : OwX fp τ w' lo A c n gs := h.keep (.of hk) fun _ => .of hk
theorem OwW.keepF {aF : Option Addr} {aFc aFn : Nat} {aL : Option Addr} {aLc aLn : Nat} {aP : Option Addr} {aPc aPn : Nat} {aD : Option Addr} {aDc aDn : Nat} {aN : Option Addr} {aNc aNn : Nat} {aS : Option Addr} {aSc aSn : Nat} {aI : Option Addr} {aIc aIn : Nat} {aG : Option Addr} {aGc aGn : Nat} {aB : Option Addr} {aBc aBn : Nat} {x : Sw.World} (h : OwW fd fp τ w lo aF aFc aFn aL aLc aLn aP aPc aPn aD aDc aDn aN aNc aNn aS aSc aSn aI aIc aIn aG aGc aGn aB aBc aBn x) (hk : KF lo w w') : OwW fd fp τ w' lo aF aFc aFn aL aLc aLn aP aPc aPn aD aDc aDn aN aNc aNn aS aSc aSn aI aIc aIn aG aGc aGn aB aBc aBn x := ⟨h.1.keepF hk, h.2.keepF hk, h.3.keepF hk, h.4.keepF hk, h.5.keepF hk⟩
theorem OwM.glueL {aL : Option Addr} {aLc aLn : Nat} {aP : Option Addr} {aPc aPn : Nat} {aD : Option Addr} {aDc aDn : Nat} {aN : Option Addr} {aNc aNn : Nat} {aS : Option Addr} {aSc aSn : Nat} {m : Sw.Mkt} (h : OwM τ w lo aL aLc aLn aP aPc aPn aD aDc aDn aN aNc aNn aS aSc aSn m) (hk : w.heap.size ≤ k) : OwM (glue τ k τ') w lo aL aLc aLn aP aPc aPn aD aDc aDn aN aNc aNn aS aSc aSn m := h.retag fun b hb => if_pos (by omega)
theorem OwG.glueL {gs : List Sw.Gate} (h : OwG fd τ w lo A c n gs) (hk : w.heap.size ≤ k) : OwG fd (glue τ k τ') w lo A c n gs := h.retag fun b hb => if_pos (by omega)
theorem OwX.glueL {gs : List Sw.Msg} (h : OwX fp τ w lo A c n gs) (hk : w.heap.size ≤ k) : OwX fp (glue τ k τ') w lo A c n gs := h.retag fun b hb => if_pos (by omega)
theorem OwT.rs0 (h : OwT enc sz e τ t w lo A c n xs) (hk : KF lo w w') : Rs enc sz w' 0 A c n xs := h.rs.at0 hk
theorem OwM.rm0 {aL : Option Addr} {aLc aLn : Nat} {aP : Option Addr} {aPc aPn : Nat} {aD : Option Addr} {aDc aDn : Nat} {aN : Option Addr} {aNc aNn : Nat} {aS : Option Addr} {aSc aSn : Nat} {m : Sw.Mkt} (h : OwM τ w lo aL aLc aLn aP aPc aPn aD aDc aDn aN aNc aNn aS aSc aSn m) (hk : KF lo w w') : RM w' 0 aL aLc aLn aP aPc aPn aD aDc aDn aN aNc aNn aS aSc aSn m := h.rm.at0 hk
theorem OwW.rw0 {aF : Option Addr} {aFc aFn : Nat} {aL : Option Addr} {aLc aLn : Nat} {aP : Option Addr} {aPc aPn : Nat} {aD : Option Addr} {aDc aDn : Nat} {aN : Option Addr} {aNc aNn : Nat} {aS : Option Addr} {aSc aSn : Nat} {aI : Option Addr} {aIc aIn : Nat} {aG : Option Addr} {aGc aGn : Nat} {aB : Option Addr} {aBc aBn : Nat} {x : Sw.World} (h : OwW fd fp τ w lo aF aFc aFn aL aLc aLn aP aPc aPn aD aDc aDn aN aNc aNn aS aSc aSn aI aIc aIn aG aGc aGn aB aBc aBn x) (hk : KF lo w w') : RW w' 0 aF aFc aFn aL aLc aLn aP aPc aPn aD aDc aDn aN aNc aNn aS aSc aSn aI aIc aIn aG aGc aGn aB aBc aBn x := h.rw_.at0 hk
theorem OwG.rg0 {gs : List Sw.Gate} (h : OwG fd τ w lo A c n gs) (hk : KF lo w w') : RG w' 0 A c n gs := h.rg.at0 hk
theorem OwX.rx0 {gs : List Sw.Msg} (h : OwX fp τ w lo A c n gs) (hk : KF lo w w') : RX w' 0 A c n gs := h.rx.at0 hk
/-- Five pieces that were made one behind the other are a world. -/
theorem OwW.build {w1 w2 w3 w4 w5 W : World} {lo lo1 lo2 lo3 lo4 lo5 : Nat} {aF : Option Addr} {aFc aFn : Nat} {aL : Option Addr} {aLc aLn : Nat} {aP : Option Addr} {aPc aPn : Nat} {aD : Option Addr} {aDc aDn : Nat} {aN : Option Addr} {aNc aNn : Nat} {aS : Option Addr} {aSc aSn : Nat} {aI : Option Addr} {aIc aIn : Nat} {aG : Option Addr} {aGc aGn : Nat} {aB : Option Addr} {aBc aBn : Nat} {x : Sw.World} {τM τG τX : Nat → Nat}
    (h1 : OwI w1 lo1 aF aFc aFn x.first) (h2 : OwM τM w2 lo2 aL aLc aLn aP aPc aPn aD aDc aDn aN aNc aNn aS aSc aSn x.market) (h3 : OwQ w3 lo3 aI aIc aIn x.lines) (h4 : OwG fd τG w4 lo4 aG aGc aGn x.gates) (h5 : OwX fp τX w5 lo5 aB aBc aBn x.bag)
    (l2 : w1.heap.size ≤ lo2) (l3 : w2.heap.size ≤ lo3) (l4 : w3.heap.size ≤ lo4) (l5 : w4.heap.size ≤ lo5) (b2 : lo2 ≤ w2.heap.size) (b3 : lo3 ≤ w3.heap.size) (b4 : lo4 ≤ w4.heap.size) (hl : lo ≤ lo1) (b1 : lo1 ≤ w1.heap.size)
    (k1 : KF lo1 w1 W) (k2 : KF lo2 w2 W) (k3 : KF lo3 w3 W) (k4 : KF lo4 w4 W) (k5 : KF lo5 w5 W) :
    OwW fd fp (glue (fun _ => 6) w1.heap.size (glue τM w2.heap.size (glue (fun _ => 7) w3.heap.size (glue τG w4.heap.size τX)))) W lo aF aFc aFn aL aLc aLn aP aPc aPn aD aDc aDn aN aNc aNn aS aSc aSn aI aIc aIn aG aGc aGn aB aBc aBn x := by
  have p1 : OwTI (fun _ => 6) 6 w1 lo1 aF aFc aFn x.first := ⟨h1, fun _ _ => rfl⟩
  have p3 : OwTQ (fun _ => 7) 7 w3 lo3 aI aIc aIn x.lines := ⟨h3, fun _ _ => rfl⟩
  refine ⟨((p1.glueL (Nat.le_refl _)).keepF k1).less hl, ?_, ?_, ?_, ?_⟩
  · exact (((h2.glueL (Nat.le_refl _)).glueR l2).keepF k2).less (by omega)
  · exact ((((p3.glueL (Nat.le_refl _)).glueR l3).glueR (by omega)).keepF k3).less (by omega)
  · exact (((((h4.glueL (Nat.le_refl _)).glueR l4).glueR (by omega)).glueR (by omega)).keepF k4).less (by omega)
  · exact (((((h5.glueR l5).glueR (by omega)).glueR (by omega)).glueR (by omega)).keepF k5).less (by omega)
end

theorem toMktHouse_c (aL : Option Addr) (aLc aLn : Nat) (aP : Option Addr) (aPc aPn : Nat) (aD : Option Addr) (aDc aDn : Nat) (aN : Option Addr) (aNc aNn : Nat) (aS : Option Addr) (aSc aSn : Nat) (m : Sw.Mkt) (w : World) (hm : RM w 0 aL aLc aLn aP aPc aPn aD aDc aDn aN aNc aNn aS aSc aSn m) (hn : aLn + aPn + aDn + aNn + aSn ≤ 1048576) : Calls Try.prog 50 #[.agg #[.slice aL aLn aLc, .slice aP aPn aPc, .slice aD aDn aDc, .int .i64 m.clock, .slice aN aNn aNc, .slice aS aSn aSc]] w fun E w' => ∃ bL bLc bLn bP bPc bPn bD bDc bDn bN bNc bNn bS bSc bSn τ, E = .returned (.agg #[.slice bL bLn bLc, .slice bP bPn bPc, .slice bD bDn bDc, .int .i64 m.clock, .slice bN bNn bNc, .slice bS bSn bSc]) ∧ OwM τ w' w.heap.size bL bLc bLn bP bPc bPn bD bDc bDn bN bNc bNn bS bSc bSn m ∧ Ex w w' := by
  obtain ⟨m1, m2, m3, m4, m5⟩ := hm
  go_enter Try.func50, Try.ntmps50
  go_wp2_with (first | (go_at_call 115; apply Calls.mono; apply toEntEntryS_c; (apply Rs.at0 m1; (exact kf_)); (first | assumption | omega); rintro E w1 ⟨gL, rfl, hoL, hgeL, hltL, hb⟩; (try simp only [zA, zC, zD, zN] at hgeL); (try simp only [zA, zC, zD, zN] at hltL); have hst := xr hb; (try simp only [zA, zC, zD, zN] at hst); obtain ⟨hc, hf, hz⟩ := hst) | (go_at_call 116; apply Calls.mono; apply toIntS_c; (apply Rs.at0 m2; (exact kf_)); (first | assumption | omega); rintro E w1 ⟨gP, rfl, hoP, hgeP, hltP, hb⟩; (try simp only [zA, zC, zD, zN] at hgeP); (try simp only [zA, zC, zD, zN] at hltP); have hst := xr hb; (try simp only [zA, zC, zD, zN] at hst); obtain ⟨hc, hf, hz⟩ := hst) | (go_at_call 117; apply Calls.mono; apply toMktDealS_c; (apply Rs.at0 m3; (exact kf_)); (first | assumption | omega); rintro E w1 ⟨gD, rfl, hoD, hgeD, hltD, hb⟩; (try simp only [zA, zC, zD, zN] at hgeD); (try simp only [zA, zC, zD, zN] at hltD); have hst := xr hb; (try simp only [zA, zC, zD, zN] at hst); obtain ⟨hc, hf, hz⟩ := hst) | (go_at_call 116; apply Calls.mono; apply toIntS_c; (apply Rs.at0 m4; (exact kf_)); (first | assumption | omega); rintro E w1 ⟨gN, rfl, hoN, hgeN, hltN, hb⟩; (try simp only [zA, zC, zD, zN] at hgeN); (try simp only [zA, zC, zD, zN] at hltN); have hst := xr hb; (try simp only [zA, zC, zD, zN] at hst); obtain ⟨hc, hf, hz⟩ := hst) | (go_at_call 116; apply Calls.mono; apply toIntS_c; (apply Rs.at0 m5; (exact kf_)); (first | assumption | omega); rintro E w1 ⟨gS, rfl, hoS, hgeS, hltS, hb⟩; (try simp only [zA, zC, zD, zN] at hgeS); (try simp only [zA, zC, zD, zN] at hltS); have hst := xr hb; (try simp only [zA, zC, zD, zN] at hst); obtain ⟨hc, hf, hz⟩ := hst))
  refine bodyPost_ret (v := .agg #[.slice (some ⟨gL, 0, none⟩) aLn aLn, .slice (some ⟨gP, 0, none⟩) aPn aPn, .slice (some ⟨gD, 0, none⟩) aDn aDn, .int .i64 m.clock, .slice (some ⟨gN, 0, none⟩) aNn aNn, .slice (some ⟨gS, 0, none⟩) aSn aSn]) (by simp [results, Try.results50, go_sem, *]) rfl ?_
  refine ⟨_, _, _, _, _, _, _, _, _, _, _, _, _, _, _, tau5 gL gP gD gN, rfl, ⟨?_, ?_, ?_, ?_, ?_⟩, ext_⟩
  · exact .one ((hoL.keep (by (exact kf_))).less (by exact sz_)) tau5_1
  · exact .one ((hoP.keep (by (exact kf_))).less (by exact sz_)) (tau5_2 (by omega))
  · exact .one ((hoD.keep (by (exact kf_))).less (by exact sz_)) (tau5_3 (by omega) (by omega))
  · exact .one ((hoN.keep (by (exact kf_))).less (by exact sz_)) (tau5_4 (by omega) (by omega) (by omega))
  · exact .one ((hoS.keep (by (exact kf_))).less (by exact sz_)) (tau5_5 (by omega) (by omega) (by omega) (by omega))

end Go.Proofs.Ytgceeggfdomdjaa

namespace Go.Proofs.Ytgceeggfdomdjaa
set_option maxRecDepth 100000
set_option linter.unusedSimpArgs false
set_option linter.unusedVariables false
open Go
section
variable {P : Program} {ops : Array Oper} {Q : Exit → Act → World → Prop} {md : Region.Mode} {S : World → Prop}
/-- An operation that is not wanted. -/
theorem regU (i d : Nat) {oi : Oper} {fuel : Nat} {listed : Array Bool} {a : Act} {w : World} (hi : ops[i]? = some oi) (hd : oi.dst = some d)
    (hs : Region.noSelect ops = true) (hf : Region.free md ops listed i = true) (hr : (Region.ready md ops listed).contains i = true)
    (hQ : ∀ c a w, Q (.panic c) (a.put (some d) undef) w → Q (.panic c) a w) (hw : Region.wanted oi (yielded ops a.tmps) = false) (hS : S w)
    (h : wpAnyH P md ops Q S fuel (listed.setIfInBounds i true) (a.put (some d) undef) w) : wpAnyH P md ops Q S (fuel + 1) listed a w :=
  wpAnyH_take (v := undef) hi hs hf hr (by rw [hd]; exact hQ) (Or.inr ⟨hw, rfl⟩) hS (by rw [hd]; exact h)
/-- One that is wanted, and yields v wherever S holds. -/
theorem regT (i d : Nat) {v : Value} {oi : Oper} {fuel : Nat} {listed : Array Bool} {a : Act} {w : World} (hi : ops[i]? = some oi) (hd : oi.dst = some d)
    (hs : Region.noSelect ops = true) (hf : Region.free md ops listed i = true) (hr : (Region.ready md ops listed).contains i = true)
    (hQ : ∀ c a w, Q (.panic c) (a.put (some d) v) w → Q (.panic c) a w) (hw : Region.wanted oi (yielded ops a.tmps) = true) (hy : ∀ w, S w → (execOp a.eval oi).run P w = .ok (.value v) w) (hS : S w)
    (h : wpAnyH P md ops Q S fuel (listed.setIfInBounds i true) (a.put (some d) v) w) : wpAnyH P md ops Q S (fuel + 1) listed a w :=
  wpAnyH_take (v := v) hi hs hf hr (by rw [hd]; exact hQ) (Or.inl ⟨hw, hy⟩) hS (by rw [hd]; exact h)
/-- A region walked by what holds behind so many more operations, in whatever order they come up. -/
theorem wpAnyH_inv {Inv : Nat → Array Bool → Act → World → Prop} {k : Nat}
    (h0 : ∀ l a w, Inv 0 l a w → wpAnyH P md ops Q S k l a w)
    (hd : ∀ n l a w, Inv (n + 1) l a w → Region.ready md ops l ≠ [])
    (hs : ∀ n l a w, Inv (n + 1) l a w → ∀ i ∈ Region.ready md ops l, wpOp P ops Q i (fun a' w' => S w' ∧ Inv n (l.setIfInBounds i true) a' w') a w) :
    ∀ n l a w, Inv n l a w → wpAnyH P md ops Q S (n + k) l a w
  | 0, l, a, w, h => by rw [Nat.zero_add]; exact h0 l a w h
  | n + 1, l, a, w, h => by
    rw [show n + 1 + k = n + k + 1 by omega]
    exact ⟨fun he => absurd he (hd n l a w h), fun i hi => wpOp_mono (fun a' w' h' => ⟨h'.1, wpAnyH_inv h0 hd hs n _ _ _ h'.2⟩) (hs n l a w h i hi)⟩
end
end Go.Proofs.Ytgceeggfdomdjaa

namespace Go.Proofs.Ytgceeggfdomdjaa
set_option maxRecDepth 100000
set_option linter.unusedSimpArgs false
set_option linter.unusedVariables false
open Go.RowKit Go
set_option maxHeartbeats 1000000

/-- Behind an append to what lies from lo on, all that was below is as it was. -/
theorem kL {lo l0 : Nat} {w0 w w' : World} (h : w.heap.size ≤ w'.heap.size ∧ ∀ b, b < lo → w'.heap[b]? = w.heap[b]?) (k : KF l0 w0 w) (hl : w0.heap.size ≤ lo) : KF l0 w0 w' :=
  ⟨Nat.le_trans k.size h.1, fun b h1 h2 => (h.2 b (by omega)).trans (k.block b h1 h2)⟩
/-- Five pieces that were made one behind the other are a market. -/
theorem OwM.build {w1 w2 w3 w4 w5 W : World} {lo l1 l2 l3 l4 l5 : Nat} {aL : Option Addr} {aLc aLn : Nat} {aP : Option Addr} {aPc aPn : Nat} {aD : Option Addr} {aDc aDn : Nat} {aN : Option Addr} {aNc aNn : Nat} {aS : Option Addr} {aSc aSn : Nat} {m : Sw.Mkt}
    (h1 : OwE w1 l1 aL aLc aLn m.log) (h2 : OwI w2 l2 aP aPc aPn m.purses) (h3 : OwD w3 l3 aD aDc aDn m.deals) (h4 : OwI w4 l4 aN aNc aNn m.nums) (h5 : OwI w5 l5 aS aSc aSn m.said)
    (g2 : w1.heap.size ≤ l2) (g3 : w2.heap.size ≤ l3) (g4 : w3.heap.size ≤ l4) (g5 : w4.heap.size ≤ l5) (b1 : l1 ≤ w1.heap.size) (b2 : l2 ≤ w2.heap.size) (b3 : l3 ≤ w3.heap.size) (b4 : l4 ≤ w4.heap.size) (hl : lo ≤ l1)
    (k1 : KF l1 w1 W) (k2 : KF l2 w2 W) (k3 : KF l3 w3 W) (k4 : KF l4 w4 W) (k5 : KF l5 w5 W) :
    OwM (glue (fun _ => 1) w1.heap.size (glue (fun _ => 2) w2.heap.size (glue (fun _ => 3) w3.heap.size (glue (fun _ => 4) w4.heap.size (fun _ => 5))))) W lo aL aLc aLn aP aPc aPn aD aDc aDn aN aNc aNn aS aSc aSn m := by
  have p1 : OwTE (fun _ => 1) 1 w1 l1 aL aLc aLn m.log := ⟨h1, fun _ _ => rfl⟩
  have p2 : OwTI (fun _ => 2) 2 w2 l2 aP aPc aPn m.purses := ⟨h2, fun _ _ => rfl⟩
  have p3 : OwTD (fun _ => 3) 3 w3 l3 aD aDc aDn m.deals := ⟨h3, fun _ _ => rfl⟩
  have p4 : OwTI (fun _ => 4) 4 w4 l4 aN aNc aNn m.nums := ⟨h4, fun _ _ => rfl⟩
  have p5 : OwTI (fun _ => 5) 5 w5 l5 aS aSc aSn m.said := ⟨h5, fun _ _ => rfl⟩
  refine ⟨((p1.glueL (Nat.le_refl _)).keepF k1).less (by omega), ?_, ?_, ?_, ?_⟩
  · exact (((p2.glueL (Nat.le_refl _)).glueR g2).keepF k2).less (by omega)
  · exact ((((p3.glueL (Nat.le_refl _)).glueR g3).glueR (by omega)).keepF k3).less (by omega)
  · exact (((((p4.glueL (Nat.le_refl _)).glueR g4).glueR (by omega)).glueR (by omega)).keepF k4).less (by omega)
  · exact (((((p5.glueR g5).glueR (by omega)).glueR (by omega)).glueR (by omega)).keepF k5).less (by omega)
/-- How far one copy has come: nothing, an empty slice, all of it. -/
inductive CopySt {α : Type} (enc : α → List Value) (sz : Nat) (e : TypeId) (τ : Nat → Nat) (t : Nat) (w : World) (lo n : Nat) (xs : List α) : Bool → Bool → Value → Value → Prop
  | none (v u : Value) : CopySt enc sz e τ t w lo n xs false false v u
  | made (A : Option Addr) (c : Nat) (u : Value) (h : OwT enc sz e τ t w lo A c 0 []) : CopySt enc sz e τ t w lo n xs true false (.slice A 0 c) u
  | done (v : Value) (A : Option Addr) (c : Nat) (h : OwT enc sz e τ t w lo A c n xs) : CopySt enc sz e τ t w lo n xs true true v (.slice A n c)
section
variable {α : Type} {enc : α → List Value} {sz : Nat} {e : TypeId} {τ τ' : Nat → Nat} {t s : Nat} {w w' : World} {lo n c : Nat} {xs : List α} {l r : Bool} {v u : Value} {A A' : Option Addr}
theorem CopySt.mv (h : CopySt enc sz e τ t w lo n xs l r v u) (f : ∀ A c k ys, OwT enc sz e τ t w lo A c k ys → OwT enc sz e τ' t w' lo A c k ys) : CopySt enc sz e τ' t w' lo n xs l r v u := by
  cases h with
  | none => exact .none _ _
  | made A c u h => exact .made _ _ _ (f _ _ _ _ h)
  | done v A c h => exact .done _ _ _ (f _ _ _ _ h)
/-- Another copy has been begun. -/
theorem CopySt.alloc {o : Obj} (h : CopySt enc sz e τ t w lo n xs l r v u) : CopySt enc sz e (glue τ w.heap.size (fun _ => s)) t (w.alloc o) lo n xs l r v u :=
  h.mv fun _ _ _ _ h => (h.glueL (Nat.le_refl _)).keep (KT.refl _ _ _ _).alloc
theorem glue_tag {b k : Nat} (h : τ b = s) : glue τ k (fun _ => s) b = s := by
  unfold glue
  split
  · exact h
  · rfl
/-- Another copy has been filled. -/
theorem CopySt.app (h : CopySt enc sz e τ t w lo n xs l r v u) (hb : Ch (atA A) w w') (ht : ∀ a, A = some a → τ a.block = s) (hne : t ≠ s) : CopySt enc sz e (glue τ w.heap.size (fun _ => s)) t w' lo n xs l r v u :=
  h.mv fun _ _ _ _ h => (h.glueL (Nat.le_refl _)).keep (KT.ch hb (KT.refl _ _ _ _) fun i ⟨a, ha, hi⟩ => .inr (by rw [hi, glue_tag (ht a ha)]; exact Ne.symm hne))
theorem OwT.begun {T : TypeId} (h : Ow enc sz e (w.alloc (.cells #[] T)) lo (some ⟨w.heap.size, 0, Option.none⟩) 0 0 []) : OwT enc sz e (glue τ w.heap.size (fun _ => t)) t (w.alloc (.cells #[] T)) lo (some ⟨w.heap.size, 0, Option.none⟩) 0 0 [] :=
  ⟨h, fun a ha => by cases ha; simp [glue]⟩
theorem OwT.full {ys : List α} {m d lo' : Nat} (h : Ow enc sz e w' lo' A' c n xs) (k : OwT enc sz e τ t w lo A d m ys) (hat : ∀ b, A' = some b → A = some b ∨ w.heap.size ≤ b.block) : OwT enc sz e (glue τ w.heap.size (fun _ => t)) t w' lo' A' c n xs :=
  ⟨h, fun a ha => by
    rcases hat a ha with h1 | h1
    · unfold glue; rw [if_pos (k.ow.blk h1).2]; exact k.tag a h1
    · unfold glue; rw [if_neg (by omega)]⟩
end
theorem ready_ne {md : Region.Mode} {ops : Array Oper} {l : Array Bool} {i : Nat} (h : (Region.ready md ops l).contains i = true) : Region.ready md ops l ≠ [] := by
  intro he; rw [he] at h; simp at h
def cb (b : Bool) : Nat := if b then 0 else 1
/-- The five copies' state, where so many operations are still to come. -/
structure Copy5 (aL : Option Addr) (aLc aLn : Nat) (aP : Option Addr) (aPc aPn : Nat) (aD : Option Addr) (aDc aDn : Nat) (aN : Option Addr) (aNc aNn : Nat) (aS : Option Addr) (aSc aSn : Nat) (m : Sw.Mkt) (w W0 : World) (n : Nat) (l : Array Bool) (a : Act) (wx : World) : Prop where
  keep : KF 0 w wx
  held : HeldB (w.heap.size + 1) 6 W0 wx
  up : W0.heap.size ≤ wx.heap.size
  st : ∃ (l0 l1 l2 l3 l4 r0 r1 r2 r3 r4 : Bool) (v0 v1 v2 v3 v4 u0 u1 u2 u3 u4 : Value) (τ : Nat → Nat), n = cb l0 + cb l1 + cb l2 + cb l3 + cb l4 + cb r0 + cb r1 + cb r2 + cb r3 + cb r4 ∧ l = #[l0, true, true, r0, l1, true, true, r1, l2, true, true, r2, true, true, l3, true, true, r3, l4, true, true, r4, false, false] ∧ a = ⟨#[.agg #[.slice aL aLn aLc, .slice aP aPn aPc, .slice aD aDn aDc, .int .i64 m.clock, .slice aN aNn aNc, .slice aS aSn aSc], .pointer (some ⟨w.heap.size, 0, none⟩), .pointer (some ⟨w.heap.size + 1, 0, none⟩), v0, .pointer (some ⟨w.heap.size, 0, none⟩), .slice aL aLn aLc, u0, v1, .pointer (some ⟨w.heap.size, 1, none⟩), .slice aP aPn aPc, u1, v2, .pointer (some ⟨w.heap.size, 2, none⟩), .slice aD aDn aDc, u2, .pointer (some ⟨w.heap.size, 3, none⟩), .int .i64 m.clock, v3, .pointer (some ⟨w.heap.size, 4, none⟩), .slice aN aNn aNc, u3, v4, .pointer (some ⟨w.heap.size, 5, none⟩), .slice aS aSn aSc, u4, undef], []⟩ ∧ CopySt Sw.Ent.enc 4 134 τ 1 wx W0.heap.size aLn m.log l0 r0 v0 u0 ∧ CopySt encI 1 3 τ 2 wx W0.heap.size aPn m.purses l1 r1 v1 u1 ∧ CopySt Sw.Deal.enc 5 73 τ 3 wx W0.heap.size aDn m.deals l2 r2 v2 u2 ∧ CopySt encI 1 3 τ 4 wx W0.heap.size aNn m.nums l3 r3 v3 u3 ∧ CopySt encI 1 3 τ 5 wx W0.heap.size aSn m.said l4 r4 v4 u4

/-- Five pieces with a mark each are a market. -/
theorem OwM.of5 {W : World} {lo l0 : Nat} {τ : Nat → Nat} {aL : Option Addr} {aLc aLn : Nat} {aP : Option Addr} {aPc aPn : Nat} {aD : Option Addr} {aDc aDn : Nat} {aN : Option Addr} {aNc aNn : Nat} {aS : Option Addr} {aSc aSn : Nat} {m : Sw.Mkt} (h1 : OwT Sw.Ent.enc 4 134 τ 1 W l0 aL aLc aLn m.log) (h2 : OwT encI 1 3 τ 2 W l0 aP aPc aPn m.purses) (h3 : OwT Sw.Deal.enc 5 73 τ 3 W l0 aD aDc aDn m.deals) (h4 : OwT encI 1 3 τ 4 W l0 aN aNc aNn m.nums) (h5 : OwT encI 1 3 τ 5 W l0 aS aSc aSn m.said) (hl : lo ≤ l0) : OwM τ W lo aL aLc aLn aP aPc aPn aD aDc aDn aN aNc aNn aS aSc aSn m :=
  ⟨h1.less hl, h2.less hl, h3.less hl, h4.less hl, h5.less hl⟩

theorem sMktCopy_c (aL : Option Addr) (aLc aLn : Nat) (aP : Option Addr) (aPc aPn : Nat) (aD : Option Addr) (aDc aDn : Nat) (aN : Option Addr) (aNc aNn : Nat) (aS : Option Addr) (aSc aSn : Nat) (m : Sw.Mkt) (w : World) (hm : RM w 0 aL aLc aLn aP aPc aPn aD aDc aDn aN aNc aNn aS aSc aSn m) (hn : aLn + aPn + aDn + aNn + aSn ≤ 1048576) : Calls Try.prog 102 #[.agg #[.slice aL aLn aLc, .slice aP aPn aPc, .slice aD aDn aDc, .int .i64 m.clock, .slice aN aNn aNc, .slice aS aSn aSc]] w fun E w' => ∃ bL bLc bLn bP bPc bPn bD bDc bDn bN bNc bNn bS bSc bSn τ, E = .returned (.agg #[.slice bL bLn bLc, .slice bP bPn bPc, .slice bD bDn bDc, .int .i64 m.clock, .slice bN bNn bNc, .slice bS bSn bSc]) ∧ OwM τ w' w.heap.size bL bLc bLn bP bPc bPn bD bDc bDn bN bNc bNn bS bSc bSn m ∧ Ex w w' := by
  obtain ⟨m1, m2, m3, m4, m5⟩ := hm
  go_enter Try.func102, Try.ntmps102
  go_wp2_with fail
  (refine wp_name ?_; intro W0 hb0; have hst := xr hb0; (try simp only [zA, zC, zD, zN] at hst); obtain ⟨hc0, hf0, hz0⟩ := hst; have hLb : Lb W0 (w.heap.size + 1) 6 := Lb.ex (by exact lbc_) hb0; refine wp_region_held_drew (S := fun w' => HeldB (w.heap.size + 1) 6 W0 w') (by kernel_rfl) ?_ (fun hHeld => ?_); (focus ((try dsimp only); (first | with_reducible assumption | with_reducible exact HeldB.start hLb | with_reducible exact HeldB.of (by assumption) (by assumption) | ((repeat (first | with_reducible refine HeldB.set ?_ (by first | exact Or.inl rfl | exact Or.inr (by simp only [zA, zC, zD, zN]; omega) | exact Or.inr (by omega)) | with_reducible refine HeldB.alloc ?_ _ | with_reducible refine HeldB.drew ?_)); (first | with_reducible assumption | with_reducible exact HeldB.refl hLb | with_reducible exact HeldB.of (by assumption) (by assumption) | with_reducible exact HeldB.ex (by assumption) (by assumption)))))); refine regT 1 4 (v := ?_) rfl rfl (by kernel_rfl) (by kernel_rfl) (by kernel_rfl) (fun _ _ _ h => h) (by rfl) ?_ (by assumption) ?_; rotate_left; (focus (intro w hSw; (try dsimp only at hSw); (try (have hst := xc (HeldB.ch hSw); (try simp only [zA, zC, zD, zN] at hst); obtain ⟨hcS, hfS, hzS⟩ := hst)); go_simp; (try with_reducible rfl))); (try simp only [Act.put, List.setIfInBounds_toArray, List.set_cons_zero, List.set_cons_succ]); refine regT 2 5 (v := ?_) rfl rfl (by kernel_rfl) (by kernel_rfl) (by kernel_rfl) (fun _ _ _ h => h) (by rfl) ?_ (by assumption) ?_; rotate_left; (focus (intro w hSw; (try dsimp only at hSw); (try (have hst := xc (HeldB.ch hSw); (try simp only [zA, zC, zD, zN] at hst); obtain ⟨hcS, hfS, hzS⟩ := hst)); go_simp; (try with_reducible rfl))); (try simp only [Act.put, List.setIfInBounds_toArray, List.set_cons_zero, List.set_cons_succ]); refine regT 5 8 (v := ?_) rfl rfl (by kernel_rfl) (by kernel_rfl) (by kernel_rfl) (fun _ _ _ h => h) (by rfl) ?_ (by assumption) ?_; rotate_left; (focus (intro w hSw; (try dsimp only at hSw); (try (have hst := xc (HeldB.ch hSw); (try simp only [zA, zC, zD, zN] at hst); obtain ⟨hcS, hfS, hzS⟩ := hst)); go_simp; (try with_reducible rfl))); (try simp only [Act.put, List.setIfInBounds_toArray, List.set_cons_zero, List.set_cons_succ]); refine regT 6 9 (v := ?_) rfl rfl (by kernel_rfl) (by kernel_rfl) (by kernel_rfl) (fun _ _ _ h => h) (by rfl) ?_ (by assumption) ?_; rotate_left; (focus (intro w hSw; (try dsimp only at hSw); (try (have hst := xc (HeldB.ch hSw); (try simp only [zA, zC, zD, zN] at hst); obtain ⟨hcS, hfS, hzS⟩ := hst)); go_simp; (try with_reducible rfl))); (try simp only [Act.put, List.setIfInBounds_toArray, List.set_cons_zero, List.set_cons_succ]); refine regT 9 12 (v := ?_) rfl rfl (by kernel_rfl) (by kernel_rfl) (by kernel_rfl) (fun _ _ _ h => h) (by rfl) ?_ (by assumption) ?_; rotate_left; (focus (intro w hSw; (try dsimp only at hSw); (try (have hst := xc (HeldB.ch hSw); (try simp only [zA, zC, zD, zN] at hst); obtain ⟨hcS, hfS, hzS⟩ := hst)); go_simp; (try with_reducible rfl))); (try simp only [Act.put, List.setIfInBounds_toArray, List.set_cons_zero, List.set_cons_succ]); refine regT 10 13 (v := ?_) rfl rfl (by kernel_rfl) (by kernel_rfl) (by kernel_rfl) (fun _ _ _ h => h) (by rfl) ?_ (by assumption) ?_; rotate_left; (focus (intro w hSw; (try dsimp only at hSw); (try (have hst := xc (HeldB.ch hSw); (try simp only [zA, zC, zD, zN] at hst); obtain ⟨hcS, hfS, hzS⟩ := hst)); go_simp; (try with_reducible rfl))); (try simp only [Act.put, List.setIfInBounds_toArray, List.set_cons_zero, List.set_cons_succ]); refine regT 12 15 (v := ?_) rfl rfl (by kernel_rfl) (by kernel_rfl) (by kernel_rfl) (fun _ _ _ h => h) (by rfl) ?_ (by assumption) ?_; rotate_left; (focus (intro w hSw; (try dsimp only at hSw); (try (have hst := xc (HeldB.ch hSw); (try simp only [zA, zC, zD, zN] at hst); obtain ⟨hcS, hfS, hzS⟩ := hst)); go_simp; (try with_reducible rfl))); (try simp only [Act.put, List.setIfInBounds_toArray, List.set_cons_zero, List.set_cons_succ]); refine regT 13 16 (v := ?_) rfl rfl (by kernel_rfl) (by kernel_rfl) (by kernel_rfl) (fun _ _ _ h => h) (by rfl) ?_ (by assumption) ?_; rotate_left; (focus (intro w hSw; (try dsimp only at hSw); (try (have hst := xc (HeldB.ch hSw); (try simp only [zA, zC, zD, zN] at hst); obtain ⟨hcS, hfS, hzS⟩ := hst)); go_simp; (try with_reducible rfl))); (try simp only [Act.put, List.setIfInBounds_toArray, List.set_cons_zero, List.set_cons_succ]); refine regT 15 18 (v := ?_) rfl rfl (by kernel_rfl) (by kernel_rfl) (by kernel_rfl) (fun _ _ _ h => h) (by rfl) ?_ (by assumption) ?_; rotate_left; (focus (intro w hSw; (try dsimp only at hSw); (try (have hst := xc (HeldB.ch hSw); (try simp only [zA, zC, zD, zN] at hst); obtain ⟨hcS, hfS, hzS⟩ := hst)); go_simp; (try with_reducible rfl))); (try simp only [Act.put, List.setIfInBounds_toArray, List.set_cons_zero, List.set_cons_succ]); refine regT 16 19 (v := ?_) rfl rfl (by kernel_rfl) (by kernel_rfl) (by kernel_rfl) (fun _ _ _ h => h) (by rfl) ?_ (by assumption) ?_; rotate_left; (focus (intro w hSw; (try dsimp only at hSw); (try (have hst := xc (HeldB.ch hSw); (try simp only [zA, zC, zD, zN] at hst); obtain ⟨hcS, hfS, hzS⟩ := hst)); go_simp; (try with_reducible rfl))); (try simp only [Act.put, List.setIfInBounds_toArray, List.set_cons_zero, List.set_cons_succ]); refine regT 19 22 (v := ?_) rfl rfl (by kernel_rfl) (by kernel_rfl) (by kernel_rfl) (fun _ _ _ h => h) (by rfl) ?_ (by assumption) ?_; rotate_left; (focus (intro w hSw; (try dsimp only at hSw); (try (have hst := xc (HeldB.ch hSw); (try simp only [zA, zC, zD, zN] at hst); obtain ⟨hcS, hfS, hzS⟩ := hst)); go_simp; (try with_reducible rfl))); (try simp only [Act.put, List.setIfInBounds_toArray, List.set_cons_zero, List.set_cons_succ]); refine regT 20 23 (v := ?_) rfl rfl (by kernel_rfl) (by kernel_rfl) (by kernel_rfl) (fun _ _ _ h => h) (by rfl) ?_ (by assumption) ?_; rotate_left; (focus (intro w hSw; (try dsimp only at hSw); (try (have hst := xc (HeldB.ch hSw); (try simp only [zA, zC, zD, zN] at hst); obtain ⟨hcS, hfS, hzS⟩ := hst)); go_simp; (try with_reducible rfl))); (try simp only [Act.put, List.setIfInBounds_toArray, List.set_cons_zero, List.set_cons_succ]))
  have hlt0 : w.heap.size + 1 < W0.heap.size := hLb.lt
  refine wpAnyH_inv (Inv := Copy5 aL aLc aLn aP aPc aPn aD aDc aDn aN aNc aNn aS aSc aSn m w W0) (k := 2) ?_ ?_ ?_ 10 _ _ _ ?_
  case refine_4 =>
    exact ⟨by (exact kf_), hHeld, Nat.le_refl _, false, false, false, false, false, false, false, false, false, false, undef, undef, undef, undef, undef, undef, undef, undef, undef, undef, fun _ => 0, rfl, by kernel_rfl, rfl, .none _ _, .none _ _, .none _ _, .none _ _, .none _ _⟩
  case refine_1 =>
    rintro l a wx ⟨hk, hHeld, hup, l0, l1, l2, l3, l4, r0, r1, r2, r3, r4, v0, v1, v2, v3, v4, u0, u1, u2, u3, u4, τ, hn0, rfl, rfl, C0, C1, C2, C3, C4⟩
    obtain rfl : l0 = true := by cases l0 <;> first | rfl | (exfalso; revert hn0; simp [cb]; done) | (exfalso; revert hn0; simp [cb]; omega)
    obtain rfl : l1 = true := by cases l1 <;> first | rfl | (exfalso; revert hn0; simp [cb]; done) | (exfalso; revert hn0; simp [cb]; omega)
    obtain rfl : l2 = true := by cases l2 <;> first | rfl | (exfalso; revert hn0; simp [cb]; done) | (exfalso; revert hn0; simp [cb]; omega)
    obtain rfl : l3 = true := by cases l3 <;> first | rfl | (exfalso; revert hn0; simp [cb]; done) | (exfalso; revert hn0; simp [cb]; omega)
    obtain rfl : l4 = true := by cases l4 <;> first | rfl | (exfalso; revert hn0; simp [cb]; done) | (exfalso; revert hn0; simp [cb]; omega)
    obtain rfl : r0 = true := by cases r0 <;> first | rfl | (exfalso; revert hn0; simp [cb]; done) | (exfalso; revert hn0; simp [cb]; omega)
    obtain rfl : r1 = true := by cases r1 <;> first | rfl | (exfalso; revert hn0; simp [cb]; done) | (exfalso; revert hn0; simp [cb]; omega)
    obtain rfl : r2 = true := by cases r2 <;> first | rfl | (exfalso; revert hn0; simp [cb]; done) | (exfalso; revert hn0; simp [cb]; omega)
    obtain rfl : r3 = true := by cases r3 <;> first | rfl | (exfalso; revert hn0; simp [cb]; done) | (exfalso; revert hn0; simp [cb]; omega)
    obtain rfl : r4 = true := by cases r4 <;> first | rfl | (exfalso; revert hn0; simp [cb]; done) | (exfalso; revert hn0; simp [cb]; omega)
    obtain ⟨A0, c0, rfl, t0⟩ : ∃ A c, u0 = .slice A aLn c ∧ OwT Sw.Ent.enc 4 134 τ 1 wx W0.heap.size A c aLn m.log := by (cases C0; exact ⟨_, _, rfl, by assumption⟩)
    obtain ⟨A1, c1, rfl, t1⟩ : ∃ A c, u1 = .slice A aPn c ∧ OwT encI 1 3 τ 2 wx W0.heap.size A c aPn m.purses := by (cases C1; exact ⟨_, _, rfl, by assumption⟩)
    obtain ⟨A2, c2, rfl, t2⟩ : ∃ A c, u2 = .slice A aDn c ∧ OwT Sw.Deal.enc 5 73 τ 3 wx W0.heap.size A c aDn m.deals := by (cases C2; exact ⟨_, _, rfl, by assumption⟩)
    obtain ⟨A3, c3, rfl, t3⟩ : ∃ A c, u3 = .slice A aNn c ∧ OwT encI 1 3 τ 4 wx W0.heap.size A c aNn m.nums := by (cases C3; exact ⟨_, _, rfl, by assumption⟩)
    obtain ⟨A4, c4, rfl, t4⟩ : ∃ A c, u4 = .slice A aSn c ∧ OwT encI 1 3 τ 5 wx W0.heap.size A c aSn m.said := by (cases C4; exact ⟨_, _, rfl, by assumption⟩)
    clear C0 C1 C2 C3 C4 hn0
    refine regT 22 25 (v := ?_) rfl rfl (by kernel_rfl) (by kernel_rfl) (by kernel_rfl) (fun _ _ _ h => h) (by rfl) ?_ (by assumption) ?_
    rotate_left
    focus (intro w hSw; (try dsimp only at hSw); go_simp; (try with_reducible rfl))
    try simp only [Act.put, List.setIfInBounds_toArray, List.set_cons_zero, List.set_cons_succ]
    refine wpAnyH_ready (rs := [23]) (by kernel_rfl) (by simp) ?_
    refine AllReadyH.cons rfl (fun K hK => ?_) ?_
    rotate_left
    focus exact AllReadyH.nil
    have hLbx := hHeld.lb
    obtain ⟨hcx, hfx⟩ := Lb.rules hLbx
    go_simp
    refine hK.out _ _ ?_ (fun hHx => ?_)
    focus ((first | with_reducible assumption | with_reducible exact HeldB.start hLb | with_reducible exact HeldB.of (by assumption) (by assumption) | ((repeat (first | with_reducible refine HeldB.set ?_ (by first | exact Or.inl rfl | exact Or.inr (by simp only [zA, zC, zD, zN]; omega) | exact Or.inr (by omega)) | with_reducible refine HeldB.alloc ?_ _ | with_reducible refine HeldB.drew ?_)); (first | with_reducible assumption | with_reducible exact HeldB.refl hLb | with_reducible exact HeldB.of (by assumption) (by assumption) | with_reducible exact HeldB.ex (by assumption) (by assumption)))))
    have hb := hHeld.ch
    clear hK K hHeld hcx hfx hLbx
    (have hst := xc hb; (try simp only [zA, zC, zD, zN] at hst); obtain ⟨hc, hf, hz⟩ := hst)
    have hLb3 := HeldB.lb hHx
    repeat (replace hLb3 := Lb.unset hLb3)
    obtain ⟨hcb, hfb⟩ := Lb.rules hLb3
    clear hHx
    refine wpAnyH_done (by kernel_rfl) ?_ _
    go_wp2
    refine bodyPost_ret (v := .agg #[.slice A0 aLn c0, .slice A1 aPn c1, .slice A2 aDn c2, .int .i64 m.clock, .slice A3 aNn c3, .slice A4 aSn c4]) (by simp [results, Try.results102, go_sem, *]) rfl ?_
    refine ⟨_, _, _, _, _, _, _, _, _, _, _, _, _, _, _, τ, rfl, OwM.of5 (t0.keepF (by (exact kf_))) (t1.keepF (by (exact kf_))) (t2.keepF (by (exact kf_))) (t3.keepF (by (exact kf_))) (t4.keepF (by (exact kf_))) (by omega), ext_⟩
  case refine_2 =>
    rintro n l a wx ⟨hk, hHeld, hup, l0, l1, l2, l3, l4, r0, r1, r2, r3, r4, v0, v1, v2, v3, v4, u0, u1, u2, u3, u4, τ, hn0, rfl, rfl, C0, C1, C2, C3, C4⟩ he
    obtain rfl : l0 = true := by (cases l0 with | true => rfl | false => exact absurd he (ready_ne (i := 0) (by kernel_rfl)))
    obtain rfl : r0 = true := by (cases r0 with | true => rfl | false => exact absurd he (ready_ne (i := 3) (by kernel_rfl)))
    obtain rfl : l1 = true := by (cases l1 with | true => rfl | false => exact absurd he (ready_ne (i := 4) (by kernel_rfl)))
    obtain rfl : r1 = true := by (cases r1 with | true => rfl | false => exact absurd he (ready_ne (i := 7) (by kernel_rfl)))
    obtain rfl : l2 = true := by (cases l2 with | true => rfl | false => exact absurd he (ready_ne (i := 8) (by kernel_rfl)))
    obtain rfl : r2 = true := by (cases r2 with | true => rfl | false => exact absurd he (ready_ne (i := 11) (by kernel_rfl)))
    obtain rfl : l3 = true := by (cases l3 with | true => rfl | false => exact absurd he (ready_ne (i := 14) (by kernel_rfl)))
    obtain rfl : r3 = true := by (cases r3 with | true => rfl | false => exact absurd he (ready_ne (i := 17) (by kernel_rfl)))
    obtain rfl : l4 = true := by (cases l4 with | true => rfl | false => exact absurd he (ready_ne (i := 18) (by kernel_rfl)))
    obtain rfl : r4 = true := by (cases r4 with | true => rfl | false => exact absurd he (ready_ne (i := 21) (by kernel_rfl)))
    simp [cb] at hn0
  case refine_3 =>
    rintro n l a wx ⟨hk, hHeld, hup, l0, l1, l2, l3, l4, r0, r1, r2, r3, r4, v0, v1, v2, v3, v4, u0, u1, u2, u3, u4, τ, hn0, rfl, rfl, C0, C1, C2, C3, C4⟩ i hi
    obtain ⟨hi0, oi, ho, hdep⟩ := mem_ready.1 hi
    clear hi
    have hi24 : i < 24 := (Array.getElem?_eq_some_iff.1 ho).1
    rcases (show i = 0 ∨ i = 1 ∨ i = 2 ∨ i = 3 ∨ i = 4 ∨ i = 5 ∨ i = 6 ∨ i = 7 ∨ i = 8 ∨ i = 9 ∨ i = 10 ∨ i = 11 ∨ i = 12 ∨ i = 13 ∨ i = 14 ∨ i = 15 ∨ i = 16 ∨ i = 17 ∨ i = 18 ∨ i = 19 ∨ i = 20 ∨ i = 21 ∨ i = 22 ∨ i = 23 by omega) with rfl | rfl | rfl | rfl | rfl | rfl | rfl | rfl | rfl | rfl | rfl | rfl | rfl | rfl | rfl | rfl | rfl | rfl | rfl | rfl | rfl | rfl | rfl | rfl
    · -- 0
      obtain rfl : l0 = false := hi0
      cases C0
      clear ho hdep
      refine wpOp_step rfl fun K hK => ?_
      go_simp
      refine hK _ _ ⟨hHeld.alloc _, hk.alloc, hHeld.alloc _, (by simp; omega), true, l1, l2, l3, l4, false, r1, r2, r3, r4, .slice (some ⟨wx.heap.size, 0, none⟩) 0 0, v1, v2, v3, v4, u0, u1, u2, u3, u4, glue τ wx.heap.size (fun _ => 1), ?_, rfl, rfl, .made _ _ _ (OwT.begun (Ow.new [] rfl rfl rfl (fun _ => rfl) (by omega) (by omega))), C1.alloc, C2.alloc, C3.alloc, C4.alloc⟩
      simp only [cb] at hn0 ⊢; simp at hn0 ⊢; omega
    · -- 1
      exact Bool.noConfusion (show true = false from hi0)
    · -- 2
      exact Bool.noConfusion (show true = false from hi0)
    · -- 3
      obtain rfl : r0 = false := hi0
      obtain rfl := Option.some.inj (show some _ = some oi from ho)
      have d := hdep ⟨0, .data⟩ (by simp) rfl
      obtain rfl : l0 = true := d
      clear ho hdep
      obtain ⟨A, c, rfl, ht⟩ : ∃ A c, v0 = .slice A 0 c ∧ OwT Sw.Ent.enc 4 134 τ 1 wx W0.heap.size A c 0 [] := by (cases C0; exact ⟨_, _, rfl, by assumption⟩)
      clear C0
      refine wpOp_step rfl fun K hK => ?_
      apply step_app el_E one_E rfl rfl rfl rfl ht.ow (Rs.at0 m1 hk) (by omega) hup
      intro A1 c1 w2 ho1 hch1 hat1 hex1 hlow1
      rw [List.nil_append] at ho1; simp only [Nat.zero_add] at ho1
      have hbx := hex1 (· = (w.heap.size + 1)) W0 hHeld.ch (Nat.le_refl _)
      have hlbx := Lb.low hlow1 hlt0 hHeld.lb
      simp only [Nat.zero_add]
      have hKF : KF 0 w w2 := kL ⟨hch1.size, hlow1⟩ hk (by omega)
      refine hK _ _ ⟨HeldB.of hbx hlbx, hKF, HeldB.of hbx hlbx, Nat.le_trans hup hch1.size, true, l1, l2, l3, l4, true, r1, r2, r3, r4, .slice A 0 c, v1, v2, v3, v4, .slice A1 aLn c1, u1, u2, u3, u4, glue τ wx.heap.size (fun _ => 1), ?_, rfl, rfl, .done _ _ _ (OwT.full ho1 ht hat1), C1.app hch1 ht.tag (by decide), C2.app hch1 ht.tag (by decide), C3.app hch1 ht.tag (by decide), C4.app hch1 ht.tag (by decide)⟩
      simp only [cb] at hn0 ⊢; simp at hn0 ⊢; omega
    · -- 4
      obtain rfl : l1 = false := hi0
      cases C1
      clear ho hdep
      refine wpOp_step rfl fun K hK => ?_
      go_simp
      refine hK _ _ ⟨hHeld.alloc _, hk.alloc, hHeld.alloc _, (by simp; omega), l0, true, l2, l3, l4, r0, false, r2, r3, r4, v0, .slice (some ⟨wx.heap.size, 0, none⟩) 0 0, v2, v3, v4, u0, u1, u2, u3, u4, glue τ wx.heap.size (fun _ => 2), ?_, rfl, rfl, C0.alloc, .made _ _ _ (OwT.begun (Ow.new [] rfl rfl rfl (fun _ => rfl) (by omega) (by omega))), C2.alloc, C3.alloc, C4.alloc⟩
      simp only [cb] at hn0 ⊢; simp at hn0 ⊢; omega
    · -- 5
      exact Bool.noConfusion (show true = false from hi0)
    · -- 6
      exact Bool.noConfusion (show true = false from hi0)
    · -- 7
      obtain rfl : r1 = false := hi0
      obtain rfl := Option.some.inj (show some _ = some oi from ho)
      have d := hdep ⟨4, .data⟩ (by simp) rfl
      obtain rfl : l1 = true := d
      clear ho hdep
      obtain ⟨A, c, rfl, ht⟩ : ∃ A c, v1 = .slice A 0 c ∧ OwT encI 1 3 τ 2 wx W0.heap.size A c 0 [] := by (cases C1; exact ⟨_, _, rfl, by assumption⟩)
      clear C1
      refine wpOp_step rfl fun K hK => ?_
      apply step_app el_I one_I rfl rfl rfl rfl ht.ow (Rs.at0 m2 hk) (by omega) hup
      intro A1 c1 w2 ho1 hch1 hat1 hex1 hlow1
      rw [List.nil_append] at ho1; simp only [Nat.zero_add] at ho1
      have hbx := hex1 (· = (w.heap.size + 1)) W0 hHeld.ch (Nat.le_refl _)
      have hlbx := Lb.low hlow1 hlt0 hHeld.lb
      simp only [Nat.zero_add]
      have hKF : KF 0 w w2 := kL ⟨hch1.size, hlow1⟩ hk (by omega)
      refine hK _ _ ⟨HeldB.of hbx hlbx, hKF, HeldB.of hbx hlbx, Nat.le_trans hup hch1.size, l0, true, l2, l3, l4, r0, true, r2, r3, r4, v0, .slice A 0 c, v2, v3, v4, u0, .slice A1 aPn c1, u2, u3, u4, glue τ wx.heap.size (fun _ => 2), ?_, rfl, rfl, C0.app hch1 ht.tag (by decide), .done _ _ _ (OwT.full ho1 ht hat1), C2.app hch1 ht.tag (by decide), C3.app hch1 ht.tag (by decide), C4.app hch1 ht.tag (by decide)⟩
      simp only [cb] at hn0 ⊢; simp at hn0 ⊢; omega
    · -- 8
      obtain rfl : l2 = false := hi0
      cases C2
      clear ho hdep
      refine wpOp_step rfl fun K hK => ?_
      go_simp
      refine hK _ _ ⟨hHeld.alloc _, hk.alloc, hHeld.alloc _, (by simp; omega), l0, l1, true, l3, l4, r0, r1, false, r3, r4, v0, v1, .slice (some ⟨wx.heap.size, 0, none⟩) 0 0, v3, v4, u0, u1, u2, u3, u4, glue τ wx.heap.size (fun _ => 3), ?_, rfl, rfl, C0.alloc, C1.alloc, .made _ _ _ (OwT.begun (Ow.new [] rfl rfl rfl (fun _ => rfl) (by omega) (by omega))), C3.alloc, C4.alloc⟩
      simp only [cb] at hn0 ⊢; simp at hn0 ⊢; omega
    · -- 9
      exact Bool.noConfusion (show true = false from hi0)
    · -- 10
      exact Bool.noConfusion (show true = false from hi0)
    · -- 11
      obtain rfl : r2 = false := hi0
      obtain rfl := Option.some.inj (show some _ = some oi from ho)
      have d := hdep ⟨8, .data⟩ (by simp) rfl
      obtain rfl : l2 = true := d
      clear ho hdep
      obtain ⟨A, c, rfl, ht⟩ : ∃ A c, v2 = .slice A 0 c ∧ OwT Sw.Deal.enc 5 73 τ 3 wx W0.heap.size A c 0 [] := by (cases C2; exact ⟨_, _, rfl, by assumption⟩)
      clear C2
      refine wpOp_step rfl fun K hK => ?_
      apply step_app el_D one_D rfl rfl rfl rfl ht.ow (Rs.at0 m3 hk) (by omega) hup
      intro A1 c1 w2 ho1 hch1 hat1 hex1 hlow1
      rw [List.nil_append] at ho1; simp only [Nat.zero_add] at ho1
      have hbx := hex1 (· = (w.heap.size + 1)) W0 hHeld.ch (Nat.le_refl _)
      have hlbx := Lb.low hlow1 hlt0 hHeld.lb
      simp only [Nat.zero_add]
      have hKF : KF 0 w w2 := kL ⟨hch1.size, hlow1⟩ hk (by omega)
      refine hK _ _ ⟨HeldB.of hbx hlbx, hKF, HeldB.of hbx hlbx, Nat.le_trans hup hch1.size, l0, l1, true, l3, l4, r0, r1, true, r3, r4, v0, v1, .slice A 0 c, v3, v4, u0, u1, .slice A1 aDn c1, u3, u4, glue τ wx.heap.size (fun _ => 3), ?_, rfl, rfl, C0.app hch1 ht.tag (by decide), C1.app hch1 ht.tag (by decide), .done _ _ _ (OwT.full ho1 ht hat1), C3.app hch1 ht.tag (by decide), C4.app hch1 ht.tag (by decide)⟩
      simp only [cb] at hn0 ⊢; simp at hn0 ⊢; omega
    · -- 12
      exact Bool.noConfusion (show true = false from hi0)
    · -- 13
      exact Bool.noConfusion (show true = false from hi0)
    · -- 14
      obtain rfl : l3 = false := hi0
      cases C3
      clear ho hdep
      refine wpOp_step rfl fun K hK => ?_
      go_simp
      refine hK _ _ ⟨hHeld.alloc _, hk.alloc, hHeld.alloc _, (by simp; omega), l0, l1, l2, true, l4, r0, r1, r2, false, r4, v0, v1, v2, .slice (some ⟨wx.heap.size, 0, none⟩) 0 0, v4, u0, u1, u2, u3, u4, glue τ wx.heap.size (fun _ => 4), ?_, rfl, rfl, C0.alloc, C1.alloc, C2.alloc, .made _ _ _ (OwT.begun (Ow.new [] rfl rfl rfl (fun _ => rfl) (by omega) (by omega))), C4.alloc⟩
      simp only [cb] at hn0 ⊢; simp at hn0 ⊢; omega
    · -- 15
      exact Bool.noConfusion (show true = false from hi0)
    · -- 16
      exact Bool.noConfusion (show true = false from hi0)
    · -- 17
      obtain rfl : r3 = false := hi0
      obtain rfl := Option.some.inj (show some _ = some oi from ho)
      have d := hdep ⟨14, .data⟩ (by simp) rfl
      obtain rfl : l3 = true := d
      clear ho hdep
      obtain ⟨A, c, rfl, ht⟩ : ∃ A c, v3 = .slice A 0 c ∧ OwT encI 1 3 τ 4 wx W0.heap.size A c 0 [] := by (cases C3; exact ⟨_, _, rfl, by assumption⟩)
      clear C3
      refine wpOp_step rfl fun K hK => ?_
      apply step_app el_I one_I rfl rfl rfl rfl ht.ow (Rs.at0 m4 hk) (by omega) hup
      intro A1 c1 w2 ho1 hch1 hat1 hex1 hlow1
      rw [List.nil_append] at ho1; simp only [Nat.zero_add] at ho1
      have hbx := hex1 (· = (w.heap.size + 1)) W0 hHeld.ch (Nat.le_refl _)
      have hlbx := Lb.low hlow1 hlt0 hHeld.lb
      simp only [Nat.zero_add]
      have hKF : KF 0 w w2 := kL ⟨hch1.size, hlow1⟩ hk (by omega)
      refine hK _ _ ⟨HeldB.of hbx hlbx, hKF, HeldB.of hbx hlbx, Nat.le_trans hup hch1.size, l0, l1, l2, true, l4, r0, r1, r2, true, r4, v0, v1, v2, .slice A 0 c, v4, u0, u1, u2, .slice A1 aNn c1, u4, glue τ wx.heap.size (fun _ => 4), ?_, rfl, rfl, C0.app hch1 ht.tag (by decide), C1.app hch1 ht.tag (by decide), C2.app hch1 ht.tag (by decide), .done _ _ _ (OwT.full ho1 ht hat1), C4.app hch1 ht.tag (by decide)⟩
      simp only [cb] at hn0 ⊢; simp at hn0 ⊢; omega
    · -- 18
      obtain rfl : l4 = false := hi0
      cases C4
      clear ho hdep
      refine wpOp_step rfl fun K hK => ?_
      go_simp
      refine hK _ _ ⟨hHeld.alloc _, hk.alloc, hHeld.alloc _, (by simp; omega), l0, l1, l2, l3, true, r0, r1, r2, r3, false, v0, v1, v2, v3, .slice (some ⟨wx.heap.size, 0, none⟩) 0 0, u0, u1, u2, u3, u4, glue τ wx.heap.size (fun _ => 5), ?_, rfl, rfl, C0.alloc, C1.alloc, C2.alloc, C3.alloc, .made _ _ _ (OwT.begun (Ow.new [] rfl rfl rfl (fun _ => rfl) (by omega) (by omega)))⟩
      simp only [cb] at hn0 ⊢; simp at hn0 ⊢; omega
    · -- 19
      exact Bool.noConfusion (show true = false from hi0)
    · -- 20
      exact Bool.noConfusion (show true = false from hi0)
    · -- 21
      obtain rfl : r4 = false := hi0
      obtain rfl := Option.some.inj (show some _ = some oi from ho)
      have d := hdep ⟨18, .data⟩ (by simp) rfl
      obtain rfl : l4 = true := d
      clear ho hdep
      obtain ⟨A, c, rfl, ht⟩ : ∃ A c, v4 = .slice A 0 c ∧ OwT encI 1 3 τ 5 wx W0.heap.size A c 0 [] := by (cases C4; exact ⟨_, _, rfl, by assumption⟩)
      clear C4
      refine wpOp_step rfl fun K hK => ?_
      apply step_app el_I one_I rfl rfl rfl rfl ht.ow (Rs.at0 m5 hk) (by omega) hup
      intro A1 c1 w2 ho1 hch1 hat1 hex1 hlow1
      rw [List.nil_append] at ho1; simp only [Nat.zero_add] at ho1
      have hbx := hex1 (· = (w.heap.size + 1)) W0 hHeld.ch (Nat.le_refl _)
      have hlbx := Lb.low hlow1 hlt0 hHeld.lb
      simp only [Nat.zero_add]
      have hKF : KF 0 w w2 := kL ⟨hch1.size, hlow1⟩ hk (by omega)
      refine hK _ _ ⟨HeldB.of hbx hlbx, hKF, HeldB.of hbx hlbx, Nat.le_trans hup hch1.size, l0, l1, l2, l3, true, r0, r1, r2, r3, true, v0, v1, v2, v3, .slice A 0 c, u0, u1, u2, u3, .slice A1 aSn c1, glue τ wx.heap.size (fun _ => 5), ?_, rfl, rfl, C0.app hch1 ht.tag (by decide), C1.app hch1 ht.tag (by decide), C2.app hch1 ht.tag (by decide), C3.app hch1 ht.tag (by decide), .done _ _ _ (OwT.full ho1 ht hat1)⟩
      simp only [cb] at hn0 ⊢; simp at hn0 ⊢; omega
    · -- 22
      obtain rfl := Option.some.inj (show some _ = some oi from ho)
      obtain rfl : r0 = true := hdep ⟨3, .data⟩ (by simp) rfl
      obtain rfl : l0 = true := by (cases C0; rfl)
      obtain rfl : r1 = true := hdep ⟨7, .data⟩ (by simp) rfl
      obtain rfl : l1 = true := by (cases C1; rfl)
      obtain rfl : r2 = true := hdep ⟨11, .data⟩ (by simp) rfl
      obtain rfl : l2 = true := by (cases C2; rfl)
      obtain rfl : r3 = true := hdep ⟨17, .data⟩ (by simp) rfl
      obtain rfl : l3 = true := by (cases C3; rfl)
      obtain rfl : r4 = true := hdep ⟨21, .data⟩ (by simp) rfl
      obtain rfl : l4 = true := by (cases C4; rfl)
      simp [cb] at hn0
    · -- 23
      obtain rfl := Option.some.inj (show some _ = some oi from ho)
      exact Bool.noConfusion (show false = true from hdep ⟨22, .data⟩ (by simp) rfl)
end Go.Proofs.Ytgceeggfdomdjaa

namespace Go.Proofs.Ytgceeggfdomdjaa
set_option maxRecDepth 100000
set_option linter.unusedSimpArgs false
set_option linter.unusedVariables false
open Go.RowKit Go
set_option maxHeartbeats 1000000

section
variable {τ : Nat → Nat} {t lo : Nat} {a w w' : World}
theorem tR (τ : Nat → Nat) (t lo : Nat) (w : World) : KT τ t lo w w := KT.refl τ t lo w
theorem tA {o : Obj} (h : KT τ t lo a w) : KT τ t lo a (w.alloc o) := h.alloc
theorem tD (h : KT τ t lo a w) : KT τ t lo a w.drew := h.drew
theorem tN {n : Nat} (h : KT τ t lo a w) : KT τ t lo a (w.drewN n) := h.drewN
theorem tS {p : Addr} {u : Value} (h : KT τ t lo a w) (hp : a.heap.size ≤ p.block ∨ τ p.block ≠ t) : KT τ t lo a (w.setCell p u) := h.setCell hp
theorem tE (hb : Ex w w') (h : KT τ t lo a w) : KT τ t lo a w' := h.ex hb
end
/-- What a request or the clock may turn of a market. -/
def SM (lo : Nat) (τ : Nat → Nat) : Nat → Prop := fun k => lo ≤ k ∧ 1 ≤ τ k ∧ τ k ≤ 5
/-- Block g holds, from o on, a market's six cells. -/
structure MktAt (w : World) (g o : Nat) (aL : Option Addr) (aLc aLn : Nat) (aP : Option Addr) (aPc aPn : Nat) (aD : Option Addr) (aDc aDn : Nat) (aN : Option Addr) (aNc aNn : Nat) (aS : Option Addr) (aSc aSn : Nat) (clock : Int) : Prop where
  lt : g < w.heap.size
  log : w.cell? ⟨g, o, none⟩ = some (.slice aL aLn aLc)
  purses : w.cell? ⟨g, o + 1, none⟩ = some (.slice aP aPn aPc)
  deals : w.cell? ⟨g, o + 2, none⟩ = some (.slice aD aDn aDc)
  clk : w.cell? ⟨g, o + 3, none⟩ = some (.int .i64 clock)
  nums : w.cell? ⟨g, o + 4, none⟩ = some (.slice aN aNn aNc)
  said : w.cell? ⟨g, o + 5, none⟩ = some (.slice aS aSn aSc)
  free : ∀ i, w.frozen? ⟨g, i, none⟩ = false
theorem MktAt.keep {w w' : World} {g o : Nat} {aL : Option Addr} {aLc aLn : Nat} {aP : Option Addr} {aPc aPn : Nat} {aD : Option Addr} {aDc aDn : Nat} {aN : Option Addr} {aNc aNn : Nat} {aS : Option Addr} {aSc aSn : Nat} {clock : Int} (h : MktAt w g o aL aLc aLn aP aPc aPn aD aDc aDn aN aNc aNn aS aSc aSn clock) (hk : KF 0 w w') : MktAt w' g o aL aLc aLn aP aPc aPn aD aDc aDn aN aNc aNn aS aSc aSn clock := by
  have hb := hk.block g (Nat.zero_le _) h.lt
  have hc : ∀ i, w'.cell? ⟨g, i, none⟩ = w.cell? ⟨g, i, none⟩ := fun i => World.cell?_of_block (w := w) (a := ⟨g, i, none⟩) hb
  exact ⟨Nat.lt_of_lt_of_le h.lt hk.size, (hc _).trans h.log, (hc _).trans h.purses, (hc _).trans h.deals, (hc _).trans h.clk, (hc _).trans h.nums, (hc _).trans h.said, fun i => (World.frozen?_of_block (w := w) (a := ⟨g, i, none⟩) hb).trans (h.free i)⟩
/-- A store of the purses. -/
theorem MktAt.setP {w : World} {g o : Nat} {aL : Option Addr} {aLc aLn : Nat} {aP : Option Addr} {aPc aPn : Nat} {aD : Option Addr} {aDc aDn : Nat} {aN : Option Addr} {aNc aNn : Nat} {aS : Option Addr} {aSc aSn : Nat} {clock : Int} (h : MktAt w g o aL aLc aLn aP aPc aPn aD aDc aDn aN aNc aNn aS aSc aSn clock) (B : Option Addr) (n d : Nat) : MktAt (w.setCell ⟨g, o + 1, none⟩ (.slice B n d)) g o aL aLc aLn B d n aD aDc aDn aN aNc aNn aS aSc aSn clock := by
  have ne : ∀ i j : Nat, i ≠ j → (⟨g, i, none⟩ : Addr) ≠ ⟨g, j, none⟩ := fun i j hij e => hij (by injection e)
  exact ⟨by simpa [World.setCell] using h.lt, (World.cell?_setCell_other _ _ _ _ (ne _ _ (by omega))).trans h.log, World.cell?_setCell_same _ _ _ h.purses, (World.cell?_setCell_other _ _ _ _ (ne _ _ (by omega))).trans h.deals, (World.cell?_setCell_other _ _ _ _ (ne _ _ (by omega))).trans h.clk,
    (World.cell?_setCell_other _ _ _ _ (ne _ _ (by omega))).trans h.nums, (World.cell?_setCell_other _ _ _ _ (ne _ _ (by omega))).trans h.said, fun i => by simpa using h.free i⟩
/-- A store of the clock. -/
theorem MktAt.setK {w : World} {g o : Nat} {aL : Option Addr} {aLc aLn : Nat} {aP : Option Addr} {aPc aPn : Nat} {aD : Option Addr} {aDc aDn : Nat} {aN : Option Addr} {aNc aNn : Nat} {aS : Option Addr} {aSc aSn : Nat} {clock : Int} (h : MktAt w g o aL aLc aLn aP aPc aPn aD aDc aDn aN aNc aNn aS aSc aSn clock) (t : Int) : MktAt (w.setCell ⟨g, o + 3, none⟩ (.int .i64 t)) g o aL aLc aLn aP aPc aPn aD aDc aDn aN aNc aNn aS aSc aSn t := by
  have ne : ∀ i j : Nat, i ≠ j → (⟨g, i, none⟩ : Addr) ≠ ⟨g, j, none⟩ := fun i j hij e => hij (by injection e)
  exact ⟨by simpa [World.setCell] using h.lt, (World.cell?_setCell_other _ _ _ _ (ne _ _ (by omega))).trans h.log, (World.cell?_setCell_other _ _ _ _ (ne _ _ (by omega))).trans h.purses, (World.cell?_setCell_other _ _ _ _ (ne _ _ (by omega))).trans h.deals, World.cell?_setCell_same _ _ _ h.clk,
    (World.cell?_setCell_other _ _ _ _ (ne _ _ (by omega))).trans h.nums, (World.cell?_setCell_other _ _ _ _ (ne _ _ (by omega))).trans h.said, fun i => by simpa using h.free i⟩
/-- A store into another block. -/
theorem MktAt.other {w : World} {g o : Nat} {aL : Option Addr} {aLc aLn : Nat} {aP : Option Addr} {aPc aPn : Nat} {aD : Option Addr} {aDc aDn : Nat} {aN : Option Addr} {aNc aNn : Nat} {aS : Option Addr} {aSc aSn : Nat} {clock : Int} (h : MktAt w g o aL aLc aLn aP aPc aPn aD aDc aDn aN aNc aNn aS aSc aSn clock) {p : Addr} (v : Value) (hp : p.block ≠ g) : MktAt (w.setCell p v) g o aL aLc aLn aP aPc aPn aD aDc aDn aN aNc aNn aS aSc aSn clock := by
  have ne : ∀ i : Nat, p ≠ ⟨g, i, none⟩ := fun i e => hp (by rw [e])
  exact ⟨by simpa [World.setCell] using h.lt, (World.cell?_setCell_other _ _ _ _ (ne _)).trans h.log, (World.cell?_setCell_other _ _ _ _ (ne _)).trans h.purses, (World.cell?_setCell_other _ _ _ _ (ne _)).trans h.deals, (World.cell?_setCell_other _ _ _ _ (ne _)).trans h.clk,
    (World.cell?_setCell_other _ _ _ _ (ne _)).trans h.nums, (World.cell?_setCell_other _ _ _ _ (ne _)).trans h.said, fun i => by simpa using h.free i⟩
theorem MktAt.drew {w : World} {g o : Nat} {aL : Option Addr} {aLc aLn : Nat} {aP : Option Addr} {aPc aPn : Nat} {aD : Option Addr} {aDc aDn : Nat} {aN : Option Addr} {aNc aNn : Nat} {aS : Option Addr} {aSc aSn : Nat} {clock : Int} (h : MktAt w g o aL aLc aLn aP aPc aPn aD aDc aDn aN aNc aNn aS aSc aSn clock) : MktAt w.drew g o aL aLc aLn aP aPc aPn aD aDc aDn aN aNc aNn aS aSc aSn clock := ⟨h.1, h.2, h.3, h.4, h.5, h.6, h.7, h.8⟩
/-- The block of an owned slice. -/
theorem Ow.lbA {α : Type} {enc : α → List Value} {sz : Nat} {e : TypeId} {w : World} {lo c n g : Nat} {xs : List α} (h : Ow enc sz e w lo (some ⟨g, 0, none⟩) c n xs) : Lb w g (c * sz) := by
  rcases h.form with ⟨h1, _⟩ | ⟨g', cur, h1, h2, h3, h4, h5, h6, h7, h8⟩
  · cases h1
  · cases h1; exact ⟨cur, e, h4, h7⟩
theorem OD_set3 {w : World} {lo c n k g : Nat} {A : Option Addr} {xs : List Sw.Deal} (h : OwD w lo A c n xs) (hA : A = some ⟨g, 0, none⟩) {x : Sw.Deal} (hx : xs[k]? = some x) (v : Int) :
    OwD (w.setCell ⟨g, k * 5 + 3, none⟩ (.int .i64 v)) lo A c n (xs.set k { x with buyer := v }) := by
  obtain ⟨a, b, c', d, e⟩ := x
  exact Ow.set h (fun _ => rfl) (j := 3) (u := .int .i64 v) hA hx (by omega) (y := ⟨a, b, c', v, e⟩) rfl
theorem OD_set4 {w : World} {lo c n k g : Nat} {A : Option Addr} {xs : List Sw.Deal} (h : OwD w lo A c n xs) (hA : A = some ⟨g, 0, none⟩) {x : Sw.Deal} (hx : xs[k]? = some x) (v : Int) :
    OwD (w.setCell ⟨g, k * 5 + 4, none⟩ (.int .i64 v)) lo A c n (xs.set k { x with due := v }) := by
  obtain ⟨a, b, c', d, e⟩ := x
  exact Ow.set h (fun _ => rfl) (j := 4) (u := .int .i64 v) hA hx (by omega) (y := ⟨a, b, c', d, v⟩) rfl
/-- Deals of which the first k have been asked. -/
def backs (clock : Int) (ds : List Sw.Deal) (k : Nat) : List Sw.Deal := (ds.take k).map (Sw.backDeal clock) ++ ds.drop k
theorem backs_at {clock : Int} {ds : List Sw.Deal} {k : Nat} {y : Sw.Deal} (h : ds[k]? = some y) : (backs clock ds k)[k]? = some y := by
  have hk := (List.getElem?_eq_some_iff.1 h).1
  unfold backs
  rw [List.getElem?_append_right (by simp; omega), List.length_map, List.length_take, Nat.min_eq_left (by omega), Nat.sub_self, List.getElem?_drop]
  exact h
theorem backs_step {clock : Int} {ds : List Sw.Deal} {k : Nat} {y : Sw.Deal} (h : ds[k]? = some y) : (backs clock ds k).set k (Sw.backDeal clock y) = backs clock ds (k + 1) := by
  have hk := (List.getElem?_eq_some_iff.1 h).1
  unfold backs
  rw [List.set_append_right _ _ (by simp; omega), List.length_map, List.length_take, Nat.min_eq_left (by omega), Nat.sub_self, List.take_add_one, h]
  simp only [List.map_append, List.map_cons, List.append_assoc, Option.toList_some, List.map_nil, List.cons_append, List.nil_append]
  rw [List.drop_eq_getElem_cons hk]
  rfl
theorem set_atM {α : Type} {xs : List α} {k : Nat} {x y : α} (h : xs[k]? = some x) : (xs.set k y)[k]? = some y := by
  rw [List.getElem?_set, if_pos rfl, if_pos (List.getElem?_eq_some_iff.1 h).1]
theorem backs_same {clock : Int} {ds : List Sw.Deal} {k : Nat} {y : Sw.Deal} (h : ds[k]? = some y) (hb : Sw.backDeal clock y = y) : backs clock ds (k + 1) = backs clock ds k := by
  rw [← backs_step h, hb]
  have h1 := backs_at (clock := clock) h
  apply List.ext_getElem?
  intro i
  rw [List.getElem?_set]
  split
  · rename_i e
    subst e
    rw [h1, if_pos (List.getElem?_eq_some_iff.1 h1).1]
  · rfl
theorem backs_all {clock : Int} {ds : List Sw.Deal} {k : Nat} (h : ds.length ≤ k) : backs clock ds k = ds.map (Sw.backDeal clock) := by
  unfold backs
  rw [List.take_of_length_le h, List.drop_of_length_le h, List.append_nil]
def pursesTo (clock : Int) (m : Sw.Mkt) (k : Nat) : List Int := (m.deals.take k).foldl (Sw.backPurse clock) m.purses
theorem pursesTo_step {clock : Int} {m : Sw.Mkt} {k : Nat} {y : Sw.Deal} (h : m.deals[k]? = some y) : pursesTo clock m (k + 1) = Sw.backPurse clock (pursesTo clock m k) y := by
  unfold pursesTo
  rw [List.take_add_one, h]
  simp

/-- A price goes back: new purses, and one deal that is free again. -/
theorem OwM.backed {τ : Nat → Nat} {wr w1 w2 : World} {lo g0 o gD k A3c : Nat} {A3 : Option Addr} {aL aP aN aS : Option Addr} {aLc aLn aPc aPn aDc aDn aNc aNn aSc aSn : Nat} {m : Sw.Mkt} {ps : List Int} {y : Sw.Deal} {v : Value}
    (h : OwM τ wr lo aL aLc aLn aP aPc aPn (some ⟨gD, 0, none⟩) aDc aDn aN aNc aNn aS aSc aSn m) (hb : Ex wr w1) (hb2 : Ex (w1.setCell ⟨g0, o, none⟩ v) w2) (ho : OwI w1 wr.heap.size A3 A3c aPn ps) (t0 : τ g0 = 0) (hg0 : g0 < wr.heap.size) (hx : m.deals[k]? = some y) (hlo : lo ≤ wr.heap.size) :
    OwM (glue τ wr.heap.size (fun _ => 2)) ((w2.setCell ⟨gD, k * 5 + 3, none⟩ (.int .i64 0)).setCell ⟨gD, k * 5 + 4, none⟩ (.int .i64 0)) lo aL aLc aLn A3 A3c aPn (some ⟨gD, 0, none⟩) aDc aDn aN aNc aNn aS aSc aSn
      ⟨m.log, ps, m.deals.set k { y with buyer := 0, due := 0 }, m.clock, m.nums, m.said⟩ := by
  have hgD := h.deals.ow.blk rfl
  dsimp only at hgD
  have tD : τ gD = 3 := h.deals.tag _ rfl
  have tD' : glue τ wr.heap.size (fun _ => 2) gD = 3 := by unfold glue; rw [if_pos hgD.2]; exact tD
  have t0' : glue τ wr.heap.size (fun _ => 2) g0 = 0 := by unfold glue; rw [if_pos hg0]; exact t0
  have hne : g0 ≠ gD := by rintro rfl; omega
  have hz1 := hb.size
  have hz2 : w1.heap.size ≤ w2.heap.size := by have := hb2.size; simpa [World.setCell] using this
  have K : ∀ t, t ≠ 0 → t ≠ 3 → KT (glue τ wr.heap.size (fun _ => 2)) t lo wr ((w2.setCell ⟨gD, k * 5 + 3, none⟩ (.int .i64 0)).setCell ⟨gD, k * 5 + 4, none⟩ (.int .i64 0)) := by
    intro t h0 h3
    refine ((KT.ex hb2 ((KT.ex hb (KT.refl _ _ _ _)).setCell ?_)).setCell ?_).setCell ?_
    · exact Or.inr (by rw [t0']; exact Ne.symm h0)
    · exact Or.inr (by rw [tD']; exact Ne.symm h3)
    · exact Or.inr (by rw [tD']; exact Ne.symm h3)
  have k2 : ∀ b, b < w1.heap.size → b ≠ g0 → w2.heap[b]? = w1.heap[b]? := fun b hb1 hb0 =>
    (hb2.block b (by simpa [World.setCell] using hb1) (fun h => h)).trans (Below.heap_setCell _ _ _ _ hb0)
  refine ⟨(h.log.glueL (Nat.le_refl _)).keep (K 1 (by omega) (by omega)), ⟨?_, fun a ha => ?_⟩, ⟨?_, fun a ha => ?_⟩, (h.nums.glueL (Nat.le_refl _)).keep (K 4 (by omega) (by omega)), (h.said.glueL (Nat.le_refl _)).keep (K 5 (by omega) (by omega))⟩
  · refine (ho.less hlo).keep_ fun a ha => ?_
    have := ho.blk ha
    rw [Below.heap_setCell _ _ _ _ (show a.block ≠ gD by omega), Below.heap_setCell _ _ _ _ (show a.block ≠ gD by omega)]
    exact k2 _ this.2 (by omega)
  · have := (ho.blk ha).1
    unfold glue; rw [if_neg (by omega)]
  · have h1 : OwD w2 lo (some ⟨gD, 0, none⟩) aDc aDn m.deals := h.deals.ow.keep_ fun a ha => by
      cases ha
      exact (k2 gD (by omega) (Ne.symm hne)).trans (hb.block gD hgD.2 (fun h => h))
    have h2 := OD_set4 (OD_set3 h1 rfl hx 0) rfl (set_atM hx) 0
    rw [List.set_set] at h2
    exact h2
  · cases ha
    exact tD'
theorem OwM.clocked {τ : Nat → Nat} {w : World} {lo : Nat} {aL : Option Addr} {aLc aLn : Nat} {aP : Option Addr} {aPc aPn : Nat} {aD : Option Addr} {aDc aDn : Nat} {aN : Option Addr} {aNc aNn : Nat} {aS : Option Addr} {aSc aSn : Nat} {m : Sw.Mkt} (h : OwM τ w lo aL aLc aLn aP aPc aPn aD aDc aDn aN aNc aNn aS aSc aSn m) (t : Int) : OwM τ w lo aL aLc aLn aP aPc aPn aD aDc aDn aN aNc aNn aS aSc aSn { m with clock := t } := ⟨h.1, h.2, h.3, h.4, h.5⟩
theorem back_y {clock : Int} {y : Sw.Deal} (h1 : 0 < y.buyer) (h2 : y.due < clock) : Sw.backDeal clock y = { y with buyer := 0, due := 0 } := by simp [Sw.backDeal, Sw.held, h1, h2]
theorem back_n {clock : Int} {y : Sw.Deal} (h : ¬ (0 < y.buyer ∧ y.due < clock)) : Sw.backDeal clock y = y := by
  have : (Sw.held y && decide (y.due < clock)) = false := by
    rw [Sw.held, ← Bool.decide_and, decide_eq_false_iff_not]; exact h
  simp [Sw.backDeal, this]
theorem backp_y {clock : Int} {p : List Int} {y : Sw.Deal} (h1 : 0 < y.buyer) (h2 : y.due < clock) : Sw.backPurse clock p y = Sw.monTurn p y.buyer y.price := by simp [Sw.backPurse, Sw.held, h1, h2]
theorem backp_n {clock : Int} {p : List Int} {y : Sw.Deal} (h : ¬ (0 < y.buyer ∧ y.due < clock)) : Sw.backPurse clock p y = p := by
  have : (Sw.held y && decide (y.due < clock)) = false := by
    rw [Sw.held, ← Bool.decide_and, decide_eq_false_iff_not]; exact h
  simp [Sw.backPurse, this]
/-- A market whose first k deals have been asked. -/
def ticked (m : Sw.Mkt) (k : Nat) : Sw.Mkt := ⟨m.log, pursesTo (m.clock + 1) m k, backs (m.clock + 1) m.deals k, m.clock + 1, m.nums, m.said⟩
theorem ticked_all {m : Sw.Mkt} {k : Nat} (h : m.deals.length ≤ k) : ticked m k = Sw.tick m := by
  unfold ticked Sw.tick
  rw [backs_all h]
  unfold pursesTo
  rw [List.take_of_length_le h]

theorem sTick_c (aL : Option Addr) (aLc aLn : Nat) (aP : Option Addr) (aPc aPn : Nat) (aD : Option Addr) (aDc aDn : Nat) (aN : Option Addr) (aNc aNn : Nat) (aS : Option Addr) (aSc aSn : Nat) (m : Sw.Mkt) (lo : Nat) (τ : Nat → Nat) (w : World) (hM : OwM τ w lo aL aLc aLn aP aPc aPn aD aDc aDn aN aNc aNn aS aSc aSn m) (hck0 : 0 ≤ m.clock) (hck1 : m.clock ≤ 99999) (hn : aDn ≤ 4194304) (hp : aPn ≤ 4194304) (hlo : lo ≤ w.heap.size) : Calls Try.prog 103 #[.agg #[.slice aL aLn aLc, .slice aP aPn aPc, .slice aD aDn aDc, .int .i64 m.clock, .slice aN aNn aNc, .slice aS aSn aSc]] w fun E w' => ∃ A c, ∃ τ' : Nat → Nat, E = .returned (.agg #[.slice aL aLn aLc, .slice A aPn c, .slice aD aDn aDc, .int .i64 (m.clock + 1), .slice aN aNn aNc, .slice aS aSn aSc]) ∧ OwM τ' w' lo aL aLc aLn A c aPn aD aDc aDn aN aNc aNn aS aSc aSn (Sw.tick m) ∧ (∀ b, b < w.heap.size → τ' b = τ b) ∧ Ch (SM lo τ) w w' := by
  have l3 := Lib.hid hM.deals.ow.1
  go_enter Try.func103, Try.ntmps103
  go_wp2_with fail
  go_loopw [3] (fun i wr => ∃ (k : Nat) (B : Option Addr) (d : Nat) (τr : Nat → Nat), k ≤ aDn ∧ i = .int .i64 k ∧ Ch (SM lo τ) w wr ∧ (∀ b, b < w.heap.size → τr b = τ b) ∧ τr w.heap.size = 0 ∧ τr (w.heap.size + 1) = 0 ∧
    MktAt wr w.heap.size 0 aL aLc aLn B d aPn aD aDc aDn aN aNc aNn aS aSc aSn (m.clock + 1) ∧ w.heap.size + 2 ≤ wr.heap.size ∧ Lb wr (w.heap.size + 1) 6 ∧
    OwM τr wr lo aL aLc aLn B d aPn aD aDc aDn aN aNc aNn aS aSc aSn (ticked m k)) (fun i _ => aDn - (intOf i).toNat)
  case atStart =>
    have g0 : glue τ w.heap.size (fun _ => 0) w.heap.size = 0 := by unfold glue; rw [if_neg (by omega)]
    refine ⟨0, aP, aPc, glue τ w.heap.size (fun _ => 0), Nat.zero_le _, rfl, (by (exact ext_)), fun b hb => if_pos hb, g0, (by unfold glue; rw [if_neg (by omega)]), ⟨by simp; omega, ?_, ?_, ?_, ?_, ?_, ?_, ?_⟩, by simp, (by exact lbc_), ?_⟩
    case refine_8 =>
      refine OwM.keep (OwM.glueL (m := ticked m 0) (OwM.clocked hM _) (Nat.le_refl _)) fun t h1 h5 => ?_
      have g0' : glue τ w.heap.size (fun _ => 0) w.heap.size ≠ t := by rw [g0]; omega
      (with_reducible repeat (first | exact tR _ _ _ _ | apply tA | apply tD | apply tN | (apply tE; assumption) | (refine tS ?_ (by first | exact Or.inl (by first | omega | (simp only [zA, zC, zD, zN]; omega)) | exact Or.inr (by rw [g0]; decide) | exact Or.inr g0))))
    all_goals first | (simp [go_sem]; done) | (intro i; simp [go_sem]; done)
  case round =>
    obtain ⟨k, B, d, τr, hk, rfl, hb2, hτ, h0, h01, hmk, hsz, hLr, ho⟩ := hrel
    obtain ⟨k0, k1, k2, k3, k4, k5, k6, kf⟩ := hmk
    have hmk : MktAt wr w.heap.size 0 aL aLc aLn B d aPn aD aDc aDn aN aNc aNn aS aSc aSn (m.clock + 1) := ⟨k0, k1, k2, k3, k4, k5, k6, kf⟩
    simp only [Nat.zero_add] at k1 k2 k3 k4 k5 k6
    have Hτ := Lib.hid hτ
    clear hτ
    by_cases hlt : k < aDn
    · obtain ⟨y, hy⟩ : ∃ y, m.deals[k]? = some y := ⟨_, List.getElem?_eq_getElem (by have := l3.out; omega)⟩
      have hyb := backs_at (clock := m.clock + 1) hy
      obtain ⟨gD, x, hA, hloD, hltD, hx, q0, q1, q2, q3, q4, hfz⟩ := at_OD ho.deals.ow hlt
      obtain rfl : x = y := by rw [show (ticked m k).deals = backs (m.clock + 1) m.deals k from rfl, hyb] at hx; exact (Option.some.inj hx).symm
      subst hA
      have HX := Lib.hid hx
      have HY := Lib.hid hy
      clear hx hy hyb
      by_cases hh : 0 < x.buyer ∧ x.due < m.clock + 1
      case neg =>
        have e : ticked m (k + 1) = ticked m k := by
          unfold ticked
          rw [pursesTo_step HY.out, backp_n hh, backs_same HY.out (back_n hh)]
        have He := Lib.hid e; clear e
        by_cases hb1 : 0 < x.buyer
        · have hdu : ¬ x.due < m.clock + 1 := fun h => hh ⟨hb1, h⟩
          clear hh
          go_wp2_with fail
          go_roundw
          case rel =>
            exact ⟨k + 1, B, d, τr, by omega, by go_num, (by (exact ext_)), Hτ.out, h0, h01, hmk.keep (by (exact kf_)), by exact sz_, (by exact lbc_), by rw [He.out]; exact ho.keepF (by (exact kf_))⟩
          case measure => simp [intOf]; omega
        · clear hh
          go_wp2_with fail
          go_roundw
          case rel =>
            exact ⟨k + 1, B, d, τr, by omega, by go_num, (by (exact ext_)), Hτ.out, h0, h01, hmk.keep (by (exact kf_)), by exact sz_, (by exact lbc_), by rw [He.out]; exact ho.keepF (by (exact kf_))⟩
          case measure => simp [intOf]; omega
      case pos =>
        obtain ⟨hb1, hdu⟩ := hh
        go_wp2_with (go_at_call 159; apply Calls.mono; apply sMonTurn_c; (apply Rs.at0 ho.purses.rs; (exact kf_)); omega; rintro E w3 ⟨A3, c3, rfl, ho3, hb⟩; have hst := xr hb; (try simp only [zA, zC, zD, zN] at hst); obtain ⟨hc, hf, hz⟩ := hst)
        have e : ticked m (k + 1) = ⟨m.log, Sw.monTurn (ticked m k).purses x.buyer x.price, (ticked m k).deals.set k { x with buyer := 0, due := 0 }, m.clock + 1, m.nums, m.said⟩ := by
          unfold ticked
          dsimp only
          rw [pursesTo_step HY.out, backp_y hb1 hdu, ← backs_step HY.out, back_y hb1 hdu]
        have He := Lib.hid e; clear e
        have tD : τr gD = 3 := ho.deals.tag _ rfl
        have hne : gD ≠ w.heap.size := by rintro rfl; rw [h0] at tD; cases tD
        have hgS : SM lo τ gD ∨ w.heap.size ≤ gD := by
          by_cases hg : gD < w.heap.size
          · exact .inl ⟨hloD, by rw [← Hτ.out gD hg, tD]; omega, by rw [← Hτ.out gD hg, tD]; omega⟩
          · exact .inr (by omega)
        have hex : Ex wr w3 := ext_
        go_roundw
        case rel =>
          refine ⟨k + 1, A3, c3, glue τr wr.heap.size (fun _ => 2), by omega, by go_num, (by (with_reducible repeat (first | exact cR _ _ | apply cA | apply cD | apply cN | (refine cS ?_ (Or.inr (by first | omega | (simp only [zA, zC, zD, zN]; omega))) _) | (refine cS ?_ hgS _) | (apply cE; assumption) | (apply cK; assumption)))), fun b hb => (if_pos (by omega)).trans (Hτ.out b hb), (if_pos k0).trans h0, (if_pos (by omega)).trans h01, ?_, by exact sz_, (by exact lbc_), ?_⟩
          · exact (((hmk.keep (by (exact kf_))).setP A3 aPn c3).other _ hne).other _ hne
          · rw [He.out]
            exact OwM.backed ho hex (Ch.refl _ _) (ho3.less (by simp)) h0 k0 (backs_at HY.out) (by omega)
        case measure => simp [intOf]; omega
    · obtain ⟨hcr, hfr⟩ := Lb.rules hLr
      go_wp2_with fail
      refine bodyPost_ret (v := .agg #[.slice aL aLn aLc, .slice B aPn d, .slice aD aDn aDc, .int .i64 (m.clock + 1), .slice aN aNn aNc, .slice aS aSn aSc]) (by simp [results, Try.results103, go_sem, *]) rfl ?_
      obtain rfl : k = aDn := by omega
      refine ⟨B, d, τr, rfl, ?_, Hτ.out, (by (exact ext_))⟩
      rw [← ticked_all (Nat.le_of_eq l3.out.symm)]
      refine ho.keep fun t t1 t5 => ?_
      have hnt : τr (w.heap.size + 1) ≠ t := by rw [h01]; omega
      (with_reducible repeat (first | exact tR _ _ _ _ | apply tA | apply tD | apply tN | (apply tE; assumption) | (refine tS ?_ (by first | exact Or.inl (by first | omega | (simp only [zA, zC, zD, zN]; omega)) | exact Or.inr (by rw [hnt]; decide) | exact Or.inr hnt))))
end Go.Proofs.Ytgceeggfdomdjaa

namespace Go.Proofs.Ytgceeggfdomdjaa
set_option maxRecDepth 100000
set_option linter.unusedSimpArgs false
set_option linter.unusedVariables false
open Go.RowKit Go
set_option maxHeartbeats 4000000

theorem take_drop_erase {α : Type} : ∀ (l : List α) (k : Nat), l.take k ++ l.drop (k + 1) = l.eraseIdx k
  | [], k => by simp
  | x :: l, 0 => by simp
  | x :: l, k + 1 => by simp [take_drop_erase l k]
theorem iDelete_c (g c n k lo : Nat) (ds : List Sw.Deal) (w : World) (h : OwD w lo (some ⟨g, 0, none⟩) c n ds) (hk : k < n) : Calls Try.prog 214 #[.slice (some ⟨g, 0, none⟩) n c, .int .i64 k, .int .i64 ((k : Int) + 1)] w fun E w' =>
    E = .returned (.slice (some ⟨g, 0, none⟩) (n - 1) c) ∧ OwD w' lo (some ⟨g, 0, none⟩) c (n - 1) (ds.eraseIdx k) ∧ Ch (· = g) w w' := by
  have hle := h.rs.2.le
  have hcb := h.rs.2.cap
  have hfront := Lib.hid (Ow.front h (fun _ => rfl) (k := k) (by omega))
  have s2 := h.rs.drop (fun _ => rfl) (k := k + 1) (by omega)
  have l3 := Lib.hid h.1
  unfold maxLen at hcb
  have z0 : (0 : Int) ≤ (k : Int) := by omega
  have z1 : (k : Int) ≤ (n : Int) := by omega
  have z2 : (k : Int) + 1 ≤ (n : Int) := by omega
  have z3 : (0 : Int) ≤ (k : Int) + 1 := by omega
  have z4 : (k : Int) ≤ (c : Int) := by omega
  have z5 : (n : Int) ≤ (c : Int) := by omega
  have z6 : ((k : Int) + 1).toNat = k + 1 := by omega
  have z7 : (k : Int) ≤ (k : Int) + 1 := by omega
  have z8 : (k : Int) + 1 ≤ (c : Int) := by omega
  have z9 : ((k : Int) == (k : Int) + 1) = false := by simp; omega
  clear h
  obtain ⟨q, hq⟩ : ∃ q, k + (n - (k + 1)) = q := ⟨_, rfl⟩
  have hq1 : q + 1 = n := by omega
  have fin : ∀ w2 : World, OwD w2 lo (some ⟨g, 0, none⟩) c q (ds.take k ++ ds.drop (k + 1)) → Ch (· = g) w w2 →
      (∀ ty, (Builtin.clear_ #[51] ty #[.slice (some ⟨g, q * 5, none⟩) (n - q) (c - q)]).run Try.prog w2 = .ok (.tuple #[]) (w2.setCells g (q * 5) (Sw.Deal.enc Sw.dealZ))) ∧
      OwD (w2.setCells g (q * 5) (Sw.Deal.enc Sw.dealZ)) lo (some ⟨g, 0, none⟩) c (n - 1) (ds.eraseIdx k) ∧ Ch (· = g) w (w2.setCells g (q * 5) (Sw.Deal.enc Sw.dealZ)) := by
    intro w2 h3 hb
    rw [take_drop_erase] at h3
    rw [show n - q = 1 by omega, show n - 1 = q by omega]
    have hth := h3.there
    refine ⟨fun ty => ?_, ?_, Ch.setCells (S := (· = g)) (.inl rfl) _ _ _ hb⟩
    · exact run_clear_cellsK w2 51 73 ty (.agg #[.int .i64 0, .int .i64 0, .int .i64 0, .int .i64 0, .int .i64 0]) (Sw.Deal.enc Sw.dealZ) (by kernel_rfl) (fun w => by simp [go_sem]) g (q * 5) 1 _ (by omega) (by kernel_rfl) (by intro v hv; simp [Sw.Deal.enc, Sw.dealZ] at hv; subst hv; rfl)
        (fun j hj => hth.1 _ (by have : (Sw.Deal.enc Sw.dealZ).length = 5 := rfl; omega)) (fun j hj => hth.2 _)
    · exact h3.over (m := q) (ys := ds.eraseIdx k) (by omega) (by have : (Sw.Deal.enc Sw.dealZ).length = 5 := rfl; omega) h3.1 (fun cur hc ht => by
        rw [List.append_assoc, List.take_append_of_le_length (by rw [List.length_take, hc]; omega), List.take_take, Nat.min_self, ht]) h3.2.1
  have Hfin := Lib.hid fin
  have q0 : (0 : Int) ≤ (q : Int) := by omega
  have q1 : (q : Int) ≤ (n : Int) := by omega
  have q2 : ¬ c = q := by omega
  have q3 : (q : Int) ≤ (c : Int) := by omega
  clear fin
  by_cases hck : c = k + 1
  · rw [if_pos hck] at s2
    subst hck
    obtain rfl : n = k + 1 := by omega
    obtain rfl : q = k := by omega
    simp only [Nat.sub_self] at s2
    have hs2 := Lib.hid s2
    clear s2 hq
    go_enter Try.func214, Try.ntmps214
    go_wp2_with fail
    go_region_law (refine step_appR (lo := lo) el_D one_D (fun _ => rfl) rfl rfl (by simp [Act.eval, Act.put]; done) (by simp [Act.eval, Act.put]; done) (hfront.out.keep (by (exact kf_))) (hs2.out.keep (by (exact kf_))) (by omega) (fun w2 ho1 hch1 => ?_))
    all_goals
      simp only [Nat.add_zero] at ho1
      obtain ⟨f1, f2, f3⟩ := Hfin.out w2 ho1 ((cD (cR _ _)).trans' hch1 (fun i _ hi => hi))
      clear ho1 hch1
      simp only [Nat.add_sub_cancel_left] at f1
      go_wp2_with (at_builtin; refine wpList_clearK rfl rfl rfl (f1 _) ?_)
      go_ret
      exact ⟨rfl, f2, f3⟩
  · rw [if_neg hck] at s2
    simp only [Option.map_some, Addr.add_lit, Nat.zero_add] at s2
    have hs2 := Lib.hid s2
    clear s2
    go_enter Try.func214, Try.ntmps214
    go_wp2_with fail
    go_region_law (refine step_appR (lo := lo) el_D one_D (fun _ => rfl) rfl rfl (by simp [Act.eval, Act.put]; done) (by simp [Act.eval, Act.put]; done) (hfront.out.keep (by (exact kf_))) (hs2.out.keep (by (exact kf_))) (by omega) (fun w2 ho1 hch1 => ?_))
    all_goals
      (try rw [hq] at ho1)
      (try rw [hq])
      obtain ⟨f1, f2, f3⟩ := Hfin.out w2 ho1 ((cD (cR _ _)).trans' hch1 (fun i _ hi => hi))
      clear ho1 hch1
      go_wp2_with (at_builtin; refine wpList_clearK rfl rfl rfl (f1 _) ?_)
      go_ret
      exact ⟨by rw [show n - 1 = q by omega]; rfl, f2, f3⟩
end Go.Proofs.Ytgceeggfdomdjaa

namespace Go.Proofs.Ytgceeggfdomdjaa
set_option maxRecDepth 100000
set_option linter.unusedSimpArgs false
set_option linter.unusedVariables false
open Go.RowKit Go
set_option maxHeartbeats 4000000

theorem lenD (d : Sw.Deal) : (Sw.Deal.enc d).length = 5 := rfl
theorem fl5 (l : List Sw.Deal) : (l.flatMap Sw.Deal.enc).length = l.length * 5 := flat_len (enc := Sw.Deal.enc) (sz := 5) lenD l
theorem ft5 (l : List Sw.Deal) (k : Nat) : (l.flatMap Sw.Deal.enc).take (k * 5) = (l.take k).flatMap Sw.Deal.enc := flat_take (enc := Sw.Deal.enc) (sz := 5) lenD l k
theorem fd5 (l : List Sw.Deal) (k : Nat) : (l.flatMap Sw.Deal.enc).drop (k * 5) = (l.drop k).flatMap Sw.Deal.enc := flat_drop (enc := Sw.Deal.enc) (sz := 5) lenD l k
/-- An element put in where there is room: what lies behind goes up by one, and then it is written. -/
theorem Ow.shifted {w : World} {lo c n k g : Nat} {ds : List Sw.Deal} {d : Sw.Deal} (h : OwD w lo (some ⟨g, 0, none⟩) c n ds) (hk : k < n) (hroom : n + 1 ≤ c) :
    OwD ((w.setCells g ((k + 1) * 5) ((ds.drop k).flatMap Sw.Deal.enc)).setCells g (k * 5) (Sw.Deal.enc d)) lo (some ⟨g, 0, none⟩) c (n + 1) (ds.take k ++ d :: ds.drop k) := by
  have hl := h.1
  have hdl : ((ds.drop k).flatMap Sw.Deal.enc).length = (n - k) * 5 := by rw [fl5]; simp; omega
  have h1 : OwD (w.setCells g ((k + 1) * 5) ((ds.drop k).flatMap Sw.Deal.enc)) lo (some ⟨g, 0, none⟩) c (n + 1) (ds.take (k + 1) ++ ds.drop k) := by
    refine h.over (m := n + 1) (ys := ds.take (k + 1) ++ ds.drop k) hroom (by omega) (by simp; omega) (fun cur hc ht => ?_) (by rw [fl5]; simp; omega)
    have e1 : cur.take ((k + 1) * 5) = (ds.take (k + 1)).flatMap Sw.Deal.enc := by
      rw [← ft5, ← ht, List.take_take, Nat.min_eq_left (by omega)]
    rw [e1, List.flatMap_append, List.take_append_of_le_length (by rw [List.length_append, hdl, fl5]; simp; omega), List.take_of_length_le (by rw [List.length_append, hdl, fl5]; simp; omega)]
  refine h1.over (m := n + 1) (ys := ds.take k ++ d :: ds.drop k) hroom (by rw [lenD]; omega) (by simp; omega) (fun cur hc ht => ?_) (by rw [fl5]; simp; omega)
  have e1 : cur.take (k * 5) = (ds.take k).flatMap Sw.Deal.enc := by
    have := congrArg (List.take (k * 5)) ht
    rw [List.take_take, Nat.min_eq_left (by omega), ft5, List.take_append_of_le_length (by simp; omega), List.take_take, Nat.min_eq_left (by omega)] at this
    exact this
  have e2 : (cur.drop (k * 5 + 5)).take ((n - k) * 5) = (ds.drop k).flatMap Sw.Deal.enc := by
    have := congrArg (List.drop ((k + 1) * 5)) ht
    rw [List.drop_take, fd5, List.drop_append_of_le_length (by simp; omega), show List.drop (k + 1) (ds.take (k + 1)) = [] from List.drop_of_length_le (by simp; omega), List.nil_append, show (k + 1) * 5 = k * 5 + 5 by omega, show (n + 1) * 5 - (k * 5 + 5) = (n - k) * 5 by omega] at this
    exact this
  have e3 : ((ds.take k).flatMap Sw.Deal.enc ++ Sw.Deal.enc d).length = k * 5 + 5 := by rw [List.length_append, lenD, fl5]; simp; omega
  rw [e1, List.flatMap_append, List.flatMap_cons, ← e2, lenD, List.take_append, List.take_of_length_le (by rw [e3]; omega), e3, show (n + 1) * 5 - (k * 5 + 5) = (n - k) * 5 by omega, List.append_assoc]
/-- Elements of an owned slice written over. -/
theorem Ow.splice {w : World} {lo c n j g : Nat} {xs : List Sw.Deal} (h : OwD w lo (some ⟨g, 0, none⟩) c n xs) (ys : List Sw.Deal) (hj : j + ys.length ≤ n) :
    OwD (w.setCells g (j * 5) (ys.flatMap Sw.Deal.enc)) lo (some ⟨g, 0, none⟩) c n (xs.take j ++ (ys ++ xs.drop (j + ys.length))) := by
  have hl := h.1
  have hle := h.rs.2.le
  have hF := fl5 ys
  refine h.over (m := n) (ys := xs.take j ++ (ys ++ xs.drop (j + ys.length))) hle (by omega) (by simp; omega) (fun cur hc ht => ?_) (by rw [fl5]; simp; omega)
  have e1 : cur.take (j * 5) = (xs.take j).flatMap Sw.Deal.enc := by
    rw [← ft5, ← ht, List.take_take, Nat.min_eq_left (by omega)]
  have e2 : (cur.drop (j * 5 + ys.length * 5)).take ((n - (j + ys.length)) * 5) = (xs.drop (j + ys.length)).flatMap Sw.Deal.enc := by
    have := congrArg (List.drop ((j + ys.length) * 5)) ht
    rw [List.drop_take, fd5, show (j + ys.length) * 5 = j * 5 + ys.length * 5 by omega, show n * 5 - (j * 5 + ys.length * 5) = (n - (j + ys.length)) * 5 by omega] at this
    exact this
  have e3 : ((xs.take j).flatMap Sw.Deal.enc ++ ys.flatMap Sw.Deal.enc).length = j * 5 + ys.length * 5 := by rw [List.length_append, fl5, fl5]; simp; omega
  rw [e1, List.flatMap_append, List.flatMap_append, ← e2, hF, List.take_append, List.take_of_length_le (by rw [e3]; omega), e3, show n * 5 - (j * 5 + ys.length * 5) = (n - (j + ys.length)) * 5 by omega, List.append_assoc]
theorem zeroD (m : Nat) : (Builtin.zeroCells #[.int .i64 0, .int .i64 0, .int .i64 0, .int .i64 0, .int .i64 0] m).toList = (List.replicate m Sw.dealZ).flatMap Sw.Deal.enc := madeCells_flat (enc := Sw.Deal.enc) (sz := 5) Sw.dealZ rfl (by omega) m
/-- A new row: some deals, then free ones. -/
theorem Ow.grownD (w : World) (olds : List Sw.Deal) (m G : Nat) (hG : olds.length + m ≤ G) (hm : G ≤ maxLen) :
    OwD (w.alloc (.cells ((olds.flatMap Sw.Deal.enc).toArray ++ Builtin.zeroCells #[.int .i64 0, .int .i64 0, .int .i64 0, .int .i64 0, .int .i64 0] m ++ Builtin.zeroCells #[.int .i64 0, .int .i64 0, .int .i64 0, .int .i64 0, .int .i64 0] (G - (olds.length + m))) 73)) w.heap.size (some ⟨w.heap.size, 0, none⟩) G (olds.length + m) (olds ++ List.replicate m Sw.dealZ) := by
  have hz : ∀ m, (Builtin.zeroCells #[.int .i64 0, .int .i64 0, .int .i64 0, .int .i64 0, .int .i64 0] m).size = m * 5 := fun m => by
    rw [← Array.length_toList, zeroD, fl5]; simp
  have hl : ((olds ++ List.replicate m Sw.dealZ).flatMap Sw.Deal.enc).length = (olds.length + m) * 5 := by rw [fl5]; simp
  refine ⟨by simp, hl, .inr ⟨w.heap.size, G, _, rfl, Nat.le_refl _, heap_alloc_new w _, hG, hm, ?_, ?_⟩⟩
  · simp only [Array.size_append, List.size_toArray, hz, fl5]; omega
  · simp only [Array.toList_append, zeroD]
    rw [← List.flatMap_append, List.take_append_of_le_length (by rw [hl]; exact Nat.le_refl _), List.take_of_length_le (by rw [hl]; exact Nat.le_refl _)]
theorem grow_list {α : Type} {k n : Nat} (ds : List α) (d z : α) (hl : ds.length = n) (hk : k ≤ n) :
    ((ds.take k ++ List.replicate (n + 1 - k) z).take k ++ ([d] ++ (ds.take k ++ List.replicate (n + 1 - k) z).drop (k + [d].length))).take (k + 1) ++ (ds.drop k ++ ((ds.take k ++ List.replicate (n + 1 - k) z).take k ++ ([d] ++ (ds.take k ++ List.replicate (n + 1 - k) z).drop (k + [d].length))).drop (k + 1 + (ds.drop k).length)) = ds.take k ++ d :: ds.drop k := by
  have htl : (ds.take k).length = k := by rw [List.length_take]; omega
  have e1 : (ds.take k ++ List.replicate (n + 1 - k) z).take k = ds.take k := by
    rw [List.take_append_of_le_length (Nat.le_of_eq htl.symm), List.take_of_length_le (Nat.le_of_eq htl)]
  rw [e1]
  obtain ⟨Y, hY⟩ : ∃ Y, Y = (ds.take k ++ List.replicate (n + 1 - k) z).drop (k + [d].length) := ⟨_, rfl⟩
  have hYl : Y.length = n - k := by rw [hY]; simp; omega
  rw [← hY, ← List.append_assoc (ds.take k) [d] Y]
  have hXl : (ds.take k ++ [d]).length = k + 1 := by rw [List.length_append, htl]; rfl
  have e3 : (ds.take k ++ [d] ++ Y).drop (k + 1 + (ds.drop k).length) = [] := List.drop_of_length_le (by rw [List.length_append, hXl, hYl, List.length_drop, hl]; exact Nat.le_refl _)
  rw [e3, List.take_append_of_le_length (Nat.le_of_eq hXl.symm), List.take_of_length_le (Nat.le_of_eq hXl), List.append_nil, List.append_assoc]
  rfl
theorem iInsert_c (A : Option Addr) (c n k lo gv : Nat) (ds : List Sw.Deal) (d : Sw.Deal) (w : World) (h : OwD w lo A c n ds) (hk : k ≤ n) (hn : n ≤ 4194303) (hv : RDl w 0 (some ⟨gv, 0, none⟩) 1 1 [d]) (hvl : Lb w gv 5) (hne : ∀ a, A = some a → a.block ≠ gv) (hlo : lo ≤ w.heap.size) :
    Calls Try.prog 193 #[.slice A n c, .int .i64 k, .slice (some ⟨gv, 0, none⟩) 1 1] w fun E w' =>
    ∃ A' c', E = .returned (.slice A' (n + 1) c') ∧ OwD w' lo A' c' (n + 1) (ds.take k ++ d :: ds.drop k) ∧ Ch (atA A) w w' ∧ (∀ b, A' = some b → A = some b ∨ w.heap.size ≤ b.block) := by
  have hle := h.rs.2.le
  have hcb := h.rs.2.cap
  have l3 := h.1
  unfold maxLen at hcb
  have z0 : (0 : Int) ≤ (k : Int) := by omega
  have z1 : (k : Int) ≤ (n : Int) := by omega
  have z5 : (n : Int) ≤ (c : Int) := by omega
  have z4 : (k : Int) ≤ (c : Int) := by omega
  by_cases hkn : k = n
  · subst hkn
    have hH := Lib.hid h
    have hV := Lib.hid hv
    have e : ds.take k ++ d :: ds.drop k = ds ++ [d] := by rw [List.take_of_length_le (by omega), List.drop_of_length_le (by omega)]
    rw [e]
    clear e h hv
    have l4 := Lib.hid l3
    clear l3 hvl
    rcases hH.out.form with ⟨rfl, hn0, hc0⟩ | ⟨g, cur, rfl, -⟩
    · subst hn0 hc0
      go_enter Try.func193, Try.ntmps193
      go_wp2_with (at_builtin; apply wpList_app (lo := lo) el_D one_D rfl rfl rfl rfl; (exact hH.out.keep (by (exact kf_))); (exact hV.out.keep (by (exact kf_))); omega; (exact sz_); intro A1 c1 w2 ho1 hch1 hat1 hex1 hlow1)
      go_ret
      exact ⟨A1, c1, rfl, ho1, hch1, hat1⟩
    · go_enter Try.func193, Try.ntmps193
      go_wp2_with (at_builtin; apply wpList_app (lo := lo) el_D one_D rfl rfl rfl rfl; (exact hH.out.keep (by (exact kf_))); (exact hV.out.keep (by (exact kf_))); omega; (exact sz_); intro A1 c1 w2 ho1 hch1 hat1 hex1 hlow1)
      all_goals (go_ret; exact ⟨A1, c1, rfl, ho1, hch1, fun b hb => by simpa using hat1 b hb⟩)
  have hkn : k < n := by omega
  rcases h.form with ⟨_, h0, _⟩ | ⟨g, cur, rfl, hlo', hltg, hhg, _, _, hsz, _⟩
  · omega
  have hgv : gv ≠ g := fun e => hne _ rfl e.symm
  have hth := h.there
  obtain ⟨cv, tv, hcv, hcvs⟩ := hvl
  have hsa : w.shape? gv = some (tv, 5) := by simp [World.shape?, hcv, hcvs]
  have hsb : w.shape? g = some (73, c * 5) := by simp [World.shape?, hhg, hsz]
  have hzz : ¬ ((k : Int) == (n : Int)) = true := by simp; omega
  have hov : ∀ lb cb, (callFunc 212 #[.slice (some ⟨gv, 0, none⟩) 1 1, .slice (some ⟨g, (k + 1) * 5, none⟩) lb cb]).run Try.prog w = .ok (.value (.bool false)) w := fun lb cb => by
    rw [run_callFunc_extern Try.func212 (by kernel_rfl) (by kernel_rfl) (by kernel_rfl) (e := Extern.SlicesOverlaps.overlaps #[51, 51] #[4]) (by kernel_rfl),
      Lib.run_overlaps_apart w 51 4 73 el_D.sl 5 (fun w => by simp [go_sem]) ⟨gv, 0, none⟩ ⟨g, (k + 1) * 5, none⟩ 1 1 lb cb hgv tv 73 5 (c * 5) hsa hsb (by omega) (by simp [World.frozen?, hcv]) (by simp [World.frozen?, hcv])]
    rfl
  have hs2 := h.rs.drop (fun _ => rfl) (k := k) (by omega)
  have hcv5 := hv.2.cells _ rfl (by omega)
  obtain ⟨_, _, hgvl, hvc⟩ := hcv5
  replace hgvl : gv < w.heap.size := hgvl
  by_cases hroom : n + 1 ≤ c
  · rw [if_neg (by omega)] at hs2
    simp only [Option.map_some, Addr.add_lit, Nat.zero_add] at hs2
    have hdl : ((ds.drop k).flatMap Sw.Deal.enc).length = (n - k) * 5 := by rw [fl5]; simp; omega
    have hcp1 : ∀ ty dc sc, (Builtin.copy_ #[51, 51] ty #[.slice (some ⟨g, (k + 1) * 5, none⟩) (n + 1 - (k + 1)) dc, .slice (some ⟨g, k * 5, none⟩) (n + 1 - k) sc]).run Try.prog w.drew = .ok (goInt (Nat.min (n + 1 - k) (n + 1 - (k + 1)))) (w.drew.setCells g ((k + 1) * 5) ((ds.drop k).flatMap Sw.Deal.enc)) := fun ty dc sc =>
      run_copy_cellsK w.drew _ _ ty 73 5 g ((k + 1) * 5) (n + 1 - (k + 1)) dc ⟨g, k * 5, none⟩ (n + 1 - k) sc _ el_D.sl (by kernel_rfl) (by rw [hdl, show Nat.min (n + 1 - k) (n + 1 - (k + 1)) = n - k from by simp only [Nat.min_def]; split <;> omega])
        (fun j v hj => by rw [Addr.add_lit]; exact (hs2.2.cells _ rfl (by omega)).2.2.2 j v hj) (fun j hj => hth.1 _ (by omega)) (fun j hj => hth.2 _) (fun v hv => by
          obtain ⟨y, _, hy⟩ := List.mem_flatMap.1 hv
          exact one_D y v hy)
    obtain ⟨cur', hc1, hc2, -⟩ := heap_setCells_same ((ds.drop k).flatMap Sw.Deal.enc) ((k + 1) * 5) w.drew cur hhg (by omega)
    have hcp2 : ∀ ty dc, (Builtin.copy_ #[51, 51] ty #[.slice (some ⟨g, k * 5, none⟩) (n + 1 - k) dc, .slice (some ⟨gv, 0, none⟩) 1 1]).run Try.prog (w.drew.setCells g ((k + 1) * 5) ((ds.drop k).flatMap Sw.Deal.enc)) = .ok (goInt (Nat.min 1 (n + 1 - k))) ((w.drew.setCells g ((k + 1) * 5) ((ds.drop k).flatMap Sw.Deal.enc)).setCells g (k * 5) (Sw.Deal.enc d)) := fun ty dc =>
      run_copy_cellsK _ _ _ ty 73 5 g (k * 5) (n + 1 - k) dc ⟨gv, 0, none⟩ 1 1 _ el_D.sl (by kernel_rfl) (by rw [lenD, show Nat.min 1 (n + 1 - k) = 1 from by simp only [Nat.min_def]; split <;> omega])
        (fun j v hj => by
          rw [Addr.add_lit]
          exact (World.cell?_of_block (w := w.drew) (a := ⟨gv, 0 + j, none⟩) (heap_setCells_ne hgv _ _ w.drew)).trans (hvc j v (by simpa using hj)))
        (fun j hj => by rw [lenD] at hj; simp [World.cell?, hc1, show k * 5 + j < cur'.size by omega]) (fun j hj => by simp [World.frozen?, hc1]) (fun v hv => one_D d v hv)
    have HF := Lib.hid (And.intro (Ow.shifted (d := d) (h.keep (by (exact kf_) : KF lo w w.drew)) hkn hroom) (Ch.setCells (S := atA (some ⟨g, 0, none⟩)) (.inl ⟨_, rfl, rfl⟩) (Sw.Deal.enc d) (k * 5) _ (Ch.setCells (.inl ⟨_, rfl, rfl⟩) ((ds.drop k).flatMap Sw.Deal.enc) ((k + 1) * 5) _ (cD (cR _ w)))))
    have HC2 := Lib.hid hcp2
    clear hcp2 hc1 hc2 cur'
    clear hs2 hhg hsz hsa hsb hcv hcvs hth hvc
    have hH := Lib.hid h
    have hV := Lib.hid hv
    have HOV := Lib.hid hov
    have HC := Lib.hid hcp1
    clear h hv hov hcp1 hdl l3
    have z6 : (n : Int) + 1 ≤ (c : Int) := by omega
    have z7 : ((k : Int) == (n : Int)) = false := by simp; omega
    have z8 : (0 : Int) ≤ (n : Int) + 1 := by omega
    have z9 : (0 : Int) ≤ (k : Int) + 1 := by omega
    have z10 : (k : Int) + 1 ≤ (n : Int) + 1 := by omega
    have z11 : (k : Int) ≤ (n : Int) + 1 := by omega
    have z12 : ((n : Int) + 1).toNat = n + 1 := by omega
    have z13 : ((k : Int) + 1).toNat = k + 1 := by omega
    have z14 : ¬ c = k + 1 := by omega
    have z15 : ¬ c = k := by omega
    have z16 : IntKind.i64.wrap ((k : Int) + 1) = (k : Int) + 1 := IntWalk.i64_in _ (by omega)
    have z17 : IntKind.i64.wrap ((n : Int) + 1) = (n : Int) + 1 := IntWalk.i64_in _ (by omega)
    clear hzz
    go_enter Try.func193, Try.ntmps193
    go_wp2_with (simp only [HOV.out])
    go_region_law (refine step_copyK rfl rfl (by simp [Act.eval, Act.put]; done) (by simp [Act.eval, Act.put]; done) (HC.out _ (c - (k + 1)) (c - k)) ?_)
    all_goals
      go_wp2_with (simp only [HC2.out])
      go_ret
      exact ⟨_, _, rfl, HF.out.1, HF.out.2, fun b hb => .inl (by simpa using hb)⟩
  · obtain rfl : c = n := by omega
    rw [if_neg (by omega)] at hs2
    simp only [Option.map_some, Addr.add_lit, Nat.zero_add] at hs2
    have hdl : ((ds.drop k).flatMap Sw.Deal.enc).length = (c - k) * 5 := by rw [fl5]; simp; omega
    have hfr := (Ow.front h (fun _ => rfl) (k := k) (by omega)).rs
    obtain ⟨i0, hi0, hz0, hzs, hzb⟩ := info_parts (P := Try.prog) (e := 73) (z := .agg #[.int .i64 0, .int .i64 0, .int .i64 0, .int .i64 0, .int .i64 0]) (size := 5) (bytes := 40) (by kernel_rfl)
    have hold : (Builtin.firstCells i0.size k (.slice (some ⟨g, 0, none⟩) k c)).run Try.prog w.drew = .ok ((ds.take k).flatMap Sw.Deal.enc).toArray w.drew := by
      rw [hzs]
      refine run_firstCells_some w.drew 5 k ⟨g, 0, none⟩ k c _ (by rw [fl5]; simp; omega) (fun j v hj => ?_)
      rw [Addr.add_lit]
      have hk0 : 0 < k := by
        rcases Nat.eq_zero_or_pos k with h0 | h0
        · subst h0; simp at hj
        · exact h0
      exact (hfr.2.cells _ rfl hk0).2.2.2 j v hj
    obtain ⟨G, hG⟩ : ∃ G, G = grownCap w (c + 1) c 73 := ⟨_, rfl⟩
    have hGn : c + 1 ≤ G := by rw [hG]; exact grownCap_ge w _ _ _
    have hGm : G ≤ maxLen := by rw [hG]; exact grownCap_le_maxLen w (c + 1) c _ (by unfold maxLen; omega)
    have htl : (ds.take k).length = k := by simp; omega
    have hkk : (c : Int) + 1 - (k : Int) = ((c + 1 - k : Nat) : Int) := by omega
    have hik : k + (c + 1 - k) = c + 1 := by omega
    have hN := Ow.grownD w.drew (ds.take k) (c + 1 - k) G (by omega) hGm
    rw [htl, hik] at hN
    obtain ⟨W1, hW1⟩ : ∃ W1, W1 = w.drew.alloc (.cells (((ds.take k).flatMap Sw.Deal.enc).toArray ++ Builtin.zeroCells #[.int .i64 0, .int .i64 0, .int .i64 0, .int .i64 0, .int .i64 0] (c + 1 - k) ++ Builtin.zeroCells #[.int .i64 0, .int .i64 0, .int .i64 0, .int .i64 0, .int .i64 0] (G - (c + 1))) 73) := ⟨_, rfl⟩
    have hrz : ∀ ty, (Builtin.append_ #[51, 3] ty #[.slice (some ⟨g, 0, none⟩) k c, .int .i64 ((c : Int) + 1 - (k : Int))]).run Try.prog w = .ok (.slice (some ⟨w.heap.size, 0, none⟩) (c + 1) G) W1 := fun ty => by
      have h := Lib.run_append_grow_zeros w 51 3 ty 73 i0 _ .i64 .i64 el_D.sl (by kernel_rfl) hi0 hz0 (some ⟨g, 0, none⟩) k c _ hold (c + 1 - k) (by omega) (by omega) (by omega) (by omega) (by rw [hzb]; omega) (by rw [hzb, hik]; exact growslice_fits (by omega) (by omega))
      rw [hik, ← hG] at h
      rw [hkk, hW1]
      exact h
    rw [← hW1] at hN
    have hs1 : W1.heap.size = w.heap.size + 1 := by rw [hW1]; simp
    have hb1 : Ex w W1 := by rw [hW1]; exact cA (cD (cR _ _))
    have hN' : OwD W1 w.heap.size (some ⟨w.heap.size, 0, none⟩) G (c + 1) (ds.take k ++ List.replicate (c + 1 - k) Sw.dealZ) := hN
    have hN2 := Ow.splice hN' (j := k) [d] (by simp; omega)
    have hC2 : Ch (atA (some ⟨g, 0, none⟩)) w (W1.setCells w.heap.size (k * 5) ([d].flatMap Sw.Deal.enc)) := Ch.setCells (.inr (Nat.le_refl _)) _ _ _ (cE hb1 (cR _ _))
    have hn2 : ∀ b, b ≠ w.heap.size → (W1.setCells w.heap.size (k * 5) ([d].flatMap Sw.Deal.enc)).heap[b]? = W1.heap[b]? := fun b hb => heap_setCells_ne hb _ _ _
    obtain ⟨W2, hW2⟩ : ∃ W2, W2 = W1.setCells w.heap.size (k * 5) ([d].flatMap Sw.Deal.enc) := ⟨_, rfl⟩
    rw [← hW2] at hN2 hC2 hn2
    have hN2d : OwD W2.drew w.heap.size (some ⟨w.heap.size, 0, none⟩) G (c + 1) _ := hN2.keep (kD (kR _ _))
    have hN3 := Ow.splice hN2d (j := k + 1) (ds.drop k) (by simp; omega)
    have hlist := grow_list ds d Sw.dealZ l3.symm hk
    rw [hlist] at hN3
    have hgN : g ≠ w.heap.size := by omega
    have hgvN : gv ≠ w.heap.size := by omega
    have hcpA : ∀ ty dc, (Builtin.copy_ #[51, 51] ty #[.slice (some ⟨w.heap.size, k * 5, none⟩) (c + 1 - k) dc, .slice (some ⟨gv, 0, none⟩) 1 1]).run Try.prog W1 = .ok (goInt (Nat.min 1 (c + 1 - k))) W2 := fun ty dc => by
      rw [hW2]
      exact run_copy_cellsK _ _ _ ty 73 5 w.heap.size (k * 5) (c + 1 - k) dc ⟨gv, 0, none⟩ 1 1 _ el_D.sl (by kernel_rfl) (by rw [fl5, show Nat.min 1 (c + 1 - k) = 1 from by simp only [Nat.min_def]; split <;> omega]; rfl)
        (fun j v hj => by rw [Addr.add_lit]; exact (hb1.cell (p := ⟨gv, 0 + j, none⟩) hgvl (fun h => h)).trans (hvc j v hj))
        (fun j hj => by rw [fl5] at hj; exact hN'.there.1 _ (by simp at hj; omega)) (fun j hj => hN'.there.2 _) (fun v hv => by
          obtain ⟨y, _, hy⟩ := List.mem_flatMap.1 hv
          exact one_D y v hy)
    have hcpB : ∀ ty dc sc, (Builtin.copy_ #[51, 51] ty #[.slice (some ⟨w.heap.size, (k + 1) * 5, none⟩) (c + 1 - (k + 1)) dc, .slice (some ⟨g, k * 5, none⟩) (c - k) sc]).run Try.prog W2.drew = .ok (goInt (Nat.min (c - k) (c + 1 - (k + 1)))) (W2.drew.setCells w.heap.size ((k + 1) * 5) ((ds.drop k).flatMap Sw.Deal.enc)) := fun ty dc sc =>
      run_copy_cellsK _ _ _ ty 73 5 w.heap.size ((k + 1) * 5) (c + 1 - (k + 1)) dc ⟨g, k * 5, none⟩ (c - k) sc _ el_D.sl (by kernel_rfl) (by rw [hdl, show Nat.min (c - k) (c + 1 - (k + 1)) = c - k from by simp only [Nat.min_def]; split <;> omega])
        (fun j v hj => by
          rw [Addr.add_lit]
          refine (World.cell?_of_block (w' := W2.drew) (w := W1) (a := ⟨g, k * 5 + j, none⟩) (hn2 g hgN)).trans ?_
          exact (hb1.cell (p := ⟨g, k * 5 + j, none⟩) hltg (fun h => h)).trans ((hs2.2.cells _ rfl (by omega)).2.2.2 j v hj))
        (fun j hj => hN2d.there.1 _ (by omega)) (fun j hj => hN2d.there.2 _) (fun v hv => by
          obtain ⟨y, _, hy⟩ := List.mem_flatMap.1 hv
          exact one_D y v hy)
    have hCh : Ch (atA (some ⟨g, 0, none⟩)) w (W2.drew.setCells w.heap.size ((k + 1) * 5) ((ds.drop k).flatMap Sw.Deal.enc)) :=
      Ch.setCells (.inr (Nat.le_refl _)) _ _ _ (cD hC2)
    have HA := Lib.hid hcpA
    have HB := Lib.hid hcpB
    have HZ := Lib.hid hrz
    have HF := Lib.hid (And.intro (hN3.less hlo) hCh)
    clear hcpA hcpB hrz hN3 hCh hN2d hN2 hC2 hn2 hW2 hN' hN hlist hW1 hold hi0 hz0 hzs hzb hG hb1 hs1 hs2 hfr hdl hkk hik htl hvc hth hhg hsz hsa hsb hcv hcvs h hv hov hne
    have z6 : (c : Int) < (c : Int) + 1 := by omega
    have z7 : ((k : Int) == (c : Int)) = false := by simp; omega
    have z9 : (0 : Int) ≤ (k : Int) + 1 := by omega
    have z10 : (k : Int) + 1 ≤ (c : Int) + 1 := by omega
    have z11 : (k : Int) ≤ (c : Int) + 1 := by omega
    have z13 : ((k : Int) + 1).toNat = k + 1 := by omega
    have z14 : ¬ G = k + 1 := by omega
    have z15 : ¬ G = k := by omega
    have z18 : ¬ c = k := by omega
    have z16 : IntKind.i64.wrap ((k : Int) + 1) = (k : Int) + 1 := IntWalk.i64_in _ (by omega)
    clear hzz l3
    go_enter Try.func193, Try.ntmps193
    go_wp2_with (first | (at_builtin; refine Lib.wpList_append_run _ rfl _ _ _ _ rfl _ _ rfl rfl _ _ (HZ.out _) ?_) | (simp only [HA.out]))
    go_region_law (refine step_copyK rfl rfl (by simp [Act.eval, Act.put]; done) (by simp [Act.eval, Act.put]; done) (HB.out _ (G - (k + 1)) (c - k)) ?_)
    all_goals
      go_wp2
      go_ret
      exact ⟨_, _, rfl, HF.out.1, HF.out.2, fun b hb => .inr (by injection hb with hb; rw [← hb]; exact Nat.le_refl _)⟩
end Go.Proofs.Ytgceeggfdomdjaa

namespace Go.Proofs.Ytgceeggfdomdjaa
set_option maxRecDepth 100000
set_option linter.unusedSimpArgs false
set_option linter.unusedVariables false
open Go.RowKit Go
set_option maxHeartbeats 400000
theorem take_snoc {α : Type} {xs : List α} {k : Nat} {y : α} (h : xs[k]? = some y) : xs.take (k + 1) = xs.take k ++ [y] := by rw [List.take_add_one, h]; rfl

theorem sEntLeaves_c (A : Option Addr) (c n : Nat) (xs : List Sw.Ent) (w : World) (hxs : RE w 0 A c n xs) (hn : n ≤ 4194304) : Calls Try.prog 142 #[.slice A n c] w fun E w' => ∃ A' c', E = .returned (.slice A' n c') ∧ OwI w' w.heap.size A' c' n (xs.map Sw.entLeaf) ∧ Ex w w' := by
  have hl := Lib.hid hxs.1
  go_enter Try.func142, Try.ntmps142
  go_wp2_with fail
  go_loopw [3, 4] (fun o i wr => ∃ (k : Nat) (B : Option Addr) (d : Nat), k ≤ n ∧ i = .int .i64 k ∧ o = .slice B k d ∧ Ex w wr ∧ OwI wr w.heap.size B d k ((xs.take k).map Sw.entLeaf)) (fun _ i _ => n - (intOf i).toNat)
  case atStart => exact ⟨0, _, 0, Nat.zero_le _, rfl, rfl, ext_, Ow.new [] rfl rfl rfl (fun _ => rfl) (Nat.le_refl _) (by omega)⟩
  case round =>
    obtain ⟨k, B, d, hk, rfl, rfl, hb, ho⟩ := hrel
    have hst := Ex.rules hb rfl
    obtain ⟨hc, hf, hz⟩ := hst
    by_cases hlt : k < n
    · obtain ⟨g, off, y, rfl, hg0, hg, hd, hy, hc0, hc1, hc2, hc3⟩ := at_E hxs hlt
      have Hd := Lib.hid hd; have Hy := Lib.hid hy; clear hd hy
      go_wp2_with (first | (go_at_call 175; refine (sEntLeaf_c _ _).mono ?_; rintro E w1 ⟨rfl, hb⟩; have hst := xr hb; (try simp only [zA, zC, zD, zN] at hst); obtain ⟨hc, hf, hz⟩ := hst) | (at_builtin; apply wpList_app (lo := w.heap.size) el_I one_I rfl rfl rfl rfl; (first | assumption | exact Ow.nil _ _ | (apply Ow.keep; assumption; exact kf_) | (refine Ow.new [] (by (first | rfl | (simp only [zA, zC, zD, zN]; done) | omega)) rfl rfl (fun _ => rfl) (by exact sz_) (by omega))); (first | (refine Rs.new [Sw.entLeaf y] (by (first | rfl | (simp only [zA, zC, zD, zN]; done) | omega)) rfl rfl (fun _ => rfl) (by omega))); omega; exact sz_; intro A1 c1 w2 ho1 hch1 hat1 hex1 hlow1; have hb := hex1 (fun _ => False) w (by exact ext_) (by exact sz_); have hz := hch1.size; (try simp only [zA, zC, zD, zN] at hz); obtain ⟨hc, hf⟩ := low_rules hlow1; clear hlow1 hex1))
      go_roundw
      case rel => exact ⟨k + 1, A1, c1, by omega, by go_num, rfl, hb, by rw [take_snoc Hy.out, List.map_append]; exact ho1⟩
      case measure => simp [intOf]; omega
    · go_wp2_with fail
      go_ret
      obtain rfl : k = n := by omega
      refine ⟨_, _, rfl, ?_, ext_⟩
      rw [List.take_of_length_le (by have := hl.out; omega)] at ho
      exact ho

theorem leavesFrom_length : ∀ (rows : List Sw.Row) (t : Int), (Sw.leavesFrom t rows).length = rows.length
  | [], _ => rfl
  | r :: rs, t => by simp [Sw.leavesFrom, leavesFrom_length rs]
theorem leavesFrom_snoc : ∀ (rows : List Sw.Row) (t : Int) (r : Sw.Row), Sw.leavesFrom t (rows ++ [r]) = Sw.leavesFrom t rows ++ [Sw.ownLeaf (t + rows.length) r]
  | [], t, r => by simp [Sw.leavesFrom]
  | x :: rs, t, r => by
    simp only [List.cons_append, Sw.leavesFrom, leavesFrom_snoc rs, List.length_cons]
    rw [show t + 1 + (rs.length : Int) = t + ((rs.length + 1 : Nat) : Int) from by omega]

theorem sLeaves_c (A : Option Addr) (c n : Nat) (xs : List Sw.Row) (w : World) (hxs : RR w 0 A c n xs) (hn : n ≤ 4194304) : Calls Try.prog 177 #[.slice A n c] w fun E w' => ∃ A' c', E = .returned (.slice A' n c') ∧ OwI w' w.heap.size A' c' n (Sw.ownLeaves xs) ∧ Ex w w' := by
  have hl := Lib.hid hxs.1
  go_enter Try.func177, Try.ntmps177
  go_wp2_with fail
  go_loopw [3, 4] (fun o i wr => ∃ (k : Nat) (B : Option Addr) (d : Nat), k ≤ n ∧ i = .int .i64 k ∧ o = .slice B k d ∧ Ex w wr ∧ OwI wr w.heap.size B d k (Sw.ownLeaves (xs.take k))) (fun _ i _ => n - (intOf i).toNat)
  case atStart => exact ⟨0, _, 0, Nat.zero_le _, rfl, rfl, ext_, Ow.new [] rfl rfl rfl (fun _ => rfl) (Nat.le_refl _) (by omega)⟩
  case round =>
    obtain ⟨k, B, d, hk, rfl, rfl, hb, ho⟩ := hrel
    have hst := Ex.rules hb rfl
    obtain ⟨hc, hf, hz⟩ := hst
    by_cases hlt : k < n
    · obtain ⟨g, off, y, rfl, hg0, hg, hd, hy, hc0, hc1, hc2⟩ := at_R hxs hlt
      have Hy := Lib.hid hy; clear hd hy
      go_wp2_with (first | (go_at_call 204; refine (sOwnLeaf_c _ _ _).mono ?_; rintro E w1 ⟨rfl, hb⟩; have hst := xr hb; (try simp only [zA, zC, zD, zN] at hst); obtain ⟨hc, hf, hz⟩ := hst) | (at_builtin; apply wpList_app (lo := w.heap.size) el_I one_I rfl rfl rfl rfl; (first | assumption | exact Ow.nil _ _ | (apply Ow.keep; assumption; exact kf_) | (refine Ow.new [] (by (first | rfl | (simp only [zA, zC, zD, zN]; done) | omega)) rfl rfl (fun _ => rfl) (by exact sz_) (by omega))); (first | (refine Rs.new [Sw.ownLeaf k y] (by (first | rfl | (simp only [zA, zC, zD, zN]; done) | omega)) rfl rfl (fun _ => rfl) (by omega))); omega; exact sz_; intro A1 c1 w2 ho1 hch1 hat1 hex1 hlow1; have hb := hex1 (fun _ => False) w (by exact ext_) (by exact sz_); have hz := hch1.size; (try simp only [zA, zC, zD, zN] at hz); obtain ⟨hc, hf⟩ := low_rules hlow1; clear hlow1 hex1))
      go_roundw
      case rel =>
        refine ⟨k + 1, A1, c1, by omega, by go_num, rfl, hb, ?_⟩
        rw [take_snoc Hy.out]
        unfold Sw.ownLeaves at ho1 ⊢
        rw [leavesFrom_snoc, List.length_take, Nat.min_eq_left (by have := hl.out; omega), Int.zero_add]
        exact ho1
      case measure => simp [intOf]; omega
    · go_wp2_with fail
      go_ret
      obtain rfl : k = n := by omega
      refine ⟨_, _, rfl, ?_, ext_⟩
      rw [List.take_of_length_le (by have := hl.out; omega)] at ho
      exact ho

theorem sOwnOk_c (A : Option Addr) (c n : Nat) (xs : List Sw.Row) (w : World) (hxs : RR w 0 A c n xs) : Calls Try.prog 176 #[.slice A n c] w fun E w' => E = .returned (.bool (Sw.ownOk xs)) ∧ Ex w w' := by
  have hl := Lib.hid hxs.1
  by_cases hn : n = 8
  · subst hn
    go_enter Try.func176, Try.ntmps176
    go_wp2_with fail
    go_loopw [3] (fun i wr => ∃ (k : Nat), k ≤ 8 ∧ i = .int .i64 k ∧ Ex w wr ∧ xs.all Sw.rowOk = (xs.drop k).all Sw.rowOk) (fun i _ => 8 - (intOf i).toNat)
    case atStart => exact ⟨0, Nat.zero_le _, rfl, ext_, rfl⟩
    case round =>
      obtain ⟨k, hk, rfl, hb, hrel⟩ := hrel
      have hst := Ex.rules hb rfl
      obtain ⟨hc, hf, hz⟩ := hst
      by_cases hlt : k < 8
      · obtain ⟨g, off, y, rfl, hg0, hg, hd, hy, hc0, hc1, hc2⟩ := at_R hxs hlt
        rw [hd] at hrel
        have Hrel := Lib.hid hrel; clear hd hy hrel
        go_wp2_with (first | (go_at_call 78; refine (l1In_c _ _ _ _).mono ?_; rintro E w' ⟨rfl, rfl⟩))
        all_goals (first | (refine ⟨⟨k + 1, by omega, by go_num, (by exact ext_), ?_⟩, by simp [intOf]; omega⟩; have hh := Hrel.out; clear Hrel; rw [List.all_cons] at hh; rw [hh]; clear hh; go_tidy; (try simp only [Bool.not_eq_true', Bool.not_eq_false', Bool.not_eq_true, Bool.not_eq_false, beq_iff_eq, bne_iff_ne, ne_eq, beq_eq_false_iff_ne, bne_eq_false_iff_eq] at *); have hp : Sw.rowOk y = true := (by (first | (simp [Sw.rowOk, show Sw.inR 0 1 5 = false from rfl, *]; done) | (simp [Sw.rowOk, show Sw.inR 0 1 5 = false from rfl, *]; omega) | (simp [Sw.rowOk, show Sw.inR 0 1 5 = false from rfl, *]; intros; simp_all; done) | (simp_all [Sw.rowOk, show Sw.inR 0 1 5 = false from rfl]; done))); simp [hp]) | (go_ret; refine ⟨ret_b ?_, (by first | rfl | exact ext_)⟩; have hh := Hrel.out; clear Hrel; rw [List.all_cons] at hh; unfold Sw.ownOk; rw [hh]; clear hh; go_tidy; (try simp only [Bool.not_eq_true', Bool.not_eq_false', Bool.not_eq_true, Bool.not_eq_false, beq_iff_eq, bne_iff_ne, ne_eq, beq_eq_false_iff_ne, bne_eq_false_iff_eq] at *); have hp : Sw.rowOk y = false := (by (first | (simp [Sw.rowOk, show Sw.inR 0 1 5 = false from rfl, *]; done) | (simp [Sw.rowOk, show Sw.inR 0 1 5 = false from rfl, *]; omega) | (simp [Sw.rowOk, show Sw.inR 0 1 5 = false from rfl, *]; intros; simp_all; done) | (simp_all [Sw.rowOk, show Sw.inR 0 1 5 = false from rfl]; done))); simp [hp]))
      · have Hrel := Lib.hid hrel; clear hrel
        go_wp2
        go_ret
        refine ⟨ret_b ?_, ext_⟩
        have := Hrel.out
        rw [List.drop_of_length_le (by have := hl.out; omega)] at this
        rw [Sw.ownOk, this, ← hl.out]
        simp
  · have hb : decide (n = 8) = false := by simp [hn]
    go_enter Try.func176, Try.ntmps176
    go_wp2
    go_ret
    refine ⟨ret_b ?_, Ch.refl _ _⟩
    rw [Sw.ownOk, ← hl.out]
    simp [hn]

theorem sOwnFits_c (A : Option Addr) (c n : Nat) (xs : List Sw.Row) (e : Sw.Ent) (w : World) (hxs : RR w 0 A c n xs) : Calls Try.prog 172 #[.slice A n c, .agg #[.int .i64 e.kind, .int .i64 e.ticket, .int .i64 e.who, .int .i64 e.price]] w fun E w' => E = .returned (.bool (Sw.ownFits xs e)) ∧ Ex w w' := by
  have hl := Lib.hid hxs.1
  by_cases h1 : Sw.ownOk xs = true
  · by_cases h2 : Sw.entOk e = true
    · have ht : 0 ≤ e.ticket ∧ e.ticket ≤ 7 := by simp [Sw.entOk, Sw.inR] at h2; omega
      obtain ⟨t, ht'⟩ := Int.eq_ofNat_of_zero_le ht.1
      have hn8 : n = 8 := by have := hl.out; simp [Sw.ownOk] at h1; omega
      subst hn8
      have hlt : t < 8 := by omega
      obtain ⟨g, off, y, rfl, hg0, hg, hd, hy, hc0, hc1, hc2⟩ := at_R hxs hlt
      have hrow : Sw.rowAt xs e.ticket = y := by simp [Sw.rowAt, ht', hy]
      have hfit : Sw.ownFits xs e = Sw.fitsRow y e := by simp [Sw.ownFits, h1, h2, hrow]
      have Hfit := Lib.hid hfit
      clear hfit hrow hd hy ht
      have Ht := Lib.hid ht'
      have ht2 : (0 : Int) ≤ e.ticket ∧ e.ticket < 8 := by omega
      obtain ⟨ht0, ht1⟩ := ht2
      have e0 : e.ticket.toNat = t := by omega
      clear ht'
      obtain ⟨yw, yf, yu⟩ := y
      dsimp only at hc0 hc1 hc2
      by_cases k1 : e.kind = 1
      · have hk1 : (e.kind == 1) = true := by simp [k1]
        have K1 := Lib.hid k1; clear k1
        go_enter Try.func172, Try.ntmps172
        go_wp2_with (first | (go_at_call 176; apply Calls.mono; apply sOwnOk_c; ((first | (apply Rs.at0; assumption) | (apply Ow.rs0; assumption)); exact kf_); rintro E w1 ⟨rfl, hb⟩; have hst := xr hb; (try simp only [zA, zC, zD, zN] at hst); obtain ⟨hc, hf, hz⟩ := hst) | (go_at_call 202; refine (sEntOk_c _ _).mono ?_; rintro E w1 ⟨rfl, hb⟩; have hst := xr hb; (try simp only [zA, zC, zD, zN] at hst); obtain ⟨hc, hf, hz⟩ := hst))
        go_ret
        refine ⟨ret_b ?_, ext_⟩
        rw [Hfit.out]
        simp [Sw.fitsRow, K1.out, beqI]
      have hk1 : (e.kind == 1) = false := by simp [k1]
      by_cases k2 : e.kind = 2
      · have hk2 : (e.kind == 2) = true := by simp [k2]
        have K2 := Lib.hid k2; clear k2
        by_cases b1 : yw = 0
        · have hb1 : (yw != 0) = false := by simp [b1]
          have B1 := Lib.hid b1; clear b1
          go_enter Try.func172, Try.ntmps172
          go_wp2_with (first | (go_at_call 176; apply Calls.mono; apply sOwnOk_c; ((first | (apply Rs.at0; assumption) | (apply Ow.rs0; assumption)); exact kf_); rintro E w1 ⟨rfl, hb⟩; have hst := xr hb; (try simp only [zA, zC, zD, zN] at hst); obtain ⟨hc, hf, hz⟩ := hst) | (go_at_call 202; refine (sEntOk_c _ _).mono ?_; rintro E w1 ⟨rfl, hb⟩; have hst := xr hb; (try simp only [zA, zC, zD, zN] at hst); obtain ⟨hc, hf, hz⟩ := hst))
          go_quiet ((first | (go_at_call 107; exact Calls.quiet_same (sEntCap_c _ _))))
          go_wp2
          go_ret
          refine ⟨ret_b ?_, ext_⟩
          rw [Hfit.out]
          simp [Sw.fitsRow, K2.out, B1.out]
        have hb1 : (yw != 0) = true := by simp [b1]
        cases yu with
        | true =>
          go_enter Try.func172, Try.ntmps172
          go_wp2_with (first | (go_at_call 176; apply Calls.mono; apply sOwnOk_c; ((first | (apply Rs.at0; assumption) | (apply Ow.rs0; assumption)); exact kf_); rintro E w1 ⟨rfl, hb⟩; have hst := xr hb; (try simp only [zA, zC, zD, zN] at hst); obtain ⟨hc, hf, hz⟩ := hst) | (go_at_call 202; refine (sEntOk_c _ _).mono ?_; rintro E w1 ⟨rfl, hb⟩; have hst := xr hb; (try simp only [zA, zC, zD, zN] at hst); obtain ⟨hc, hf, hz⟩ := hst))
          go_quiet ((first | (go_at_call 107; exact Calls.quiet_same (sEntCap_c _ _))))
          go_wp2
          go_ret
          refine ⟨ret_b ?_, ext_⟩
          rw [Hfit.out]
          simp [Sw.fitsRow, K2.out]
        | false =>
          by_cases b2 : yw = e.who
          · have hb2 : (yw != e.who) = false := by simp [b2]
            have B2 := Lib.hid b2; clear b2
            go_enter Try.func172, Try.ntmps172
            go_wp2_with (first | (go_at_call 176; apply Calls.mono; apply sOwnOk_c; ((first | (apply Rs.at0; assumption) | (apply Ow.rs0; assumption)); exact kf_); rintro E w1 ⟨rfl, hb⟩; have hst := xr hb; (try simp only [zA, zC, zD, zN] at hst); obtain ⟨hc, hf, hz⟩ := hst) | (go_at_call 202; refine (sEntOk_c _ _).mono ?_; rintro E w1 ⟨rfl, hb⟩; have hst := xr hb; (try simp only [zA, zC, zD, zN] at hst); obtain ⟨hc, hf, hz⟩ := hst))
            go_quiet ((first | (go_at_call 107; exact Calls.quiet_same (sEntCap_c _ _))))
            go_wp2
            go_ret
            refine ⟨ret_b ?_, ext_⟩
            rw [Hfit.out]
            simp [Sw.fitsRow, K2.out, B2.out]
          have hb2 : (yw != e.who) = true := by simp [b2]
          go_enter Try.func172, Try.ntmps172
          go_wp2_with (first | (go_at_call 176; apply Calls.mono; apply sOwnOk_c; ((first | (apply Rs.at0; assumption) | (apply Ow.rs0; assumption)); exact kf_); rintro E w1 ⟨rfl, hb⟩; have hst := xr hb; (try simp only [zA, zC, zD, zN] at hst); obtain ⟨hc, hf, hz⟩ := hst) | (go_at_call 202; refine (sEntOk_c _ _).mono ?_; rintro E w1 ⟨rfl, hb⟩; have hst := xr hb; (try simp only [zA, zC, zD, zN] at hst); obtain ⟨hc, hf, hz⟩ := hst))
          go_quiet ((first | (go_at_call 107; exact Calls.quiet_same (sEntCap_c _ _))))
          go_wp2
          go_ret
          refine ⟨ret_b ?_, ext_⟩
          rw [Hfit.out]
          simp [Sw.fitsRow, K2.out, b1, b2]
      have hk2 : (e.kind == 2) = false := by simp [k2]
      by_cases b1 : yw = e.who
      · have hb1 : (yw == e.who) = true := by simp [b1]
        have B1 := Lib.hid b1; clear b1
        go_enter Try.func172, Try.ntmps172
        go_wp2_with (first | (go_at_call 176; apply Calls.mono; apply sOwnOk_c; ((first | (apply Rs.at0; assumption) | (apply Ow.rs0; assumption)); exact kf_); rintro E w1 ⟨rfl, hb⟩; have hst := xr hb; (try simp only [zA, zC, zD, zN] at hst); obtain ⟨hc, hf, hz⟩ := hst) | (go_at_call 202; refine (sEntOk_c _ _).mono ?_; rintro E w1 ⟨rfl, hb⟩; have hst := xr hb; (try simp only [zA, zC, zD, zN] at hst); obtain ⟨hc, hf, hz⟩ := hst))
        go_ret
        refine ⟨ret_b ?_, ext_⟩
        rw [Hfit.out]
        simp [Sw.fitsRow, k1, k2, B1.out]
      have hb1 : (yw == e.who) = false := by simp [b1]
      go_enter Try.func172, Try.ntmps172
      go_wp2_with (first | (go_at_call 176; apply Calls.mono; apply sOwnOk_c; ((first | (apply Rs.at0; assumption) | (apply Ow.rs0; assumption)); exact kf_); rintro E w1 ⟨rfl, hb⟩; have hst := xr hb; (try simp only [zA, zC, zD, zN] at hst); obtain ⟨hc, hf, hz⟩ := hst) | (go_at_call 202; refine (sEntOk_c _ _).mono ?_; rintro E w1 ⟨rfl, hb⟩; have hst := xr hb; (try simp only [zA, zC, zD, zN] at hst); obtain ⟨hc, hf, hz⟩ := hst))
      go_ret
      refine ⟨ret_b ?_, ext_⟩
      rw [Hfit.out]
      simp [Sw.fitsRow, k1, k2, b1]
    · go_enter Try.func172, Try.ntmps172
      go_wp2_with (first | (go_at_call 176; apply Calls.mono; apply sOwnOk_c; ((first | (apply Rs.at0; assumption) | (apply Ow.rs0; assumption)); exact kf_); rintro E w1 ⟨rfl, hb⟩; have hst := xr hb; (try simp only [zA, zC, zD, zN] at hst); obtain ⟨hc, hf, hz⟩ := hst) | (go_at_call 202; refine (sEntOk_c _ _).mono ?_; rintro E w1 ⟨rfl, hb⟩; have hst := xr hb; (try simp only [zA, zC, zD, zN] at hst); obtain ⟨hc, hf, hz⟩ := hst))
      all_goals (go_ret; refine ⟨ret_b ?_, (by first | rfl | exact ext_)⟩; go_tidy; (try simp only [Bool.not_eq_true', Bool.not_eq_false', Bool.not_eq_true, Bool.not_eq_false, beq_iff_eq, bne_iff_ne, ne_eq, beq_eq_false_iff_ne, bne_eq_false_iff_eq] at *); (first | rfl | (simp [Sw.ownFits, *]; done) | (simp [Sw.ownFits, *]; omega) | (simp [Sw.ownFits, beqI, *]; done) | (simp_all [Sw.ownFits, beqI]; done) | (simp_all [Sw.ownFits, beqI] <;> omega) | simp_all [Sw.ownFits, beqI]))
  · go_enter Try.func172, Try.ntmps172
    go_wp2_with (first | (go_at_call 176; apply Calls.mono; apply sOwnOk_c; ((first | (apply Rs.at0; assumption) | (apply Ow.rs0; assumption)); exact kf_); rintro E w1 ⟨rfl, hb⟩; have hst := xr hb; (try simp only [zA, zC, zD, zN] at hst); obtain ⟨hc, hf, hz⟩ := hst) | (go_at_call 202; refine (sEntOk_c _ _).mono ?_; rintro E w1 ⟨rfl, hb⟩; have hst := xr hb; (try simp only [zA, zC, zD, zN] at hst); obtain ⟨hc, hf, hz⟩ := hst))
    all_goals (go_ret; refine ⟨ret_b ?_, (by first | rfl | exact ext_)⟩; go_tidy; (try simp only [Bool.not_eq_true', Bool.not_eq_false', Bool.not_eq_true, Bool.not_eq_false, beq_iff_eq, bne_iff_ne, ne_eq, beq_eq_false_iff_ne, bne_eq_false_iff_eq] at *); (first | rfl | (simp [Sw.ownFits, *]; done) | (simp [Sw.ownFits, *]; omega) | (simp [Sw.ownFits, beqI, *]; done) | (simp_all [Sw.ownFits, beqI]; done) | (simp_all [Sw.ownFits, beqI] <;> omega) | simp_all [Sw.ownFits, beqI]))
end Go.Proofs.Ytgceeggfdomdjaa

namespace Go.Proofs.Ytgceeggfdomdjaa
set_option maxRecDepth 100000
set_option linter.unusedSimpArgs false
set_option linter.unusedVariables false
open Go.RowKit Go
set_option maxHeartbeats 400000

theorem at_OR {w : World} {lo c n k : Nat} {A : Option Addr} {xs : List Sw.Row} (h : OwR w lo A c n xs) (hk : k < n) :
    ∃ g x, A = some ⟨g, 0, none⟩ ∧ lo ≤ g ∧ g < w.heap.size ∧ xs[k]? = some x ∧ w.cell? ⟨g, k * 3, none⟩ = some (.int .i64 x.who) ∧ w.cell? ⟨g, k * 3 + 1, none⟩ = some (.int .i64 x.face) ∧
      w.cell? ⟨g, k * 3 + 2, none⟩ = some (.bool x.used) ∧ (∀ i, w.frozen? ⟨g, i, none⟩ = false) := by
  obtain ⟨g, x, h1, h2, h3, h4, h5, h6⟩ := Ow.at_ h (fun _ => rfl) hk
  exact ⟨g, x, h1, h2, h3, h4, by simpa using h5 0 _ (by omega) rfl, h5 1 _ (by omega) rfl, h5 2 _ (by omega) rfl, h6⟩

theorem sNew_c (w : World) : Calls Try.prog 136 #[] w fun E w' => ∃ A, E = .returned (.slice A 8 8) ∧ OwR w' w.heap.size A 8 8 Sw.rows0 ∧ Ex w w' := by
  have hmk : ∀ w, (Instr.makeSlice 89 (.int .i64 8) (.int .i64 8)).run Try.prog w = .ok (.slice (some ⟨w.heap.size, 0, none⟩) 8 8) (w.alloc (.cells (Sw.rows0.flatMap Sw.Row.enc).toArray 93)) := fun _ => by kernel_rfl
  go_enter Try.func136, Try.ntmps136
  go_wp2
  go_ret
  exact ⟨_, rfl, Ow.new _ rfl rfl rfl (fun _ => rfl) (Nat.le_refl _) (by omega), ext_⟩

theorem OR_set0 {w : World} {lo c n k g : Nat} {A : Option Addr} {xs : List Sw.Row} (h : OwR w lo A c n xs) (hA : A = some ⟨g, 0, none⟩) {a b : Int} {u : Bool} (hx : xs[k]? = some ⟨a, b, u⟩) (v : Int) :
    OwR (w.setCell ⟨g, k * 3, none⟩ (.int .i64 v)) lo A c n (xs.set k ⟨v, b, u⟩) := by
  have := Ow.set h (fun _ => rfl) (j := 0) (u := .int .i64 v) hA hx (by omega) (y := ⟨v, b, u⟩) rfl
  simpa using this
theorem OR_set1 {w : World} {lo c n k g : Nat} {A : Option Addr} {xs : List Sw.Row} (h : OwR w lo A c n xs) (hA : A = some ⟨g, 0, none⟩) {a b : Int} {u : Bool} (hx : xs[k]? = some ⟨a, b, u⟩) (v : Int) :
    OwR (w.setCell ⟨g, k * 3 + 1, none⟩ (.int .i64 v)) lo A c n (xs.set k ⟨a, v, u⟩) :=
  Ow.set h (fun _ => rfl) (j := 1) (u := .int .i64 v) hA hx (by omega) (y := ⟨a, v, u⟩) rfl
theorem OR_set2 {w : World} {lo c n k g : Nat} {A : Option Addr} {xs : List Sw.Row} (h : OwR w lo A c n xs) (hA : A = some ⟨g, 0, none⟩) {a b : Int} {u : Bool} (hx : xs[k]? = some ⟨a, b, u⟩) (v : Bool) :
    OwR (w.setCell ⟨g, k * 3 + 2, none⟩ (.bool v)) lo A c n (xs.set k ⟨a, b, v⟩) :=
  Ow.set h (fun _ => rfl) (j := 2) (u := .bool v) hA hx (by omega) (y := ⟨a, b, v⟩) rfl
theorem set_at {α : Type} {xs : List α} {k : Nat} {x y : α} (h : xs[k]? = some x) : (xs.set k y)[k]? = some y := by
  have hk := (List.getElem?_eq_some_iff.1 h).1
  simp [hk]
theorem fits_facts {xs : List Sw.Row} {e : Sw.Ent} (h : Sw.ownFits xs e = true) : xs.length = 8 ∧ 0 ≤ e.ticket ∧ e.ticket < 8 ∧ (e.kind = 1 ∨ e.kind = 2 ∨ e.kind = 3) := by
  simp only [Sw.ownFits, Bool.and_eq_true, Sw.ownOk, Sw.entOk, Sw.inR, decide_eq_true_eq] at h
  obtain ⟨⟨⟨_, h1⟩, ⟨⟨h2, h3⟩, h4, h5⟩, h6⟩, h7⟩ := h
  refine ⟨h1, h2, by omega, ?_⟩
  split at h6
  · exact .inl ‹_›
  · split at h6
    · exact .inr (.inl ‹_›)
    · simp at h6; exact .inr (.inr h6.1)
/-- A ticket that is issued has not been used. -/
theorem fits_fresh {xs : List Sw.Row} {e : Sw.Ent} {t : Nat} {a b : Int} {u : Bool} (h : Sw.ownFits xs e = true) (hk : e.kind = 1) (ht : e.ticket = t) (hx : xs[t]? = some ⟨a, b, u⟩) : u = false := by
  simp only [Sw.ownFits, Bool.and_eq_true, Sw.ownOk, Sw.fitsRow, hk, Sw.rowAt, ht, Int.toNat_natCast, List.getD_eq_getElem?_getD, hx, Option.getD_some, if_true, decide_eq_true_eq] at h
  obtain ⟨⟨⟨h1, _⟩, _⟩, h2⟩ := h
  have := List.all_eq_true.1 h1 _ (List.mem_of_getElem? hx)
  simp [Sw.rowOk, Sw.inR] at this
  rcases this with h | h
  · exact h.2
  · omega
theorem put_eq {xs : List Sw.Row} {e : Sw.Ent} {t : Nat} {x : Sw.Row} (h : Sw.ownFits xs e = true) (ht : e.ticket = t) (hx : xs[t]? = some x) : Sw.ownPut xs e = xs.set t (Sw.putRow x e) := by
  simp [Sw.ownPut, h, Sw.putRows, Sw.rowAt, ht, hx]

theorem sOwnPut_c (A : Option Addr) (c n : Nat) (xs : List Sw.Row) (e : Sw.Ent) (w : World) (hxs : RR w 0 A c n xs) (hn : n ≤ 4194304) : Calls Try.prog 138 #[.slice A n c, .agg #[.int .i64 e.kind, .int .i64 e.ticket, .int .i64 e.who, .int .i64 e.price]] w fun E w' => ∃ A' c', E = .returned (.tuple #[.slice A' n c', .bool (Sw.ownFits xs e)]) ∧ OwR w' w.heap.size A' c' n (Sw.ownPut xs e) ∧ Ex w w' := by
  by_cases hfit : Sw.ownFits xs e = true
  · have hl := Lib.hid hxs.1
    obtain ⟨h8, t0, t1, hk⟩ := fits_facts hfit
    obtain ⟨t, ht⟩ := Int.eq_ofNat_of_zero_le t0
    have e0 : e.ticket.toNat = t := by omega
    have Ht := Lib.hid ht
    have htn : t < n := by have := hl.out; omega
    have hn8 : n = 8 := by have := hl.out; omega
    subst hn8
    have Hk := Lib.hid hk
    have H8 := Lib.hid h8
    clear ht hk h8
    have key : ∀ (b1 b2 : Bool), (e.kind == 1) = b1 → (e.kind == 2) = b2 → Calls Try.prog 138 #[.slice A 8 c, .agg #[.int .i64 e.kind, .int .i64 e.ticket, .int .i64 e.who, .int .i64 e.price]] w fun E w' => ∃ A' c', E = .returned (.tuple #[.slice A' 8 c', .bool (Sw.ownFits xs e)]) ∧ OwR w' w.heap.size A' c' 8 (Sw.ownPut xs e) ∧ Ex w w' := by
      intro b1 b2 hb1 hb2
      go_enter Try.func138, Try.ntmps138
      go_wp2_with (first | (at_builtin; apply wpList_app (lo := w.heap.size + 1) el_R one_R rfl rfl rfl rfl; (first | assumption | exact Ow.nil _ _ | (apply Ow.keep; assumption; exact kf_) | (refine Ow.new [] (by (first | rfl | (simp only [zA, zC, zD, zN]; done) | omega)) rfl rfl (fun _ => rfl) (by exact sz_) (by omega))); (first | ((first | (apply Rs.at0; assumption) | (apply Ow.rs0; assumption)); exact kf_)); omega; exact sz_; intro A1 c1 w2 ho1 hch1 hat1 hex1 hlow1; have hb := hex1 (fun _ => False) w (by exact ext_) (by exact sz_); have hz := hch1.size; (try simp only [zA, zC, zD, zN] at hz); obtain ⟨hc, hf⟩ := low_rules hlow1; clear hlow1 hex1))
      simp only [Nat.zero_add, List.nil_append] at ho1
      apply Calls.mono; apply sOwnFits_c; (first | assumption | ((first | (apply Rs.at0; assumption) | (apply Ow.rs0; assumption)); exact kf_) | omega); rintro E w3 ⟨rfl, hb3⟩; have hst := Ex.rules hb3 rfl; obtain ⟨hc3, hf3, hz3⟩ := hst
      have ho3 := Ow.keep ho1 (KF.ex hb3 (KF.refl _ _))
      obtain ⟨g, x, hA, hlo, hlt, hx, c0, c1, c2, hfz⟩ := at_OR ho3 htn
      obtain ⟨ya, yb, yu⟩ := x
      have Hx := Lib.hid hx
      have hlo' : w.heap.size ≤ g := by omega
      clear hx
      subst hA
      dsimp only at c0 c1 c2
      cases b1 with
      | true =>
        go_wp2_with fail
        go_ret2
        refine ⟨_, _, by rw [hfit]; rfl, ?_, ext_⟩
        have k1 : e.kind = 1 := by simpa using hb1
        rw [put_eq hfit Ht.out Hx.out]
        have hu := fits_fresh hfit k1 Ht.out Hx.out
        subst hu
        have r := OR_set2 (OR_set1 (OR_set0 ho3 rfl Hx.out e.who) rfl (set_at Hx.out) e.price) rfl (set_at (set_at Hx.out)) false
        simp only [List.set_set] at r
        simp only [Sw.putRow, k1, if_true]
        exact r.less (by omega)
      | false =>
        have k1 : ¬ e.kind = 1 := by simpa using hb1
        cases b2 with
        | true =>
          go_wp2_with fail
          go_ret2
          refine ⟨_, _, by rw [hfit]; rfl, ?_, ext_⟩
          have k2 : e.kind = 2 := by simpa using hb2
          rw [put_eq hfit Ht.out Hx.out]
          have r := OR_set0 ho3 rfl Hx.out e.who
          simp only [Sw.putRow, if_neg k1, k2, if_true]
          exact r.less (by omega)
        | false =>
          go_wp2_with fail
          go_ret2
          refine ⟨_, _, by rw [hfit]; rfl, ?_, ext_⟩
          have k2 : ¬ e.kind = 2 := by simpa using hb2
          rw [put_eq hfit Ht.out Hx.out]
          have r := OR_set2 ho3 rfl Hx.out true
          simp only [Sw.putRow, if_neg k1, if_neg k2]
          exact r.less (by omega)
    exact key _ _ rfl rfl
  · have hf0 : Sw.ownFits xs e = false := by simpa using hfit
    go_enter Try.func138, Try.ntmps138
    go_wp2_with (first | (at_builtin; apply wpList_app (lo := w.heap.size + 1) el_R one_R rfl rfl rfl rfl; (first | assumption | exact Ow.nil _ _ | (apply Ow.keep; assumption; exact kf_) | (refine Ow.new [] (by (first | rfl | (simp only [zA, zC, zD, zN]; done) | omega)) rfl rfl (fun _ => rfl) (by exact sz_) (by omega))); (first | ((first | (apply Rs.at0; assumption) | (apply Ow.rs0; assumption)); exact kf_)); omega; exact sz_; intro A1 c1 w2 ho1 hch1 hat1 hex1 hlow1; have hb := hex1 (fun _ => False) w (by exact ext_) (by exact sz_); have hz := hch1.size; (try simp only [zA, zC, zD, zN] at hz); obtain ⟨hc, hf⟩ := low_rules hlow1; clear hlow1 hex1) | (go_at_call 172; apply Calls.mono; apply sOwnFits_c; ((first | (apply Rs.at0; assumption) | (apply Ow.rs0; assumption)); exact kf_); rintro E w1 ⟨rfl, hb⟩; have hst := xr hb; (try simp only [zA, zC, zD, zN] at hst); obtain ⟨hc, hf, hz⟩ := hst))
    go_ret2
    refine ⟨_, _, by rw [hf0]; rfl, ?_, ext_⟩
    rw [show Sw.ownPut xs e = xs from by simp [Sw.ownPut, hf0]]
    simp only [Nat.zero_add, List.nil_append] at ho1
    refine Ow.less ?_ (show w.heap.size ≤ w.heap.size + 1 by omega)
    apply Ow.keep ho1; (exact kf_)
end Go.Proofs.Ytgceeggfdomdjaa

namespace Go.Proofs.Ytgceeggfdomdjaa
set_option maxRecDepth 100000
set_option linter.unusedSimpArgs false
set_option linter.unusedVariables false
open Go.RowKit Go
set_option maxHeartbeats 400000

theorem fold_ok : ∀ (es : List Sw.Ent) (rows r : List Sw.Row), Sw.foldFrom rows es = some r → rows.length = 8 → r.length = 8
  | [], rows, r, h, h8 => by simp [Sw.foldFrom] at h; rw [← h]; exact h8
  | e :: es, rows, r, h, h8 => by
    rw [Sw.foldFrom] at h
    split at h
    · exact fold_ok es _ r h (by simp [Sw.putRows, h8])
    · cases h
theorem ownFold_len {es : List Sw.Ent} {r : List Sw.Row} (h : Sw.ownFold es = some r) : r.length = 8 := by
  unfold Sw.ownFold at h
  split at h
  · exact fold_ok es _ r h rfl
  · cases h

theorem sOwnFold_c (A : Option Addr) (c n : Nat) (xs : List Sw.Ent) (w : World) (hxs : RE w 0 A c n xs) : Calls Try.prog 105 #[.slice A n c] w fun E w' => ∃ A' c' n', E = .returned (.tuple #[.slice A' n' c', .bool (Sw.ownFold xs).isSome]) ∧ OwR w' w.heap.size A' c' n' ((Sw.ownFold xs).getD []) ∧ Ex w w' := by
  have hl := Lib.hid hxs.1
  by_cases hn : n ≤ 40
  · have hn' : decide (40 < n) = false := by simp; omega
    go_enter Try.func105, Try.ntmps105
    go_wp2_with (first | (go_at_call 136; refine (sNew_c _).mono ?_; rintro E w1 ⟨A, rfl, hr, hb⟩; have hst := xr hb; (try simp only [zA, zC, zD, zN] at hst); obtain ⟨hc, hf, hz⟩ := hst))
    go_loopw [4, 5] (fun r i wr => ∃ (k : Nat) (B : Option Addr) (d : Nat) (rows : List Sw.Row), k ≤ n ∧ i = .int .i64 k ∧ r = .slice B 8 d ∧ Ex w wr ∧ OwR wr w.heap.size B d 8 rows ∧ Sw.ownFold xs = Sw.foldFrom rows (xs.drop k)) (fun _ i _ => n - (intOf i).toNat)
    case atStart => exact ⟨0, _, _, _, Nat.zero_le _, rfl, rfl, ext_, hr, by rw [Sw.ownFold, if_pos (by have := hl.out; omega)]; rfl⟩
    case round =>
      clear hb hc hf hz hr
      obtain ⟨k, B, d, rows, hk, rfl, rfl, hb, ho, hrel⟩ := hrel
      have hst := Ex.rules hb rfl
      obtain ⟨hc, hf, hz⟩ := hst
      by_cases hlt : k < n
      · obtain ⟨g, off, y, rfl, hg0, hg, hd, hy, hc0, hc1, hc2, hc3⟩ := at_E hxs hlt
        rw [hd, Sw.foldFrom] at hrel
        have Hrel := Lib.hid hrel
        clear hd hy hrel
        go_wp2_with (first | (go_at_call 138; apply Calls.mono; apply sOwnPut_c; (apply Ow.rs0 ho; exact KF.refl _ _); omega; rintro E w1 ⟨A1, c1, rfl, ho1, hb1⟩; have hst := Ex.rules hb1 rfl; obtain ⟨hc1', hf1', hz1'⟩ := hst))
        · go_ret2
          have hfit : Sw.ownFits rows y = false := by rename_i h; simpa using h
          have hh := Hrel.out
          rw [if_neg (by simp [hfit])] at hh
          refine ⟨_, _, _, by rw [hh]; rfl, ?_, ext_⟩
          rw [hh]
          (refine Ow.new [] (by (first | rfl | (simp only [zA, zC, zD, zN]; done) | omega)) rfl rfl (fun _ => rfl) (by exact sz_) (by omega))
        · have hfit : Sw.ownFits rows y = true := by rename_i h; simpa using h
          have hh := Hrel.out
          rw [if_pos hfit] at hh
          refine ⟨⟨k + 1, _, _, _, by omega, by go_num, rfl, ext_, ho1.less (by omega), ?_⟩, by simp [intOf]; omega⟩
          rw [hh, Sw.ownPut, if_pos hfit]
      · have Hrel := Lib.hid hrel; clear hrel
        go_wp2_with fail
        go_ret2
        obtain rfl : k = n := by omega
        have hh := Hrel.out
        rw [List.drop_of_length_le (by have := hl.out; omega)] at hh
        refine ⟨_, _, _, by rw [hh]; rfl, ?_, ext_⟩
        rw [hh]
        exact ho
  · have hn' : decide (40 < n) = true := by simp; omega
    go_enter Try.func105, Try.ntmps105
    go_wp2_with (first | (go_at_call 136; refine (sNew_c _).mono ?_; rintro E w1 ⟨A, rfl, hr, hb⟩; have hst := xr hb; (try simp only [zA, zC, zD, zN] at hst); obtain ⟨hc, hf, hz⟩ := hst))
    go_ret2
    have hh : Sw.ownFold xs = none := by rw [Sw.ownFold, if_neg (by have := hl.out; omega)]
    refine ⟨_, _, _, by rw [hh]; rfl, ?_, ext_⟩
    rw [hh]
    (refine Ow.new [] (by (first | rfl | (simp only [zA, zC, zD, zN]; done) | omega)) rfl rfl (fun _ => rfl) (by exact sz_) (by omega))

theorem mixLeaf_ok (l : List Int) : Sw.mixOk (Sw.mixLeaf l) = true := by
  rw [mixOk_bd]; unfold Sw.mixLeaf
  exact ⟨Int.emod_nonneg _ (by omega), by have := Int.emod_lt_of_pos (Sw.mixLeafFrom 7 l * 31 + l.length) (show (0 : Int) < 65521 by omega); omega⟩
theorem ownLeaf_ok (t : Int) (r : Sw.Row) : Sw.mixOk (Sw.ownLeaf t r) = true := by
  unfold Sw.ownLeaf
  split
  · exact mixLeaf_ok _
  · rfl
theorem leavesFrom_ok : ∀ (rows : List Sw.Row) (t : Int), (Sw.leavesFrom t rows).all Sw.mixOk = true
  | [], _ => rfl
  | r :: rs, t => by simp only [Sw.leavesFrom, List.all_cons, ownLeaf_ok, leavesFrom_ok rs, Bool.and_self]
theorem ownLeaves_ok (rows : List Sw.Row) : (Sw.ownLeaves rows).all Sw.mixOk = true := leavesFrom_ok rows 0
theorem entLeaves_ok (es : List Sw.Ent) : (es.map Sw.entLeaf).all Sw.mixOk = true := by
  rw [List.all_map, List.all_eq_true]; exact fun e _ => mixLeaf_ok _

theorem sOwnRoot_c (A : Option Addr) (c n : Nat) (xs : List Sw.Row) (w : World) (hxs : RR w 0 A c n xs) : Calls Try.prog 143 #[.slice A n c] w fun E w' => E = .returned (.int .i64 (Sw.ownRoot xs)) ∧ Ex w w' := by
  have hl := Lib.hid hxs.1
  by_cases hok : Sw.ownOk xs = true
  · have hn : n = 8 := by have := hl.out; simp [Sw.ownOk] at hok; omega
    subst hn
    go_enter Try.func143, Try.ntmps143
    go_wp2_with (first | (go_at_call 176; apply Calls.mono; apply sOwnOk_c; ((first | (apply Rs.at0; assumption) | (apply Ow.rs0; assumption)); exact kf_); rintro E w1 ⟨rfl, hb⟩; have hst := xr hb; (try simp only [zA, zC, zD, zN] at hst); obtain ⟨hc, hf, hz⟩ := hst) | (go_at_call 177; apply Calls.mono; apply sLeaves_c; (first | assumption | ((first | (apply Rs.at0; assumption) | (apply Ow.rs0; assumption)); exact kf_) | omega); omega; rintro E w1 ⟨A1, c1, rfl, ho1, hb1⟩) | (go_at_call 141; apply Calls.mono; apply (sRoot_c 8); omega; (apply Ow.rs0 ho1; exact KF.refl _ _); omega; exact ownLeaves_ok _; rintro E w2 ⟨rfl, hb2⟩))
    go_ret
    exact ⟨ret_i (by simp [Sw.ownRoot, hok]), ext_⟩
  · have hok' : Sw.ownOk xs = false := by simpa using hok
    go_enter Try.func143, Try.ntmps143
    go_wp2_with (first | (go_at_call 176; apply Calls.mono; apply sOwnOk_c; ((first | (apply Rs.at0; assumption) | (apply Ow.rs0; assumption)); exact kf_); rintro E w1 ⟨rfl, hb⟩; have hst := xr hb; (try simp only [zA, zC, zD, zN] at hst); obtain ⟨hc, hf, hz⟩ := hst))
    go_ret
    exact ⟨ret_i (by simp [Sw.ownRoot, hok']), ext_⟩

theorem sHedOf_c (A : Option Addr) (c n : Nat) (xs : List Sw.Ent) (w : World) (hxs : RE w 0 A c n xs) : Calls Try.prog 68 #[.slice A n c] w fun E w' => E = .returned (.tuple #[.agg #[.int .i64 ((Sw.hedOf xs).getD Sw.headZ).size, .int .i64 ((Sw.hedOf xs).getD Sw.headZ).log, .int .i64 ((Sw.hedOf xs).getD Sw.headZ).own], .bool (Sw.hedOf xs).isSome]) ∧ Ex w w' := by
  have hl := Lib.hid hxs.1
  cases hf : Sw.ownFold xs with
  | none =>
    have hh : Sw.hedOf xs = none := by simp [Sw.hedOf, hf]
    have hs : (Sw.ownFold xs).isSome = false := by simp [hf]
    have Hf := Lib.hid hf; have HH := Lib.hid hh; clear hf hh
    go_enter Try.func68, Try.ntmps68
    go_wp2_with (first | (go_at_call 105; apply Calls.mono; apply sOwnFold_c; ((first | (apply Rs.at0; assumption) | (apply Ow.rs0; assumption)); exact kf_); rintro E w1 ⟨A', c', n', rfl, hr, hb⟩; have hst := xr hb; (try simp only [zA, zC, zD, zN] at hst); obtain ⟨hc, hf, hz⟩ := hst))
    refine bodyPost_ret (v := .tuple #[.agg #[.int .i64 0, .int .i64 0, .int .i64 0], .bool false]) (by simp [results, Try.results68, go_sem, *]) rfl ?_
    exact ⟨by rw [HH.out]; rfl, ext_⟩
  | some rows =>
    have h8 := ownFold_len hf
    have hn : n ≤ 40 := by
      have := hl.out
      unfold Sw.ownFold at hf
      split at hf
      · omega
      · cases hf
    have hh : Sw.hedOf xs = some ⟨xs.length, Sw.root (xs.map Sw.entLeaf), Sw.ownRoot rows⟩ := by simp [Sw.hedOf, hf]
    have hs : (Sw.ownFold xs).isSome = true := by simp [hf]
    have hg : (Sw.ownFold xs).getD [] = rows := by simp [hf]
    have Hf := Lib.hid hf; have HH := Lib.hid hh; have H8 := Lib.hid h8; have HG := Lib.hid hg; clear hf hh h8 hg
    go_enter Try.func68, Try.ntmps68
    go_wp2_with (first | (go_at_call 105; apply Calls.mono; apply sOwnFold_c; (first | assumption | ((first | (apply Rs.at0; assumption) | (apply Ow.rs0; assumption)); exact kf_) | omega); rintro E w1 ⟨A1, c1, n1, rfl, ho1, hb⟩; rw [HG.out] at ho1; have hst := Ex.rules hb rfl; (try simp only [World.size_alloc, World.size_setCell, World.size_drew] at hst); obtain ⟨hc, hf, hz⟩ := hst) | (go_at_call 142; apply Calls.mono; apply sEntLeaves_c; (first | assumption | ((first | (apply Rs.at0; assumption) | (apply Ow.rs0; assumption)); exact kf_) | omega); omega; rintro E w2 ⟨A2, c2, rfl, ho2, hb2⟩; have hst := Ex.rules hb2 rfl; obtain ⟨hc2, hf2, hz2⟩ := hst) | (go_at_call 141; apply Calls.mono; apply (sRoot_c 40); omega; (apply Ow.rs0 ho2; exact KF.refl _ _); omega; exact entLeaves_ok _; rintro E w3 ⟨rfl, hb3⟩; have hst := Ex.rules hb3 rfl; obtain ⟨hc3, hf3, hz3⟩ := hst) | (go_at_call 143; apply Calls.mono; apply sOwnRoot_c; (apply Ow.rs0 ho1; (exact kf_)); rintro E w4 ⟨rfl, hb4⟩; have hst := Ex.rules hb4 rfl; obtain ⟨hc4, hf4, hz4⟩ := hst))
    refine bodyPost_ret (v := .tuple #[.agg #[.int .i64 n, .int .i64 (Sw.root (xs.map Sw.entLeaf)), .int .i64 (Sw.ownRoot rows)], .bool true]) (by simp [results, Try.results68, go_sem, *]) rfl ?_
    exact ⟨by rw [HH.out, ← hl.out]; rfl, ext_⟩
end Go.Proofs.Ytgceeggfdomdjaa

namespace Go.Proofs.Ytgceeggfdomdjaa
set_option maxRecDepth 100000
set_option linter.unusedSimpArgs false
set_option linter.unusedVariables false
open Go.RowKit Go
set_option maxHeartbeats 400000

/-- Where the first one stands that is no leaf; -1 if there is none. -/
def badAt (xs : List Int) : Int := match xs.findIdx? (fun x => !Sw.mixOk x) with
  | some i => i
  | none => -1
theorem badAt_iff (xs : List Int) : decide (0 ≤ badAt xs) = !xs.all Sw.mixOk := by
  unfold badAt
  cases h : xs.findIdx? (fun x => !Sw.mixOk x) with
  | none =>
    rw [List.findIdx?_eq_none_iff] at h
    have : xs.all Sw.mixOk = true := by
      rw [List.all_eq_true]
      intro x hx
      have := h x hx
      simpa using this
    rw [this]; rfl
  | some i =>
    have : xs.all Sw.mixOk = false := by
      rw [List.findIdx?_eq_some_iff_getElem] at h
      obtain ⟨h1, h2, _⟩ := h
      rw [List.all_eq_false]
      exact ⟨xs[i], List.getElem_mem h1, by simpa using h2⟩
    rw [this]
    simp
theorem badAt_here {xs : List Int} {k : Nat} {y : Int} (hy : xs[k]? = some y) (h : ∀ j, j < k → ∀ z, xs[j]? = some z → Sw.mixOk z = true) (hm : Sw.mixOk y = false) : badAt xs = k := by
  unfold badAt
  have hk := (List.getElem?_eq_some_iff.1 hy)
  obtain ⟨hk, rfl⟩ := hk
  have : xs.findIdx? (fun x => !Sw.mixOk x) = some k := by
    rw [List.findIdx?_eq_some_iff_getElem]
    refine ⟨hk, by simp [hm], fun j hj => ?_⟩
    have := h j hj xs[j] (by simp)
    simp [this]
  rw [this]
theorem badAt_none {xs : List Int} {k : Nat} (hk : xs.length ≤ k) (h : ∀ j, j < k → ∀ z, xs[j]? = some z → Sw.mixOk z = true) : badAt xs = -1 := by
  unfold badAt
  have : xs.findIdx? (fun x => !Sw.mixOk x) = none := by
    rw [List.findIdx?_eq_none_iff]
    intro x hx
    obtain ⟨i, hi, rfl⟩ := List.getElem_of_mem hx
    have := h i (by omega) xs[i] (by simp)
    simp [this]
  rw [this]

theorem iBad_c (x : Int) (w : World) : Calls Try.prog 153 #[.int .i64 x] w fun E w' => E = .returned (.bool (!Sw.mixOk x)) ∧ w = w' := by
  go_enter Try.func153, Try.ntmps153
  go_wp2_with (first | (go_at_call 79; refine (iMixOk_c _ _).mono ?_; rintro E w' ⟨rfl, rfl⟩))
  go_ret
  exact ⟨ret_b rfl, rfl⟩

theorem iBadAt_c (A : Option Addr) (c n : Nat) (xs : List Int) (w : World) (hxs : RI w 0 A c n xs) : Calls Try.prog 168 #[.slice A n c, .func (.func 153) #[] #[]] w fun E w' => E = .returned (.int .i64 (badAt xs)) ∧ w = w' := by
  have hl := Lib.hid hxs.1
  have hm : n ≤ 9223372036854775807 := by have := hxs.2.le; have := hxs.2.cap; unfold maxLen at this; omega
  go_enter Try.func168, Try.ntmps168
  go_wp2
  go_loop [8] (fun i => ∃ k : Nat, k ≤ n ∧ i = .int .i64 k ∧ ∀ j, j < k → ∀ z, xs[j]? = some z → Sw.mixOk z = true) (fun i => n - (intOf i).toNat)
  case atStart => exact ⟨0, Nat.zero_le _, rfl, by omega⟩
  case round =>
    obtain ⟨k, hk, rfl, hrel⟩ := hrel
    have Hrel := Lib.hid hrel; clear hrel
    by_cases hlt : k < n
    · obtain ⟨g, off, y, rfl, hg0, hg, hd, hy, hc⟩ := at_I hxs hlt
      have Hy := Lib.hid hy; clear hd hy
      cases hmx : Sw.mixOk y
      · go_wp2_with (first | (go_at_call 153; refine (iBad_c _ _).mono ?_; rintro E w' ⟨rfl, rfl⟩))
        go_ret
        refine ⟨ret_i ?_, rfl⟩
        exact (badAt_here Hy.out Hrel.out hmx).symm
      · go_wp2_with (first | (go_at_call 153; refine (iBad_c _ _).mono ?_; rintro E w' ⟨rfl, rfl⟩))
        go_round
        case rel =>
          refine ⟨k + 1, by omega, by go_num, ?_⟩
          intro j hj z hz
          rcases Nat.lt_succ_iff_lt_or_eq.1 hj with hj' | rfl
          · exact Hrel.out j hj' z hz
          · rw [Hy.out] at hz; cases hz; exact hmx
        case measure => simp [intOf]; omega
    · go_wp2
      go_ret
      refine ⟨ret_i ?_, rfl⟩
      exact (badAt_none (by have := hl.out; omega) Hrel.out).symm

theorem iHasBad_c (A : Option Addr) (c n : Nat) (xs : List Int) (w : World) (hxs : RI w 0 A c n xs) : Calls Try.prog 130 #[.slice A n c, .func (.func 153) #[] #[]] w fun E w' => E = .returned (.bool (!xs.all Sw.mixOk)) ∧ w = w' := by
  have Hb := Lib.hid (badAt_iff xs)
  go_enter Try.func130, Try.ntmps130
  go_wp2_with (first | (go_at_call 168; apply Calls.mono; apply iBadAt_c; ((first | (apply Rs.at0; assumption) | (apply Ow.rs0; assumption)); exact kf_); rintro E w' ⟨rfl, rfl⟩))
  go_ret
  exact ⟨ret_b Hb.out, rfl⟩

theorem iTreOk_c (A : Option Addr) (c n : Nat) (xs : List Int) (w : World) (hxs : RI w 0 A c n xs) : Calls Try.prog 97 #[.slice A n c] w fun E w' => E = .returned (.bool (Sw.treOk xs)) ∧ w = w' := by
  have hl := Lib.hid hxs.1
  have hm : n ≤ 9223372036854775807 := by have := hxs.2.le; have := hxs.2.cap; unfold maxLen at this; omega
  have e : Sw.treOk xs = (decide (n ≤ 40) && xs.all Sw.mixOk) := by rw [Sw.treOk, ← hl.out]
  have He := Lib.hid e; clear e
  by_cases hn : n ≤ 40
  · go_enter Try.func97, Try.ntmps97
    go_wp2_with (first | (go_at_call 130; apply Calls.mono; apply iHasBad_c; ((first | (apply Rs.at0; assumption) | (apply Ow.rs0; assumption)); exact kf_); rintro E w' ⟨rfl, rfl⟩))
    go_ret
    exact ⟨ret_b (by rw [He.out]; simp [hn]), rfl⟩
  · go_enter Try.func97, Try.ntmps97
    go_wp2_with (first | (go_at_call 130; apply Calls.mono; apply iHasBad_c; ((first | (apply Rs.at0; assumption) | (apply Ow.rs0; assumption)); exact kf_); rintro E w' ⟨rfl, rfl⟩))
    go_ret
    exact ⟨ret_b (by rw [He.out]; simp [hn]), rfl⟩
end Go.Proofs.Ytgceeggfdomdjaa

