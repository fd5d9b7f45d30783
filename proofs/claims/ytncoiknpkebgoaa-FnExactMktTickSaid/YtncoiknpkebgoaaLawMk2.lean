/-
  Walks: the laws' helpers: marks in markets.
-/
import Derived.Test.YtncoiknpkebgoaaLawMk
import Derived.Test.YtncoiknpkebgoaaMkt3
namespace Go.Proofs.Ytncoiknpkebgoaa
set_option maxRecDepth 100000
set_option linter.unusedSimpArgs false
set_option linter.unusedVariables false
open Go.RowKit Go
set_option maxHeartbeats 1000000

/-- A market that holds marks from k on. -/
structure MkM (w : World) (lo : Nat) (aL : Option Addr) (aLc aLn : Nat) (aP : Option Addr) (aPc aPn : Nat) (aD : Option Addr) (aDc aDn : Nat) (aN : Option Addr) (aNc aNn : Nat) (aS : Option Addr) (aSc aSn : Nat) (k : Int) : Prop where
  log : Rd w lo aL aLc 4 aLn (FI (marks k (aLn * 4)))
  purses : RI w lo aP aPc aPn (marks (k + (aLn : Int) * 4) aPn)
  deals : Rd w lo aD aDc 5 aDn (FI (marks (k + (aLn : Int) * 4 + aPn) (aDn * 5)))
  nums : RI w lo aN aNc aNn (marks (k + (aLn : Int) * 4 + aPn + (aDn : Int) * 5) aNn)
  said : RI w lo aS aSc aSn (marks (k + (aLn : Int) * 4 + aPn + (aDn : Int) * 5 + aNn) aSn)
theorem MkM.keep {w w' : World} {lo : Nat} {aL : Option Addr} {aLc aLn : Nat} {aP : Option Addr} {aPc aPn : Nat} {aD : Option Addr} {aDc aDn : Nat} {aN : Option Addr} {aNc aNn : Nat} {aS : Option Addr} {aSc aSn : Nat} {k : Int} (h : MkM w lo aL aLc aLn aP aPc aPn aD aDc aDn aN aNc aNn aS aSc aSn k) (hk : KF lo w w') : MkM w' lo aL aLc aLn aP aPc aPn aD aDc aDn aN aNc aNn aS aSc aSn k := ⟨h.1.keep hk, h.2.keep hk, h.3.keep hk, h.4.keep hk, h.5.keep hk⟩
theorem MkM.less {w : World} {lo lo' : Nat} {aL : Option Addr} {aLc aLn : Nat} {aP : Option Addr} {aPc aPn : Nat} {aD : Option Addr} {aDc aDn : Nat} {aN : Option Addr} {aNc aNn : Nat} {aS : Option Addr} {aSc aSn : Nat} {k : Int} (h : MkM w lo aL aLc aLn aP aPc aPn aD aDc aDn aN aNc aNn aS aSc aSn k) (hl : lo' ≤ lo) : MkM w lo' aL aLc aLn aP aPc aPn aD aDc aDn aN aNc aNn aS aSc aSn k := ⟨h.1.less hl, h.2.less hl, h.3.less hl, h.4.less hl, h.5.less hl⟩
section
variable {α : Type} {enc : α → List Value} {sz : Nat} {e : TypeId} {τ : Nat → Nat} {t u : Nat} {w w' w0 : World} {lo c n : Nat} {A : Option Addr} {xs : List α}
theorem OwT.sm (h : OwT enc sz e τ t w lo A c n xs) (h1 : 1 ≤ t) (h5 : t ≤ 5) : ∀ i, atA A i → SM lo τ i := fun i ⟨a, ha, hi⟩ => by
  have hb := (h.ow.blk ha).1
  have ht := h.tag a ha
  subst hi
  exact ⟨hb, by omega, by omega⟩
/-- What is written to one slice leaves those of another mark. -/
theorem OwT.other (h : OwT enc sz e τ t w lo A c n xs) (hb : Ch (atA A) w0 w') (k : KT τ u lo w w0) (hu : u ≠ t) : KT τ u lo w w' :=
  KT.ch hb k fun i ⟨a, ha, hi⟩ => .inr (by rw [hi, h.tag a ha]; exact Ne.symm hu)
end
theorem FI_I (xs : List Int) : xs.flatMap encI = FI xs := by unfold FI; induction xs with
  | nil => rfl
  | cons x xs ih => rw [List.flatMap_cons, ih]; rfl

theorem KT.atA {τ : Nat → Nat} {t u lo : Nat} {w w0 w' : World} {B : Option Addr} (hb : Ch (atA B) w0 w') (k : KT τ t lo w w0) (tb : ∀ a, B = some a → τ a.block = u) (hu : t ≠ u) : KT τ t lo w w' :=
  KT.ch hb k fun i ⟨a, ha, hi⟩ => .inr (by rw [hi, tb a ha]; exact Ne.symm hu)
theorem OwFl.keepT {sz : Nat} {e : TypeId} {τ : Nat → Nat} {t lo c n : Nat} {w w' : World} {A : Option Addr} {zs : List Int} (h : OwFl sz e w lo A c n zs) (ta : ∀ a, A = some a → τ a.block = t) (k : KT τ t lo w w') : OwFl sz e w' lo A c n zs :=
  h.keep_ fun a ha => k.block a.block (h.blk ha).1 (h.blk ha).2 (ta a ha)
theorem Ow.keepT {α : Type} {enc : α → List Value} {sz : Nat} {e : TypeId} {τ : Nat → Nat} {t lo c n : Nat} {w w' : World} {A : Option Addr} {xs : List α} (h : Ow enc sz e w lo A c n xs) (ta : ∀ a, A = some a → τ a.block = t) (k : KT τ t lo w w') : Ow enc sz e w' lo A c n xs :=
  h.keep_ fun a ha => k.block a.block (h.blk ha).1 (h.blk ha).2 (ta a ha)

/-- A block that lies above what was turned. -/
theorem boxed_kept {A : Option Addr} {W w1 : World} {g : Nat} (hb : Ch (atA A) W w1) (hA : ∀ a, A = some a → a.block < g) (hg : g < W.heap.size) : ∀ o, w1.cell? ⟨g, o, none⟩ = W.cell? ⟨g, o, none⟩ :=
  fun o => hb.cell (p := ⟨g, o, none⟩) hg (fun ⟨a, ha, hk⟩ => absurd (hA a ha) (by rw [← hk]; exact Nat.lt_irrefl _))

theorem markMkt_c (aL : Option Addr) (aLc aLn : Nat) (aP : Option Addr) (aPc aPn : Nat) (aD : Option Addr) (aDc aDn : Nat) (aN : Option Addr) (aNc aNn : Nat) (aS : Option Addr) (aSc aSn : Nat) (m : Sw.Mkt) (lo : Nat) (τ : Nat → Nat) (k : Int) (w : World) (hM : OwM τ w lo aL aLc aLn aP aPc aPn aD aDc aDn aN aNc aNn aS aSc aSn m) (hk0 : 0 ≤ k) (hk1 : k ≤ 1048576) (hn : aLn + aPn + aDn + aNn + aSn ≤ 1048576) : Calls Try.prog 48 #[.agg #[.slice aL aLn aLc, .slice aP aPn aPc, .slice aD aDn aDc, .int .i64 m.clock, .slice aN aNn aNc, .slice aS aSn aSc], .int .i64 k] w fun E w' => E = .returned (.int .i64 (k + (aLn : Int) * 4 + aPn + (aDn : Int) * 5 + aNn + aSn)) ∧ MkM w' lo aL aLc aLn aP aPc aPn aD aDc aDn aN aNc aNn aS aSc aSn k ∧ Ch (SM lo τ) w w' := by
  have T1 := hM.log.tag
  have T2 := hM.purses.tag
  have T3 := hM.deals.tag
  have T4 := hM.nums.tag
  have T5 := hM.said.tag
  go_enter Try.func48, Try.ntmps48
  go_wp2_with fail
  apply Calls.mono
  apply (markEnt_c (lo := lo) (e := 165) (zs := m.log.flatMap Sw.Ent.ints))
  · exact OwFl.of (hM.log.ow.keep (by (with_reducible repeat (first | exact kR _ _ | apply kA | apply kD | apply kN | (refine kS ?_ (by first | omega | (simp only [zA, zC, zD]; omega))) | (apply kE; assumption) | (refine kC (by assumption) ?_ (by first | omega | (simp only [zA, zC, zD]; omega))))))) (fun _ => rfl) (fun _ => rfl)
  · omega
  · omega
  · omega
  rintro E w1 ⟨rfl, h1, hb1⟩
  have K2 : KT τ 2 lo w w1 := KT.atA hb1 (by (with_reducible repeat (first | exact tR _ _ _ _ | apply tA | apply tD | apply tN | (apply tE; assumption) | (refine tS ?_ (by first | exact Or.inl (by first | omega | (simp only [zA, zC, zD]; omega))))))) T1 (by decide)
  have K3 : KT τ 3 lo w w1 := KT.atA hb1 (by (with_reducible repeat (first | exact tR _ _ _ _ | apply tA | apply tD | apply tN | (apply tE; assumption) | (refine tS ?_ (by first | exact Or.inl (by first | omega | (simp only [zA, zC, zD]; omega))))))) T1 (by decide)
  have K4 : KT τ 4 lo w w1 := KT.atA hb1 (by (with_reducible repeat (first | exact tR _ _ _ _ | apply tA | apply tD | apply tN | (apply tE; assumption) | (refine tS ?_ (by first | exact Or.inl (by first | omega | (simp only [zA, zC, zD]; omega))))))) T1 (by decide)
  have K5 : KT τ 5 lo w w1 := KT.atA hb1 (by (with_reducible repeat (first | exact tR _ _ _ _ | apply tA | apply tD | apply tN | (apply tE; assumption) | (refine tS ?_ (by first | exact Or.inl (by first | omega | (simp only [zA, zC, zD]; omega))))))) T1 (by decide)
  have c1 : Ch (SM lo τ) w w1 := (show Ch (SM lo τ) w _ from (by (with_reducible repeat (first | exact cR _ _ | apply cA | apply cD | apply cN | (refine cS ?_ (Or.inr (by first | omega | (simp only [zA, zC, zD]; omega))) _) | (apply cE; assumption) | (apply cK; assumption))))).trans (hb1.mono (T := SM lo τ) (fun i _ hi => hM.log.sm (by decide) (by decide) i hi))
  have x1 := boxed_kept (g := w.heap.size) hb1 (fun a ha => (hM.log.ow.blk ha).2) (by (first | omega | (simp only [zA, zC, zD]; omega) | (simp only [zA, zC, zD] at *; omega)))
  have z1 := hb1.size
  (try simp only [zA, zC, zD] at z1)
  clear hb1
  go_wp2_with fail
  apply Calls.mono
  apply (markIntS_c (lo := lo) (xs := m.purses))
  · exact (hM.purses.keep K2).ow
  · omega
  · omega
  · omega
  rintro E w2 ⟨rfl, h2, hb2⟩
  replace h1 := h1.keepT T1 (KT.atA hb2 (KT.refl _ _ _ _) T2 (by decide))
  replace K3 := KT.atA hb2 K3 T2 (by decide)
  replace K4 := KT.atA hb2 K4 T2 (by decide)
  replace K5 := KT.atA hb2 K5 T2 (by decide)
  replace c1 := c1.trans (hb2.mono (T := SM lo τ) (fun i _ hi => hM.purses.sm (by decide) (by decide) i hi))
  have x2 := boxed_kept (g := w.heap.size) hb2 (fun a ha => (hM.purses.ow.blk ha).2) (by (first | omega | (simp only [zA, zC, zD]; omega) | (simp only [zA, zC, zD] at *; omega)))
  have z2 := hb2.size
  (try simp only [zA, zC, zD] at z2)
  clear hb2
  go_wp2_with fail
  apply Calls.mono
  apply (markDeal_c (lo := lo) (e := 103) (zs := m.deals.flatMap Sw.Deal.ints))
  · exact OwFl.of (hM.deals.keep K3).ow (fun _ => rfl) (fun _ => rfl)
  · omega
  · omega
  · omega
  rintro E w3 ⟨rfl, h3, hb3⟩
  replace h1 := h1.keepT T1 (KT.atA hb3 (KT.refl _ _ _ _) T3 (by decide))
  replace h2 := h2.keepT T2 (KT.atA hb3 (KT.refl _ _ _ _) T3 (by decide))
  replace K4 := KT.atA hb3 K4 T3 (by decide)
  replace K5 := KT.atA hb3 K5 T3 (by decide)
  replace c1 := c1.trans (hb3.mono (T := SM lo τ) (fun i _ hi => hM.deals.sm (by decide) (by decide) i hi))
  have x3 := boxed_kept (g := w.heap.size) hb3 (fun a ha => (hM.deals.ow.blk ha).2) (by (first | omega | (simp only [zA, zC, zD]; omega) | (simp only [zA, zC, zD] at *; omega)))
  have z3 := hb3.size
  (try simp only [zA, zC, zD] at z3)
  clear hb3
  go_wp2_with fail
  apply Calls.mono
  apply (markIntS_c (lo := lo) (xs := m.nums))
  · exact (hM.nums.keep K4).ow
  · omega
  · omega
  · omega
  rintro E w4 ⟨rfl, h4, hb4⟩
  replace h1 := h1.keepT T1 (KT.atA hb4 (KT.refl _ _ _ _) T4 (by decide))
  replace h2 := h2.keepT T2 (KT.atA hb4 (KT.refl _ _ _ _) T4 (by decide))
  replace h3 := h3.keepT T3 (KT.atA hb4 (KT.refl _ _ _ _) T4 (by decide))
  replace K5 := KT.atA hb4 K5 T4 (by decide)
  replace c1 := c1.trans (hb4.mono (T := SM lo τ) (fun i _ hi => hM.nums.sm (by decide) (by decide) i hi))
  have x4 := boxed_kept (g := w.heap.size) hb4 (fun a ha => (hM.nums.ow.blk ha).2) (by (first | omega | (simp only [zA, zC, zD]; omega) | (simp only [zA, zC, zD] at *; omega)))
  have z4 := hb4.size
  (try simp only [zA, zC, zD] at z4)
  clear hb4
  go_wp2_with fail
  apply Calls.mono
  apply (markIntS_c (lo := lo) (xs := m.said))
  · exact (hM.said.keep K5).ow
  · omega
  · omega
  · omega
  rintro E w5 ⟨rfl, h5, hb5⟩
  replace h1 := h1.keepT T1 (KT.atA hb5 (KT.refl _ _ _ _) T5 (by decide))
  replace h2 := h2.keepT T2 (KT.atA hb5 (KT.refl _ _ _ _) T5 (by decide))
  replace h3 := h3.keepT T3 (KT.atA hb5 (KT.refl _ _ _ _) T5 (by decide))
  replace h4 := h4.keepT T4 (KT.atA hb5 (KT.refl _ _ _ _) T5 (by decide))
  replace c1 := c1.trans (hb5.mono (T := SM lo τ) (fun i _ hi => hM.said.sm (by decide) (by decide) i hi))
  have x5 := boxed_kept (g := w.heap.size) hb5 (fun a ha => (hM.said.ow.blk ha).2) (by (first | omega | (simp only [zA, zC, zD]; omega) | (simp only [zA, zC, zD] at *; omega)))
  have z5 := hb5.size
  (try simp only [zA, zC, zD] at z5)
  clear hb5
  go_wp2_with fail
  go_ret
  exact ⟨rfl, ⟨h1.rd, h2.rs, h3.rd, h4.rs, h5.rs⟩, c1⟩

theorem heldMkt_c (aL : Option Addr) (aLc aLn : Nat) (aP : Option Addr) (aPc aPn : Nat) (aD : Option Addr) (aDc aDn : Nat) (aN : Option Addr) (aNc aNn : Nat) (aS : Option Addr) (aSc aSn : Nat) (v : Int) (lo : Nat) (k : Int) (w : World) (hM : MkM w lo aL aLc aLn aP aPc aPn aD aDc aDn aN aNc aNn aS aSc aSn k) (hk0 : 0 ≤ k) (hk1 : k ≤ 1048576) (hn : aLn + aPn + aDn + aNn + aSn ≤ 1048576) : Calls Try.prog 49 #[.agg #[.slice aL aLn aLc, .slice aP aPn aPc, .slice aD aDn aDc, .int .i64 v, .slice aN aNn aNc, .slice aS aSn aSc], .int .i64 k] w fun E w' => E = .returned (.int .i64 (k + (aLn : Int) * 4 + aPn + (aDn : Int) * 5 + aNn + aSn)) ∧ Ex w w' := by
  obtain ⟨h1, h2, h3, h4, h5⟩ := hM
  go_enter Try.func49, Try.ntmps49
  go_wp2_with (first | (go_at_call 129; apply Calls.mono; apply heldEnt_c; (apply Rd.keep h1; (with_reducible repeat (first | exact kR _ _ | apply kA | apply kD | apply kN | (refine kS ?_ (by first | omega | (simp only [zA, zC, zD]; omega))) | (apply kE; assumption) | (refine kC (by assumption) ?_ (by first | omega | (simp only [zA, zC, zD]; omega)))))); omega; omega; omega; rintro E w' ⟨rfl, rfl⟩) | (go_at_call 131; apply Calls.mono; apply heldDeal_c; (apply Rd.keep h3; (with_reducible repeat (first | exact kR _ _ | apply kA | apply kD | apply kN | (refine kS ?_ (by first | omega | (simp only [zA, zC, zD]; omega))) | (apply kE; assumption) | (refine kC (by assumption) ?_ (by first | omega | (simp only [zA, zC, zD]; omega)))))); omega; omega; omega; rintro E w' ⟨rfl, rfl⟩) | (go_at_call 130; apply Calls.mono; apply heldIntS_c; (apply Rs.at0 h2; (with_reducible repeat (first | exact kR _ _ | apply kA | apply kD | apply kN | (refine kS ?_ (by first | omega | (simp only [zA, zC, zD]; omega))) | (apply kE; assumption) | (refine kC (by assumption) ?_ (by first | omega | (simp only [zA, zC, zD]; omega)))))); omega; omega; omega; rintro E w' ⟨rfl, rfl⟩) | (go_at_call 130; apply Calls.mono; apply heldIntS_c; (apply Rs.at0 h4; (with_reducible repeat (first | exact kR _ _ | apply kA | apply kD | apply kN | (refine kS ?_ (by first | omega | (simp only [zA, zC, zD]; omega))) | (apply kE; assumption) | (refine kC (by assumption) ?_ (by first | omega | (simp only [zA, zC, zD]; omega)))))); omega; omega; omega; rintro E w' ⟨rfl, rfl⟩) | (go_at_call 130; apply Calls.mono; apply heldIntS_c; (apply Rs.at0 h5; (with_reducible repeat (first | exact kR _ _ | apply kA | apply kD | apply kN | (refine kS ?_ (by first | omega | (simp only [zA, zC, zD]; omega))) | (apply kE; assumption) | (refine kC (by assumption) ?_ (by first | omega | (simp only [zA, zC, zD]; omega)))))); omega; omega; omega; rintro E w' ⟨rfl, rfl⟩))
  all_goals (go_ret; exact ⟨rfl, (by (with_reducible repeat (first | exact cR _ _ | apply cA | apply cD | apply cN | (refine cS ?_ (Or.inr (by first | omega | (simp only [zA, zC, zD]; omega))) _) | (apply cE; assumption) | (apply cK; assumption) | (refine cG (by assumption) ?_ (by first | omega | (simp only [zA, zC, zD]; omega))))))⟩)
end Go.Proofs.Ytncoiknpkebgoaa
