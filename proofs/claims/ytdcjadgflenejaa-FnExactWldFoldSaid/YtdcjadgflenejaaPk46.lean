/-
  Texts joined: LawMk2, Range, Frame.
-/
import Derived.Test.YtdcjadgflenejaaPk45
import Derived.Test.YtdcjadgflenejaaPk21
import Derived.Test.YtdcjadgflenejaaPk1
import Derived.Test.YtdcjadgflenejaaPk2
import Derived.Carry
import Derived.WalkKit
import Derived.ProofKit
import Derived.ChangeSame
import Derived.OpenShut
import Derived.ChangeSlices
import Derived.Deep.Slices
namespace Go.Proofs.Ytdcjadgflenejaa
set_option maxRecDepth 100000
set_option linter.unusedSimpArgs false
set_option linter.unusedVariables false
open Go.RowKit Go
set_option maxHeartbeats 1000000

/-- A market that holds marks from k on. -/
structure MkM (w : World) (lo : Nat) (aL : Option Addr) (aLc aLn : Nat) (aP : Option Addr) (aPc aPn : Nat) (aD : Option Addr) (aDc aDn : Nat) (aN : Option Addr) (aNc aNn : Nat) (aS : Option Addr) (aSc aSn : Nat) (k : Int) : Prop where
  log : Rd w lo aL aLc 4 aLn (FI (marks k (aLn * 4)))
  purses : RI w lo aP aPc aPn (marks (k + (aLn : Int) * 4) aPn)
  deals : Rd w lo aD aDc 5 aDn (FI (marks (k + (aLn : Int) * 4 + aPn) (aDn * 5)))
  nums : RI w lo aN aNc aNn (marks (k + (aLn : Int) * 4 + aPn + (aDn : Int) * 5) aNn)
  said : RI w lo aS aSc aSn (marks (k + (aLn : Int) * 4 + aPn + (aDn : Int) * 5 + aNn) aSn)
theorem MkM.keep {w w' : World} {lo : Nat} {aL : Option Addr} {aLc aLn : Nat} {aP : Option Addr} {aPc aPn : Nat} {aD : Option Addr} {aDc aDn : Nat} {aN : Option Addr} {aNc aNn : Nat} {aS : Option Addr} {aSc aSn : Nat} {k : Int} (h : MkM w lo aL aLc aLn aP aPc aPn aD aDc aDn aN aNc aNn aS aSc aSn k) (hk : KF lo w w') : MkM w' lo aL aLc aLn aP aPc aPn aD aDc aDn aN aNc aNn aS aSc aSn k := ⟨h.1.keep hk, h.2.keep hk, h.3.keep hk, h.4.keep hk, h.5.keep hk⟩
theorem MkM.less {w : World} {lo lo' : Nat} {aL : Option Addr} {aLc aLn : Nat} {aP : Option Addr} {aPc aPn : Nat} {aD : Option Addr} {aDc aDn : Nat} {aN : Option Addr} {aNc aNn : Nat} {aS : Option Addr} {aSc aSn : Nat} {k : Int} (h : MkM w lo aL aLc aLn aP aPc aPn aD aDc aDn aN aNc aNn aS aSc aSn k) (hl : lo' ≤ lo) : MkM w lo' aL aLc aLn aP aPc aPn aD aDc aDn aN aNc aNn aS aSc aSn k := ⟨h.1.less hl, h.2.less hl, h.3.less hl, h.4.less hl, h.5.less hl⟩
section
variable {α : Type} {enc : α → List Value} {sz : Nat} {e : TypeId} {τ : Nat → Nat} {t u : Nat} {w w' w0 : World} {lo c n : Nat} {A : Option Addr} {xs : List α}
theorem OwT.smi (h : OwT enc sz e τ t w lo A c n xs) (h1 : 1 ≤ t) (h5 : t ≤ 5) : ∀ i, atA A i → SM lo τ i := fun i ⟨a, ha, hi⟩ => by
  have hb := (h.ow.blk ha).1
  have ht := h.tag a ha
  subst hi
  exact ⟨hb, by omega, by omega⟩
/-- What is written to one slice leaves those of another mark. -/
theorem OwT.other (h : OwT enc sz e τ t w lo A c n xs) (hb : Ch (atA A) w0 w') (k : KT τ u lo w w0) (hu : u ≠ t) : KT τ u lo w w' :=
  KT.ch hb k fun i ⟨a, ha, hi⟩ => .inr (by rw [hi, h.tag a ha]; exact Ne.symm hu)
end
theorem FI_I (xs : List Int) : xs.flatMap encI = FI xs := by unfold FI; induction xs with
  | nil => rfl
  | cons x xs ih => rw [List.flatMap_cons, ih]; rfl

theorem KT.atA {τ : Nat → Nat} {t u lo : Nat} {w w0 w' : World} {B : Option Addr} (hb : Ch (atA B) w0 w') (k : KT τ t lo w w0) (tb : ∀ a, B = some a → τ a.block = u) (hu : t ≠ u) : KT τ t lo w w' :=
  KT.ch hb k fun i ⟨a, ha, hi⟩ => .inr (by rw [hi, tb a ha]; exact Ne.symm hu)
theorem OwFl.keepT {sz : Nat} {e : TypeId} {τ : Nat → Nat} {t lo c n : Nat} {w w' : World} {A : Option Addr} {zs : List Int} (h : OwFl sz e w lo A c n zs) (ta : ∀ a, A = some a → τ a.block = t) (k : KT τ t lo w w') : OwFl sz e w' lo A c n zs :=
  h.keep_ fun a ha => k.block a.block (h.blk ha).1 (h.blk ha).2 (ta a ha)
theorem Ow.keepT {α : Type} {enc : α → List Value} {sz : Nat} {e : TypeId} {τ : Nat → Nat} {t lo c n : Nat} {w w' : World} {A : Option Addr} {xs : List α} (h : Ow enc sz e w lo A c n xs) (ta : ∀ a, A = some a → τ a.block = t) (k : KT τ t lo w w') : Ow enc sz e w' lo A c n xs :=
  h.keep_ fun a ha => k.block a.block (h.blk ha).1 (h.blk ha).2 (ta a ha)

/-- A block that lies above what was turned. -/
theorem boxed_kept {A : Option Addr} {W w1 : World} {g : Nat} (hb : Ch (atA A) W w1) (hA : ∀ a, A = some a → a.block < g) (hg : g < W.heap.size) : ∀ o, w1.cell? ⟨g, o, none⟩ = W.cell? ⟨g, o, none⟩ :=
  fun o => hb.cell (p := ⟨g, o, none⟩) hg (fun ⟨a, ha, hk⟩ => absurd (hA a ha) (by rw [← hk]; exact Nat.lt_irrefl _))

theorem markMkt_c (aL : Option Addr) (aLc aLn : Nat) (aP : Option Addr) (aPc aPn : Nat) (aD : Option Addr) (aDc aDn : Nat) (aN : Option Addr) (aNc aNn : Nat) (aS : Option Addr) (aSc aSn : Nat) (m : Sw.Mkt) (lo : Nat) (τ : Nat → Nat) (k : Int) (w : World) (hM : OwM τ w lo aL aLc aLn aP aPc aPn aD aDc aDn aN aNc aNn aS aSc aSn m) (hk0 : 0 ≤ k) (hk1 : k ≤ 1048576) (hn : aLn + aPn + aDn + aNn + aSn ≤ 1048576) : Calls Try.prog 14 #[.agg #[.slice aL aLn aLc, .slice aP aPn aPc, .slice aD aDn aDc, .int .i64 m.clock, .slice aN aNn aNc, .slice aS aSn aSc], .int .i64 k] w fun E w' => E = .returned (.int .i64 (k + (aLn : Int) * 4 + aPn + (aDn : Int) * 5 + aNn + aSn)) ∧ MkM w' lo aL aLc aLn aP aPc aPn aD aDc aDn aN aNc aNn aS aSc aSn k ∧ Ch (SM lo τ) w w' := by
  have T1 := hM.log.tag
  have T2 := hM.purses.tag
  have T3 := hM.deals.tag
  have T4 := hM.nums.tag
  have T5 := hM.said.tag
  go_enter Try.func14, Try.ntmps14
  go_wp2_with fail
  apply Calls.mono
  apply (markEnt_c (lo := lo) (e := 77) (zs := m.log.flatMap Sw.Ent.ints))
  · exact OwFl.of (hM.log.ow.keep (by (exact kf_))) (fun _ => rfl) (fun _ => rfl)
  · omega
  · omega
  · omega
  rintro E w1 ⟨rfl, h1, hb1⟩
  have K2 : KT τ 2 lo w w1 := KT.atA hb1 (by (with_reducible repeat (first | exact tR _ _ _ _ | apply tA | apply tD | apply tN | (apply tE; assumption) | (refine tS ?_ (by first | exact Or.inl (by first | omega | (simp only [zA, zC, zD, zN]; omega))))))) T1 (by decide)
  have K3 : KT τ 3 lo w w1 := KT.atA hb1 (by (with_reducible repeat (first | exact tR _ _ _ _ | apply tA | apply tD | apply tN | (apply tE; assumption) | (refine tS ?_ (by first | exact Or.inl (by first | omega | (simp only [zA, zC, zD, zN]; omega))))))) T1 (by decide)
  have K4 : KT τ 4 lo w w1 := KT.atA hb1 (by (with_reducible repeat (first | exact tR _ _ _ _ | apply tA | apply tD | apply tN | (apply tE; assumption) | (refine tS ?_ (by first | exact Or.inl (by first | omega | (simp only [zA, zC, zD, zN]; omega))))))) T1 (by decide)
  have K5 : KT τ 5 lo w w1 := KT.atA hb1 (by (with_reducible repeat (first | exact tR _ _ _ _ | apply tA | apply tD | apply tN | (apply tE; assumption) | (refine tS ?_ (by first | exact Or.inl (by first | omega | (simp only [zA, zC, zD, zN]; omega))))))) T1 (by decide)
  have c1 : Ch (SM lo τ) w w1 := (show Ch (SM lo τ) w _ from (by (exact ext_))).trans (hb1.mono (T := SM lo τ) (fun i _ hi => hM.log.smi (by decide) (by decide) i hi))
  have x1 := boxed_kept (g := w.heap.size) hb1 (fun a ha => (hM.log.ow.blk ha).2) (by exact sz_)
  have z1 := hb1.size
  (try simp only [zA, zC, zD] at z1)
  clear hb1
  go_wp2_with fail
  apply Calls.mono
  apply (markIntS_c (lo := lo) (xs := m.purses))
  · exact (hM.purses.keep K2).ow
  · omega
  · omega
  · omega
  rintro E w2 ⟨rfl, h2, hb2⟩
  replace h1 := h1.keepT T1 (KT.atA hb2 (KT.refl _ _ _ _) T2 (by decide))
  replace K3 := KT.atA hb2 K3 T2 (by decide)
  replace K4 := KT.atA hb2 K4 T2 (by decide)
  replace K5 := KT.atA hb2 K5 T2 (by decide)
  replace c1 := c1.trans (hb2.mono (T := SM lo τ) (fun i _ hi => hM.purses.smi (by decide) (by decide) i hi))
  have x2 := boxed_kept (g := w.heap.size) hb2 (fun a ha => (hM.purses.ow.blk ha).2) (by exact sz_)
  have z2 := hb2.size
  (try simp only [zA, zC, zD] at z2)
  clear hb2
  go_wp2_with fail
  apply Calls.mono
  apply (markDeal_c (lo := lo) (e := 70) (zs := m.deals.flatMap Sw.Deal.ints))
  · exact OwFl.of (hM.deals.keep K3).ow (fun _ => rfl) (fun _ => rfl)
  · omega
  · omega
  · omega
  rintro E w3 ⟨rfl, h3, hb3⟩
  replace h1 := h1.keepT T1 (KT.atA hb3 (KT.refl _ _ _ _) T3 (by decide))
  replace h2 := h2.keepT T2 (KT.atA hb3 (KT.refl _ _ _ _) T3 (by decide))
  replace K4 := KT.atA hb3 K4 T3 (by decide)
  replace K5 := KT.atA hb3 K5 T3 (by decide)
  replace c1 := c1.trans (hb3.mono (T := SM lo τ) (fun i _ hi => hM.deals.smi (by decide) (by decide) i hi))
  have x3 := boxed_kept (g := w.heap.size) hb3 (fun a ha => (hM.deals.ow.blk ha).2) (by exact sz_)
  have z3 := hb3.size
  (try simp only [zA, zC, zD] at z3)
  clear hb3
  go_wp2_with fail
  apply Calls.mono
  apply (markIntS_c (lo := lo) (xs := m.nums))
  · exact (hM.nums.keep K4).ow
  · omega
  · omega
  · omega
  rintro E w4 ⟨rfl, h4, hb4⟩
  replace h1 := h1.keepT T1 (KT.atA hb4 (KT.refl _ _ _ _) T4 (by decide))
  replace h2 := h2.keepT T2 (KT.atA hb4 (KT.refl _ _ _ _) T4 (by decide))
  replace h3 := h3.keepT T3 (KT.atA hb4 (KT.refl _ _ _ _) T4 (by decide))
  replace K5 := KT.atA hb4 K5 T4 (by decide)
  replace c1 := c1.trans (hb4.mono (T := SM lo τ) (fun i _ hi => hM.nums.smi (by decide) (by decide) i hi))
  have x4 := boxed_kept (g := w.heap.size) hb4 (fun a ha => (hM.nums.ow.blk ha).2) (by exact sz_)
  have z4 := hb4.size
  (try simp only [zA, zC, zD] at z4)
  clear hb4
  go_wp2_with fail
  apply Calls.mono
  apply (markIntS_c (lo := lo) (xs := m.said))
  · exact (hM.said.keep K5).ow
  · omega
  · omega
  · omega
  rintro E w5 ⟨rfl, h5, hb5⟩
  replace h1 := h1.keepT T1 (KT.atA hb5 (KT.refl _ _ _ _) T5 (by decide))
  replace h2 := h2.keepT T2 (KT.atA hb5 (KT.refl _ _ _ _) T5 (by decide))
  replace h3 := h3.keepT T3 (KT.atA hb5 (KT.refl _ _ _ _) T5 (by decide))
  replace h4 := h4.keepT T4 (KT.atA hb5 (KT.refl _ _ _ _) T5 (by decide))
  replace c1 := c1.trans (hb5.mono (T := SM lo τ) (fun i _ hi => hM.said.smi (by decide) (by decide) i hi))
  have x5 := boxed_kept (g := w.heap.size) hb5 (fun a ha => (hM.said.ow.blk ha).2) (by exact sz_)
  have z5 := hb5.size
  (try simp only [zA, zC, zD] at z5)
  clear hb5
  go_wp2_with fail
  go_ret
  exact ⟨rfl, ⟨h1.rd, h2.rs, h3.rd, h4.rs, h5.rs⟩, c1⟩

theorem heldMkt_c (aL : Option Addr) (aLc aLn : Nat) (aP : Option Addr) (aPc aPn : Nat) (aD : Option Addr) (aDc aDn : Nat) (aN : Option Addr) (aNc aNn : Nat) (aS : Option Addr) (aSc aSn : Nat) (v : Int) (lo : Nat) (k : Int) (w : World) (hM : MkM w lo aL aLc aLn aP aPc aPn aD aDc aDn aN aNc aNn aS aSc aSn k) (hk0 : 0 ≤ k) (hk1 : k ≤ 1048576) (hn : aLn + aPn + aDn + aNn + aSn ≤ 1048576) : Calls Try.prog 15 #[.agg #[.slice aL aLn aLc, .slice aP aPn aPc, .slice aD aDn aDc, .int .i64 v, .slice aN aNn aNc, .slice aS aSn aSc], .int .i64 k] w fun E w' => E = .returned (.int .i64 (k + (aLn : Int) * 4 + aPn + (aDn : Int) * 5 + aNn + aSn)) ∧ Ex w w' := by
  obtain ⟨h1, h2, h3, h4, h5⟩ := hM
  go_enter Try.func15, Try.ntmps15
  go_wp2_with (first | (go_at_call 32; apply Calls.mono; apply heldEnt_c; (apply Rd.keep h1; (exact kf_)); omega; omega; omega; rintro E w' ⟨rfl, rfl⟩) | (go_at_call 34; apply Calls.mono; apply heldDeal_c; (apply Rd.keep h3; (exact kf_)); omega; omega; omega; rintro E w' ⟨rfl, rfl⟩) | (go_at_call 33; apply Calls.mono; apply heldIntS_c; (apply Rs.at0 h2; (exact kf_)); omega; omega; omega; rintro E w' ⟨rfl, rfl⟩) | (go_at_call 33; apply Calls.mono; apply heldIntS_c; (apply Rs.at0 h4; (exact kf_)); omega; omega; omega; rintro E w' ⟨rfl, rfl⟩) | (go_at_call 33; apply Calls.mono; apply heldIntS_c; (apply Rs.at0 h5; (exact kf_)); omega; omega; omega; rintro E w' ⟨rfl, rfl⟩))
  all_goals (go_ret; exact ⟨rfl, ext_⟩)
end Go.Proofs.Ytdcjadgflenejaa

namespace Go.Proofs.Ytdcjadgflenejaa
set_option maxRecDepth 100000
set_option linter.unusedSimpArgs false
set_option linter.unusedVariables false
open Go.RowKit Go
set_option maxHeartbeats 1000000

def Sw.Mkt.len (m : Sw.Mkt) : Nat := m.log.length + m.purses.length + m.deals.length + m.nums.length + m.said.length
theorem monTurn_len (p : List Int) (who n : Int) : (Sw.monTurn p who n).length = p.length := by
  unfold Sw.monTurn Sw.turned
  split <;> simp
theorem backPurses_len (t : Int) : ∀ (ds : List Sw.Deal) (p : List Int), (ds.foldl (Sw.backPurse t) p).length = p.length
  | [], p => rfl
  | d :: ds, p => by
    rw [List.foldl_cons, backPurses_len t ds]
    unfold Sw.backPurse
    split
    · exact monTurn_len _ _ _
    · rfl
theorem mktTick_len (m : Sw.Mkt) : (Sw.mktTick m).1.len ≤ m.len := by
  unfold Sw.mktTick
  split
  · split
    · exact Nat.le_refl _
    · simp [Sw.tick, Sw.Mkt.len, backPurses_len]
  · simp [Sw.mktZ, Sw.Mkt.len]
section
variable {τ : Nat → Nat} {w w' w0 : World} {lo lo' hi : Nat}
theorem RM.len {aL : Option Addr} {aLc aLn : Nat} {aP : Option Addr} {aPc aPn : Nat} {aD : Option Addr} {aDc aDn : Nat} {aN : Option Addr} {aNc aNn : Nat} {aS : Option Addr} {aSc aSn : Nat} {m : Sw.Mkt} (h : RM w lo aL aLc aLn aP aPc aPn aD aDc aDn aN aNc aNn aS aSc aSn m) : aLn + aPn + aDn + aNn + aSn = m.len := by
  have h1 := h.1.1; have h2 := h.2.1; have h3 := h.3.1; have h4 := h.4.1; have h5 := h.5.1
  unfold Sw.Mkt.len; omega
theorem KF.trans {a b c : World} (h : KF lo a b) (k : KF lo b c) : KF lo a c :=
  ⟨Nat.le_trans h.size k.size, fun i h1 h2 => (k.block i h1 (Nat.lt_of_lt_of_le h2 h.size)).trans (h.block i h1 h2)⟩
/-- Blocks from l on, but for those from h on. -/
def RG2 (l h : Nat) : Nat → Prop := fun b => l ≤ b ∧ b < h
/-- A market that is marked: what has turned lies in its range. -/
theorem OwM.ranged {aL : Option Addr} {aLc aLn : Nat} {aP : Option Addr} {aPc aPn : Nat} {aD : Option Addr} {aDc aDn : Nat} {aN : Option Addr} {aNc aNn : Nat} {aS : Option Addr} {aSc aSn : Nat} {m : Sw.Mkt} (h : OwM τ w lo aL aLc aLn aP aPc aPn aD aDc aDn aN aNc aNn aS aSc aSn m) (hk : KF lo w w') : OwM (glue τ w.heap.size (fun _ => 0)) w' lo aL aLc aLn aP aPc aPn aD aDc aDn aN aNc aNn aS aSc aSn m := (h.glueL (Nat.le_refl _)).keepF hk
theorem SM.range {b : Nat} (h : SM lo (glue τ hi (fun _ => 0)) b) : RG2 lo hi b := by
  obtain ⟨h1, h2, h3⟩ := h
  refine ⟨h1, ?_⟩
  by_cases hb : b < hi
  · exact hb
  · unfold glue at h2
    rw [if_neg hb] at h2
    exact absurd (show 1 ≤ 0 from h2) (by decide)
theorem KF.range (hb : Ch (RG2 lo hi) w w') (k : KF lo' w0 w) (hl : hi ≤ lo' ∨ w0.heap.size ≤ lo) : KF lo' w0 w' :=
  ⟨Nat.le_trans k.size hb.size, fun b h1 h2 => (hb.block b (Nat.lt_of_lt_of_le h2 k.size) (fun h => by have h3 : lo ≤ b := h.1; have h4 : b < hi := h.2; omega)).trans (k.block b h1 h2)⟩
theorem OwM.keepR {aL : Option Addr} {aLc aLn : Nat} {aP : Option Addr} {aPc aPn : Nat} {aD : Option Addr} {aDc aDn : Nat} {aN : Option Addr} {aNc aNn : Nat} {aS : Option Addr} {aSc aSn : Nat} {m : Sw.Mkt} (h : OwM τ w0 lo' aL aLc aLn aP aPc aPn aD aDc aDn aN aNc aNn aS aSc aSn m) (k : KF lo' w0 w) (hb : Ch (RG2 lo hi) w w') (hl : hi ≤ lo' ∨ w0.heap.size ≤ lo) : OwM τ w' lo' aL aLc aLn aP aPc aPn aD aDc aDn aN aNc aNn aS aSc aSn m ∧ KF lo' w0 w' :=
  ⟨h.keepF (KF.range hb k hl), KF.range hb k hl⟩
theorem RG2.rules (hb : Ch (RG2 lo hi) w w') {g : Nat} (hg : g < lo ∨ hi ≤ g) (hs : g < w.heap.size) : (∀ o, w'.cell? ⟨g, o, none⟩ = w.cell? ⟨g, o, none⟩) :=
  fun o => hb.cell (p := ⟨g, o, none⟩) hs (fun h => by have h1 : lo ≤ g := h.1; have h2 : g < hi := h.2; omega)
end
end Go.Proofs.Ytdcjadgflenejaa

namespace Go.Proofs.Ytdcjadgflenejaa
set_option maxRecDepth 100000
set_option linter.unusedSimpArgs false
set_option linter.unusedVariables false
open Go.ChangeShapes Go.WideShapes Go.ChangeAt Go.RowKit Go

section
variable {H : Type} {enc : TypeId × Value → H} {P : Program}
theorem trodAll_stays (hl : laidOutB P = true) {W W' : World} {sp : Nat → Bool} (hb : Below W.heap.size W W') : ∀ {ts : List TypeId} {vs : List Value} {ds : List (DataW H)} {ps : List MemPlace},
    ts.all (fun t => P.readableRec t && decide (t < P.types.size)) = true → DataW.TrodAll enc P W 0 (fun _ => true) true ts vs ds ps → (∀ x ∈ ps, x.block < W.heap.size) → (∀ x ∈ ps, sp x.block = true) →
    DataW.TrodAll enc P W' 0 sp true ts vs ds ps
  | [], [], [], _, _, h, _, _ => h
  | t :: ts, v :: vs, d :: ds, _, hr, ⟨p, q, h1, h2, e⟩, hlt, hs => by
    simp only [List.all_cons, Bool.and_eq_true, decide_eq_true_eq] at hr
    subst e
    refine ⟨p, q, ?_, trodAll_stays hl hb hr.2 h2 (fun x hx => hlt x (List.mem_append_right _ hx)) (fun x hx => hs x (List.mem_append_right _ hx)), rfl⟩
    exact WideElems.Trod_stays hl hr.1.1 hr.1.2 h1 (fun x hx => hb.same (hlt x (List.mem_append_left _ hx))) (fun x hx => hs x (List.mem_append_left _ hx))

/-- A call that returns true and turns nothing that was there is what a law's statement asks. -/
theorem law_post {f : Func} {s : ChangeSpec} {apart fresh handsOn again : Bool} {W W' : World} {args : Array Value} {ds gs : List (DataW H)} {before : List MemPlace} {tb : TypeId}
    (hl : laidOutB P = true) (hr : f.params.toList.all (fun t => P.readableRec t && decide (t < P.types.size)) = true) (hres : f.resultTypes = #[tb]) (htb : P.underlying tb = some .bool) (hv : s.vars = [])
    (hfn : (s.fn H ds).results = [.lit (.bool true)] ∧ (s.fn H ds).args = ds ∧ (s.fn H ds).vars = [])
    (hW : DataW.Whole enc P f.params.toList s.vars apart W args.toList ds gs before) (hb : Ex W W') : s.post enc P f apart fresh handsOn again W args (.bool true) W' := by
  have hW0 := hW
  have hbl := hb.below
  have hlt : ∀ p ∈ before, p.block < W.heap.size := fun p hp => by simpa using hW.lt p hp
  obtain ⟨p, q, hA, hV, he, hz, hn⟩ := hW
  rw [hv] at hV
  obtain ⟨rfl, rfl⟩ := trodVars_none hV
  rw [List.append_nil] at he
  subst he
  obtain ⟨f1, f2, f3⟩ := hfn
  have hargs : ∀ sp : Nat → Bool, (∀ x ∈ before, sp x.block = true) → DataW.TrodAll enc P W' 0 sp true f.params.toList args.toList (s.fn H (ds ++ [])).args before := fun sp hs => by
    rw [List.append_nil, f2]
    exact trodAll_stays hl hbl hr hA hlt hs
  have hvars : ∀ sp : Nat → Bool, DataW.TrodVars enc P W' sp s.vars (s.fn H (ds ++ [])).vars [] := fun sp => by
    rw [List.append_nil, f3, hv]
    rfl
  have hresu : ∀ (b : Nat) (sp : Nat → Bool) (hd : Bool), DataW.TrodAll enc P W' b sp hd f.resultTypes.toList ((Value.bool true).resultList f.resultTypes.size) (s.fn H (ds ++ [])).results [] := fun b sp hd => by
    rw [List.append_nil, f1, hres]
    exact trodAll_cons_mk (shut_bool htb _) trodAll_mk0
  have hold : ∀ p ∈ before, (fun b => decide (b < W.heap.size)) p.block = true := fun p hp => by simpa using hlt p hp
  refine ⟨ds, [], before, [], before, [], hW0, hresu _ _ _, hargs _ hold, hvars _, World.keptBut_mono (fun p hp => ⟨hp, Or.inr (by simpa using hp)⟩) (hbl.frame _), fun _ => ?_⟩
  refine ⟨ok_one (by rw [hres]) rfl (okWide_bool_mk htb _), _, _, ([] ++ before) ++ [], ⟨[] ++ before, [], trodAll_append (hargs _ (fun _ _ => rfl)) (hresu _ _ _), hvars _, rfl, ?_, ?_⟩, ?_⟩
  · intro b off hp
    have hp' : MemPlace.cell b off ∈ before := by simpa using hp
    rw [hbl.frozen (by exact hlt _ hp')]
    exact hz b off (by simpa using hp)
  · intro ha
    have := hn ha
    simpa using this
  · intro p hp _
    simpa using hp

theorem spot_of_cell {W : World} {a : Addr} {v : Value} (h : W.cell? a = some v) : a.spot = none ∧ a.block < W.heap.size := by
  unfold World.cell? at h
  split at h
  · rename_i c T fz hh
    refine ⟨?_, (Array.getElem?_eq_some_iff.1 hh).1⟩
    cases hs : a.spot with
    | none => rfl
    | some _ => rw [hs] at h; simp at h
  · cases h

theorem flat_one {α : Type} {f : α → Value} (xs : List α) : xs.flatMap (fun x => [f x]) = xs.map f := by
  induction xs with
  | nil => rfl
  | cons x xs ih => rw [List.flatMap_cons, ih]; rfl

/-- A slice of numbers that reads is one that may be read. -/
theorem ri_of_trod {W : World} {t e : TypeId} {fuel : Nat} {cs : List Value} {x : DataW H × List MemPlace} (ht : P.underlying t = some (.slice e)) (he : P.underlying e = some (.int .i64)) (hc : P.cellsOf e = 1)
    (h : DataW.trod enc P W 0 (fun _ => true) true fuel t cs = some x) : ∃ A c n xs, cs = [.slice A n c] ∧ RI W 0 A c n xs := by
  rcases open_ints ht he hc h with ⟨rfl, _⟩ | ⟨a, len, cap, zs, rfl, _, hl, hm, hz, _, hcell, _⟩
  · exact ⟨none, 0, 0, [], rfl, rfl, Rd.none_ _ _ _⟩
  · have hz' : zs.length = cap := by simpa using hz
    refine ⟨some a, cap, len, zs.take len, rfl, by rw [List.length_take]; omega, ⟨?_, hl, hm, (fun h => by cases h), fun b hb hn => ?_⟩⟩
    · show ((zs.take len).flatMap fun x => [Value.int .i64 x]).length = len * 1
      rw [flat_one, List.length_map, List.length_take]; omega
    · obtain rfl := Option.some.inj hb
      have h0 := spot_of_cell (hcell 0 (by omega))
      refine ⟨?_, Nat.zero_le _, ?_, fun j u hu => ?_⟩
      · have := h0.1
        simp only [Addr.add] at this
        split at this <;> first | exact this | contradiction | omega
      · have := h0.2
        simp only [Addr.add] at this
        split at this <;> first | exact this | contradiction | omega
      replace hu : ((zs.take len).flatMap fun x => [Value.int .i64 x])[j]? = some u := hu
      rw [flat_one, List.getElem?_map, Option.map_eq_some_iff] at hu
      obtain ⟨y, hy, rfl⟩ := hu
      rw [List.getElem?_take] at hy
      split at hy
      · have hj := (List.getElem?_eq_some_iff.1 hy).1
        have := hcell j hj
        rw [List.getD_eq_getElem?_getD, hy] at this
        obtain ⟨g, off, spot⟩ := a
        have hs : spot = none := by
          have := h0.1
          simp only [Addr.add] at this
          split at this <;> first | exact this | contradiction | omega
        subst hs
        rw [Addr.add_lit] at this
        exact this
      · cases hy

/-- A head that reads is three numbers. -/
theorem head_of_trod {W : World} {t ti : TypeId} {f0 f1 f2 : Field} {fuel : Nat} {cs : List Value} {x : DataW H × List MemPlace} (ht : P.underlying t = some (.struct #[f0, f1, f2])) (hi : P.underlying ti = some (.int .i64)) (hci : P.cellsOf ti = 1) (hct : P.cellsOf t = 3)
    (e0 : f0.type = ti ∧ f0.offset = 0) (e1 : f1.type = ti ∧ f1.offset = 1) (e2 : f2.type = ti ∧ f2.offset = 2)
    (h : DataW.trod enc P W 0 (fun _ => true) true fuel t cs = some x) : ∃ a b c : Int, cs = [.int .i64 a, .int .i64 b, .int .i64 c] := by
  obtain ⟨xs, n, _, _, hl, hxl, hf⟩ := DataW.trod_struct ht h
  rw [hct] at hl
  have key : ∀ (i : Nat) (f : Field), #[f0, f1, f2][i]? = some f → f.type = ti → ∃ a : Int, (cs.drop f.offset).take 1 = [.int .i64 a] := by
    intro i f hfi hft
    have h1 := hf i f hfi
    have hx : i < xs.length := by
      have := (Array.getElem?_eq_some_iff.1 hfi).1
      rw [hxl]; exact this
    rw [hft, hci, List.getElem?_eq_getElem hx] at h1
    obtain ⟨a, ha, _⟩ := DataW.trod_int hi h1
    exact ⟨a, ha⟩
  match cs, hl with
  | [c0, c1, c2], _ =>
    obtain ⟨a, ha⟩ := key 0 f0 rfl e0.1
    obtain ⟨b, hb⟩ := key 1 f1 rfl e1.1
    obtain ⟨c, hc⟩ := key 2 f2 rfl e2.1
    rw [e0.2] at ha
    rw [e1.2] at hb
    rw [e2.2] at hc
    simp at ha hb hc
    exact ⟨a, b, c, by rw [ha, hb, hc]⟩

/-- A gate that reads is a head and a slice of numbers. -/
theorem gate_of_trod {W : World} {t th ts ti : TypeId} {f0 f1 h0 h1 h2 : Field} {fuel : Nat} {cs : List Value} {x : DataW H × List MemPlace} (ht : P.underlying t = some (.struct #[f0, f1])) (hth : P.underlying th = some (.struct #[h0, h1, h2])) (hts : P.underlying ts = some (.slice ti)) (hi : P.underlying ti = some (.int .i64))
    (hci : P.cellsOf ti = 1) (hch : P.cellsOf th = 3) (hcs : P.cellsOf ts = 1) (hct : P.cellsOf t = 4)
    (e0 : f0.type = th ∧ f0.offset = 0) (e1 : f1.type = ts ∧ f1.offset = 3) (g0 : h0.type = ti ∧ h0.offset = 0) (g1 : h1.type = ti ∧ h1.offset = 1) (g2 : h2.type = ti ∧ h2.offset = 2)
    (h : DataW.trod enc P W 0 (fun _ => true) true fuel t cs = some x) : ∃ (a b c : Int) (A : Option Addr) (d n : Nat) (zs : List Int), cs = [.int .i64 a, .int .i64 b, .int .i64 c, .slice A n d] ∧ RI W 0 A d n zs := by
  obtain ⟨xs, n, _, _, hl, hxl, hf⟩ := DataW.trod_struct ht h
  rw [hct] at hl
  have k0 := hf 0 f0 rfl
  have k1 := hf 1 f1 rfl
  rw [e0.1, e0.2, hch, List.getElem?_eq_getElem (by rw [hxl]; exact Nat.zero_lt_succ _)] at k0
  rw [e1.1, e1.2, hcs, List.getElem?_eq_getElem (by rw [hxl]; exact Nat.one_lt_two)] at k1
  obtain ⟨a, b, c, q0⟩ := head_of_trod hth hi hci hch g0 g1 g2 k0
  obtain ⟨A, d, m, zs, q1, hr⟩ := ri_of_trod hts hi hci k1
  match cs, hl with
  | [c0, c1, c2, c3], _ =>
    simp at q0 q1
    obtain ⟨rfl, rfl, rfl⟩ := q0
    exact ⟨_, _, _, A, d, m, zs, by rw [q1], hr⟩

theorem slice_form {W : World} {base : Nat} {t e : TypeId} {v : Value} {A : Option Addr} {n c : Nat} (ht : P.underlying t = some (.slice e)) (hv : Value.okWide P W .any base t v) (h : v.cells.toList = [.slice A n c]) : v = .slice A n c := by
  unfold Value.okWide at hv
  rw [ht] at hv
  unfold Cell.okWide Cell.ok at hv
  rw [ht] at hv
  cases v <;> simp_all [Value.cells]
end
end Go.Proofs.Ytdcjadgflenejaa

