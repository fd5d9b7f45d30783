/-
  Texts joined: WldB, Draw1.
-/
import Derived.Test.YtdcjadgflenejaaPk14
import Derived.Test.YtdcjadgflenejaaPk26
import Derived.Test.YtdcjadgflenejaaPk9
import Derived.Test.YtdcjadgflenejaaPk2
import Derived.Laws.BitsAllLaws
import Derived.Deep.DeepCutAuto
namespace Go.Proofs.Ytdcjadgflenejaa
set_option maxRecDepth 100000
set_option linter.unusedSimpArgs false
set_option linter.unusedVariables false
open Go.RowKit Go
set_option maxHeartbeats 400000

section
variable {fd fp τ τ' : Nat → Nat} {wr w w' w1 w2 : World} {lo c k d m c1 n : Nat} {A B A1 : Option Addr}
theorem KT.retag {t : Nat} (h : KT τ t lo w w') (ht : ∀ b, b < w.heap.size → τ' b = τ b) : KT τ' t lo w w' :=
  ⟨h.size, fun b h1 h2 h3 => h.block b h1 h2 ((ht b h2).symm.trans h3)⟩
/-- Across something made, and an append to a slice with another mark. -/
theorem KT.app {t s : Nat} (hb : Ex wr w1) (hc : Ch (atA A) w1 w2) (hs : ∀ a, A = some a → τ a.block = s) (hne : s ≠ t) : KT τ t lo wr w2 :=
  KT.ch hc (KT.ex hb (KT.refl _ _ _ _)) fun i ⟨a, ha, hi⟩ => .inr (by rw [hi, hs a ha]; exact hne)
/-- What a request, or the clock, may turn of a world: its market, and its lines. -/
def SA (lo : Nat) (τ : Nat → Nat) : Nat → Prop := fun b => lo ≤ b ∧ 1 ≤ τ b ∧ τ b ≤ 7 ∧ τ b ≠ 6
theorem KT.sa {t : Nat} (h : Ch (SA lo τ) w w') (ht : t = 6 ∨ 8 ≤ t) : KT τ t lo w w' :=
  ⟨h.size, fun b h1 h2 h3 => h.block b h2 fun ⟨_, _, h4, h5⟩ => by omega⟩
/-- Blocks from lo on may have turned. -/
def UpF (lo : Nat) : Nat → Prop := fun b => lo ≤ b
theorem Ch.up {S : Nat → Prop} (h : Ch S w w') (hS : ∀ b, S b → lo ≤ b) : Ch (UpF lo) w w' := h.mono fun i _ hi => hS i hi
theorem Ch.up_ex (h : Ch (UpF lo) w w') (hb : Ex wr w) (hl : wr.heap.size ≤ lo) : Ex wr w' := hb.trans' h fun i hi hs => by have : lo ≤ i := hs; omega
theorem fdS_ne (j : Nat) : fdS j ≠ 8 := by unfold fdS; omega
theorem fpS_ne (j : Nat) : fpS j ≠ 9 := by unfold fpS; omega
theorem fdS_le (j : Nat) : 8 ≤ fdS j := by unfold fdS; omega
theorem fpS_le (j : Nat) : 8 ≤ fpS j := by unfold fpS; omega
/-- A message less. -/
theorem RX.erase {xs : List Sw.Msg} {vs : List XV} {i : Nat} {N : Nat} (h2 : n = xs.length) (h1 : n = vs.length)
    (h3 : ∀ (k : Nat) (v : XV) (x : Sw.Msg), vs[k]? = some v → xs[k]? = some x → v.g = x.gate ∧ v.h = x.head ∧ RI w lo v.A v.c v.n x.proof)
    (ho : Rs XV.enc 5 w lo A c N (vs.take i ++ vs.drop (i + 1))) (hi : i < n) (hN : N = n - 1) : RX w lo A c N (xs.eraseIdx i) := by
  rw [← List.eraseIdx_eq_take_drop_succ] at ho
  refine ⟨_, ho, by rw [List.length_eraseIdx, if_pos (by omega)]; omega, fun k v x hv hx => ?_⟩
  rw [List.getElem?_eraseIdx] at hv hx
  split at hv
  · rw [if_pos (by assumption)] at hx; exact h3 _ v x hv hx
  · rw [if_neg (by assumption)] at hx; exact h3 _ v x hv hx
end
section
variable {α : Type} {enc : α → List Value} {sz : Nat} {e : TypeId} {τ τ' : Nat → Nat} {t : Nat} {w w' : World} {lo c n g0 g1 : Nat} {A B : Option Addr} {xs : List α}
/-- The function's own boxes are none of what is owned. -/
theorem OwT.box (h : OwT enc sz e τ t w lo A c n xs) (hx : Ch (BX g0 g1) w w') (h0 : ∀ b, g0 ≤ b → b < g1 → τ b = 0) (ht : 1 ≤ t) : OwT enc sz e τ t w' lo A c n xs :=
  h.keep (KT.ch hx (KT.refl _ _ _ _) fun i hi => .inr (by rw [h0 i hi.1 hi.2]; omega))
/-- What is no market's stays across what turns a market's own. -/
theorem OwT.sm (h : OwT enc sz e τ t w lo A c n xs) (hc : Ch (SM lo τ) w w') (ht : 6 ≤ t) (hτ : ∀ b, b < w.heap.size → τ' b = τ b) : OwT enc sz e τ' t w' lo A c n xs :=
  (h.retag hτ).keep ⟨hc.size, fun b h1 h2 h3 => hc.block b h2 fun ⟨_, _, h5⟩ => by have := hτ b h2; omega⟩
/-- And a market stays across an append to a slice that is none of its own. -/
theorem OwM.app {aL : Option Addr} {aLc aLn : Nat} {aP : Option Addr} {aPc aPn : Nat} {aD : Option Addr} {aDc aDn : Nat} {aN : Option Addr} {aNc aNn : Nat} {aS : Option Addr} {aSc aSn : Nat} {m : Sw.Mkt} {s : Nat} (h : OwM τ w lo aL aLc aLn aP aPc aPn aD aDc aDn aN aNc aNn aS aSc aSn m) (hc : Ch (atA A) w w') (hs : ∀ a, A = some a → τ a.block = s) (h6 : 6 ≤ s) (hA : ∀ a, A = some a → a.block < w.heap.size) : OwM (glue τ w.heap.size τ') w' lo aL aLc aLn aP aPc aPn aD aDc aDn aN aNc aNn aS aSc aSn m :=
  (h.glueL (Nat.le_refl _)).keep fun t h1 h5 => KT.ch hc (KT.refl _ _ _ _) fun i ⟨a, ha, hi⟩ => .inr (by rw [hi, glue, if_pos (hA a ha), hs a ha]; omega)
theorem OwT.app {s : Nat} (h : OwT enc sz e τ t w lo A c n xs) (hc : Ch (atA B) w w') (hs : ∀ a, B = some a → τ a.block = s) (h6 : s ≠ t) (hA : ∀ a, B = some a → a.block < w.heap.size) : OwT enc sz e (glue τ w.heap.size τ') t w' lo A c n xs :=
  (h.glueL (Nat.le_refl _)).keep (KT.ch hc (KT.refl _ _ _ _) fun i ⟨a, ha, hi⟩ => .inr (by rw [hi, glue, if_pos (hA a ha), hs a ha]; exact h6))
/-- How a walk reads on behind what turned a market's own, between lo and k. -/
theorem Ch.smRules {lo k B : Nat} {τ : Nat → Nat} {w w' : World} (h : Ch (SM lo (glue τ k (fun _ => 0))) w w') (hB : w.heap.size = B) (hl : lo ≤ B) :
    (∀ b o, ¬ ((⟨b, 0, none⟩ : Addr) = ⟨b - lo + lo, 0, none⟩) → w'.cell? ⟨b, o, none⟩ = w.cell? ⟨b, o, none⟩) ∧ (∀ b o, ¬ ((⟨b, 0, none⟩ : Addr) = ⟨b - lo + lo, 0, none⟩) → w'.frozen? ⟨b, o, none⟩ = w.frozen? ⟨b, o, none⟩) ∧
    (∀ b o, ((⟨b, 0, none⟩ : Addr) = ⟨b - k + k, 0, none⟩) → ¬ ((⟨b, 0, none⟩ : Addr) = ⟨b - B + B, 0, none⟩) → w'.cell? ⟨b, o, none⟩ = w.cell? ⟨b, o, none⟩) ∧
    (∀ b o, ((⟨b, 0, none⟩ : Addr) = ⟨b - k + k, 0, none⟩) → ¬ ((⟨b, 0, none⟩ : Addr) = ⟨b - B + B, 0, none⟩) → w'.frozen? ⟨b, o, none⟩ = w.frozen? ⟨b, o, none⟩) ∧ B ≤ w'.heap.size := by
  subst hB
  have l1 : ∀ b, b < lo → w'.heap[b]? = w.heap[b]? := fun b hb => h.block b (by omega) fun h => absurd h.1 (by omega)
  have l2 : ∀ b, ((⟨b, 0, none⟩ : Addr) = ⟨b - k + k, 0, none⟩) → ¬ ((⟨b, 0, none⟩ : Addr) = ⟨b - w.heap.size + w.heap.size, 0, none⟩) → w'.heap[b]? = w.heap[b]? := fun b h1 h2 => by
    have h1 : b = b - k + k := congrArg Addr.block h1
    refine h.block b (lt_of_addr h2) fun ⟨_, h3, _⟩ => ?_
    rw [glue, if_neg (by omega)] at h3
    exact absurd h3 (by decide)
  exact ⟨(low_rules l1).1, (low_rules l1).2, fun b o h1 h2 => World.cell?_of_block (w := w) (a := ⟨b, o, none⟩) (l2 b h1 h2), fun b o h1 h2 => World.frozen?_of_block (w := w) (a := ⟨b, o, none⟩) (l2 b h1 h2), h.size⟩
theorem OwM.zeros {τ : Nat → Nat} {w w' : World} {lo : Nat} {aL : Option Addr} {aLc aLn : Nat} {aP : Option Addr} {aPc aPn : Nat} {aD : Option Addr} {aDc aDn : Nat} {aN : Option Addr} {aNc aNn : Nat} {aS : Option Addr} {aSc aSn : Nat} {m : Sw.Mkt} (h : OwM τ w lo aL aLc aLn aP aPc aPn aD aDc aDn aN aNc aNn aS aSc aSn m) (hc : Ch (fun b => τ b = 0) w w') : OwM τ w' lo aL aLc aLn aP aPc aPn aD aDc aDn aN aNc aNn aS aSc aSn m :=
  h.keep fun t h1 _ => KT.ch hc (KT.refl _ _ _ _) fun i hi => .inr (by rw [show τ i = 0 from hi]; omega)
theorem OwT.zeros {α : Type} {enc : α → List Value} {sz : Nat} {e : TypeId} {τ : Nat → Nat} {t : Nat} {w w' : World} {lo c n : Nat} {A : Option Addr} {xs : List α} (h : OwT enc sz e τ t w lo A c n xs) (hc : Ch (fun b => τ b = 0) w w') (ht : 1 ≤ t) : OwT enc sz e τ t w' lo A c n xs :=
  h.keep (KT.ch hc (KT.refl _ _ _ _) fun i hi => .inr (by rw [show τ i = 0 from hi]; omega))
/-- Marks between lo and k alone. -/
def mid (lo k : Nat) (τ : Nat → Nat) : Nat → Nat := glue (glue (fun _ => 0) lo τ) k (fun _ => 0)
theorem cZ {τ τd : Nat → Nat} {B lo k : Nat} {a w : World} {p : Addr} {u : Value} (hτ : ∀ b, b < B → τ b = mid lo k τd b) (h : Ch (fun b => τ b = 0) a w) (h1 : p.block < B) (h2 : p.block < lo ∨ k ≤ p.block) : Ch (fun b => τ b = 0) a (w.setCell p u) :=
  h.setCell (.inl (by
    show τ p.block = 0
    rw [hτ _ h1]
    unfold mid glue
    split
    · rw [if_pos (by omega)]
    · rfl)) u
theorem mid_out {lo k b : Nat} {τ : Nat → Nat} (h : b < lo ∨ k ≤ b) : mid lo k τ b = 0 := by
  unfold mid glue
  split
  · rw [if_pos (by omega)]
  · rfl
end
end Go.Proofs.Ytdcjadgflenejaa

namespace Go.Proofs.Ytdcjadgflenejaa
set_option maxRecDepth 100000
set_option linter.unusedSimpArgs false
set_option linter.unusedVariables false
open Go.RowKit Go
set_option maxHeartbeats 1000000

/-- A reader at block rb; it has read p times. -/
structure Rdr (w : World) (rb p : Nat) : Prop where
  ex : ∃ A c n bs, w.cell? ⟨rb, 0, none⟩ = some (.slice A n c) ∧ RB w 0 A c n bs ∧ n ≤ 2000 ∧ (∀ x ∈ bs, 0 ≤ x ∧ x ≤ 255) ∧ ∀ a, A = some a → 0 < n → a.block < rb
  pos : w.cell? ⟨rb, 1, none⟩ = some (.int .i64 p)
  free : ∀ i, w.frozen? ⟨rb, i, none⟩ = false
  lt : rb < w.heap.size
  lb : Lb w rb 2
/-- Blocks up to rb are as they were. -/
structure KB (rb : Nat) (w w' : World) : Prop where
  size : w.heap.size ≤ w'.heap.size
  block : ∀ b, b ≤ rb → b < w.heap.size → w'.heap[b]? = w.heap[b]?
theorem bR (rb : Nat) (w : World) : KB rb w w := ⟨Nat.le_refl _, fun _ _ _ => rfl⟩
theorem bA {rb : Nat} {a w : World} {o : Obj} (h : KB rb a w) : KB rb a (w.alloc o) :=
  ⟨by simp; have := h.size; omega, fun i hl hi => (Below.heap_alloc _ _ _ (Nat.lt_of_lt_of_le hi h.size)).trans (h.block i hl hi)⟩
theorem bD {rb : Nat} {a w : World} (h : KB rb a w) : KB rb a w.drew := ⟨h.size, h.block⟩
theorem bN {rb : Nat} {a w : World} {n : Nat} (h : KB rb a w) : KB rb a (w.drewN n) := ⟨h.size, h.block⟩
theorem bS {rb : Nat} {a w : World} {p : Addr} {u : Value} (h : KB rb a w) (hp : rb < p.block) : KB rb a (w.setCell p u) :=
  ⟨by simpa [World.setCell] using h.size, fun i hl hi => (Below.heap_setCell _ _ _ _ (by rintro rfl; omega)).trans (h.block i hl hi)⟩
theorem bE {rb : Nat} {a w w' : World} (hb : Ex w w') (h : KB rb a w) : KB rb a w' :=
  ⟨Nat.le_trans h.size hb.size, fun i hl hi => (hb.block i (Nat.lt_of_lt_of_le hi h.size) (fun h => h)).trans (h.block i hl hi)⟩
theorem bC {g rb : Nat} {a w w' : World} (hb : Ch (· = g) w w') (h : KB rb a w) (hg : rb < g) : KB rb a w' :=
  ⟨Nat.le_trans h.size hb.size, fun i hl hi => (hb.block i (Nat.lt_of_lt_of_le hi h.size) (by omega)).trans (h.block i hl hi)⟩
theorem kb_ {p : Prop} (h : p := by with_reducible repeat (first | exact bR _ _ | apply bA | apply bD | apply bN | (refine bS ?_ (by first | omega | (simp only [zA, zC, zD, zN]; omega))) | (apply bE; assumption) | (refine bC (by assumption) ?_ (by first | omega | (simp only [zA, zC, zD, zN]; omega))))) : p := h
theorem Rdr.keep {w w' : World} {rb p : Nat} (h : Rdr w rb p) (k : KB rb w w') : Rdr w' rb p := by
  obtain ⟨A, c, n, bs, h1, h2, h3, h4, h5⟩ := h.ex
  have hb := k.block rb (Nat.le_refl _) h.lt
  refine ⟨⟨A, c, n, bs, (World.cell?_of_block (w := w) (a := ⟨rb, 0, none⟩) hb).trans h1, ⟨h2.1, ?_⟩, h3, h4, h5⟩, (World.cell?_of_block (w := w) (a := ⟨rb, 1, none⟩) hb).trans h.pos, fun i => (World.frozen?_of_block (w := w) (a := ⟨rb, i, none⟩) hb).trans (h.free i), Nat.lt_of_lt_of_le h.lt k.size, ?_⟩
  case refine_2 => obtain ⟨cs, T, h6, h7⟩ := h.lb; exact ⟨cs, T, hb.trans h6, h7⟩
  refine ⟨h2.2.len, h2.2.le, h2.2.cap, h2.2.nil, fun a ha hn => ?_⟩
  obtain ⟨q1, q2, q3, q4⟩ := h2.2.cells a ha hn
  exact ⟨q1, q2, Nat.lt_of_lt_of_le q3 k.size, fun j u hu => (World.cell?_of_block (w := w) (a := ⟨a.block, a.off + j, none⟩) (k.block a.block (Nat.le_of_lt (h5 a ha hn)) q3)).trans (q4 j u hu)⟩
theorem Rdr.step {w : World} {rb p : Nat} (h : Rdr w rb p) : Rdr (w.setCell ⟨rb, 1, none⟩ (.int .i64 ((p : Int) + 1))) rb (p + 1) := by
  obtain ⟨A, c, n, bs, h1, h2, h3, h4, h5⟩ := h.ex
  have hne : ∀ b, b ≠ rb → (w.setCell ⟨rb, 1, none⟩ (.int .i64 ((p : Int) + 1))).heap[b]? = w.heap[b]? := fun b hb => Below.heap_setCell _ _ _ _ hb
  obtain ⟨o, ho⟩ : ∃ o, w.heap[rb]? = some o := ⟨_, Array.getElem?_eq_getElem h.lt⟩
  have hpos := h.pos
  cases o with
  | cells cs T fz =>
    have hs : ∀ i, i ≠ 1 → (w.setCell ⟨rb, 1, none⟩ (.int .i64 ((p : Int) + 1))).cell? ⟨rb, i, none⟩ = w.cell? ⟨rb, i, none⟩ := by
      intro i hi
      simp [World.cell?, World.setCell, Array.getElem?_modify, ho, Array.getElem?_setIfInBounds, Ne.symm hi]
    refine ⟨⟨A, c, n, bs, (hs 0 (by omega)).trans h1, ⟨h2.1, ?_⟩, h3, h4, h5⟩, ?_, fun i => ?_, by simpa [World.setCell] using h.lt, h.lb.set⟩
    · refine ⟨h2.2.len, h2.2.le, h2.2.cap, h2.2.nil, fun a ha hn => ?_⟩
      obtain ⟨q1, q2, q3, q4⟩ := h2.2.cells a ha hn
      exact ⟨q1, q2, by simpa [World.setCell] using q3, fun j u hu => (World.cell?_of_block (w := w) (a := ⟨a.block, a.off + j, none⟩) (hne _ (show a.block ≠ rb by have := h5 a ha hn; omega))).trans (q4 j u hu)⟩
    · have hlt : 1 < cs.size := by
        simp only [World.cell?, ho] at hpos
        by_cases h : 1 < cs.size
        · exact h
        · simp [Array.getElem?_eq_none (by omega : cs.size ≤ 1)] at hpos
      simp [World.cell?, World.setCell, Array.getElem?_modify, ho, Array.getElem?_setIfInBounds, hlt]
    · have := h.free i
      simp [World.frozen?, World.setCell, Array.getElem?_modify, ho] at this ⊢
      exact this
  | _ => simp [World.cell?, ho] at hpos

theorem xor_nat (a b : Nat) (ha : a < 4611686018427387904) (hb : b < 4611686018427387904) : bits .xor .i64 (a : Int) (b : Int) = ((a ^^^ b : Nat) : Int) := by
  show IntKind.i64.wrap ((BitVec.ofInt 64 (a : Int) ^^^ BitVec.ofInt 64 (b : Int)).toNat : Int) = _
  have hx : a ^^^ b < 2 ^ 62 := Nat.xor_lt_two_pow (by omega) (by omega)
  rw [BitVec.toNat_xor, BitVec.ofInt_natCast, BitVec.ofInt_natCast, BitVec.toNat_ofNat, BitVec.toNat_ofNat, Nat.mod_eq_of_lt (by omega), Nat.mod_eq_of_lt (by omega), IntWalk.i64_in _ (by omega)]

/-- A reader that has read at most P times. -/
def Rdp (w : World) (rb P : Nat) : Prop := ∃ p, p ≤ P ∧ Rdr w rb p
theorem Rdp.keep {w w' : World} {rb P : Nat} (h : Rdp w rb P) (k : KB rb w w') : Rdp w' rb P := by
  obtain ⟨p, hp, h⟩ := h
  exact ⟨p, hp, h.keep k⟩
theorem Rdp.more {w : World} {rb P Q : Nat} (h : Rdp w rb P) (k : P ≤ Q) : Rdp w rb Q := by
  obtain ⟨p, hp, h⟩ := h
  exact ⟨p, by omega, h⟩
theorem Rdp.lt {w : World} {rb P : Nat} (h : Rdp w rb P) : rb < w.heap.size := by
  obtain ⟨p, hp, h⟩ := h
  exact h.lt
theorem Rdp.lb {w : World} {rb P : Nat} (h : Rdp w rb P) : Lb w rb 2 := by
  obtain ⟨p, hp, h⟩ := h
  exact h.lb
theorem HeldC.chr {g n rb m : Nat} {W w w' : World} (k : HeldC g n rb m W w) (c : Ch (· = rb) w w') (l : Lb w' rb m) : HeldC g n rb m W w' := by
  by_cases hg : g = rb
  · subst hg
    obtain ⟨cs, T, h1, h2⟩ := k.lb
    obtain ⟨cs', T', h3, h4⟩ := k.lc
    rw [h1] at h3
    cases h3
    have hnm : n = m := by omega
    subst hnm
    exact .of (k.ch.trans' c (fun i _ hi => Or.inr hi)) l l
  · exact .of (k.ch.trans' c (fun i _ hi => Or.inr hi)) (Lb.chk c k.lb hg) l
theorem Rdr.new {w : World} {A : Option Addr} {c n : Nat} {bs : List Int} {T : TypeId} (h : RB w 0 A c n bs) (hn : n ≤ 2000) (hq : ∀ x ∈ bs, 0 ≤ x ∧ x ≤ 255) :
    Rdr (w.alloc (.cells #[.slice A n c, .int .i64 0] T)) w.heap.size 0 := by
  refine ⟨⟨A, c, n, bs, by simp [go_sem], h.keep (KF.refl _ _).alloc, hn, hq, fun a ha hn0 => ?_⟩, by simp [go_sem], fun i => by simp [go_sem], by simp, Lb.new rfl rfl⟩
  exact (h.2.cells a ha hn0).2.2.1

/-- Blocks up to rb, behind an append to what lies higher. -/
theorem bL {rb lo : Nat} {a w w' : World} (hz : w.heap.size ≤ w'.heap.size) (hl : ∀ b, b < lo → w'.heap[b]? = w.heap[b]?) (h : KB rb a w) (hr : rb < lo) : KB rb a w' :=
  ⟨Nat.le_trans h.size hz, fun i hi hs => (hl i (by omega)).trans (h.block i hi hs)⟩

theorem RB_take {w : World} {lo c n k : Nat} {A : Option Addr} {xs : List Int} (h : RB w lo A c n xs) (hk : k ≤ n) : RB w lo A c k (xs.take k) := Rs.take h (fun _ => rfl) hk

theorem emod_bd (a : Nat) {m : Nat} (hm : 0 < m) : (0 : Int) ≤ (a : Int) % (m : Int) ∧ (a : Int) % (m : Int) < m := ⟨Int.emod_nonneg _ (by omega), Int.emod_lt_of_pos _ (by omega)⟩
theorem tmod_nn {x n : Int} (hx : 0 ≤ x) (hn : 1 ≤ n) : 0 ≤ x.tmod n ∧ x.tmod n < n := by
  rw [Int.tmod_eq_emod_of_nonneg hx]
  exact ⟨Int.emod_nonneg _ (by omega), Int.emod_lt_of_pos _ (by omega)⟩

def LitQ (Q : Int → Prop) : List Value → Prop
  | [] => True
  | u :: us => (∃ x, u = .int .i64 x ∧ Q x) ∧ LitQ Q us
theorem LitQ.nil {Q : Int → Prop} : LitQ Q [] := trivial
theorem LitQ.cons {Q : Int → Prop} {u : Value} {us : List Value} (h : ∃ x, u = .int .i64 x ∧ Q x) (k : LitQ Q us) : LitQ Q (u :: us) := ⟨h, k⟩
theorem LitQ.at_ {Q : Int → Prop} : ∀ {us : List Value} {i : Nat}, LitQ Q us → i < us.length → ∃ x, us[i]? = some (.int .i64 x) ∧ Q x
  | [], i, _, h => absurd h (by simp)
  | u :: us, 0, h, _ => by obtain ⟨⟨x, rfl, hx⟩, _⟩ := h; exact ⟨x, rfl, hx⟩
  | u :: us, i + 1, h, hi => LitQ.at_ (us := us) h.2 (by simpa using hi)
/-- Behind an append to what lies higher. -/
theorem Rdp.low {w w' : World} {rb P lo : Nat} (h : Rdp w rb P) (hz : w.heap.size ≤ w'.heap.size) (hl : ∀ b, b < lo → w'.heap[b]? = w.heap[b]?) (hr : rb < lo) : Rdp w' rb P := h.keep (bL hz hl (bR _ _) hr)
/-- Block g is n numbers, none frozen. -/
def Ints (w : World) (g n : Nat) : Prop := ∃ (zs : List Int) (T : TypeId), zs.length = n ∧ w.heap[g]? = some (.cells (zs.map (Value.int .i64)).toArray T (0, 0))
section
variable {w w' : World} {g n : Nat}
theorem Ints.lt (h : Ints w g n) : g < w.heap.size := by
  obtain ⟨zs, T, h1, h2⟩ := h
  exact (Array.getElem?_eq_some_iff.1 h2).1
theorem Ints.new {cs : Array Value} {T : TypeId} {zs : List Int} (hg : g = w.heap.size) (hcs : cs = (zs.map (Value.int .i64)).toArray) (hn : zs.length = n) : Ints (w.alloc (.cells cs T)) g n := by
  subst hg hcs
  exact ⟨zs, T, hn, heap_alloc_new w _⟩
theorem Ints.alloc {o : Obj} (h : Ints w g n) : Ints (w.alloc o) g n := by
  have := h.lt
  obtain ⟨zs, T, h1, h2⟩ := h
  exact ⟨zs, T, h1, (Below.heap_alloc w o g this).trans h2⟩
theorem Ints.drew (h : Ints w g n) : Ints w.drew g n := h
theorem Ints.ch {S : Nat → Prop} (hb : Ch S w w') (hS : ¬ S g) (h : Ints w g n) : Ints w' g n := by
  have := h.lt
  obtain ⟨zs, T, h1, h2⟩ := h
  exact ⟨zs, T, h1, (hb.block g this hS).trans h2⟩
theorem Ints.set {p : Addr} {v : Int} (h : Ints w g n) (hp : p.spot = none) : Ints (w.setCell p (.int .i64 v)) g n := by
  obtain ⟨zs, T, h1, h2⟩ := h
  by_cases he : p.block = g
  · subst he
    refine ⟨zs.set p.off v, T, by rw [List.length_set]; exact h1, ?_⟩
    simp only [World.setCell, Array.getElem?_modify, if_true, h2, Option.map_some, hp]
    congr 2
    apply Array.ext'
    simp [List.map_set]
  · exact ⟨zs, T, h1, (Below.heap_setCell w p _ g (fun e => he e.symm)).trans h2⟩
theorem Ints.lb (h : Ints w g n) : Lb w g n := by
  obtain ⟨zs, T, h1, h2⟩ := h
  exact ⟨_, T, h2, by simp [h1]⟩
theorem Ints.free (h : Ints w g n) : ∀ i, w.frozen? ⟨g, i, none⟩ = false := h.lb.rules.2
theorem Ints.at_ (h : Ints w g n) {i : Nat} (hi : i < n) : ∃ a : Int, w.cell? ⟨g, i, none⟩ = some (.int .i64 a) := by
  obtain ⟨zs, T, h1, h2⟩ := h
  refine ⟨zs[i], ?_⟩
  simp [World.cell?, h2, h1, hi]
end
/-- Where a struct of n numbers is drawn into block g, to be handed out by block r. -/
structure DrawAt (w0 w : World) (rb r g n P : Nat) : Prop where
  own : Ints w g n
  res : Ints w r n
  rd : Rdp w rb P
  ch : Ch (· = rb) w0 w
end Go.Proofs.Ytdcjadgflenejaa

