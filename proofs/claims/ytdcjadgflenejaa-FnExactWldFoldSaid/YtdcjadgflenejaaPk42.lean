/-
  Texts joined: One.
-/
import Derived.Test.YtdcjadgflenejaaPk41
namespace Go.Proofs.Ytdcjadgflenejaa
set_option maxRecDepth 100000
set_option linter.unusedSimpArgs false
set_option linter.unusedVariables false
open Go.RowKit Go
set_option maxHeartbeats 400000

/-- Block b is as it was. -/
structure K1 (b : Nat) (w w' : World) : Prop where
  size : w.heap.size ≤ w'.heap.size
  block : b < w.heap.size → w'.heap[b]? = w.heap[b]?
section
variable {b g : Nat} {a w w' : World}
theorem oR (b : Nat) (w : World) : K1 b w w := ⟨Nat.le_refl _, fun _ => rfl⟩
theorem oA {o : Obj} (h : K1 b a w) : K1 b a (w.alloc o) := ⟨by simp; have := h.size; omega, fun hi => (Below.heap_alloc _ _ _ (Nat.lt_of_lt_of_le hi h.size)).trans (h.block hi)⟩
theorem oD (h : K1 b a w) : K1 b a w.drew := ⟨h.size, h.block⟩
theorem oN {n : Nat} (h : K1 b a w) : K1 b a (w.drewN n) := ⟨h.size, h.block⟩
theorem oS {p : Addr} {u : Value} (h : K1 b a w) (hp : b ≠ p.block) : K1 b a (w.setCell p u) := ⟨by simpa [World.setCell] using h.size, fun hi => (Below.heap_setCell _ _ _ _ hp).trans (h.block hi)⟩
theorem oE (hb : Ex w w') (h : K1 b a w) : K1 b a w' := ⟨Nat.le_trans h.size hb.size, fun hi => (hb.block b (Nat.lt_of_lt_of_le hi h.size) (fun h => h)).trans (h.block hi)⟩
theorem oC (hb : Ch (· = g) w w') (h : K1 b a w) (hg : b ≠ g) : K1 b a w' := ⟨Nat.le_trans h.size hb.size, fun hi => (hb.block b (Nat.lt_of_lt_of_le hi h.size) hg).trans (h.block hi)⟩
end
theorem one_ {p : Prop} (h : p := by with_reducible repeat (first | exact oR _ _ | apply oA | apply oD | apply oN | (refine oS ?_ (by first | omega | (simp only [zA, zC, zD, zN]; omega))) | (refine oC (by assumption) ?_ (by first | omega | (simp only [zA, zC, zD, zN]; omega))) | (apply oE; assumption))) : p := h
/-- Block g holds nothing. -/
def Nw (w : World) (g : Nat) (T : TypeId) : Prop := w.heap[g]? = some (.cells #[] T (0, 0))
section
variable {g k : Nat} {T : TypeId} {w w' : World}
theorem Nw.lt (h : Nw w g T) : g < w.heap.size := (Array.getElem?_eq_some_iff.1 h).1
theorem Nw.new (hg : g = w.heap.size) : Nw (w.alloc (.cells #[] T)) g T := by subst hg; exact heap_alloc_new w _
theorem Nw.alloc {o : Obj} (h : Nw w g T) : Nw (w.alloc o) g T := (Below.heap_alloc w o g h.lt).trans h
theorem Nw.drew (h : Nw w g T) : Nw w.drew g T := h
theorem Nw.drewN {n : Nat} (h : Nw w g T) : Nw (w.drewN n) g T := h
theorem Nw.set {p : Addr} {u : Value} (h : Nw w g T) (hp : g ≠ p.block) : Nw (w.setCell p u) g T := (Below.heap_setCell _ _ _ _ hp).trans h
theorem Nw.ex (hb : Ex w w') (h : Nw w g T) : Nw w' g T := (hb.block g h.lt (fun h => h)).trans h
theorem Nw.chg (hb : Ch (· = k) w w') (h : Nw w g T) (hk : g ≠ k) : Nw w' g T := (hb.block g h.lt hk).trans h
theorem Nw.ow {α : Type} {enc : α → List Value} {sz lo : Nat} (h : Nw w g T) (hl : lo ≤ g) : Ow enc sz T w lo (some ⟨g, 0, none⟩) 0 0 [] := by
  refine ⟨rfl, by simp, .inr ⟨g, 0, #[], rfl, hl, h, Nat.le_refl _, Nat.zero_le _, by simp, by simp⟩⟩
end
theorem nw_ {p : Prop} (h : p := by with_reducible repeat (first | assumption | (refine Nw.new (by first | rfl | (simp only [zA, zC, zD, zN]; done) | omega)) | apply Nw.alloc | apply Nw.drew | apply Nw.drewN | (refine Nw.set ?_ (by first | omega | (simp only [zA, zC, zD, zN]; omega))) | (refine Nw.chg (by assumption) ?_ (by first | omega | (simp only [zA, zC, zD, zN]; omega))) | (refine Nw.ex (by assumption) ?_))) : p := h
theorem Ch.eqA {g : Nat} {o : Nat} {s : Option Nat} {w w' : World} (h : Ch (atA (some ⟨g, o, s⟩)) w w') : Ch (· = g) w w' := h.mono fun i _ ⟨a, ha, e⟩ => by cases ha; exact e
theorem hatN {A : Option Addr} {g o k : Nat} {s : Option Nat} (h : ∀ b, A = some b → some (⟨g, o, s⟩ : Addr) = some b ∨ k ≤ b.block) : ∀ b, A = some b → g = b.block ∨ k ≤ b.block :=
  fun b hb => (h b hb).imp (fun e => by cases e; rfl) id
theorem hatZ {A : Option Addr} {k : Nat} (h : ∀ b, A = some b → (none : Option Addr) = some b ∨ k ≤ b.block) : ∀ b, A = some b → k ≤ b.block :=
  fun b hb => (h b hb).elim (fun e => by cases e) id
/-- Marks for a copy's first pieces. -/
def tauW (F I : Option Addr) (lM uM : Nat) (τM : Nat → Nat) : Nat → Nat := fun b => if F.map (·.block) = some b then 6 else if I.map (·.block) = some b then 7 else if lM ≤ b ∧ b < uM then τM b else 0
section
variable {α : Type} {enc : α → List Value} {sz : Nat} {e : TypeId} {τ τ' τM fd fp : Nat → Nat} {t : Nat} {w w' wx wF wM wI W1 W2 W3 : World} {l lF lM lI lo c n g : Nat} {A F I : Option Addr} {xs : List α} {Fc Fn Ic In : Nat} {fs : List Int} {ls : List Sw.Req}
theorem OwT.retagR (h : OwT enc sz e τ t w lo A c n xs) (ht : ∀ b, lo ≤ b → b < w.heap.size → τ' b = τ b) : OwT enc sz e τ' t w lo A c n xs :=
  ⟨h.ow, fun a ha => (ht _ (h.ow.blk ha).1 (h.ow.blk ha).2).trans (h.tag a ha)⟩
theorem OwM.retagR {aL : Option Addr} {aLc aLn : Nat} {aP : Option Addr} {aPc aPn : Nat} {aD : Option Addr} {aDc aDn : Nat} {aN : Option Addr} {aNc aNn : Nat} {aS : Option Addr} {aSc aSn : Nat} {m : Sw.Mkt} (h : OwM τ w lo aL aLc aLn aP aPc aPn aD aDc aDn aN aNc aNn aS aSc aSn m) (ht : ∀ b, lo ≤ b → b < w.heap.size → τ' b = τ b) : OwM τ' w lo aL aLc aLn aP aPc aPn aD aDc aDn aN aNc aNn aS aSc aSn m := ⟨h.1.retagR ht, h.2.retagR ht, h.3.retagR ht, h.4.retagR ht, h.5.retagR ht⟩
theorem OwT.retag' {k : Nat} (h : OwT enc sz e τ t w lo A c n xs) (ht : ∀ b, b < k → τ' b = τ b) (hk : ∀ a, A = some a → a.block < k) : OwT enc sz e τ' t w lo A c n xs := ⟨h.ow, fun a ha => (ht _ (hk a ha)).trans (h.tag a ha)⟩
theorem OwM.mid {aL : Option Addr} {aLc aLn : Nat} {aP : Option Addr} {aPc aPn : Nat} {aD : Option Addr} {aDc aDn : Nat} {aN : Option Addr} {aNc aNn : Nat} {aS : Option Addr} {aSc aSn : Nat} {m : Sw.Mkt} (h : OwM τ w lo aL aLc aLn aP aPc aPn aD aDc aDn aN aNc aNn aS aSc aSn m) : OwM (mid lo w.heap.size τ) w lo aL aLc aLn aP aPc aPn aD aDc aDn aN aNc aNn aS aSc aSn m := h.retagR fun b h1 h2 => by unfold Go.Proofs.Ytdcjadgflenejaa.mid glue; rw [if_pos h2, if_neg (by omega)]
/-- A copy's box, and its first pieces. -/
structure CopyB (wx : World) (l g : Nat) (F : Option Addr) (Fc Fn : Nat) (aL : Option Addr) (aLc aLn : Nat) (aP : Option Addr) (aPc aPn : Nat) (aD : Option Addr) (aDc aDn : Nat) (aN : Option Addr) (aNc aNn : Nat) (aS : Option Addr) (aSc aSn : Nat) (I : Option Addr) (Ic In : Nat) (τ : Nat → Nat) (fs : List Int) (m : Sw.Mkt) (ls : List Sw.Req) : Prop where
  c0 : wx.cell? ⟨g, 0, none⟩ = some (.slice F Fn Fc)
  mkt : MktAt wx g 1 aL aLc aLn aP aPc aPn aD aDc aDn aN aNc aNn aS aSc aSn m.clock
  c7 : wx.cell? ⟨g, 7, none⟩ = some (.slice I In Ic)
  c8 : wx.cell? ⟨g, 8, none⟩ = some (.slice none 0 0)
  c9 : wx.cell? ⟨g, 9, none⟩ = some (.slice none 0 0)
  lb : Lb wx g 10
  first : OwTI τ 6 wx l F Fc Fn fs
  ow : OwM τ wx l aL aLc aLn aP aPc aPn aD aDc aDn aN aNc aNn aS aSc aSn m
  lines : OwTQ τ 7 wx l I Ic In ls
  gz : τ g = 0
  le : l ≤ g
theorem CopyB.of {aL : Option Addr} {aLc aLn : Nat} {aP : Option Addr} {aPc aPn : Nat} {aD : Option Addr} {aDc aDn : Nat} {aN : Option Addr} {aNc aNn : Nat} {aS : Option Addr} {aSc aSn : Nat} {m : Sw.Mkt} (hF : OwI wF lF F Fc Fn fs) (hM : OwM τM wM lM aL aLc aLn aP aPc aPn aD aDc aDn aN aNc aNn aS aSc aSn m) (hI : OwQ wI lI I Ic In ls) (kF : ∀ a, F = some a → K1 a.block wF wx) (kM : KF lM wM wx) (kI : ∀ a, I = some a → K1 a.block wI wx)
    (dFI : ∀ a b, F = some a → I = some b → a.block ≠ b.block) (dF : ∀ a, F = some a → a.block < lM ∨ wM.heap.size ≤ a.block) (dI : ∀ a, I = some a → a.block < lM ∨ wM.heap.size ≤ a.block)
    (gF : ∀ a, F = some a → a.block ≠ g) (gI : ∀ a, I = some a → a.block ≠ g) (gM : g < lM ∨ wM.heap.size ≤ g) (lF' : l ≤ lF) (lM' : l ≤ lM) (lI' : l ≤ lI) (lg : l ≤ g)
    (c0 : wx.cell? ⟨g, 0, none⟩ = some (.slice F Fn Fc)) (mkt : MktAt wx g 1 aL aLc aLn aP aPc aPn aD aDc aDn aN aNc aNn aS aSc aSn m.clock) (c7 : wx.cell? ⟨g, 7, none⟩ = some (.slice I In Ic)) (c8 : wx.cell? ⟨g, 8, none⟩ = some (.slice none 0 0)) (c9 : wx.cell? ⟨g, 9, none⟩ = some (.slice none 0 0)) (lb : Lb wx g 10) :
    CopyB wx l g F Fc Fn aL aLc aLn aP aPc aPn aD aDc aDn aN aNc aNn aS aSc aSn I Ic In (tauW F I lM wM.heap.size τM) fs m ls := by
  refine ⟨c0, mkt, c7, c8, c9, lb, ⟨(hF.less lF').keep_ fun a ha => (kF a ha).block (hF.blk ha).2, fun a ha => by simp [tauW, ha]⟩, ?_, ⟨(hI.less lI').keep_ fun a ha => (kI a ha).block (hI.blk ha).2, fun b hb => ?_⟩, ?_, lg⟩
  · refine ((hM.retagR (τ' := tauW F I lM wM.heap.size τM) fun b h1 h2 => ?_).keepF kM).less lM'
    unfold tauW
    rw [if_neg, if_neg, if_pos ⟨h1, h2⟩]
    · intro h
      obtain ⟨a, ha, e⟩ := Option.map_eq_some_iff.1 h
      have := dI a ha
      omega
    · intro h
      obtain ⟨a, ha, e⟩ := Option.map_eq_some_iff.1 h
      have := dF a ha
      omega
  · unfold tauW
    rw [if_neg, if_pos (by rw [hb]; rfl)]
    intro h
    obtain ⟨a, ha, e⟩ := Option.map_eq_some_iff.1 h
    exact dFI a b ha hb e
  · unfold tauW
    rw [if_neg, if_neg, if_neg (by omega)]
    · intro h
      obtain ⟨a, ha, e⟩ := Option.map_eq_some_iff.1 h
      exact gI a ha e
    · intro h
      obtain ⟨a, ha, e⟩ := Option.map_eq_some_iff.1 h
      exact gF a ha e
theorem OwT.chg (h : OwT enc sz e τ t w lo A c n xs) (hc : Ch (· = g) w w') (hg : τ g = 0) (ht : 1 ≤ t) : OwT enc sz e τ t w' lo A c n xs :=
  h.keep (KT.ch hc (KT.refl _ _ _ _) fun i hi => .inr (by rw [show i = g from hi, hg]; omega))
theorem OwM.chg {aL : Option Addr} {aLc aLn : Nat} {aP : Option Addr} {aPc aPn : Nat} {aD : Option Addr} {aDc aDn : Nat} {aN : Option Addr} {aNc aNn : Nat} {aS : Option Addr} {aSc aSn : Nat} {m : Sw.Mkt} (h : OwM τ w lo aL aLc aLn aP aPc aPn aD aDc aDn aN aNc aNn aS aSc aSn m) (hc : Ch (· = g) w w') (hg : τ g = 0) : OwM τ w' lo aL aLc aLn aP aPc aPn aD aDc aDn aN aNc aNn aS aSc aSn m :=
  h.keep fun t h1 _ => KT.ch hc (KT.refl _ _ _ _) fun i hi => .inr (by rw [show i = g from hi, hg]; omega)
end
end Go.Proofs.Ytdcjadgflenejaa

