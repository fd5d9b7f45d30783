/- Texts joined: WldB, One, GShowI. -/
import Derived.Test.YtnnoiagommiapaaGreatPy17
import Derived.Test.YtnnoiagommiapaaGreatPy25
import Derived.Test.YtnnoiagommiapaaGreatPy12
import Derived.Test.YtnnoiagommiapaaGreatPy23
set_option maxRecDepth 100000
set_option linter.unusedSimpArgs false
set_option linter.unusedVariables false
namespace Go.Proofs.YtnnoiagommiapaaGreat
open Go.RowKit Go
set_option maxHeartbeats 400000
section
variable {fd fp τ τ' : Nat → Nat} {wr w w' w1 w2 : World} {lo c k d m c1 n : Nat} {A B A1 : Option Addr}
theorem KT.retag {t : Nat} (h : KT τ t lo w w') (ht : ∀ b, b < w.heap.size → τ' b = τ b) : KT τ' t lo w w' :=
 ⟨h.size, fun b h1 h2 h3 => h.block b h1 h2 ((ht b h2).symm.trans h3)⟩
theorem KT.app {t s : Nat} (hb : Ex wr w1) (hc : Ch (atA A) w1 w2) (hs : ∀ a, A = some a → τ a.block = s) (hne : s ≠ t) : KT τ t lo wr w2 :=
 KT.ch hc (KT.ex hb (KT.refl _ _ _ _)) fun i ⟨a, ha, hi⟩ => .inr (by rw [hi, hs a ha]; exact hne)
theorem OwG.snoc {gs : List Sw.Gate} {vs : List GV} {g : Sw.Gate} (h1 : OwTG τ 8 wr lo A c k vs) (h2 : k = gs.length)
   (h3 : ∀ (j : Nat) (v : GV) (g : Sw.Gate), vs[j]? = some v → gs[j]? = some g → v.h = g.head ∧ OwTI τ (fd j) wr lo v.A v.c v.n g.done)
   (hb : Ex wr w1) (hd : OwI w1 wr.heap.size B d m g.done) (hlo : lo ≤ wr.heap.size) (ho : OwGV w2 lo A1 c1 (k + 1) (vs ++ [⟨g.head, B, d, m⟩])) (hc : Ch (atA A) w1 w2)
   (hat : ∀ b, A1 = some b → A = some b ∨ w1.heap.size ≤ b.block) (hfd : ∀ j, fd j ≠ 8) :
   OwG fd (glue (glue τ wr.heap.size (fun _ => fd k)) w1.heap.size (fun _ => 8)) w2 lo A1 c1 (k + 1) (gs ++ [g]) := by
 have hz := hb.size
 have t1 : ∀ b, b < wr.heap.size → glue (glue τ wr.heap.size (fun _ => fd k)) w1.heap.size (fun _ => 8) b = τ b := fun b hb => by unfold glue; rw [if_pos (by omega), if_pos hb]
 have t2 : ∀ b, wr.heap.size ≤ b → b < w1.heap.size → glue (glue τ wr.heap.size (fun _ => fd k)) w1.heap.size (fun _ => 8) b = fd k := fun b h1 h2 => by unfold glue; rw [if_pos h2, if_neg (by omega)]
 have hA : ∀ a, A = some a → glue (glue τ wr.heap.size (fun _ => fd k)) w1.heap.size (fun _ => 8) a.block = 8 := fun a ha => (t1 _ (h1.ow.blk ha).2).trans (h1.tag a ha)
 refine ⟨vs ++ [⟨g.head, B, d, m⟩], ⟨ho, fun a ha => ?_⟩, by simp [h2], fun j v y hv hy => ?_⟩
 · rcases hat a ha with h | h
   · exact hA a h
   · exact if_neg (by omega)
 · have hlv : vs.length = k := h1.ow.1.symm
   by_cases hj : j < k
   · rw [List.getElem?_append_left (by omega)] at hv hy
     obtain ⟨e, hr⟩ := h3 j v y hv hy
     exact ⟨e, (hr.retag t1).keep (KT.app hb hc hA (Ne.symm (hfd j)))⟩
   · have hjk : j = k := by
       have := (List.getElem?_eq_some_iff.1 hv).1
       simp at this; omega
     subst hjk
     rw [List.getElem?_append_right (by omega), hlv, Nat.sub_self] at hv
     rw [List.getElem?_append_right (by omega), ← h2, Nat.sub_self] at hy
     cases hv; cases hy
     refine ⟨rfl, ⟨(hd.less hlo).keep_ fun a ha => ?_, fun a ha => t2 _ (hd.blk ha).1 (hd.blk ha).2⟩⟩
     refine hc.block _ (hd.blk ha).2 fun ⟨b, hb', e⟩ => ?_
     have := (h1.ow.blk hb').2
     have := (hd.blk ha).1
     omega
theorem OwX.snoc {gs : List Sw.Msg} {vs : List XV} {g : Sw.Msg} (h1 : OwTX τ 9 wr lo A c k vs) (h2 : k = gs.length)
   (h3 : ∀ (j : Nat) (v : XV) (g : Sw.Msg), vs[j]? = some v → gs[j]? = some g → v.g = g.gate ∧ v.h = g.head ∧ OwTI τ (fp j) wr lo v.A v.c v.n g.proof)
   (hb : Ex wr w1) (hd : OwI w1 wr.heap.size B d m g.proof) (hlo : lo ≤ wr.heap.size) (ho : OwXV w2 lo A1 c1 (k + 1) (vs ++ [⟨g.gate, g.head, B, d, m⟩])) (hc : Ch (atA A) w1 w2)
   (hat : ∀ b, A1 = some b → A = some b ∨ w1.heap.size ≤ b.block) (hfd : ∀ j, fp j ≠ 9) :
   OwX fp (glue (glue τ wr.heap.size (fun _ => fp k)) w1.heap.size (fun _ => 9)) w2 lo A1 c1 (k + 1) (gs ++ [g]) := by
 have hz := hb.size
 have t1 : ∀ b, b < wr.heap.size → glue (glue τ wr.heap.size (fun _ => fp k)) w1.heap.size (fun _ => 9) b = τ b := fun b hb => by unfold glue; rw [if_pos (by omega), if_pos hb]
 have t2 : ∀ b, wr.heap.size ≤ b → b < w1.heap.size → glue (glue τ wr.heap.size (fun _ => fp k)) w1.heap.size (fun _ => 9) b = fp k := fun b h1 h2 => by unfold glue; rw [if_pos h2, if_neg (by omega)]
 have hA : ∀ a, A = some a → glue (glue τ wr.heap.size (fun _ => fp k)) w1.heap.size (fun _ => 9) a.block = 9 := fun a ha => (t1 _ (h1.ow.blk ha).2).trans (h1.tag a ha)
 refine ⟨vs ++ [⟨g.gate, g.head, B, d, m⟩], ⟨ho, fun a ha => ?_⟩, by simp [h2], fun j v y hv hy => ?_⟩
 · rcases hat a ha with h | h
   · exact hA a h
   · exact if_neg (by omega)
 · have hlv : vs.length = k := h1.ow.1.symm
   by_cases hj : j < k
   · rw [List.getElem?_append_left (by omega)] at hv hy
     obtain ⟨e0, e, hr⟩ := h3 j v y hv hy
     exact ⟨e0, e, (hr.retag t1).keep (KT.app hb hc hA (Ne.symm (hfd j)))⟩
   · have hjk : j = k := by
       have := (List.getElem?_eq_some_iff.1 hv).1
       simp at this; omega
     subst hjk
     rw [List.getElem?_append_right (by omega), hlv, Nat.sub_self] at hv
     rw [List.getElem?_append_right (by omega), ← h2, Nat.sub_self] at hy
     cases hv; cases hy
     refine ⟨rfl, rfl, ⟨(hd.less hlo).keep_ fun a ha => ?_, fun a ha => t2 _ (hd.blk ha).1 (hd.blk ha).2⟩⟩
     refine hc.block _ (hd.blk ha).2 fun ⟨b, hb', e⟩ => ?_
     have := (h1.ow.blk hb').2
     have := (hd.blk ha).1
     omega
def SA (lo : Nat) (τ : Nat → Nat) : Nat → Prop := fun b => lo ≤ b ∧ 1 ≤ τ b ∧ τ b ≤ 7 ∧ τ b ≠ 6
theorem KT.sa {t : Nat} (h : Ch (SA lo τ) w w') (ht : t = 6 ∨ 8 ≤ t) : KT τ t lo w w' :=
 ⟨h.size, fun b h1 h2 h3 => h.block b h2 fun ⟨_, _, h4, h5⟩ => by omega⟩
def UpF (lo : Nat) : Nat → Prop := fun b => lo ≤ b
theorem Ch.up {S : Nat → Prop} (h : Ch S w w') (hS : ∀ b, S b → lo ≤ b) : Ch (UpF lo) w w' := h.mono fun i _ hi => hS i hi
theorem fdS_ne (j : Nat) : fdS j ≠ 8 := by unfold fdS; omega
theorem fpS_ne (j : Nat) : fpS j ≠ 9 := by unfold fpS; omega
theorem fdS_le (j : Nat) : 8 ≤ fdS j := by unfold fdS; omega
theorem fpS_le (j : Nat) : 8 ≤ fpS j := by unfold fpS; omega
theorem RX.erase {xs : List Sw.Msg} {vs : List XV} {i : Nat} {N : Nat} (h2 : n = xs.length) (h1 : n = vs.length)
   (h3 : ∀ (k : Nat) (v : XV) (x : Sw.Msg), vs[k]? = some v → xs[k]? = some x → v.g = x.gate ∧ v.h = x.head ∧ RI w lo v.A v.c v.n x.proof)
   (ho : Rs XV.enc 5 w lo A c N (vs.take i ++ vs.drop (i + 1))) (hi : i < n) (hN : N = n - 1) : RX w lo A c N (xs.eraseIdx i) := by
 rw [← List.eraseIdx_eq_take_drop_succ] at ho
 refine ⟨_, ho, by rw [List.length_eraseIdx, if_pos (by omega)]; omega, fun k v x hv hx => ?_⟩
 rw [List.getElem?_eraseIdx] at hv hx
 split at hv
 · rw [if_pos (by assumption)] at hx; exact h3 _ v x hv hx
 · rw [if_neg (by assumption)] at hx; exact h3 _ v x hv hx
end
section
variable {α : Type} {enc : α → List Value} {sz : Nat} {e : TypeId} {τ τ' : Nat → Nat} {t : Nat} {w w' : World} {lo c n g0 g1 : Nat} {A B : Option Addr} {xs : List α}
theorem OwT.box (h : OwT enc sz e τ t w lo A c n xs) (hx : Ch (BX g0 g1) w w') (h0 : ∀ b, g0 ≤ b → b < g1 → τ b = 0) (ht : 1 ≤ t) : OwT enc sz e τ t w' lo A c n xs :=
 h.keep (KT.ch hx (KT.refl _ _ _ _) fun i hi => .inr (by rw [h0 i hi.1 hi.2]; omega))
theorem OwT.sm (h : OwT enc sz e τ t w lo A c n xs) (hc : Ch (SM lo τ) w w') (ht : 6 ≤ t) (hτ : ∀ b, b < w.heap.size → τ' b = τ b) : OwT enc sz e τ' t w' lo A c n xs :=
 (h.retag hτ).keep ⟨hc.size, fun b h1 h2 h3 => hc.block b h2 fun ⟨_, _, h5⟩ => by have := hτ b h2; omega⟩
theorem OwM.app {aL : Option Addr} {aLc aLn : Nat} {aP : Option Addr} {aPc aPn : Nat} {aD : Option Addr} {aDc aDn : Nat} {aN : Option Addr} {aNc aNn : Nat} {aS : Option Addr} {aSc aSn : Nat} {m : Sw.Mkt} {s : Nat} (h : OwM τ w lo aL aLc aLn aP aPc aPn aD aDc aDn aN aNc aNn aS aSc aSn m) (hc : Ch (atA A) w w') (hs : ∀ a, A = some a → τ a.block = s) (h6 : 6 ≤ s) (hA : ∀ a, A = some a → a.block < w.heap.size) : OwM (glue τ w.heap.size τ') w' lo aL aLc aLn aP aPc aPn aD aDc aDn aN aNc aNn aS aSc aSn m :=
 (h.glueL (Nat.le_refl _)).keep fun t h1 h5 => KT.ch hc (KT.refl _ _ _ _) fun i ⟨a, ha, hi⟩ => .inr (by rw [hi, glue, if_pos (hA a ha), hs a ha]; omega)
theorem Ch.smRules {lo k B : Nat} {τ : Nat → Nat} {w w' : World} (h : Ch (SM lo (glue τ k (fun _ => 0))) w w') (hB : w.heap.size = B) (hl : lo ≤ B) :
   (∀ b o, ¬ ((⟨b, 0, none⟩ : Addr) = ⟨b - lo + lo, 0, none⟩) → w'.cell? ⟨b, o, none⟩ = w.cell? ⟨b, o, none⟩) ∧ (∀ b o, ¬ ((⟨b, 0, none⟩ : Addr) = ⟨b - lo + lo, 0, none⟩) → w'.frozen? ⟨b, o, none⟩ = w.frozen? ⟨b, o, none⟩) ∧
   (∀ b o, ((⟨b, 0, none⟩ : Addr) = ⟨b - k + k, 0, none⟩) → ¬ ((⟨b, 0, none⟩ : Addr) = ⟨b - B + B, 0, none⟩) → w'.cell? ⟨b, o, none⟩ = w.cell? ⟨b, o, none⟩) ∧
   (∀ b o, ((⟨b, 0, none⟩ : Addr) = ⟨b - k + k, 0, none⟩) → ¬ ((⟨b, 0, none⟩ : Addr) = ⟨b - B + B, 0, none⟩) → w'.frozen? ⟨b, o, none⟩ = w.frozen? ⟨b, o, none⟩) ∧ B ≤ w'.heap.size := by
 subst hB
 have l1 : ∀ b, b < lo → w'.heap[b]? = w.heap[b]? := fun b hb => h.block b (by omega) fun h => absurd h.1 (by omega)
 have l2 : ∀ b, ((⟨b, 0, none⟩ : Addr) = ⟨b - k + k, 0, none⟩) → ¬ ((⟨b, 0, none⟩ : Addr) = ⟨b - w.heap.size + w.heap.size, 0, none⟩) → w'.heap[b]? = w.heap[b]? := fun b h1 h2 => by
   have h1 : b = b - k + k := congrArg Addr.block h1
   refine h.block b (lt_of_addr h2) fun ⟨_, h3, _⟩ => ?_
   rw [glue, if_neg (by omega)] at h3
   exact absurd h3 (by decide)
 exact ⟨(low_rules l1).1, (low_rules l1).2, fun b o h1 h2 => World.cell?_of_block (w := w) (a := ⟨b, o, none⟩) (l2 b h1 h2), fun b o h1 h2 => World.frozen?_of_block (w := w) (a := ⟨b, o, none⟩) (l2 b h1 h2), h.size⟩
theorem OwM.zeros {τ : Nat → Nat} {w w' : World} {lo : Nat} {aL : Option Addr} {aLc aLn : Nat} {aP : Option Addr} {aPc aPn : Nat} {aD : Option Addr} {aDc aDn : Nat} {aN : Option Addr} {aNc aNn : Nat} {aS : Option Addr} {aSc aSn : Nat} {m : Sw.Mkt} (h : OwM τ w lo aL aLc aLn aP aPc aPn aD aDc aDn aN aNc aNn aS aSc aSn m) (hc : Ch (fun b => τ b = 0) w w') : OwM τ w' lo aL aLc aLn aP aPc aPn aD aDc aDn aN aNc aNn aS aSc aSn m :=
 h.keep fun t h1 _ => KT.ch hc (KT.refl _ _ _ _) fun i hi => .inr (by rw [show τ i = 0 from hi]; omega)
theorem OwT.zeros {α : Type} {enc : α → List Value} {sz : Nat} {e : TypeId} {τ : Nat → Nat} {t : Nat} {w w' : World} {lo c n : Nat} {A : Option Addr} {xs : List α} (h : OwT enc sz e τ t w lo A c n xs) (hc : Ch (fun b => τ b = 0) w w') (ht : 1 ≤ t) : OwT enc sz e τ t w' lo A c n xs :=
 h.keep (KT.ch hc (KT.refl _ _ _ _) fun i hi => .inr (by rw [show τ i = 0 from hi]; omega))
def mid (lo k : Nat) (τ : Nat → Nat) : Nat → Nat := glue (glue (fun _ => 0) lo τ) k (fun _ => 0)
theorem cZ {τ τd : Nat → Nat} {B lo k : Nat} {a w : World} {p : Addr} {u : Value} (hτ : ∀ b, b < B → τ b = mid lo k τd b) (h : Ch (fun b => τ b = 0) a w) (h1 : p.block < B) (h2 : p.block < lo ∨ k ≤ p.block) : Ch (fun b => τ b = 0) a (w.setCell p u) :=
 h.setCell (.inl (by
   show τ p.block = 0
   rw [hτ _ h1]
   unfold mid glue
   split
   · rw [if_pos (by omega)]
   · rfl)) u
end
end Go.Proofs.YtnnoiagommiapaaGreat
namespace Go.Proofs.YtnnoiagommiapaaGreat
open Go.RowKit Go
set_option maxHeartbeats 400000
structure K1 (b : Nat) (w w' : World) : Prop where
 size : w.heap.size ≤ w'.heap.size
 block : b < w.heap.size → w'.heap[b]? = w.heap[b]?
section
variable {b g : Nat} {a w w' : World}
theorem oR (b : Nat) (w : World) : K1 b w w := ⟨Nat.le_refl _, fun _ => rfl⟩
theorem oA {o : Obj} (h : K1 b a w) : K1 b a (w.alloc o) := ⟨by simp; have := h.size; omega, fun hi => (Below.heap_alloc _ _ _ (Nat.lt_of_lt_of_le hi h.size)).trans (h.block hi)⟩
theorem oD (h : K1 b a w) : K1 b a w.drew := ⟨h.size, h.block⟩
theorem oN {n : Nat} (h : K1 b a w) : K1 b a (w.drewN n) := ⟨h.size, h.block⟩
theorem oS {p : Addr} {u : Value} (h : K1 b a w) (hp : b ≠ p.block) : K1 b a (w.setCell p u) := ⟨by simpa [World.setCell] using h.size, fun hi => (Below.heap_setCell _ _ _ _ hp).trans (h.block hi)⟩
theorem oE (hb : Ex w w') (h : K1 b a w) : K1 b a w' := ⟨Nat.le_trans h.size hb.size, fun hi => (hb.block b (Nat.lt_of_lt_of_le hi h.size) (fun h => h)).trans (h.block hi)⟩
theorem oC (hb : Ch (· = g) w w') (h : K1 b a w) (hg : b ≠ g) : K1 b a w' := ⟨Nat.le_trans h.size hb.size, fun hi => (hb.block b (Nat.lt_of_lt_of_le hi h.size) hg).trans (h.block hi)⟩
end
theorem one_ {p : Prop} (h : p := by with_reducible repeat (first | exact oR _ _ | apply oA | apply oD | apply oN | (refine oS ?_ (by first | omega | (simp only [zq_]; omega))) | (refine oC (by assumption) ?_ (by first | omega | (simp only [zq_]; omega))) | (apply oE; assumption))) : p := h
def Nw (w : World) (g : Nat) (T : TypeId) : Prop := w.heap[g]? = some (.cells #[] T (0, 0))
section
variable {g k : Nat} {T : TypeId} {w w' : World}
theorem Nw.lt (h : Nw w g T) : g < w.heap.size := (Array.getElem?_eq_some_iff.1 h).1
theorem Nw.new (hg : g = w.heap.size) : Nw (w.alloc (.cells #[] T)) g T := by subst hg; exact heap_alloc_new w _
theorem Nw.alloc {o : Obj} (h : Nw w g T) : Nw (w.alloc o) g T := (Below.heap_alloc w o g h.lt).trans h
theorem Nw.drew (h : Nw w g T) : Nw w.drew g T := h
theorem Nw.drewN {n : Nat} (h : Nw w g T) : Nw (w.drewN n) g T := h
theorem Nw.set {p : Addr} {u : Value} (h : Nw w g T) (hp : g ≠ p.block) : Nw (w.setCell p u) g T := (Below.heap_setCell _ _ _ _ hp).trans h
theorem Nw.ex (hb : Ex w w') (h : Nw w g T) : Nw w' g T := (hb.block g h.lt (fun h => h)).trans h
theorem Nw.chg (hb : Ch (· = k) w w') (h : Nw w g T) (hk : g ≠ k) : Nw w' g T := (hb.block g h.lt hk).trans h
theorem Nw.ow {α : Type} {enc : α → List Value} {sz lo : Nat} (h : Nw w g T) (hl : lo ≤ g) : Ow enc sz T w lo (some ⟨g, 0, none⟩) 0 0 [] := by
 refine ⟨rfl, by simp, .inr ⟨g, 0, #[], rfl, hl, h, Nat.le_refl _, Nat.zero_le _, by simp, by simp⟩⟩
end
theorem nw_ {p : Prop} (h : p := by with_reducible repeat (first | assumption | (refine Nw.new (by first | rfl | (simp only [zq_]; done) | omega)) | apply Nw.alloc | apply Nw.drew | apply Nw.drewN | (refine Nw.set ?_ (by first | omega | (simp only [zq_]; omega))) | (refine Nw.chg (by assumption) ?_ (by first | omega | (simp only [zq_]; omega))) | (refine Nw.ex (by assumption) ?_))) : p := h
theorem Ch.eqA {g : Nat} {o : Nat} {s : Option Nat} {w w' : World} (h : Ch (atA (some ⟨g, o, s⟩)) w w') : Ch (· = g) w w' := h.mono fun i _ ⟨a, ha, e⟩ => by cases ha; exact e
theorem hatN {A : Option Addr} {g o k : Nat} {s : Option Nat} (h : ∀ b, A = some b → some (⟨g, o, s⟩ : Addr) = some b ∨ k ≤ b.block) : ∀ b, A = some b → g = b.block ∨ k ≤ b.block :=
 fun b hb => (h b hb).imp (fun e => by cases e; rfl) id
def tauW (F I : Option Addr) (lM uM : Nat) (τM : Nat → Nat) : Nat → Nat := fun b => if F.map (·.block) = some b then 6 else if I.map (·.block) = some b then 7 else if lM ≤ b ∧ b < uM then τM b else 0
section
variable {α : Type} {enc : α → List Value} {sz : Nat} {e : TypeId} {τ τ' τM fd fp : Nat → Nat} {t : Nat} {w w' wx wF wM wI W1 W2 W3 : World} {l lF lM lI lo c n g : Nat} {A F I : Option Addr} {xs : List α} {Fc Fn Ic In : Nat} {fs : List Int} {ls : List Sw.Req}
theorem OwT.retagR (h : OwT enc sz e τ t w lo A c n xs) (ht : ∀ b, lo ≤ b → b < w.heap.size → τ' b = τ b) : OwT enc sz e τ' t w lo A c n xs :=
 ⟨h.ow, fun a ha => (ht _ (h.ow.blk ha).1 (h.ow.blk ha).2).trans (h.tag a ha)⟩
theorem OwM.retagR {aL : Option Addr} {aLc aLn : Nat} {aP : Option Addr} {aPc aPn : Nat} {aD : Option Addr} {aDc aDn : Nat} {aN : Option Addr} {aNc aNn : Nat} {aS : Option Addr} {aSc aSn : Nat} {m : Sw.Mkt} (h : OwM τ w lo aL aLc aLn aP aPc aPn aD aDc aDn aN aNc aNn aS aSc aSn m) (ht : ∀ b, lo ≤ b → b < w.heap.size → τ' b = τ b) : OwM τ' w lo aL aLc aLn aP aPc aPn aD aDc aDn aN aNc aNn aS aSc aSn m := ⟨h.1.retagR ht, h.2.retagR ht, h.3.retagR ht, h.4.retagR ht, h.5.retagR ht⟩
theorem OwT.retag' {k : Nat} (h : OwT enc sz e τ t w lo A c n xs) (ht : ∀ b, b < k → τ' b = τ b) (hk : ∀ a, A = some a → a.block < k) : OwT enc sz e τ' t w lo A c n xs := ⟨h.ow, fun a ha => (ht _ (hk a ha)).trans (h.tag a ha)⟩
theorem OwM.mid {aL : Option Addr} {aLc aLn : Nat} {aP : Option Addr} {aPc aPn : Nat} {aD : Option Addr} {aDc aDn : Nat} {aN : Option Addr} {aNc aNn : Nat} {aS : Option Addr} {aSc aSn : Nat} {m : Sw.Mkt} (h : OwM τ w lo aL aLc aLn aP aPc aPn aD aDc aDn aN aNc aNn aS aSc aSn m) : OwM (mid lo w.heap.size τ) w lo aL aLc aLn aP aPc aPn aD aDc aDn aN aNc aNn aS aSc aSn m := h.retagR fun b h1 h2 => by unfold Go.Proofs.YtnnoiagommiapaaGreat.mid glue; rw [if_pos h2, if_neg (by omega)]
structure CopyB (wx : World) (l g : Nat) (F : Option Addr) (Fc Fn : Nat) (aL : Option Addr) (aLc aLn : Nat) (aP : Option Addr) (aPc aPn : Nat) (aD : Option Addr) (aDc aDn : Nat) (aN : Option Addr) (aNc aNn : Nat) (aS : Option Addr) (aSc aSn : Nat) (I : Option Addr) (Ic In : Nat) (τ : Nat → Nat) (fs : List Int) (m : Sw.Mkt) (ls : List Sw.Req) : Prop where
 c0 : wx.cell? ⟨g, 0, none⟩ = some (.slice F Fn Fc)
 mkt : MktAt wx g 1 aL aLc aLn aP aPc aPn aD aDc aDn aN aNc aNn aS aSc aSn m.clock
 c7 : wx.cell? ⟨g, 7, none⟩ = some (.slice I In Ic)
 c8 : wx.cell? ⟨g, 8, none⟩ = some (.slice none 0 0)
 c9 : wx.cell? ⟨g, 9, none⟩ = some (.slice none 0 0)
 lb : Lb wx g 10
 first : OwTI τ 6 wx l F Fc Fn fs
 ow : OwM τ wx l aL aLc aLn aP aPc aPn aD aDc aDn aN aNc aNn aS aSc aSn m
 lines : OwTQ τ 7 wx l I Ic In ls
 gz : τ g = 0
 le : l ≤ g
theorem CopyB.of {aL : Option Addr} {aLc aLn : Nat} {aP : Option Addr} {aPc aPn : Nat} {aD : Option Addr} {aDc aDn : Nat} {aN : Option Addr} {aNc aNn : Nat} {aS : Option Addr} {aSc aSn : Nat} {m : Sw.Mkt} (hF : OwI wF lF F Fc Fn fs) (hM : OwM τM wM lM aL aLc aLn aP aPc aPn aD aDc aDn aN aNc aNn aS aSc aSn m) (hI : OwQ wI lI I Ic In ls) (kF : ∀ a, F = some a → K1 a.block wF wx) (kM : KF lM wM wx) (kI : ∀ a, I = some a → K1 a.block wI wx)
   (dFI : ∀ a b, F = some a → I = some b → a.block ≠ b.block) (dF : ∀ a, F = some a → a.block < lM ∨ wM.heap.size ≤ a.block) (dI : ∀ a, I = some a → a.block < lM ∨ wM.heap.size ≤ a.block)
   (gF : ∀ a, F = some a → a.block ≠ g) (gI : ∀ a, I = some a → a.block ≠ g) (gM : g < lM ∨ wM.heap.size ≤ g) (lF' : l ≤ lF) (lM' : l ≤ lM) (lI' : l ≤ lI) (lg : l ≤ g)
   (c0 : wx.cell? ⟨g, 0, none⟩ = some (.slice F Fn Fc)) (mkt : MktAt wx g 1 aL aLc aLn aP aPc aPn aD aDc aDn aN aNc aNn aS aSc aSn m.clock) (c7 : wx.cell? ⟨g, 7, none⟩ = some (.slice I In Ic)) (c8 : wx.cell? ⟨g, 8, none⟩ = some (.slice none 0 0)) (c9 : wx.cell? ⟨g, 9, none⟩ = some (.slice none 0 0)) (lb : Lb wx g 10) :
   CopyB wx l g F Fc Fn aL aLc aLn aP aPc aPn aD aDc aDn aN aNc aNn aS aSc aSn I Ic In (tauW F I lM wM.heap.size τM) fs m ls := by
 refine ⟨c0, mkt, c7, c8, c9, lb, ⟨(hF.less lF').keep_ fun a ha => (kF a ha).block (hF.blk ha).2, fun a ha => by simp [tauW, ha]⟩, ?_, ⟨(hI.less lI').keep_ fun a ha => (kI a ha).block (hI.blk ha).2, fun b hb => ?_⟩, ?_, lg⟩
 · refine ((hM.retagR (τ' := tauW F I lM wM.heap.size τM) fun b h1 h2 => ?_).keepF kM).less lM'
   unfold tauW
   rw [if_neg, if_neg, if_pos ⟨h1, h2⟩]
   · intro h
     obtain ⟨a, ha, e⟩ := Option.map_eq_some_iff.1 h
     have := dI a ha
     omega
   · intro h
     obtain ⟨a, ha, e⟩ := Option.map_eq_some_iff.1 h
     have := dF a ha
     omega
 · unfold tauW
   rw [if_neg, if_pos (by rw [hb]; rfl)]
   intro h
   obtain ⟨a, ha, e⟩ := Option.map_eq_some_iff.1 h
   exact dFI a b ha hb e
 · unfold tauW
   rw [if_neg, if_neg, if_neg (by omega)]
   · intro h
     obtain ⟨a, ha, e⟩ := Option.map_eq_some_iff.1 h
     exact gI a ha e
   · intro h
     obtain ⟨a, ha, e⟩ := Option.map_eq_some_iff.1 h
     exact gF a ha e
theorem OwT.chg (h : OwT enc sz e τ t w lo A c n xs) (hc : Ch (· = g) w w') (hg : τ g = 0) (ht : 1 ≤ t) : OwT enc sz e τ t w' lo A c n xs :=
 h.keep (KT.ch hc (KT.refl _ _ _ _) fun i hi => .inr (by rw [show i = g from hi, hg]; omega))
theorem OwM.chg {aL : Option Addr} {aLc aLn : Nat} {aP : Option Addr} {aPc aPn : Nat} {aD : Option Addr} {aDc aDn : Nat} {aN : Option Addr} {aNc aNn : Nat} {aS : Option Addr} {aSc aSn : Nat} {m : Sw.Mkt} (h : OwM τ w lo aL aLc aLn aP aPc aPn aD aDc aDn aN aNc aNn aS aSc aSn m) (hc : Ch (· = g) w w') (hg : τ g = 0) : OwM τ w' lo aL aLc aLn aP aPc aPn aD aDc aDn aN aNc aNn aS aSc aSn m :=
 h.keep fun t h1 _ => KT.ch hc (KT.refl _ _ _ _) fun i hi => .inr (by rw [show i = g from hi, hg]; omega)
theorem OwW.of3 {τ1 τ2 τ3 : Nat → Nat} {aF : Option Addr} {aFc aFn : Nat} {aL : Option Addr} {aLc aLn : Nat} {aP : Option Addr} {aPc aPn : Nat} {aD : Option Addr} {aDc aDn : Nat} {aN : Option Addr} {aNc aNn : Nat} {aS : Option Addr} {aSc aSn : Nat} {aI : Option Addr} {aIc aIn : Nat} {aG : Option Addr} {aGc aGn : Nat} {aB : Option Addr} {aBc aBn : Nat} {x : Sw.World} (h1 : OwTI τ1 6 W1 lo aF aFc aFn x.first) (h2 : OwM τ1 W1 lo aL aLc aLn aP aPc aPn aD aDc aDn aN aNc aNn aS aSc aSn x.market) (h3 : OwTQ τ1 7 W1 lo aI aIc aIn x.lines) (hg : τ1 g = 0)
   (h4 : OwG fd τ2 W2 W1.heap.size aG aGc aGn x.gates) (h5 : OwX fp τ3 W3 W2.heap.size aB aBc aBn x.bag) (c12 : Ch (· = g) W1 W2) (c23 : Ch (· = g) W2 W3) (hlt : g < W1.heap.size) (hlo : lo ≤ W1.heap.size) :
   OwW fd fp (glue (glue τ1 W1.heap.size τ2) W2.heap.size τ3) W3 lo aF aFc aFn aL aLc aLn aP aPc aPn aD aDc aDn aN aNc aNn aS aSc aSn aI aIc aIn aG aGc aGn aB aBc aBn x := by
 have z12 := c12.size
 have z23 := c23.size
 have c13 := c12.trans c23
 have e : ∀ b, b < W1.heap.size → glue (glue τ1 W1.heap.size τ2) W2.heap.size τ3 b = τ1 b := fun b hb => (if_pos (by omega)).trans (if_pos hb)
 have k23 : KF W1.heap.size W2 W3 := ⟨z23, fun b h1 h2 => c23.block b h2 (by omega)⟩
 refine ⟨(h1.chg c13 hg (by decide)).retag' e (fun a ha => (h1.ow.blk ha).2), ?_, (h3.chg c13 hg (by decide)).retag' e (fun a ha => (h3.ow.blk ha).2), ?_, (h5.glueR (Nat.le_refl _)).less (by omega)⟩
 · have k := h2.chg c13 hg
   exact ⟨k.1.retag' e (fun a ha => (h2.1.ow.blk ha).2), k.2.retag' e (fun a ha => (h2.2.ow.blk ha).2), k.3.retag' e (fun a ha => (h2.3.ow.blk ha).2), k.4.retag' e (fun a ha => (h2.4.ow.blk ha).2), k.5.retag' e (fun a ha => (h2.5.ow.blk ha).2)⟩
 · exact (((h4.glueR (τ' := τ1) (Nat.le_refl _)).glueL (Nat.le_refl _)).keepF k23).less hlo
end
end Go.Proofs.YtnnoiagommiapaaGreat
namespace Go.Proofs.YtnnoiagommiapaaGreat
open Go.RowKit Go
set_option maxHeartbeats 2000000
end Go.Proofs.YtnnoiagommiapaaGreat
