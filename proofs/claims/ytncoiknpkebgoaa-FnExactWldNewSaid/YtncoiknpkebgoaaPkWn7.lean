/-
  Texts joined: Range, LawMkX, ExWldNew, Frame, Open, OpenM, End.
-/
import Derived.Test.YtncoiknpkebgoaaPkWn6
import Derived.Test.YtncoiknpkebgoaaPkWn4
import Derived.Test.YtncoiknpkebgoaaPkWn1
import Derived.Carry
import Derived.WalkKit
import Derived.ProofKit
import Derived.ChangeSame
import Derived.OpenShut
import Derived.ChangeSlices
import Derived.Deep.Slices
import Derived.Test.YtncoiknpkebgoaaPkWn2
import Derived.Test.YtncoiknpkebgoaaRows
import Derived.Handed
import Derived.JoinedOf
namespace Go.Proofs.Ytncoiknpkebgoaa
set_option maxRecDepth 100000
set_option linter.unusedSimpArgs false
set_option linter.unusedVariables false
open Go.RowKit Go
set_option maxHeartbeats 1000000

def Sw.Mkt.len (m : Sw.Mkt) : Nat := m.log.length + m.purses.length + m.deals.length + m.nums.length + m.said.length
theorem monTurn_len (p : List Int) (who n : Int) : (Sw.monTurn p who n).length = p.length := by
  unfold Sw.monTurn Sw.turned
  split <;> simp
theorem backPurses_len (t : Int) : ∀ (ds : List Sw.Deal) (p : List Int), (ds.foldl (Sw.backPurse t) p).length = p.length
  | [], p => rfl
  | d :: ds, p => by
    rw [List.foldl_cons, backPurses_len t ds]
    unfold Sw.backPurse
    split
    · exact monTurn_len _ _ _
    · rfl
theorem mktTick_len (m : Sw.Mkt) : (Sw.mktTick m).1.len ≤ m.len := by
  unfold Sw.mktTick
  split
  · split
    · exact Nat.le_refl _
    · simp [Sw.tick, Sw.Mkt.len, backPurses_len]
  · simp [Sw.mktZ, Sw.Mkt.len]
section
variable {τ : Nat → Nat} {w w' w0 : World} {lo lo' hi : Nat}
theorem RM.len {aL : Option Addr} {aLc aLn : Nat} {aP : Option Addr} {aPc aPn : Nat} {aD : Option Addr} {aDc aDn : Nat} {aN : Option Addr} {aNc aNn : Nat} {aS : Option Addr} {aSc aSn : Nat} {m : Sw.Mkt} (h : RM w lo aL aLc aLn aP aPc aPn aD aDc aDn aN aNc aNn aS aSc aSn m) : aLn + aPn + aDn + aNn + aSn = m.len := by
  have h1 := h.1.1; have h2 := h.2.1; have h3 := h.3.1; have h4 := h.4.1; have h5 := h.5.1
  unfold Sw.Mkt.len; omega
theorem KF.trans {a b c : World} (h : KF lo a b) (k : KF lo b c) : KF lo a c :=
  ⟨Nat.le_trans h.size k.size, fun i h1 h2 => (k.block i h1 (Nat.lt_of_lt_of_le h2 h.size)).trans (h.block i h1 h2)⟩
/-- Blocks from l on, but for those from h on. -/
def RG2 (l h : Nat) : Nat → Prop := fun b => l ≤ b ∧ b < h
/-- A market that is marked: what has turned lies in its range. -/
theorem OwM.ranged {aL : Option Addr} {aLc aLn : Nat} {aP : Option Addr} {aPc aPn : Nat} {aD : Option Addr} {aDc aDn : Nat} {aN : Option Addr} {aNc aNn : Nat} {aS : Option Addr} {aSc aSn : Nat} {m : Sw.Mkt} (h : OwM τ w lo aL aLc aLn aP aPc aPn aD aDc aDn aN aNc aNn aS aSc aSn m) (hk : KF lo w w') : OwM (glue τ w.heap.size (fun _ => 0)) w' lo aL aLc aLn aP aPc aPn aD aDc aDn aN aNc aNn aS aSc aSn m := (h.glueL (Nat.le_refl _)).keepF hk
theorem SM.range {b : Nat} (h : SM lo (glue τ hi (fun _ => 0)) b) : RG2 lo hi b := by
  obtain ⟨h1, h2, h3⟩ := h
  refine ⟨h1, ?_⟩
  by_cases hb : b < hi
  · exact hb
  · unfold glue at h2
    rw [if_neg hb] at h2
    exact absurd (show 1 ≤ 0 from h2) (by decide)
theorem KF.range (hb : Ch (RG2 lo hi) w w') (k : KF lo' w0 w) (hl : hi ≤ lo' ∨ w0.heap.size ≤ lo) : KF lo' w0 w' :=
  ⟨Nat.le_trans k.size hb.size, fun b h1 h2 => (hb.block b (Nat.lt_of_lt_of_le h2 k.size) (fun h => by have h3 : lo ≤ b := h.1; have h4 : b < hi := h.2; omega)).trans (k.block b h1 h2)⟩
theorem OwM.keepR {aL : Option Addr} {aLc aLn : Nat} {aP : Option Addr} {aPc aPn : Nat} {aD : Option Addr} {aDc aDn : Nat} {aN : Option Addr} {aNc aNn : Nat} {aS : Option Addr} {aSc aSn : Nat} {m : Sw.Mkt} (h : OwM τ w0 lo' aL aLc aLn aP aPc aPn aD aDc aDn aN aNc aNn aS aSc aSn m) (k : KF lo' w0 w) (hb : Ch (RG2 lo hi) w w') (hl : hi ≤ lo' ∨ w0.heap.size ≤ lo) : OwM τ w' lo' aL aLc aLn aP aPc aPn aD aDc aDn aN aNc aNn aS aSc aSn m ∧ KF lo' w0 w' :=
  ⟨h.keepF (KF.range hb k hl), KF.range hb k hl⟩
theorem RG2.rules (hb : Ch (RG2 lo hi) w w') {g : Nat} (hg : g < lo ∨ hi ≤ g) (hs : g < w.heap.size) : (∀ o, w'.cell? ⟨g, o, none⟩ = w.cell? ⟨g, o, none⟩) :=
  fun o => hb.cell (p := ⟨g, o, none⟩) hs (fun h => by have h1 : lo ≤ g := h.1; have h2 : g < hi := h.2; omega)
end
end Go.Proofs.Ytncoiknpkebgoaa

namespace Go.Proofs.Ytncoiknpkebgoaa
set_option maxRecDepth 100000
set_option linter.unusedSimpArgs false
set_option linter.unusedVariables false
open Go.RowKit Go
set_option maxHeartbeats 1000000

section
variable {τ : Nat → Nat} {t u : Nat} {w w' : World} {lo c sz n : Nat} {A : Option Addr} {cs : List Value}
theorem Rd.keepT (h : Rd w lo A c sz n cs) (ta : ∀ a, A = some a → τ a.block = t) (k : KT τ t lo w w') : Rd w' lo A c sz n cs :=
  ⟨h.len, h.le, h.cap, h.nil, fun a ha hn => by
    obtain ⟨h1, h2, h3, h4⟩ := h.cells a ha hn
    exact ⟨h1, h2, Nat.lt_of_lt_of_le h3 k.size, fun j u hu => (World.cell?_of_block (w := w) (a := ⟨a.block, a.off + j, none⟩) (k.block a.block h2 h3 (ta a ha))).trans (h4 j u hu)⟩⟩
theorem Rs.keepT {α : Type} {enc : α → List Value} {xs : List α} (h : Rs enc sz w lo A c n xs) (ta : ∀ a, A = some a → τ a.block = t) (k : KT τ t lo w w') : Rs enc sz w' lo A c n xs := ⟨h.1, h.2.keepT ta k⟩
theorem MkM.keepT {aL : Option Addr} {aLc aLn : Nat} {aP : Option Addr} {aPc aPn : Nat} {aD : Option Addr} {aDc aDn : Nat} {aN : Option Addr} {aNc aNn : Nat} {aS : Option Addr} {aSc aSn : Nat} {k : Int} {m : Sw.Mkt} {w0 : World} (h : MkM w lo aL aLc aLn aP aPc aPn aD aDc aDn aN aNc aNn aS aSc aSn k) (hM : OwM τ w0 lo aL aLc aLn aP aPc aPn aD aDc aDn aN aNc aNn aS aSc aSn m) (hk : ∀ t, 1 ≤ t → t ≤ 5 → KT τ t lo w w') : MkM w' lo aL aLc aLn aP aPc aPn aD aDc aDn aN aNc aNn aS aSc aSn k :=
  ⟨h.1.keepT hM.1.tag (hk _ (by decide) (by decide)), h.2.keepT hM.2.tag (hk _ (by decide) (by decide)), h.3.keepT hM.3.tag (hk _ (by decide) (by decide)), h.4.keepT hM.4.tag (hk _ (by decide) (by decide)), h.5.keepT hM.5.tag (hk _ (by decide) (by decide))⟩
end
theorem OwT.range {α : Type} {enc : α → List Value} {sz : Nat} {e : TypeId} {τ : Nat → Nat} {t : Nat} {w : World} {lo c n : Nat} {A : Option Addr} {xs : List α} (h : OwT enc sz e τ t w lo A c n xs) : ∀ i, atA A i → RG2 lo w.heap.size i :=
  fun i ⟨a, ha, hi⟩ => by rw [hi]; exact h.ow.blk ha
/-- A world that holds marks from k on. -/
structure MkW (w : World) (lo : Nat) (F : Option Addr) (Fc Fn : Nat) (aL : Option Addr) (aLc aLn : Nat) (aP : Option Addr) (aPc aPn : Nat) (aD : Option Addr) (aDc aDn : Nat) (aN : Option Addr) (aNc aNn : Nat) (aS : Option Addr) (aSc aSn : Nat) (G : Option Addr) (Gc Gn : Nat) (k : Int) : Prop where
  first : RI w lo F Fc Fn (marks k Fn)
  mkt : MkM w lo aL aLc aLn aP aPc aPn aD aDc aDn aN aNc aNn aS aSc aSn (k + Fn)
  gates : Rs GV.enc 4 w lo G Gc Gn (mkG (k + Fn + (aLn : Int) * 4 + aPn + (aDn : Int) * 5 + aNn + aSn) Gn)
theorem MkW.keep {w w' : World} {lo Fc Fn Gc Gn : Nat} {F G : Option Addr} {aL : Option Addr} {aLc aLn : Nat} {aP : Option Addr} {aPc aPn : Nat} {aD : Option Addr} {aDc aDn : Nat} {aN : Option Addr} {aNc aNn : Nat} {aS : Option Addr} {aSc aSn : Nat} {k : Int} (h : MkW w lo F Fc Fn aL aLc aLn aP aPc aPn aD aDc aDn aN aNc aNn aS aSc aSn G Gc Gn k) (hk : KF lo w w') : MkW w' lo F Fc Fn aL aLc aLn aP aPc aPn aD aDc aDn aN aNc aNn aS aSc aSn G Gc Gn k := ⟨h.1.keep hk, h.2.keep hk, h.3.keep hk⟩

theorem KT.sm {τ τ' : Nat → Nat} {t lo : Nat} {w w0 w' : World} {hi : Nat} (hb : Ch (SM lo (glue τ hi τ')) w0 w') (k : KT τ t lo w w0) (hh : w.heap.size ≤ hi) (hu : 5 < t) : KT τ t lo w w' :=
  ⟨Nat.le_trans k.size hb.size, fun b h1 h2 h3 => (hb.block b (Nat.lt_of_lt_of_le h2 k.size) (fun hs => by have h5 : glue τ hi τ' b ≤ 5 := hs.2.2; unfold glue at h5; rw [if_pos (by omega), h3] at h5; omega)).trans (k.block b h1 h2 h3)⟩
/-- Blocks of a range that bear a mark. -/
def RG3 (lo hi : Nat) (τ : Nat → Nat) : Nat → Prop := fun b => RG2 lo hi b ∧ 1 ≤ τ b
theorem RG3.range {lo hi h2 : Nat} {τ : Nat → Nat} {b : Nat} (h : RG3 lo hi (glue τ h2 (fun _ => 0)) b) : RG2 lo h2 b :=
  ⟨h.1.1, Nat.lt_of_not_le (fun hle => by have h1 := h.2; rw [show glue τ h2 (fun _ => 0) b = 0 from if_neg (by omega)] at h1; omega)⟩
theorem markWld_c (F : Option Addr) (Fc Fn : Nat) (aL : Option Addr) (aLc aLn : Nat) (aP : Option Addr) (aPc aPn : Nat) (aD : Option Addr) (aDc aDn : Nat) (aN : Option Addr) (aNc aNn : Nat) (aS : Option Addr) (aSc aSn : Nat) (G : Option Addr) (Gc Gn : Nat) (x : Sw.World) (lo : Nat) (τ : Nat → Nat) (k : Int) (w : World) (hW : WN τ w lo F Fc Fn aL aLc aLn aP aPc aPn aD aDc aDn aN aNc aNn aS aSc aSn G Gc Gn x) (hk0 : 0 ≤ k) (hk1 : k ≤ 1024) (hF : Fn ≤ 1024) (hn : aLn + aPn + aDn + aNn + aSn ≤ 1024) (hG : Gn ≤ 1024) : Calls Try.prog 67 #[.agg #[.slice F Fn Fc, .slice aL aLn aLc, .slice aP aPn aPc, .slice aD aDn aDc, .int .i64 x.market.clock, .slice aN aNn aNc, .slice aS aSn aSc, .slice none 0 0, .slice G Gn Gc, .slice none 0 0], .int .i64 k] w fun E w' => E = .returned (.int .i64 (k + Fn + (aLn : Int) * 4 + aPn + (aDn : Int) * 5 + aNn + aSn + (Gn : Int) * 3)) ∧ MkW w' lo F Fc Fn aL aLc aLn aP aPc aPn aD aDc aDn aN aNc aNn aS aSc aSn G Gc Gn k ∧ Ch (RG3 lo w.heap.size τ) w w' := by
  obtain ⟨hf0, hM0, hg0, hdone, -, -⟩ := hW
  have hf := hf0.glueL (τ' := fun _ => 0) (Nat.le_refl _)
  have hM := hM0.glueL (τ' := fun _ => 0) (Nat.le_refl _)
  have hg := hg0.glueL (τ' := fun _ => 0) (Nat.le_refl _)
  have hT1 : ∀ i, 1 ≤ glue τ w.heap.size (fun _ => 0) i → i < w.heap.size := fun i h1 => Nat.lt_of_not_le (fun hle => by rw [show glue τ w.heap.size (fun _ => 0) i = 0 from if_neg (by omega)] at h1; omega)
  have hT2 : ∀ i, 1 ≤ glue τ w.heap.size (fun _ => 0) i → 1 ≤ τ i := fun i h1 => by have h2 := hT1 i h1; rwa [show glue τ w.heap.size (fun _ => 0) i = τ i from if_pos h2] at h1
  generalize glue τ w.heap.size (fun _ => 0) = T at hf hM hg hT1 hT2
  clear hf0 hM0 hg0
  have TF := hf.tag
  have TG := hg.tag
  go_enter Try.func67, Try.ntmps67
  go_wp2_with fail
  apply Calls.mono
  apply (markIntS_c (lo := lo) (xs := x.first))
  · exact hf.ow.keep (by (exact kf_))
  · omega
  · omega
  · omega
  rintro E w1 ⟨rfl, h1, hb1⟩
  have K1 : KT T 1 lo w w1 := KT.atA hb1 (by (with_reducible repeat (first | exact tR _ _ _ _ | apply tA | apply tD | apply tN | (apply tE; assumption) | (refine tS ?_ (by first | exact Or.inl (by first | omega | (simp only [zA, zC, zD, zN]; omega))))))) TF (by decide)
  have K2 : KT T 2 lo w w1 := KT.atA hb1 (by (with_reducible repeat (first | exact tR _ _ _ _ | apply tA | apply tD | apply tN | (apply tE; assumption) | (refine tS ?_ (by first | exact Or.inl (by first | omega | (simp only [zA, zC, zD, zN]; omega))))))) TF (by decide)
  have K3 : KT T 3 lo w w1 := KT.atA hb1 (by (with_reducible repeat (first | exact tR _ _ _ _ | apply tA | apply tD | apply tN | (apply tE; assumption) | (refine tS ?_ (by first | exact Or.inl (by first | omega | (simp only [zA, zC, zD, zN]; omega))))))) TF (by decide)
  have K4 : KT T 4 lo w w1 := KT.atA hb1 (by (with_reducible repeat (first | exact tR _ _ _ _ | apply tA | apply tD | apply tN | (apply tE; assumption) | (refine tS ?_ (by first | exact Or.inl (by first | omega | (simp only [zA, zC, zD, zN]; omega))))))) TF (by decide)
  have K5 : KT T 5 lo w w1 := KT.atA hb1 (by (with_reducible repeat (first | exact tR _ _ _ _ | apply tA | apply tD | apply tN | (apply tE; assumption) | (refine tS ?_ (by first | exact Or.inl (by first | omega | (simp only [zA, zC, zD, zN]; omega))))))) TF (by decide)
  have K8 : KT T 8 lo w w1 := KT.atA hb1 (by (with_reducible repeat (first | exact tR _ _ _ _ | apply tA | apply tD | apply tN | (apply tE; assumption) | (refine tS ?_ (by first | exact Or.inl (by first | omega | (simp only [zA, zC, zD, zN]; omega))))))) TF (by decide)
  have hM1 : OwM T w1 lo aL aLc aLn aP aPc aPn aD aDc aDn aN aNc aNn aS aSc aSn x.market := ⟨hM.1.keep K1, hM.2.keep K2, hM.3.keep K3, hM.4.keep K4, hM.5.keep K5⟩
  have c1 : Ch (RG3 lo w.heap.size τ) w w1 := (show Ch (RG3 lo w.heap.size τ) w _ from (by (exact ext_))).trans (hb1.mono (fun i _ hi => ⟨hf.range i hi, hT2 i (by obtain ⟨a, ha, e⟩ := hi; rw [e, TF a ha]; decide)⟩))
  have x1 := boxed_kept (g := w.heap.size) hb1 (fun a ha => (hf.ow.blk ha).2) (by exact sz_)
  have z1 := hb1.size
  (try simp only [zA, zC, zD, zN] at z1)
  clear hb1
  go_wp2_with fail
  apply Calls.mono
  apply (markMkt_c (lo := lo) (τ := T) (m := x.market))
  · exact hM1
  · omega
  · omega
  · omega
  rintro E w2 ⟨rfl, hMk, hb2⟩
  have x2 : ∀ o, w2.cell? ⟨w.heap.size, o, none⟩ = w1.cell? ⟨w.heap.size, o, none⟩ := fun o => hb2.cell (p := ⟨w.heap.size, o, none⟩) (by show w.heap.size < _; omega) (fun hs => absurd (hT1 _ hs.2.1) (Nat.lt_irrefl _))
  have L6 : KT T 6 lo w1 w2 := KT.ch hb2 (KT.refl _ _ _ _) (fun i hi => .inr (by have := hi.2.2; omega))
  have L8 : KT T 8 lo w w2 := KT.ch hb2 K8 (fun i hi => .inr (by have := hi.2.2; omega))
  have c2 : Ch (RG3 lo w.heap.size τ) w w2 := c1.trans (hb2.mono (fun i _ hi => ⟨⟨hi.1, hT1 i hi.2.1⟩, hT2 i hi.2.1⟩))
  have z2 := hb2.size
  clear hb2
  go_wp2_with fail
  apply Calls.mono
  apply markLines0_c
  rintro E w3 ⟨rfl, hb3⟩
  have hst := xr hb3
  (try simp only [zA, zC, zD, zN] at hst)
  obtain ⟨hc3, hf3, hz3⟩ := hst
  go_wp2_with fail
  apply Calls.mono
  apply (markGates_c (lo := lo) (vs := x.gates.map fun g => gv0 g.head))
  · exact (Ow.keepT hg.ow hg.tag L8).keep kf_
  · exact fun v hv => by obtain ⟨g, _, rfl⟩ := List.mem_map.1 hv; exact ⟨rfl, rfl, rfl⟩
  · omega
  · omega
  · omega
  rintro E w4 ⟨rfl, hgk, hb4⟩
  have x4 := boxed_kept (g := w.heap.size) hb4 (fun a ha => (hg.ow.blk ha).2) (by exact sz_)
  have z4 := hb4.size
  have M6 : KT T 6 lo w1 w4 := KT.atA hb4 (KT.ex hb3 L6) TG (by decide)
  have MM : ∀ t, 1 ≤ t → t ≤ 5 → KT T t lo w2 w4 := fun t _ h5 => KT.atA hb4 (KT.ex hb3 (KT.refl _ _ _ _)) TG (by omega)
  have c4 : Ch (RG3 lo w.heap.size τ) w w4 := (Ch.ex c2 hb3).trans (hb4.mono (fun i _ hi => ⟨hg.range i hi, hT2 i (by obtain ⟨a, ha, e⟩ := hi; rw [e, TG a ha]; decide)⟩))
  clear hb4
  go_wp2_with fail
  apply Calls.mono
  apply markMsgs0_c
  rintro E w5 ⟨rfl, hb5⟩
  go_wp2_with fail
  go_ret
  exact ⟨rfl, ⟨(Ow.keepT h1 TF M6).rs.keep (kE hb5 (kR _ _)), (hMk.keepT hM1 MM).keep (kE hb5 (kR _ _)), hgk.rs.keep (kE hb5 (kR _ _))⟩, Ch.ex c4 hb5⟩
theorem heldWld_c (F : Option Addr) (Fc Fn : Nat) (aL : Option Addr) (aLc aLn : Nat) (aP : Option Addr) (aPc aPn : Nat) (aD : Option Addr) (aDc aDn : Nat) (aN : Option Addr) (aNc aNn : Nat) (aS : Option Addr) (aSc aSn : Nat) (G : Option Addr) (Gc Gn : Nat) (v : Int) (lo : Nat) (k : Int) (w : World) (hW : MkW w lo F Fc Fn aL aLc aLn aP aPc aPn aD aDc aDn aN aNc aNn aS aSc aSn G Gc Gn k) (hk0 : 0 ≤ k) (hk1 : k ≤ 1024) (hF : Fn ≤ 1024) (hn : aLn + aPn + aDn + aNn + aSn ≤ 1024) (hG : Gn ≤ 1024) : Calls Try.prog 68 #[.agg #[.slice F Fn Fc, .slice aL aLn aLc, .slice aP aPn aPc, .slice aD aDn aDc, .int .i64 v, .slice aN aNn aNc, .slice aS aSn aSc, .slice none 0 0, .slice G Gn Gc, .slice none 0 0], .int .i64 k] w fun E w' => E = .returned (.int .i64 (k + Fn + (aLn : Int) * 4 + aPn + (aDn : Int) * 5 + aNn + aSn + (Gn : Int) * 3)) ∧ Ex w w' := by
  obtain ⟨h1, h2, h3⟩ := hW
  go_enter Try.func68, Try.ntmps68
  go_wp2_with (first | (go_at_call 130; apply Calls.mono; apply heldIntS_c; (apply Rs.at0 h1; (exact kf_)); omega; omega; omega; rintro E w' ⟨rfl, rfl⟩) | (go_at_call 49; apply Calls.mono; apply (heldMkt_c (lo := lo)); (apply MkM.keep h2; (exact kf_)); omega; omega; omega; rintro E w1 ⟨rfl, hb⟩; have hst := xr hb; (try simp only [zA, zC, zD, zN] at hst); obtain ⟨hc, hf, hz⟩ := hst) | (go_at_call 153; refine (heldLines0_c _ _).mono ?_; rintro E w1 ⟨rfl, hb⟩; have hst := xr hb; (try simp only [zA, zC, zD, zN] at hst); obtain ⟨hc, hf, hz⟩ := hst) | (go_at_call 155; refine (heldMsgs0_c _ _).mono ?_; rintro E w1 ⟨rfl, hb⟩; have hst := xr hb; (try simp only [zA, zC, zD, zN] at hst); obtain ⟨hc, hf, hz⟩ := hst) | (go_at_call 154; apply Calls.mono; apply heldGates_c; (apply Rs.at0 h3; (exact kf_)); omega; omega; omega; rintro E w' ⟨rfl, rfl⟩))
  go_ret
  exact ⟨rfl, ext_⟩
end Go.Proofs.Ytncoiknpkebgoaa

namespace Go.Proofs.Ytncoiknpkebgoaa
set_option maxRecDepth 100000
set_option linter.unusedSimpArgs false
set_option linter.unusedVariables false
open Go.RowKit Go
set_option maxHeartbeats 8000000

theorem wldNew_small (xs : List Int) : (Sw.wldNew xs).first.length ≤ 5 ∧ (Sw.wldNew xs).market.len ≤ 1000 ∧ (Sw.wldNew xs).gates.length ≤ 2 := by
  unfold Sw.wldNew
  split
  · rename_i h
    have h5 : xs.length = 5 := monOk_len (Bool.and_eq_true_iff.1 h).1
    refine ⟨by show xs.length ≤ 5; omega, ?_, Nat.le_refl 2⟩
    show (Sw.mktNew xs).len ≤ 1000
    unfold Sw.mktNew
    rw [if_pos h]
    simp [Sw.Mkt.len]
    omega
  · exact ⟨by decide, by decide, by decide⟩
theorem WN.small {τ : Nat → Nat} {w : World} {lo Fc Fn Gc Gn : Nat} {F G : Option Addr} {aL : Option Addr} {aLc aLn : Nat} {aP : Option Addr} {aPc aPn : Nat} {aD : Option Addr} {aDc aDn : Nat} {aN : Option Addr} {aNc aNn : Nat} {aS : Option Addr} {aSc aSn : Nat} {xs : List Int} (h : WN τ w lo F Fc Fn aL aLc aLn aP aPc aPn aD aDc aDn aN aNc aNn aS aSc aSn G Gc Gn (Sw.wldNew xs)) : Fn ≤ 1024 ∧ aLn + aPn + aDn + aNn + aSn ≤ 1024 ∧ Gn ≤ 1024 := by
  obtain ⟨h1, h2, h3⟩ := wldNew_small xs
  have e1 := h.first.ow.1
  have e2 := h.mkt.rm.len
  have e3 := h.gates.ow.1
  rw [List.length_map] at e3
  exact ⟨by omega, by omega, by omega⟩
theorem WN.ranged {τ : Nat → Nat} {w w' : World} {lo Fc Fn Gc Gn : Nat} {F G : Option Addr} {aL : Option Addr} {aLc aLn : Nat} {aP : Option Addr} {aPc aPn : Nat} {aD : Option Addr} {aDc aDn : Nat} {aN : Option Addr} {aNc aNn : Nat} {aS : Option Addr} {aSc aSn : Nat} {x : Sw.World} (h : WN τ w lo F Fc Fn aL aLc aLn aP aPc aPn aD aDc aDn aN aNc aNn aS aSc aSn G Gc Gn x) (hk : KF lo w w') : WN (glue τ w.heap.size (fun _ => 0)) w' lo F Fc Fn aL aLc aLn aP aPc aPn aD aDc aDn aN aNc aNn aS aSc aSn G Gc Gn x :=
  ⟨(h.1.glueL (Nat.le_refl _)).keepF hk, h.2.ranged hk, (h.3.glueL (Nat.le_refl _)).keepF hk, h.4, h.5, h.6⟩
theorem exWldNew_c (A : Option Addr) (c n : Nat) (xs : List Int) (w : World) (hxs : RI w 0 A c n xs) : Calls Try.prog 12 #[.slice A n c] w fun E w' => E = .returned (.bool true) ∧ Ex w w' := by
  have hbig : n ≤ 9223372036854775807 := by have := hxs.2.le; have := hxs.2.cap; unfold maxLen at this; omega
  by_cases hm : n ≤ 1048576
  case neg =>
    go_enter Try.func12, Try.ntmps12
    go_wp2_with fail
    go_ret
    exact ⟨rfl, ext_⟩
  go_enter Try.func12, Try.ntmps12
  go_wp2_with fail
  apply Calls.mono
  apply toIntS_c
  · apply Rs.at0 hxs; (exact kf_)
  · omega
  rintro E w1 ⟨ga, rfl, hoa, hgea, hlta, hb⟩
  have hst := xr hb; (try simp only [zA, zC, zD, zN] at hst); obtain ⟨hc, hf, hz⟩ := hst
  go_wp2_with fail
  apply Calls.mono
  apply sWldNew_c
  · apply Ow.rs0 hoa; (exact kf_)
  rintro E w2 ⟨sF, sFc, sFn, cL, cLc, cLn, cP, cPc, cPn, cD, cDc, cDn, cN, cNc, cNn, cS, cSc, cSn, sG, sGc, sGn, τc, rfl, hoc, hb⟩
  have hst := xr hb; (try simp only [zA, zC, zD, zN] at hst); obtain ⟨hc, hf, hz⟩ := hst
  go_wp2_with fail
  apply Calls.mono
  apply toIntS_c
  · apply Rs.at0 hxs; (exact kf_)
  · omega
  rintro E w3 ⟨gx, rfl, hox, hgex, hltx, hb⟩
  (try simp only [zA, zC, zD, zN] at hgex)
  have hst := xr hb; (try simp only [zA, zC, zD, zN] at hst); obtain ⟨hc, hf, hz⟩ := hst
  go_wp2_with fail
  apply Calls.mono
  apply iWldNew_c
  · apply Ow.rs0 hox; (exact kf_)
  rintro E w4 ⟨iF, iFc, iFn, eL, eLc, eLn, eP, ePc, ePn, eD, eDc, eDn, eN, eNc, eNn, eS, eSc, eSn, iG, iGc, iGn, τe, rfl, hoe, hb⟩
  have hst := xr hb; (try simp only [zA, zC, zD, zN] at hst); obtain ⟨hc, hf, hz⟩ := hst
  obtain ⟨le1, le2, le3⟩ := hoe.small
  replace hoe := hoe.ranged (kR _ _)
  go_wp2_with fail
  apply Calls.mono
  apply (eqWldWorld_c (x := Sw.wldNew xs) (y := Sw.wldNew xs))
  · apply RW.at0 hoe.rw_; (exact kf_)
  · apply RW.at0 hoc.rw_; (exact kf_)
  rintro E w5 ⟨rfl, hb⟩
  rw [show decide (Sw.wldNew xs = Sw.wldNew xs) = true from decide_eq_true rfl]
  have hst := xr hb; (try simp only [zA, zC, zD, zN] at hst); obtain ⟨hc, hf, hz⟩ := hst
  go_wp2_with fail
  apply Calls.mono
  apply toIntS_c
  · apply Rs.at0 hxs; (exact kf_)
  · omega
  rintro E w6 ⟨gy, rfl, hoy, hgey, hlty, hb⟩
  have hst := xr hb; (try simp only [zA, zC, zD, zN] at hst); obtain ⟨hc, hf, hz⟩ := hst
  go_wp2_with fail
  apply Calls.mono
  apply (eqIntS_c (xs := xs) (ys := xs))
  · apply Ow.rs0 hox; (exact kf_)
  · apply Ow.rs0 hoy; (exact kf_)
  rintro E w7 ⟨rfl, hb⟩
  rw [show decide (xs = xs) = true from decide_eq_true rfl]
  have hst := xr hb; (try simp only [zA, zC, zD, zN] at hst); obtain ⟨hc, hf, hz⟩ := hst
  have kn1 : decide ((1 : Int) + (n : Int) < 0) = false := by simp; omega
  have ke1 : decide ((1 : Int) + (iFn : Int) + (eLn : Int) * 4 + ePn + (eDn : Int) * 5 + eNn + eSn + (iGn : Int) * 3 < 0) = false := by simp; omega
  go_wp2_with fail
  apply Calls.mono
  apply (markIntS_c (lo := w2.heap.size + 1) (xs := xs))
  · exact (hox.keep kf_).less (by exact sz_)
  · decide
  · decide
  · omega
  rintro E w8 ⟨rfl, -, hmk⟩
  have hr := hmk.mono (T := RG2 (w2.heap.size + 1) w3.heap.size) (fun i _ hi => by obtain ⟨a, ha, e⟩ := hi; cases ha; rw [e]; exact ⟨hgex, hltx⟩)
  have bx80 := RG2.rules hr (g := w2.heap.size) (.inl (by exact sz_)) (by exact sz_)
  have bx81 := RG2.rules hr (g := w4.heap.size) (.inr (by exact sz_)) (by exact sz_)
  have kkc8 : KF w1.heap.size w2 w8 := KF.range hr kf_ (.inr (by exact sz_))
  have hoc8 := hoc.keepF kkc8
  have hoe8 := hoe.keepF (KF.range hr kf_ (.inl (by exact sz_)))
  have hex8 : Ex w w8 := Ch.trans' (show Ex w _ from ext_) hr (fun i hi h => absurd h.1 (by (first | omega | (simp only [zA, zC, zD, zN] at *; omega) | (simp only [zA, zC, zD, zN]; omega))))
  have hx8 : RI w8 0 A c n xs := hxs.at0 (kE hex8 (kR _ _))
  have hsz8 := hr.size
  (try simp only [zA, zC, zD, zN] at hsz8)
  clear hr hmk
  go_wp2_with fail
  apply Calls.mono
  apply (eqWldWorld_c (x := Sw.wldNew xs) (y := Sw.wldNew xs))
  · apply RW.at0 hoe8.rw_; (exact kf_)
  · apply RW.at0 hoc8.rw_; (exact kf_)
  rintro E w9 ⟨rfl, hb⟩
  rw [show decide (Sw.wldNew xs = Sw.wldNew xs) = true from decide_eq_true rfl]
  have hst := xr hb; (try simp only [zA, zC, zD, zN] at hst); obtain ⟨hc, hf, hz⟩ := hst
  go_wp2_with fail
  apply Calls.mono
  apply (markWld_c (lo := w3.heap.size) (x := Sw.wldNew xs) (τ := glue τe w4.heap.size (fun _ => 0)))
  · exact hoe8.keepF kf_
  · decide
  · decide
  · exact le1
  · exact le2
  · exact le3
  rintro E w10 ⟨rfl, hmW, hmk⟩
  have hr := hmk.mono (fun i _ h => RG3.range h)
  have bx100 := RG2.rules hr (g := w2.heap.size) (.inl (by exact sz_)) (by exact sz_)
  have bx101 := RG2.rules hr (g := w4.heap.size) (.inr (by exact sz_)) (by exact sz_)
  have hoc10 := hoc.keepF (KF.range hr (kkc8.trans kf_) (.inr (by exact sz_)))
  have hex10 : Ex w w10 := Ch.trans' (show Ex w _ from ext_) hr (fun i hi h => absurd h.1 (by (first | omega | (simp only [zA, zC, zD, zN] at *; omega) | (simp only [zA, zC, zD, zN]; omega))))
  have hx10 : RI w10 0 A c n xs := hxs.at0 (kE hex10 (kR _ _))
  have hsz10 := hr.size
  (try simp only [zA, zC, zD, zN] at hsz10)
  clear hr hmk
  go_wp2_with fail
  apply Calls.mono
  apply (heldWld_c (v := (Sw.wldNew xs).market.clock) (lo := w3.heap.size))
  · exact hmW.keep kf_
  · decide
  · decide
  · exact le1
  · exact le2
  · exact le3
  rintro E w11 ⟨rfl, hb⟩
  have hst := xr hb; (try simp only [zA, zC, zD, zN] at hst); obtain ⟨hc, hf, hz⟩ := hst
  go_wp2_with fail
  apply Calls.mono
  apply toIntS_c
  · apply Rs.at0 hx10; (exact kf_)
  · omega
  rintro E w12 ⟨gz, rfl, hoz, hgez, hltz, hb⟩
  have hst := xr hb; (try simp only [zA, zC, zD, zN] at hst); obtain ⟨hc, hf, hz⟩ := hst
  go_wp2_with fail
  apply Calls.mono
  apply iWldNew_c
  · apply Ow.rs0 hoz; (exact kf_)
  rintro E w13 ⟨jF, jFc, jFn, jL, jLc, jLn, jP, jPc, jPn, jD, jDc, jDn, jN, jNc, jNn, jS, jSc, jSn, jG, jGc, jGn, τj, rfl, hoj, hb⟩
  have hst := xr hb; (try simp only [zA, zC, zD, zN] at hst); obtain ⟨hc, hf, hz⟩ := hst
  go_wp2_with fail
  apply Calls.mono
  apply (eqWldWorld_c (x := Sw.wldNew xs) (y := Sw.wldNew xs))
  · apply RW.at0 hoj.rw_; (exact kf_)
  · apply RW.at0 hoc10.rw_; (exact kf_)
  rintro E w14 ⟨rfl, hb⟩
  rw [show decide (Sw.wldNew xs = Sw.wldNew xs) = true from decide_eq_true rfl]
  have hst := xr hb; (try simp only [zA, zC, zD, zN] at hst); obtain ⟨hc, hf, hz⟩ := hst
  go_wp2_with fail
  apply Calls.mono
  apply (heldWld_c (v := (Sw.wldNew xs).market.clock) (lo := w3.heap.size))
  · exact hmW.keep kf_
  · decide
  · decide
  · exact le1
  · exact le2
  · exact le3
  rintro E w15 ⟨rfl, hb⟩
  have hst := xr hb; (try simp only [zA, zC, zD, zN] at hst); obtain ⟨hc, hf, hz⟩ := hst
  go_wp2_with fail
  go_ret
  exact ⟨rfl, ext_⟩
end Go.Proofs.Ytncoiknpkebgoaa

namespace Go.Proofs.Ytncoiknpkebgoaa
set_option maxRecDepth 100000
set_option linter.unusedSimpArgs false
set_option linter.unusedVariables false
open Go.ChangeShapes Go.WideShapes Go.ChangeAt Go.RowKit Go

section
variable {H : Type} {enc : TypeId × Value → H} {P : Program}
theorem trodAll_stays (hl : laidOutB P = true) {W W' : World} {sp : Nat → Bool} (hb : Below W.heap.size W W') : ∀ {ts : List TypeId} {vs : List Value} {ds : List (DataW H)} {ps : List MemPlace},
    ts.all (fun t => P.readableRec t && decide (t < P.types.size)) = true → DataW.TrodAll enc P W 0 (fun _ => true) true ts vs ds ps → (∀ x ∈ ps, x.block < W.heap.size) → (∀ x ∈ ps, sp x.block = true) →
    DataW.TrodAll enc P W' 0 sp true ts vs ds ps
  | [], [], [], _, _, h, _, _ => h
  | t :: ts, v :: vs, d :: ds, _, hr, ⟨p, q, h1, h2, e⟩, hlt, hs => by
    simp only [List.all_cons, Bool.and_eq_true, decide_eq_true_eq] at hr
    subst e
    refine ⟨p, q, ?_, trodAll_stays hl hb hr.2 h2 (fun x hx => hlt x (List.mem_append_right _ hx)) (fun x hx => hs x (List.mem_append_right _ hx)), rfl⟩
    exact WideElems.Trod_stays hl hr.1.1 hr.1.2 h1 (fun x hx => hb.same (hlt x (List.mem_append_left _ hx))) (fun x hx => hs x (List.mem_append_left _ hx))

/-- A call that returns true and turns nothing that was there is what a law's statement asks. -/
theorem law_post {f : Func} {s : ChangeSpec} {apart fresh handsOn again : Bool} {W W' : World} {args : Array Value} {ds gs : List (DataW H)} {before : List MemPlace} {tb : TypeId}
    (hl : laidOutB P = true) (hr : f.params.toList.all (fun t => P.readableRec t && decide (t < P.types.size)) = true) (hres : f.resultTypes = #[tb]) (htb : P.underlying tb = some .bool) (hv : s.vars = [])
    (hfn : (s.fn H ds).results = [.lit (.bool true)] ∧ (s.fn H ds).args = ds ∧ (s.fn H ds).vars = [])
    (hW : DataW.Whole enc P f.params.toList s.vars apart W args.toList ds gs before) (hb : Ex W W') : s.post enc P f apart fresh handsOn again W args (.bool true) W' := by
  have hW0 := hW
  have hbl := hb.below
  have hlt : ∀ p ∈ before, p.block < W.heap.size := fun p hp => by simpa using hW.lt p hp
  obtain ⟨p, q, hA, hV, he, hz, hn⟩ := hW
  rw [hv] at hV
  obtain ⟨rfl, rfl⟩ := trodVars_none hV
  rw [List.append_nil] at he
  subst he
  obtain ⟨f1, f2, f3⟩ := hfn
  have hargs : ∀ sp : Nat → Bool, (∀ x ∈ before, sp x.block = true) → DataW.TrodAll enc P W' 0 sp true f.params.toList args.toList (s.fn H (ds ++ [])).args before := fun sp hs => by
    rw [List.append_nil, f2]
    exact trodAll_stays hl hbl hr hA hlt hs
  have hvars : ∀ sp : Nat → Bool, DataW.TrodVars enc P W' sp s.vars (s.fn H (ds ++ [])).vars [] := fun sp => by
    rw [List.append_nil, f3, hv]
    rfl
  have hresu : ∀ (b : Nat) (sp : Nat → Bool) (hd : Bool), DataW.TrodAll enc P W' b sp hd f.resultTypes.toList ((Value.bool true).resultList f.resultTypes.size) (s.fn H (ds ++ [])).results [] := fun b sp hd => by
    rw [List.append_nil, f1, hres]
    exact trodAll_cons_mk (shut_bool htb _) trodAll_mk0
  have hold : ∀ p ∈ before, (fun b => decide (b < W.heap.size)) p.block = true := fun p hp => by simpa using hlt p hp
  refine ⟨ds, [], before, [], before, [], hW0, hresu _ _ _, hargs _ hold, hvars _, World.keptBut_mono (fun p hp => ⟨hp, Or.inr (by simpa using hp)⟩) (hbl.frame _), fun _ => ?_⟩
  refine ⟨ok_one (by rw [hres]) rfl (okWide_bool_mk htb _), _, _, ([] ++ before) ++ [], ⟨[] ++ before, [], trodAll_append (hargs _ (fun _ _ => rfl)) (hresu _ _ _), hvars _, rfl, ?_, ?_⟩, ?_⟩
  · intro b off hp
    have hp' : MemPlace.cell b off ∈ before := by simpa using hp
    rw [hbl.frozen (by exact hlt _ hp')]
    exact hz b off (by simpa using hp)
  · intro ha
    have := hn ha
    simpa using this
  · intro p hp _
    simpa using hp

theorem spot_of_cell {W : World} {a : Addr} {v : Value} (h : W.cell? a = some v) : a.spot = none ∧ a.block < W.heap.size := by
  unfold World.cell? at h
  split at h
  · rename_i c T fz hh
    refine ⟨?_, (Array.getElem?_eq_some_iff.1 hh).1⟩
    cases hs : a.spot with
    | none => rfl
    | some _ => rw [hs] at h; simp at h
  · cases h

theorem flat_one {α : Type} {f : α → Value} (xs : List α) : xs.flatMap (fun x => [f x]) = xs.map f := by
  induction xs with
  | nil => rfl
  | cons x xs ih => rw [List.flatMap_cons, ih]; rfl

/-- A slice of numbers that reads is one that may be read. -/
theorem ri_of_trod {W : World} {t e : TypeId} {fuel : Nat} {cs : List Value} {x : DataW H × List MemPlace} (ht : P.underlying t = some (.slice e)) (he : P.underlying e = some (.int .i64)) (hc : P.cellsOf e = 1)
    (h : DataW.trod enc P W 0 (fun _ => true) true fuel t cs = some x) : ∃ A c n xs, cs = [.slice A n c] ∧ RI W 0 A c n xs := by
  rcases open_ints ht he hc h with ⟨rfl, _⟩ | ⟨a, len, cap, zs, rfl, _, hl, hm, hz, _, hcell, _⟩
  · exact ⟨none, 0, 0, [], rfl, rfl, Rd.none_ _ _ _⟩
  · have hz' : zs.length = cap := by simpa using hz
    refine ⟨some a, cap, len, zs.take len, rfl, by rw [List.length_take]; omega, ⟨?_, hl, hm, (fun h => by cases h), fun b hb hn => ?_⟩⟩
    · show ((zs.take len).flatMap fun x => [Value.int .i64 x]).length = len * 1
      rw [flat_one, List.length_map, List.length_take]; omega
    · obtain rfl := Option.some.inj hb
      have h0 := spot_of_cell (hcell 0 (by omega))
      refine ⟨?_, Nat.zero_le _, ?_, fun j u hu => ?_⟩
      · have := h0.1
        simp only [Addr.add] at this
        split at this <;> first | exact this | contradiction | omega
      · have := h0.2
        simp only [Addr.add] at this
        split at this <;> first | exact this | contradiction | omega
      replace hu : ((zs.take len).flatMap fun x => [Value.int .i64 x])[j]? = some u := hu
      rw [flat_one, List.getElem?_map, Option.map_eq_some_iff] at hu
      obtain ⟨y, hy, rfl⟩ := hu
      rw [List.getElem?_take] at hy
      split at hy
      · have hj := (List.getElem?_eq_some_iff.1 hy).1
        have := hcell j hj
        rw [List.getD_eq_getElem?_getD, hy] at this
        obtain ⟨g, off, spot⟩ := a
        have hs : spot = none := by
          have := h0.1
          simp only [Addr.add] at this
          split at this <;> first | exact this | contradiction | omega
        subst hs
        rw [Addr.add_lit] at this
        exact this
      · cases hy

/-- A head that reads is three numbers. -/
theorem head_of_trod {W : World} {t ti : TypeId} {f0 f1 f2 : Field} {fuel : Nat} {cs : List Value} {x : DataW H × List MemPlace} (ht : P.underlying t = some (.struct #[f0, f1, f2])) (hi : P.underlying ti = some (.int .i64)) (hci : P.cellsOf ti = 1) (hct : P.cellsOf t = 3)
    (e0 : f0.type = ti ∧ f0.offset = 0) (e1 : f1.type = ti ∧ f1.offset = 1) (e2 : f2.type = ti ∧ f2.offset = 2)
    (h : DataW.trod enc P W 0 (fun _ => true) true fuel t cs = some x) : ∃ a b c : Int, cs = [.int .i64 a, .int .i64 b, .int .i64 c] := by
  obtain ⟨xs, n, _, _, hl, hxl, hf⟩ := DataW.trod_struct ht h
  rw [hct] at hl
  have key : ∀ (i : Nat) (f : Field), #[f0, f1, f2][i]? = some f → f.type = ti → ∃ a : Int, (cs.drop f.offset).take 1 = [.int .i64 a] := by
    intro i f hfi hft
    have h1 := hf i f hfi
    have hx : i < xs.length := by
      have := (Array.getElem?_eq_some_iff.1 hfi).1
      rw [hxl]; exact this
    rw [hft, hci, List.getElem?_eq_getElem hx] at h1
    obtain ⟨a, ha, _⟩ := DataW.trod_int hi h1
    exact ⟨a, ha⟩
  match cs, hl with
  | [c0, c1, c2], _ =>
    obtain ⟨a, ha⟩ := key 0 f0 rfl e0.1
    obtain ⟨b, hb⟩ := key 1 f1 rfl e1.1
    obtain ⟨c, hc⟩ := key 2 f2 rfl e2.1
    rw [e0.2] at ha
    rw [e1.2] at hb
    rw [e2.2] at hc
    simp at ha hb hc
    exact ⟨a, b, c, by rw [ha, hb, hc]⟩

/-- A gate that reads is a head and a slice of numbers. -/
theorem gate_of_trod {W : World} {t th ts ti : TypeId} {f0 f1 h0 h1 h2 : Field} {fuel : Nat} {cs : List Value} {x : DataW H × List MemPlace} (ht : P.underlying t = some (.struct #[f0, f1])) (hth : P.underlying th = some (.struct #[h0, h1, h2])) (hts : P.underlying ts = some (.slice ti)) (hi : P.underlying ti = some (.int .i64))
    (hci : P.cellsOf ti = 1) (hch : P.cellsOf th = 3) (hcs : P.cellsOf ts = 1) (hct : P.cellsOf t = 4)
    (e0 : f0.type = th ∧ f0.offset = 0) (e1 : f1.type = ts ∧ f1.offset = 3) (g0 : h0.type = ti ∧ h0.offset = 0) (g1 : h1.type = ti ∧ h1.offset = 1) (g2 : h2.type = ti ∧ h2.offset = 2)
    (h : DataW.trod enc P W 0 (fun _ => true) true fuel t cs = some x) : ∃ (a b c : Int) (A : Option Addr) (d n : Nat) (zs : List Int), cs = [.int .i64 a, .int .i64 b, .int .i64 c, .slice A n d] ∧ RI W 0 A d n zs := by
  obtain ⟨xs, n, _, _, hl, hxl, hf⟩ := DataW.trod_struct ht h
  rw [hct] at hl
  have k0 := hf 0 f0 rfl
  have k1 := hf 1 f1 rfl
  rw [e0.1, e0.2, hch, List.getElem?_eq_getElem (by rw [hxl]; exact Nat.zero_lt_succ _)] at k0
  rw [e1.1, e1.2, hcs, List.getElem?_eq_getElem (by rw [hxl]; exact Nat.one_lt_two)] at k1
  obtain ⟨a, b, c, q0⟩ := head_of_trod hth hi hci hch g0 g1 g2 k0
  obtain ⟨A, d, m, zs, q1, hr⟩ := ri_of_trod hts hi hci k1
  match cs, hl with
  | [c0, c1, c2, c3], _ =>
    simp at q0 q1
    obtain ⟨rfl, rfl, rfl⟩ := q0
    exact ⟨_, _, _, A, d, m, zs, by rw [q1], hr⟩

theorem slice_form {W : World} {base : Nat} {t e : TypeId} {v : Value} {A : Option Addr} {n c : Nat} (ht : P.underlying t = some (.slice e)) (hv : Value.okWide P W .any base t v) (h : v.cells.toList = [.slice A n c]) : v = .slice A n c := by
  unfold Value.okWide at hv
  rw [ht] at hv
  unfold Cell.okWide Cell.ok at hv
  rw [ht] at hv
  cases v <;> simp_all [Value.cells]
end
end Go.Proofs.Ytncoiknpkebgoaa

namespace Go.Proofs.Ytncoiknpkebgoaa
set_option maxRecDepth 100000
set_option linter.unusedSimpArgs false
set_option linter.unusedVariables false
open Go.ChangeShapes Go.WideShapes Go.ChangeAt Go.RowKit Go

section
variable {H : Type} {enc : TypeId × Value → H} {P : Program} {W : World}
theorem add_spot {a : Addr} (h : a.spot = none) (i : Nat) : a.add i = ⟨a.block, a.off + i, none⟩ := by
  obtain ⟨b, o, s⟩ := a
  dsimp only at h
  subst h
  exact Addr.add_lit _ _ _
/-- A slice whose elements read as things of α. -/
theorem rs_of_trod {α : Type} {ec : α → List Value} {sz : Nat} {t e : TypeId} {fuel : Nat} {cs : List Value} {x : DataW H × List MemPlace} (ht : P.underlying t = some (.slice e)) (hc : P.cellsOf e = sz) (hp : 0 < sz) (hsz : ∀ y, (ec y).length = sz)
    {Q : α → Prop} (he : ∀ n cs y, DataW.trod enc P W 0 (fun _ => true) true n e cs = some y → ∃ z : α, cs = ec z ∧ Q z) (h : DataW.trod enc P W 0 (fun _ => true) true fuel t cs = some x) :
    ∃ A c n xs, cs = [.slice A n c] ∧ Rs ec sz W 0 A c n xs ∧ ∀ y ∈ xs, Q y := by
  rcases Go.Deep.open_slice ht h with ⟨rfl, _⟩ | ⟨a, len, cap, m, n, D, Pl, rfl, _, hl, hm, hmm, hxx, hi⟩
  · exact ⟨none, 0, 0, [], rfl, ⟨rfl, Rd.none_ _ _ _⟩, by simp⟩
  · rw [if_pos rfl] at hmm
    subst hmm
    rw [hc] at hi
    have hi2 : ∀ i, i < len → ∃ z : α, Q z ∧ ∀ j, j < sz → W.cell? ((a.add (i * sz)).add j) = (ec z)[j]? := by
      intro i hil
      obtain ⟨cs', h1, h2⟩ := hi i (by omega)
      obtain ⟨z, rfl, hq⟩ := he _ _ _ h2
      exact ⟨z, hq, (World.cells?_some h1).2.2⟩
    have spot : 0 < len → a.spot = none ∧ a.block < W.heap.size := by
      intro h0
      obtain ⟨z, _, hz⟩ := hi2 0 h0
      have h1 := hz 0 hp
      rw [List.getElem?_eq_getElem (by rw [hsz]; exact hp)] at h1
      have h2 := spot_of_cell h1
      rw [Nat.zero_mul] at h2
      have e0 : ∀ b : Addr, (b.add 0).spot = none → b.spot = none := by
        intro b hb
        simp only [Addr.add] at hb
        split at hb <;> first | exact hb | contradiction | omega
      have e1 : ∀ b : Addr, (b.add 0).block = b.block := by
        intro b
        simp only [Addr.add]
        split <;> rfl
      exact ⟨e0 _ (e0 _ h2.1), by rw [e1, e1] at h2; exact h2.2⟩
    obtain ⟨xs, hlen, hxs⟩ : ∃ xs : List α, xs.length = len ∧ ∀ i z, xs[i]? = some z → Q z ∧ ∀ j, j < sz → W.cell? ((a.add (i * sz)).add j) = (ec z)[j]? := by
      clear hi spot h hl hxx
      induction len with
      | zero => exact ⟨[], rfl, by simp⟩
      | succ k ih =>
        obtain ⟨xs, h1, h2⟩ := ih (fun i hi => hi2 i (by omega))
        obtain ⟨z, hz⟩ := hi2 k (by omega)
        refine ⟨xs ++ [z], by simp [h1], fun i y hy => ?_⟩
        rw [List.getElem?_append] at hy
        split at hy
        · exact h2 i y hy
        · have : i = k := by
            have := (List.getElem?_eq_some_iff.1 hy).1
            simp at this
            omega
          subst this
          rw [h1, Nat.sub_self] at hy
          simp at hy
          subst hy
          exact hz
    refine ⟨some a, m, len, xs, rfl, ⟨hlen.symm, ⟨?_, hl, hm, (fun h => by cases h), fun b hb hn => ?_⟩⟩, fun y hy => ?_⟩
    · have key : ∀ xs : List α, (xs.flatMap ec).length = xs.length * sz := by
        intro xs
        induction xs with
        | nil => simp
        | cons x xs ih => simp only [List.flatMap_cons, List.length_append, hsz, ih, List.length_cons, Nat.succ_mul]; omega
      rw [key, hlen]
    · obtain rfl := Option.some.inj hb
      obtain ⟨s1, s2⟩ := spot hn
      refine ⟨s1, Nat.zero_le _, s2, fun j u hu => ?_⟩
      have key : ∀ xs : List α, (xs.flatMap ec).length = xs.length * sz := by
        intro xs
        induction xs with
        | nil => simp
        | cons x xs ih => simp only [List.flatMap_cons, List.length_append, hsz, ih, List.length_cons, Nat.succ_mul]; omega
      have hj := (List.getElem?_eq_some_iff.1 hu).1
      rw [key] at hj
      have hk : j / sz < xs.length := Nat.div_lt_of_lt_mul (by rw [Nat.mul_comm]; exact hj)
      have hr : j % sz < sz := Nat.mod_lt _ hp
      have hd : j / sz * sz + j % sz = j := by rw [Nat.mul_comm]; exact Nat.div_add_mod _ _
      have h1 := flat_get hsz xs (j / sz) (j % sz) hk hr
      rw [hd, hu] at h1
      have h2 := (hxs (j / sz) _ (List.getElem?_eq_getElem hk)).2 (j % sz) hr
      rw [← h1, add_spot s1, add_spot rfl] at h2
      dsimp only at h2
      rw [Nat.add_assoc, hd] at h2
      exact h2
    · obtain ⟨i, hi⟩ := List.getElem?_of_mem hy
      exact (hxs i y hi).1

def fieldsInt (fs : Array Field) (ti : TypeId) : Bool := (List.range fs.size).all fun i => match fs[i]? with
  | some f => decide (f.type = ti) && decide (f.offset = i)
  | none => false
def valInt : Value → Int
  | .int _ n => n
  | _ => 0
/-- A struct of numbers. -/
theorem ints_of_trod {t ti : TypeId} {fs : Array Field} {fuel : Nat} {cs : List Value} {x : DataW H × List MemPlace} (ht : P.underlying t = some (.struct fs)) (hi : P.underlying ti = some (.int .i64)) (hci : P.cellsOf ti = 1) (hct : P.cellsOf t = fs.size) (hf : fieldsInt fs ti = true)
    (h : DataW.trod enc P W 0 (fun _ => true) true fuel t cs = some x) : ∃ zs : List Int, zs.length = fs.size ∧ cs = zs.map (Value.int .i64) := by
  obtain ⟨xs, n, _, _, hl, hxl, hg⟩ := DataW.trod_struct ht h
  have key : ∀ i, i < fs.size → ∃ a : Int, cs[i]? = some (.int .i64 a) := by
    intro i hi'
    have h0 := List.all_eq_true.1 hf i (List.mem_range.2 hi')
    have hfi : fs[i]? = some fs[i] := Array.getElem?_eq_getElem hi'
    rw [hfi] at h0
    simp only [Bool.and_eq_true, decide_eq_true_eq] at h0
    have h1 := hg i fs[i] hfi
    rw [h0.1, h0.2, hci, List.getElem?_eq_getElem (by omega)] at h1
    obtain ⟨a, ha, _⟩ := DataW.trod_int hi h1
    refine ⟨a, ?_⟩
    rw [List.drop_eq_getElem_cons (by omega)] at ha
    simp only [List.take_succ_cons, List.take_zero, List.cons.injEq, and_true] at ha
    rw [List.getElem?_eq_getElem (by omega), ha]
  refine ⟨cs.map valInt, by simp [hl, hct], ?_⟩
  apply List.ext_getElem?
  intro i
  rw [List.getElem?_map, List.getElem?_map]
  by_cases hi' : i < fs.size
  · obtain ⟨a, ha⟩ := key i hi'
    rw [ha]; rfl
  · rw [List.getElem?_eq_none (by omega)]; rfl
/-- A field of a struct. -/
theorem field_of_trod {t : TypeId} {fs : Array Field} {fuel : Nat} {cs : List Value} {x : DataW H × List MemPlace} (ht : P.underlying t = some (.struct fs)) (h : DataW.trod enc P W 0 (fun _ => true) true fuel t cs = some x) {i : Nat} {f : Field} {ft : TypeId} {o k : Nat}
    (hf : fs[i]? = some f) (h1 : f.type = ft) (h2 : f.offset = o) (h3 : P.cellsOf ft = k) : ∃ n y, DataW.trod enc P W 0 (fun _ => true) true n ft ((cs.drop o).take k) = some y := by
  obtain ⟨xs, n, _, _, hl, hxl, hg⟩ := DataW.trod_struct ht h
  have h0 := hg i f hf
  have hi' := (Array.getElem?_eq_some_iff.1 hf).1
  rw [h1, h2, h3, List.getElem?_eq_getElem (by omega)] at h0
  exact ⟨n, _, h0⟩
theorem struct_len {t : TypeId} {fs : Array Field} {fuel : Nat} {cs : List Value} {x : DataW H × List MemPlace} (ht : P.underlying t = some (.struct fs)) (h : DataW.trod enc P W 0 (fun _ => true) true fuel t cs = some x) : cs.length = P.cellsOf t := by
  obtain ⟨xs, n, _, _, hl, hxl, hg⟩ := DataW.trod_struct ht h
  exact hl
end
end Go.Proofs.Ytncoiknpkebgoaa

namespace Go.Proofs.Ytncoiknpkebgoaa
set_option maxRecDepth 100000
set_option linter.unusedSimpArgs false
set_option linter.unusedVariables false
open Go.ChangeShapes Go.WideShapes Go.ChangeAt Go.RowKit Go

theorem cells_i : Try.prog.cellsOf 3 = 1 := by kernel_rfl
section
variable {H : Type} {enc : TypeId × Value → H} {W : World}
theorem o_int {n : Nat} {cs : List Value} {y : DataW H × List MemPlace} (h : DataW.trod enc Try.prog W 0 (fun _ => true) true n 3 cs = some y) : ∃ a : Int, cs = [.int .i64 a] := by
  obtain ⟨a, ha, _⟩ := DataW.trod_int Try.underlying3 h
  exact ⟨a, ha⟩
theorem o_ent {n : Nat} {cs : List Value} {y : DataW H × List MemPlace} (h : DataW.trod enc Try.prog W 0 (fun _ => true) true n 198 cs = some y) : ∃ z : Sw.Ent, cs = z.enc ∧ True := by
  obtain ⟨zs, hl, rfl⟩ := ints_of_trod Try.underlying198 Try.underlying3 cells_i (by kernel_rfl) (by kernel_rfl) h
  match zs, hl with
  | [a, b, c, d], _ => exact ⟨⟨a, b, c, d⟩, rfl, trivial⟩
theorem o_deal {n : Nat} {cs : List Value} {y : DataW H × List MemPlace} (h : DataW.trod enc Try.prog W 0 (fun _ => true) true n 200 cs = some y) : ∃ z : Sw.Deal, cs = z.enc ∧ True := by
  obtain ⟨zs, hl, rfl⟩ := ints_of_trod Try.underlying200 Try.underlying3 cells_i (by kernel_rfl) (by kernel_rfl) h
  match zs, hl with
  | [a, b, c, d, e], _ => exact ⟨⟨a, b, c, d, e⟩, rfl, trivial⟩
theorem o_ents {n : Nat} {cs : List Value} {y : DataW H × List MemPlace} (h : DataW.trod enc Try.prog W 0 (fun _ => true) true n 23 cs = some y) : ∃ A c n xs, cs = [.slice A n c] ∧ RE W 0 A c n xs := by
  obtain ⟨A, c, n, xs, h1, h2, _⟩ := rs_of_trod Try.underlying23 (sz := 4) (by kernel_rfl) (by omega) (fun _ => rfl) (fun n cs y h => o_ent h) h
  exact ⟨A, c, n, xs, h1, h2⟩
theorem o_deals {n : Nat} {cs : List Value} {y : DataW H × List MemPlace} (h : DataW.trod enc Try.prog W 0 (fun _ => true) true n 24 cs = some y) : ∃ A c n xs, cs = [.slice A n c] ∧ RDl W 0 A c n xs := by
  obtain ⟨A, c, n, xs, h1, h2, _⟩ := rs_of_trod Try.underlying24 (sz := 5) (by kernel_rfl) (by omega) (fun _ => rfl) (fun n cs y h => o_deal h) h
  exact ⟨A, c, n, xs, h1, h2⟩
theorem o_ints {n : Nat} {cs : List Value} {y : DataW H × List MemPlace} (h : DataW.trod enc Try.prog W 0 (fun _ => true) true n 22 cs = some y) : ∃ A c n xs, cs = [.slice A n c] ∧ RI W 0 A c n xs :=
  ri_of_trod Try.underlying22 Try.underlying3 cells_i h
theorem o_mkt {n : Nat} {cs : List Value} {y : DataW H × List MemPlace} (h : DataW.trod enc Try.prog W 0 (fun _ => true) true n 26 cs = some y) :
    ∃ aL aLc aLn aP aPc aPn aD aDc aDn aN aNc aNn aS aSc aSn, ∃ m : Sw.Mkt, cs = [.slice aL aLn aLc, .slice aP aPn aPc, .slice aD aDn aDc, .int .i64 m.clock, .slice aN aNn aNc, .slice aS aSn aSc] ∧ RM W 0 aL aLc aLn aP aPc aPn aD aDc aDn aN aNc aNn aS aSc aSn m := by
  have hl := struct_len Try.underlying26 h
  rw [show Try.prog.cellsOf 26 = 6 from by kernel_rfl] at hl
  match cs, hl with
  | [c0, c1, c2, c3, c4, c5], _ =>
    obtain ⟨_, _, k0⟩ := field_of_trod Try.underlying26 h (i := 0) rfl rfl rfl (show _ = 1 by kernel_rfl)
    obtain ⟨_, _, k1⟩ := field_of_trod Try.underlying26 h (i := 1) rfl rfl rfl (show _ = 1 by kernel_rfl)
    obtain ⟨_, _, k2⟩ := field_of_trod Try.underlying26 h (i := 2) rfl rfl rfl (show _ = 1 by kernel_rfl)
    obtain ⟨_, _, k3⟩ := field_of_trod Try.underlying26 h (i := 3) rfl rfl rfl (show _ = 1 by kernel_rfl)
    obtain ⟨_, _, k4⟩ := field_of_trod Try.underlying26 h (i := 4) rfl rfl rfl (show _ = 1 by kernel_rfl)
    obtain ⟨_, _, k5⟩ := field_of_trod Try.underlying26 h (i := 5) rfl rfl rfl (show _ = 1 by kernel_rfl)
    obtain ⟨A0, d0, n0, x0, e0, r0⟩ := o_ents k0
    obtain ⟨A1, d1, n1, x1, e1, r1⟩ := o_ints k1
    obtain ⟨A2, d2, n2, x2, e2, r2⟩ := o_deals k2
    obtain ⟨z, e3⟩ := o_int k3
    obtain ⟨A4, d4, n4, x4, e4, r4⟩ := o_ints k4
    obtain ⟨A5, d5, n5, x5, e5, r5⟩ := o_ints k5
    simp at e0 e1 e2 e3 e4 e5
    exact ⟨A0, d0, n0, A1, d1, n1, A2, d2, n2, A4, d4, n4, A5, d5, n5, ⟨x0, x1, x2, z, x4, x5⟩, by rw [e0, e1, e2, e3, e4, e5], ⟨r0, r1, r2, r4, r5⟩⟩
end
end Go.Proofs.Ytncoiknpkebgoaa

namespace Go.Proofs.Ytncoiknpkebgoaa
set_option maxRecDepth 100000
set_option linter.unusedSimpArgs false
set_option linter.unusedVariables false
open Go.ChangeShapes Go.WideShapes Go.ChangeAt Go.RowKit Go
theorem own_knob : ownKnob Try.prog.godebug = none := by kernel_rfl
theorem laid_out : laidOutB Try.prog = true := by kernel_rfl
end Go.Proofs.Ytncoiknpkebgoaa

