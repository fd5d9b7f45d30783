/-
  Texts joined: LawMk2, Range, DrawM, DrawL, Gate, Gate2, Gate3, Draw3, DrawN.
-/
import Derived.Test.YtimpagcanengoaaPk13
import Derived.Test.YtimpagcanengoaaPk3
import Derived.Test.YtimpagcanengoaaPk4
import Derived.Test.YtimpagcanengoaaPk11
import Derived.Test.YtimpagcanengoaaPk2
import Derived.Deep.CutBlock
import Derived.Deep.DeepCutAuto
import Derived.Deep.DeepMust
namespace Go.Proofs.Ytimpagcanengoaa
set_option maxRecDepth 100000
set_option linter.unusedSimpArgs false
set_option linter.unusedVariables false
open Go.RowKit Go
set_option maxHeartbeats 1000000

/-- A market that holds marks from k on. -/
structure MkM (w : World) (lo : Nat) (aL : Option Addr) (aLc aLn : Nat) (aP : Option Addr) (aPc aPn : Nat) (aD : Option Addr) (aDc aDn : Nat) (aN : Option Addr) (aNc aNn : Nat) (aS : Option Addr) (aSc aSn : Nat) (k : Int) : Prop where
  log : Rd w lo aL aLc 4 aLn (FI (marks k (aLn * 4)))
  purses : RI w lo aP aPc aPn (marks (k + (aLn : Int) * 4) aPn)
  deals : Rd w lo aD aDc 5 aDn (FI (marks (k + (aLn : Int) * 4 + aPn) (aDn * 5)))
  nums : RI w lo aN aNc aNn (marks (k + (aLn : Int) * 4 + aPn + (aDn : Int) * 5) aNn)
  said : RI w lo aS aSc aSn (marks (k + (aLn : Int) * 4 + aPn + (aDn : Int) * 5 + aNn) aSn)
theorem MkM.keep {w w' : World} {lo : Nat} {aL : Option Addr} {aLc aLn : Nat} {aP : Option Addr} {aPc aPn : Nat} {aD : Option Addr} {aDc aDn : Nat} {aN : Option Addr} {aNc aNn : Nat} {aS : Option Addr} {aSc aSn : Nat} {k : Int} (h : MkM w lo aL aLc aLn aP aPc aPn aD aDc aDn aN aNc aNn aS aSc aSn k) (hk : KF lo w w') : MkM w' lo aL aLc aLn aP aPc aPn aD aDc aDn aN aNc aNn aS aSc aSn k := ⟨h.1.keep hk, h.2.keep hk, h.3.keep hk, h.4.keep hk, h.5.keep hk⟩
theorem MkM.less {w : World} {lo lo' : Nat} {aL : Option Addr} {aLc aLn : Nat} {aP : Option Addr} {aPc aPn : Nat} {aD : Option Addr} {aDc aDn : Nat} {aN : Option Addr} {aNc aNn : Nat} {aS : Option Addr} {aSc aSn : Nat} {k : Int} (h : MkM w lo aL aLc aLn aP aPc aPn aD aDc aDn aN aNc aNn aS aSc aSn k) (hl : lo' ≤ lo) : MkM w lo' aL aLc aLn aP aPc aPn aD aDc aDn aN aNc aNn aS aSc aSn k := ⟨h.1.less hl, h.2.less hl, h.3.less hl, h.4.less hl, h.5.less hl⟩
section
variable {α : Type} {enc : α → List Value} {sz : Nat} {e : TypeId} {τ : Nat → Nat} {t u : Nat} {w w' w0 : World} {lo c n : Nat} {A : Option Addr} {xs : List α}
theorem OwT.sm (h : OwT enc sz e τ t w lo A c n xs) (h1 : 1 ≤ t) (h5 : t ≤ 5) : ∀ i, atA A i → SM lo τ i := fun i ⟨a, ha, hi⟩ => by
  have hb := (h.ow.blk ha).1
  have ht := h.tag a ha
  subst hi
  exact ⟨hb, by omega, by omega⟩
/-- What is written to one slice leaves those of another mark. -/
theorem OwT.other (h : OwT enc sz e τ t w lo A c n xs) (hb : Ch (atA A) w0 w') (k : KT τ u lo w w0) (hu : u ≠ t) : KT τ u lo w w' :=
  KT.ch hb k fun i ⟨a, ha, hi⟩ => .inr (by rw [hi, h.tag a ha]; exact Ne.symm hu)
end
theorem FI_I (xs : List Int) : xs.flatMap encI = FI xs := by unfold FI; induction xs with
  | nil => rfl
  | cons x xs ih => rw [List.flatMap_cons, ih]; rfl

theorem KT.atA {τ : Nat → Nat} {t u lo : Nat} {w w0 w' : World} {B : Option Addr} (hb : Ch (atA B) w0 w') (k : KT τ t lo w w0) (tb : ∀ a, B = some a → τ a.block = u) (hu : t ≠ u) : KT τ t lo w w' :=
  KT.ch hb k fun i ⟨a, ha, hi⟩ => .inr (by rw [hi, tb a ha]; exact Ne.symm hu)
theorem OwFl.keepT {sz : Nat} {e : TypeId} {τ : Nat → Nat} {t lo c n : Nat} {w w' : World} {A : Option Addr} {zs : List Int} (h : OwFl sz e w lo A c n zs) (ta : ∀ a, A = some a → τ a.block = t) (k : KT τ t lo w w') : OwFl sz e w' lo A c n zs :=
  h.keep_ fun a ha => k.block a.block (h.blk ha).1 (h.blk ha).2 (ta a ha)
theorem Ow.keepT {α : Type} {enc : α → List Value} {sz : Nat} {e : TypeId} {τ : Nat → Nat} {t lo c n : Nat} {w w' : World} {A : Option Addr} {xs : List α} (h : Ow enc sz e w lo A c n xs) (ta : ∀ a, A = some a → τ a.block = t) (k : KT τ t lo w w') : Ow enc sz e w' lo A c n xs :=
  h.keep_ fun a ha => k.block a.block (h.blk ha).1 (h.blk ha).2 (ta a ha)

/-- A block that lies above what was turned. -/
theorem boxed_kept {A : Option Addr} {W w1 : World} {g : Nat} (hb : Ch (atA A) W w1) (hA : ∀ a, A = some a → a.block < g) (hg : g < W.heap.size) : ∀ o, w1.cell? ⟨g, o, none⟩ = W.cell? ⟨g, o, none⟩ :=
  fun o => hb.cell (p := ⟨g, o, none⟩) hg (fun ⟨a, ha, hk⟩ => absurd (hA a ha) (by rw [← hk]; exact Nat.lt_irrefl _))

end Go.Proofs.Ytimpagcanengoaa

namespace Go.Proofs.Ytimpagcanengoaa
set_option maxRecDepth 100000
set_option linter.unusedSimpArgs false
set_option linter.unusedVariables false
open Go.RowKit Go
set_option maxHeartbeats 1000000

def Sw.Mkt.len (m : Sw.Mkt) : Nat := m.log.length + m.purses.length + m.deals.length + m.nums.length + m.said.length
theorem monTurn_len (p : List Int) (who n : Int) : (Sw.monTurn p who n).length = p.length := by
  unfold Sw.monTurn Sw.turned
  split <;> simp
theorem backPurses_len (t : Int) : ∀ (ds : List Sw.Deal) (p : List Int), (ds.foldl (Sw.backPurse t) p).length = p.length
  | [], p => rfl
  | d :: ds, p => by
    rw [List.foldl_cons, backPurses_len t ds]
    unfold Sw.backPurse
    split
    · exact monTurn_len _ _ _
    · rfl
theorem mktTick_len (m : Sw.Mkt) : (Sw.mktTick m).1.len ≤ m.len := by
  unfold Sw.mktTick
  split
  · split
    · exact Nat.le_refl _
    · simp [Sw.tick, Sw.Mkt.len, backPurses_len]
  · simp [Sw.mktZ, Sw.Mkt.len]
section
variable {τ : Nat → Nat} {w w' w0 : World} {lo lo' hi : Nat}
theorem RM.len {aL : Option Addr} {aLc aLn : Nat} {aP : Option Addr} {aPc aPn : Nat} {aD : Option Addr} {aDc aDn : Nat} {aN : Option Addr} {aNc aNn : Nat} {aS : Option Addr} {aSc aSn : Nat} {m : Sw.Mkt} (h : RM w lo aL aLc aLn aP aPc aPn aD aDc aDn aN aNc aNn aS aSc aSn m) : aLn + aPn + aDn + aNn + aSn = m.len := by
  have h1 := h.1.1; have h2 := h.2.1; have h3 := h.3.1; have h4 := h.4.1; have h5 := h.5.1
  unfold Sw.Mkt.len; omega
theorem KF.trans {a b c : World} (h : KF lo a b) (k : KF lo b c) : KF lo a c :=
  ⟨Nat.le_trans h.size k.size, fun i h1 h2 => (k.block i h1 (Nat.lt_of_lt_of_le h2 h.size)).trans (h.block i h1 h2)⟩
/-- Blocks from l on, but for those from h on. -/
def RG2 (l h : Nat) : Nat → Prop := fun b => l ≤ b ∧ b < h
/-- A market that is marked: what has turned lies in its range. -/
theorem OwM.ranged {aL : Option Addr} {aLc aLn : Nat} {aP : Option Addr} {aPc aPn : Nat} {aD : Option Addr} {aDc aDn : Nat} {aN : Option Addr} {aNc aNn : Nat} {aS : Option Addr} {aSc aSn : Nat} {m : Sw.Mkt} (h : OwM τ w lo aL aLc aLn aP aPc aPn aD aDc aDn aN aNc aNn aS aSc aSn m) (hk : KF lo w w') : OwM (glue τ w.heap.size (fun _ => 0)) w' lo aL aLc aLn aP aPc aPn aD aDc aDn aN aNc aNn aS aSc aSn m := (h.glueL (Nat.le_refl _)).keepF hk
theorem SM.range {b : Nat} (h : SM lo (glue τ hi (fun _ => 0)) b) : RG2 lo hi b := by
  obtain ⟨h1, h2, h3⟩ := h
  refine ⟨h1, ?_⟩
  by_cases hb : b < hi
  · exact hb
  · unfold glue at h2
    rw [if_neg hb] at h2
    exact absurd (show 1 ≤ 0 from h2) (by decide)
theorem KF.range (hb : Ch (RG2 lo hi) w w') (k : KF lo' w0 w) (hl : hi ≤ lo' ∨ w0.heap.size ≤ lo) : KF lo' w0 w' :=
  ⟨Nat.le_trans k.size hb.size, fun b h1 h2 => (hb.block b (Nat.lt_of_lt_of_le h2 k.size) (fun h => by have h3 : lo ≤ b := h.1; have h4 : b < hi := h.2; omega)).trans (k.block b h1 h2)⟩
theorem OwM.keepR {aL : Option Addr} {aLc aLn : Nat} {aP : Option Addr} {aPc aPn : Nat} {aD : Option Addr} {aDc aDn : Nat} {aN : Option Addr} {aNc aNn : Nat} {aS : Option Addr} {aSc aSn : Nat} {m : Sw.Mkt} (h : OwM τ w0 lo' aL aLc aLn aP aPc aPn aD aDc aDn aN aNc aNn aS aSc aSn m) (k : KF lo' w0 w) (hb : Ch (RG2 lo hi) w w') (hl : hi ≤ lo' ∨ w0.heap.size ≤ lo) : OwM τ w' lo' aL aLc aLn aP aPc aPn aD aDc aDn aN aNc aNn aS aSc aSn m ∧ KF lo' w0 w' :=
  ⟨h.keepF (KF.range hb k hl), KF.range hb k hl⟩
theorem RG2.rules (hb : Ch (RG2 lo hi) w w') {g : Nat} (hg : g < lo ∨ hi ≤ g) (hs : g < w.heap.size) : (∀ o, w'.cell? ⟨g, o, none⟩ = w.cell? ⟨g, o, none⟩) :=
  fun o => hb.cell (p := ⟨g, o, none⟩) hs (fun h => by have h1 : lo ≤ g := h.1; have h2 : g < hi := h.2; omega)
end
end Go.Proofs.Ytimpagcanengoaa

namespace Go.Proofs.Ytimpagcanengoaa
set_option maxRecDepth 100000
set_option linter.unusedSimpArgs false
set_option linter.unusedVariables false
open Go.RowKit Go
set_option maxHeartbeats 8000000

theorem mkt0 : Sw.mktNew [0, 100, 100, 300, 50] = ⟨[], [0, 100, 100, 300, 50], [], 0, [0, 0, 0, 0, 0], [0, 0, 0, 0, 0]⟩ := by decide +kernel
/-- What a region leaves that makes a market and lays it in a box. -/
def Boxd (l : Nat) (wx : World) (g lo : Nat) (aL : Option Addr) (aLc aLn : Nat) (aP : Option Addr) (aPc aPn : Nat) (aD : Option Addr) (aDc aDn : Nat) (aN : Option Addr) (aNc aNn : Nat) (aS : Option Addr) (aSc aSn : Nat) (m : Sw.Mkt) (τ : Nat → Nat) : Prop :=
  MktAt wx g 0 aL aLc aLn aP aPc aPn aD aDc aDn aN aNc aNn aS aSc aSn m.clock ∧ OwM τ wx lo aL aLc aLn aP aPc aPn aD aDc aDn aN aNc aNn aS aSc aSn m ∧ l ≤ g ∧ l ≤ lo ∧ (∀ b, wx.heap.size ≤ b → τ b = 0) ∧ ¬ SM lo τ g
theorem Boxd.mk1 {l : Nat} {wc wx : World} {g lo : Nat} {aL : Option Addr} {aLc aLn : Nat} {aP : Option Addr} {aPc aPn : Nat} {aD : Option Addr} {aDc aDn : Nat} {aN : Option Addr} {aNc aNn : Nat} {aS : Option Addr} {aSc aSn : Nat} {m : Sw.Mkt} {τ : Nat → Nat} (hM : OwM τ wc lo aL aLc aLn aP aPc aPn aD aDc aDn aN aNc aNn aS aSc aSn m) (hk : KF lo wc wx) (hA : MktAt wx g 0 aL aLc aLn aP aPc aPn aD aDc aDn aN aNc aNn aS aSc aSn m.clock) (hl : l ≤ g) (hlo : l ≤ lo) (hg : g < lo ∨ wc.heap.size ≤ g) : Boxd l wx g lo aL aLc aLn aP aPc aPn aD aDc aDn aN aNc aNn aS aSc aSn m (glue τ wc.heap.size (fun _ => 0)) :=
  ⟨hA, (hM.glueL (Nat.le_refl _)).keepF hk, hl, hlo, fun b hb => glue0 (Nat.le_trans hk.size hb), fun h => by
    obtain ⟨h1, h2, _⟩ := h
    rcases hg with hg | hg
    · omega
    · rw [glue0 hg] at h2; omega⟩

theorem l21Market_c (rb P : Nat) (w : World) (hr : Rdp w rb P) (hP : P ≤ 100000) : Calls Try.prog 64 #[.pointer (some ⟨rb, 0, none⟩)] w fun E w' => ∃ jL jLc jLn jP jPc jPn jD jDc jDn jN jNc jNn jS jSc jSn m, E = .returned (.agg #[.slice jL jLn jLc, .slice jP jPn jPc, .slice jD jDn jDc, .int .i64 m.clock, .slice jN jNn jNc, .slice jS jSn jSc]) ∧ RM w' w.heap.size jL jLc jLn jP jPc jPn jD jDc jDn jN jNc jNn jS jSc jSn m ∧ Sw.mktOk m = true ∧ m.clock ≤ 40 ∧ Rdp w' rb (P + 2000) ∧ Ch (· = rb) w w' := by
  have hlt := hr.lt
  go_enter Try.func64, Try.ntmps64
  go_upto_region 1 with fail
  go_cut [3] (fun p wx => ∃ (g lo : Nat) (jL : Option Addr) (jLc jLn : Nat) (jP : Option Addr) (jPc jPn : Nat) (jD : Option Addr) (jDc jDn : Nat) (jN : Option Addr) (jNc jNn : Nat) (jS : Option Addr) (jSc jSn : Nat) (τ : Nat → Nat), p = .pointer (some ⟨g, 0, none⟩) ∧ MktAt wx w.heap.size 0 none 0 0 none 0 0 none 0 0 none 0 0 none 0 0 0 ∧ Ex w wx ∧ Boxd (w.heap.size + 1) wx g lo jL jLc jLn jP jPc jPn jD jDc jDn jN jNc jNn jS jSc jSn ⟨[], [0, 100, 100, 300, 50], [], 0, [0, 0, 0, 0, 0], [0, 0, 0, 0, 0]⟩ τ)
  case first =>
    go_wp2_with fail
    apply Calls.mono
    apply (sMktNew_c (xs := [0, 100, 100, 300, 50]))
    · apply Rs.at0 (Ow.rs (Ow.new (enc := encI) (sz := 1) (e := 3) (g := w.heap.size + 1) (w := w.alloc (.cells #[.slice none 0 0, .slice none 0 0, .slice none 0 0, .int .i64 0, .slice none 0 0, .slice none 0 0] 27)) (cs := #[.int .i64 0, .int .i64 100, .int .i64 100, .int .i64 300, .int .i64 50]) [0, 100, 100, 300, 50] (by simp) rfl rfl (fun _ => rfl) (Nat.le_refl _) (by decide)))
      (exact kf_)
    rintro E w1 ⟨jL, jLc, jLn, jP, jPc, jPn, jD, jDc, jDn, jN, jNc, jNn, jS, jSc, jSn, τb, rfl, hob, hb⟩
    rw [mkt0] at hob
    rw [mkt0]
    have hst := xr hb; (try simp only [zA, zC, zD, zN] at hst); obtain ⟨hc, hf, hz⟩ := hst
    go_wp2_with fail
    all_goals go_meet
    all_goals refine ⟨_, _, _, _, _, _, _, _, _, _, _, _, _, _, _, _, _, _, rfl, ⟨sz_, ?_, ?_, ?_, ?_, ?_, ?_, fun i => ?_⟩, ext_, Boxd.mk1 hob kf_ ⟨sz_, ?_, ?_, ?_, ?_, ?_, ?_, fun i => ?_⟩ sz_ sz_ (by first | exact .inl sz_ | exact .inr sz_)⟩
    all_goals (first | (go_simp; done) | (simp [go_sem, *]; done))
  case rest =>
    obtain ⟨g, lo, jL, jLc, jLn, jP, jPc, jPn, jD, jDc, jDn, jN, jNc, jNn, jS, jSc, jSn, τb, rfl, hR, hb, hB⟩ := hcut
    have hrd := hr.keep (show KB rb w wc from by (exact kb_))
    have hst := xr hb
    (try simp only [zA, zC, zD, zN] at hst)
    obtain ⟨hcb, hfb, hzb⟩ := hst
    go_wp2_with (first | (go_at_call 72; apply Calls.mono; apply (pickLit (fun x => x ≤ 40)); (apply Rdp.keep; assumption; (exact kb_)); omega; (first | rfl | (simp; done)); (repeat (first | exact LitQ.nil | (refine LitQ.cons ⟨_, rfl, (by first | exact trivial | omega)⟩ ?_))); omega; (first | omega | (simp only [zA, zC, zD, zN]; omega)); rintro E w1 ⟨v, x, rfl, hv, hq, hcx, hrd, hb⟩; (try simp only [zA, zC, zD, zN] at hcx); have hst := xc hb; (try simp only [zA, zC, zD, zN] at hst); obtain ⟨hc, hf, hz⟩ := hst) | (go_at_call 72; apply Calls.mono; apply pick_c; (apply Rdp.keep; assumption; (exact kb_)); (first | assumption | omega); (first | assumption | omega); rintro E w1 ⟨v, rfl, ⟨hv0, hv1⟩, hrd, hb⟩; have hst := xc hb; (try simp only [zA, zC, zD, zN] at hst); obtain ⟨hc, hf, hz⟩ := hst))
    have hsz1 : wc.heap.size + 1 ≤ w1.heap.size := sz_
    have hRw : MktAt w1 w.heap.size 0 none 0 0 none 0 0 none 0 0 none 0 0 none 0 0 0 := by
      obtain ⟨r0, r1, r2, r3, r4, r5, r6, rf⟩ := hR
      exact ⟨sz_, by (go_simp; first | done | simp [*]), by (go_simp; first | done | simp [*]), by (go_simp; first | done | simp [*]), by (go_simp; first | done | simp [*]), by (go_simp; first | done | simp [*]), by (go_simp; first | done | simp [*]), fun i => by (go_simp; first | done | simp [*])⟩
    have hBw : Boxd (w.heap.size + 1) w1 g lo jL jLc jLn jP jPc jPn jD jDc jDn jN jNc jNn jS jSc jSn ⟨[], [0, 100, 100, 300, 50], [], 0, [0, 0, 0, 0, 0], [0, 0, 0, 0, 0]⟩ τb := by
      obtain ⟨hA, ho, hg, hl, hz0, hS⟩ := hB
      obtain ⟨k0, k1, k2, k3, k4, k5, k6, kf⟩ := hA
      exact ⟨⟨sz_, by (go_simp; first | done | simp [*]), by (go_simp; first | done | simp [*]), by (go_simp; first | done | simp [*]), by (go_simp; first | done | simp [*]), by (go_simp; first | done | simp [*]), by (go_simp; first | done | simp [*]), fun i => by (go_simp; first | done | simp [*])⟩, ho.keepF kf_, hg, hl, fun b hb' => hz0 b (by omega), hS⟩
    have hbw : Ch (· = rb) w w1 := ext_
    clear hR hB hcb hfb hb hc hf
    go_loopw [4] (fun k wr => ∃ (k1 : Int) (qq lo : Nat) (jL : Option Addr) (jLc jLn : Nat) (jP : Option Addr) (jPc jPn : Nat) (jD : Option Addr) (jDc jDn : Nat) (jN : Option Addr) (jNc jNn : Nat) (jS : Option Addr) (jSc jSn : Nat) (m : Sw.Mkt) (rows : List Sw.Row) (τ : Nat → Nat), k = .int .i64 k1 ∧ k1 ≤ 40 ∧ qq + 45 * k1 ≤ 1800 ∧ qq ≤ 1800 ∧ Ch (· = rb) w wr ∧ Rdp wr rb (P + 2 + qq) ∧
      MktAt wr w.heap.size 0 none 0 0 none 0 0 none 0 0 none 0 0 none 0 0 0 ∧ Boxd (w.heap.size + 1) wr g lo jL jLc jLn jP jPc jPn jD jDc jDn jN jNc jNn jS jSc jSn m τ ∧ Sw.MOk m rows ∧ m.clock + k1 ≤ 40 ∧ m.clock ≤ 40) (fun k _ => (intOf k).toNat)
    case atStart => exact ⟨x, 0, lo, jL, jLc, jLn, jP, jPc, jPn, jD, jDc, jDn, jN, jNc, jNn, jS, jSc, jSn, _, _, τb, rfl, by omega, by omega, by omega, hbw, hrd, hRw, hBw, mkt0 ▸ Sw.mktNew_ok (p := [0, 100, 100, 300, 50]) (by decide +kernel) (by decide +kernel), by show (0 : Int) + x ≤ 40; omega, by show (0 : Int) ≤ 40; omega⟩
    case round =>
      obtain ⟨k1, qq, lo, jL, jLc, jLn, jP, jPc, jPn, jD, jDc, jDn, jN, jNc, jNn, jS, jSc, jSn, m, rows, τ, rfl, hk1, hq1, hq2, hb, hrd, hR, hB, hok, hck, hck2⟩ := hrel
      have hst := xc hb
      obtain ⟨hcb, hfb, hzb⟩ := hst
      obtain ⟨hA, ho, hg, hl, hz0, hS⟩ := hB
      obtain ⟨e0, e1, e2, e3, e4, e5, e6, ef⟩ := hA
      obtain ⟨r0, r1, r2, r3, r4, r5, r6, rf⟩ := hR
      simp only [Nat.zero_add] at e1 e2 e3 e4 e5 e6 r1 r2 r3 r4 r5 r6
      by_cases hk0 : (0 : Int) < k1
      · go_upto_if 21 with (go_at_call 72; apply Calls.mono; apply pick_c; (apply Rdp.keep; assumption; (exact kb_)); (first | assumption | omega); (first | assumption | omega); rintro E w1 ⟨v, rfl, ⟨hv0, hv1⟩, hrd, hb⟩; have hst := xc hb; (try simp only [zA, zC, zD, zN] at hst); obtain ⟨hc, hf, hz⟩ := hst)
        have hrd0 := hrd
        go_cut [] (fun wx => ∃ (lo : Nat) (eL : Option Addr) (eLc eLn : Nat) (eP : Option Addr) (ePc ePn : Nat) (eD : Option Addr) (eDc eDn : Nat) (eN : Option Addr) (eNc eNn : Nat) (eS : Option Addr) (eSc eSn : Nat) (m : Sw.Mkt) (rows : List Sw.Row) (τ : Nat → Nat), Ch (· = rb) w wx ∧ Rdp wx rb (P + 2 + qq + 1) ∧
          MktAt wx w.heap.size 0 none 0 0 none 0 0 none 0 0 none 0 0 none 0 0 0 ∧ Boxd (w.heap.size + 1) wx g lo eL eLc eLn eP ePc ePn eD eDc eDn eN eNc eNn eS eSc eSn m τ ∧ Sw.MOk m rows ∧ m.clock + (k1 - 1) ≤ 40 ∧ m.clock ≤ 40)
        case first =>
          by_cases hv : v = 0
          · have hv2 : (v == 0) = true := by simp [hv]
            have hlen := ho.rm.len
            obtain ⟨q1, q2, q3, q4, q5⟩ := MOk_len hok
            simp only [Sw.Mkt.len] at hlen
            go_wp2_with (go_at_call 46; apply Calls.mono; apply sMktCopy_c; (apply OwM.rm0 ho; (exact kf_)); omega; rintro E w2 ⟨dL, dLc, dLn, dP, dPc, dPn, dD, dDc, dDn, dN, dNc, dNn, dS, dSc, dSn, τd, rfl, hod, hb⟩; have hst := xr hb; (try simp only [zA, zC, zD, zN] at hst); obtain ⟨hc, hf, hz⟩ := hst)
            apply Calls.mono
            have hld := hod.rm.len
            simp only [Sw.Mkt.len] at hld
            apply sTick_c (hM := hod)
            · exact hok.clk.1
            · omega
            · omega
            · omega
            · exact sz_
            rintro E w3 ⟨A, c, τe, rfl, hoe, -, hb3⟩
            have hex : Ex w1 w3 := Ch.trans' (show Ex w1 w2 from ext_) hb3 (fun i hi h => (by have h1 := h.1; omega))
            have hz3 : w1.heap.size ≤ w3.heap.size := hex.size
            have hst := xr hex
            (try simp only [zA, zC, zD, zN] at hst)
            obtain ⟨hc3, hf3, hz3⟩ := hst
            have hsz3 : w2.heap.size ≤ w3.heap.size := hb3.size
            clear hb3
            go_wp2_with fail
            go_meet
            have hkf : KF w1.heap.size w3 ((((((w3.setCell ⟨g, 0, none⟩ (.slice dL dLn dLc)).setCell ⟨g, 1, none⟩ (.slice A dPn c)).setCell ⟨g, 2, none⟩ (.slice dD dDn dDc)).setCell ⟨g, 3, none⟩ (.int .i64 (m.clock + 1))).setCell ⟨g, 4, none⟩ (.slice dN dNn dNc)).setCell ⟨g, 5, none⟩ (.slice dS dSn dSc)) := by (exact kf_)
            have hgr : g ≠ rb := by omega
            refine ⟨w1.heap.size, _, _, _, _, _, _, _, _, _, _, _, _, _, _, _, Sw.tick m, rows, glue τe w3.heap.size (fun _ => 0), ext_, Rdp.keep hrd (by (exact kb_)), ⟨sz_, ?_, ?_, ?_, ?_, ?_, ?_, fun i => ?_⟩, Boxd.mk1 hoe hkf ⟨sz_, ?_, ?_, ?_, ?_, ?_, ?_, fun i => ?_⟩ sz_ sz_ (.inl (by omega)), Sw.tick_ok hok (by omega), ?_, ?_⟩
            rotate_right 2
            · show m.clock + 1 + (k1 - 1) ≤ 40; omega
            · show m.clock + 1 ≤ 40; omega
            all_goals (first | (go_simp; done) | (simp [go_sem, *]; done) | (rw [show (Sw.tick m).clock = m.clock + 1 from rfl]; go_simp; done))
          · have hv2 : (v == 0) = false := by simp [hv]
            go_wp2_with fail
            go_meet
            refine ⟨lo, jL, jLc, jLn, jP, jPc, jPn, jD, jDc, jDn, jN, jNc, jNn, jS, jSc, jSn, m, rows, τ, ext_, hrd, ⟨sz_, by (go_simp; first | done | simp [*]), by (go_simp; first | done | simp [*]), by (go_simp; first | done | simp [*]), by (go_simp; first | done | simp [*]), by (go_simp; first | done | simp [*]), by (go_simp; first | done | simp [*]), fun i => by (go_simp; first | done | simp [*])⟩, ⟨⟨sz_, by (go_simp; first | done | simp [*]), by (go_simp; first | done | simp [*]), by (go_simp; first | done | simp [*]), by (go_simp; first | done | simp [*]), by (go_simp; first | done | simp [*]), by (go_simp; first | done | simp [*]), fun i => by (go_simp; first | done | simp [*])⟩, ho.keepF kf_, hg, hl, (fun b hb' => hz0 b (by omega)), hS⟩, hok, by omega, by omega⟩
        case rest =>
          obtain ⟨lo2, fL, fLc, fLn, fP, fPc, fPn, fD, fDc, fDn, fN, fNc, fNn, fS, fSc, fSn, m2, rows2, τ2, hbf, hrd, hR2, ⟨hA2, ho2, -, hl2, hz2, hS2⟩, hok2, hck, hck2⟩ := hcut
          obtain ⟨p0, p1, p2, p3, p4, p5, p6, pf⟩ := hA2
          obtain ⟨r0, r1, r2, r3, r4, r5, r6, rf⟩ := hR2
          simp only [Nat.zero_add] at p1 p2 p3 p4 p5 p6 r1 r2 r3 r4 r5 r6
          have hst := xc hbf
          obtain ⟨hcf, hff, hzf⟩ := hst
          clear hcb hfb hc hf hb
          have hlen := ho2.rm.len
          obtain ⟨q1, q2, q3, q4, q5⟩ := MOk_len hok2
          simp only [Sw.Mkt.len] at hlen
          go_upto_if 29 with (first | (go_at_call 85; apply Calls.mono; apply (l21Req_c (m := m2) (rows := rows2)); (apply Rdp.keep hrd; (exact kb_)); (exact hok2); (exact (ho2.rm.keep kf_).less (by omega)); omega; rintro E w4 ⟨p, q, r, s, t, u, rfl, hrd, hb⟩; (have hst := xc hb; (try simp only [zA, zC, zD, zN] at hst); obtain ⟨hc, hf, hz⟩ := hst)) | (go_at_call 35; apply Calls.mono; apply (sReqOk_c ⟨p, q, r, s, t, u⟩); rintro E w5 ⟨rfl, hb⟩; have hst := xr hb; (try simp only [zA, zC, zD, zN] at hst); obtain ⟨hc, hf, hz⟩ := hst))
          cases hq : Sw.reqOk ⟨p, q, r, s, t, u⟩
          · go_wp2_with fail
            go_roundw
            case rel =>
              refine ⟨k1 - 1, qq + 41, lo2, fL, fLc, fLn, fP, fPc, fPn, fD, fDc, fDn, fN, fNc, fNn, fS, fSc, fSn, m2, rows2, τ2, rfl, by omega, by omega, by omega, ext_, (Rdp.keep hrd (by (exact kb_))).more (by omega), ⟨sz_, by (go_simp; first | done | simp [*]), by (go_simp; first | done | simp [*]), by (go_simp; first | done | simp [*]), by (go_simp; first | done | simp [*]), by (go_simp; first | done | simp [*]), by (go_simp; first | done | simp [*]), fun i => by (go_simp; first | done | simp [*])⟩, ⟨⟨sz_, by (go_simp; first | done | simp [*]), by (go_simp; first | done | simp [*]), by (go_simp; first | done | simp [*]), by (go_simp; first | done | simp [*]), by (go_simp; first | done | simp [*]), by (go_simp; first | done | simp [*]), fun i => by (go_simp; first | done | simp [*])⟩, ho2.keepF kf_, hg, hl2, (fun b hb' => hz2 b (by omega)), hS2⟩, hok2, by omega, by omega⟩
            case measure => simp [intOf]; omega
          · obtain ⟨y, hy⟩ : ∃ y, y = Sw.doIt m2 ⟨p, q, r, s, t, u⟩ := ⟨_, rfl⟩
            have Hy := Lib.hid hy
            clear hy
            go_wp2_with fail
            (focus (refine wp_name ?_; intro W0 hb0; have hst := xr hb0; (try simp only [zA, zC, zD, zN] at hst); obtain ⟨hc0, hf0, hz0⟩ := hst; refine wp_regionX [5, 6, 7] (S := fun w' => Held W0 w') hdH (fun hHeld => ?_); refine GoesX.take 0 31 [1, 3, 4, 5, 6, 7] hHeld (h := ?_); refine GoesX.take 2 33 [3, 4, 5, 6, 7] hHeld (h := ?_); refine GoesX.one 1 (h := fun K hK => ?_); go_simp; (first | (go_at_call 46; apply Calls.mono; apply (sMktCopy_c (m := m2)); (apply OwM.rm0 ho2; (exact kf_)); omega; rintro E w6 ⟨dL, dLc, dLn, dP, dPc, dPn, dD, dDc, dDn, dN, dNc, dNn, dS, dSc, dSn, τd, rfl, hod, hb⟩; have hst := xr hb; (try simp only [zA, zC, zD, zN] at hst); obtain ⟨hc, hf, hz⟩ := hst) | (go_at_call 67; apply Calls.mono; apply (sDo_c (m := m2) (r := ⟨p, q, r, s, t, u⟩) (rows := rows2) (τ := τd)); (exact hod); (exact hok2); (exact hq); (exact sz_); rintro E w7 ⟨iL, iLc, iLn, iP, iPc, iPn, iD, iDc, iDn, iN, iNc, iNn, iS, iSc, iSn, τi, rfl, hoi, -, hb7⟩; rw [← Hy.out] at hoi; rw [← Hy.out]; have hb := (Ch.trans' (show Ex W0 w6 from ext_) hb7 (fun i hi h => (by have h1 := h.1; simp only [zD] at h1; omega)) : Ex W0 w7); clear hb7; have hst := xr hb; (try simp only [zA, zC, zD, zN] at hst); obtain ⟨hc, hf, hz⟩ := hst)); (try go_wp2_with fail); refine outS hK hdH (h := fun hH2 => ?_); clear hK K hHeld; have hHeld := hH2; clear hH2; refine GoesX.one 3 (h := fun K hK => ?_); go_simp; (first | (go_at_call 46; apply Calls.mono; apply (sMktCopy_c (m := m2)); (apply OwM.rm0 ho2; (exact kf_)); omega; rintro E w6 ⟨dL, dLc, dLn, dP, dPc, dPn, dD, dDc, dDn, dN, dNc, dNn, dS, dSc, dSn, τd, rfl, hod, hb⟩; have hst := xr hb; (try simp only [zA, zC, zD, zN] at hst); obtain ⟨hc, hf, hz⟩ := hst) | (go_at_call 67; apply Calls.mono; apply (sDo_c (m := m2) (r := ⟨p, q, r, s, t, u⟩) (rows := rows2) (τ := τd)); (exact hod); (exact hok2); (exact hq); (exact sz_); rintro E w7 ⟨iL, iLc, iLn, iP, iPc, iPn, iD, iDc, iDn, iN, iNc, iNn, iS, iSc, iSn, τi, rfl, hoi, -, hb7⟩; rw [← Hy.out] at hoi; rw [← Hy.out]; have hb := (Ch.trans' (show Ex W0 w6 from ext_) hb7 (fun i hi h => (by have h1 := h.1; simp only [zD] at h1; omega)) : Ex W0 w7); clear hb7; have hst := xr hb; (try simp only [zA, zC, zD, zN] at hst); obtain ⟨hc, hf, hz⟩ := hst)); (try go_wp2_with fail); refine outS hK hdH (h := fun hH2 => ?_); clear hK K hHeld; have hHeld := hH2; clear hH2; refine GoesX.take 4 30 [5, 6, 7] hHeld (h := ?_); refine GoesX.takeX 5 35 (h := ?_); refine GoesX.takeX 6 36 (h := ?_); refine GoesX.oneX 7 (h := fun K hK => ?_); go_simp; refine outX hK (h := ?_); clear hK K; refine GoesX.done (by kernel_rfl) ?_ _))
            go_wp2_with fail
            have hexR : Ex w4 w7 := ext_
            have hk3 := Sw.doIt_ok hok2 hq
            have hck3 := Sw.doIt_clock hok2 hq
            rw [← Hy.out] at hk3 hck3
            obtain ⟨rows3, hok3⟩ := hk3
            have hg7 : g < W0.heap.size := sz_
            go_roundw
            case rel =>
              have hkf : KF W0.drew.heap.size w7 ((((((w7.setCell ⟨g, 0, none⟩ (.slice iL iLn iLc)).setCell ⟨g, 1, none⟩ (.slice iP iPn iPc)).setCell ⟨g, 2, none⟩ (.slice iD iDn iDc)).setCell ⟨g, 3, none⟩ (.int .i64 y.1.clock)).setCell ⟨g, 4, none⟩ (.slice iN iNn iNc)).setCell ⟨g, 5, none⟩ (.slice iS iSn iSc)) := by (exact kf_)
              refine ⟨k1 - 1, qq + 41, W0.drew.heap.size, _, _, _, _, _, _, _, _, _, _, _, _, _, _, _, y.1, rows3, glue τi w7.heap.size (fun _ => 0), rfl, by omega, by omega, by omega, ext_, (Rdp.keep hrd (by (exact kb_))).more (by omega), ⟨sz_, ?_, ?_, ?_, ?_, ?_, ?_, fun i => ?_⟩, Boxd.mk1 hoi hkf ⟨sz_, ?_, ?_, ?_, ?_, ?_, ?_, fun i => ?_⟩ sz_ sz_ (.inl hg7), hok3, by omega, by omega⟩
              all_goals (first | (go_simp; done) | (simp [go_sem, *]; done) | rfl)
            case measure => simp [intOf]; omega
      · go_wp2_with fail
        refine bodyPost_ret (v := .agg #[.slice jL jLn jLc, .slice jP jPn jPc, .slice jD jDn jDc, .int .i64 m.clock, .slice jN jNn jNc, .slice jS jSn jSc]) (by simp [results, Try.results64, go_sem, *]) rfl ?_
        refine ⟨_, _, _, _, _, _, _, _, _, _, _, _, _, _, _, m, rfl, (ho.rm.keep kf_).less (by omega), Sw.mktOk_iff.2 ⟨_, hok⟩, hck2, (Rdp.keep hrd (by (exact kb_))).more (by omega), ext_⟩
end Go.Proofs.Ytimpagcanengoaa

namespace Go.Proofs.Ytimpagcanengoaa
set_option maxRecDepth 100000
set_option linter.unusedSimpArgs false
set_option linter.unusedVariables false
open Go.RowKit Go
set_option maxHeartbeats 16000000

def sliceLen : Value → Nat
  | .slice _ n _ => n
  | _ => 0
theorem Ints.ex {w w' : World} {g n : Nat} (hb : Ex w w') (h : Ints w g n) : Ints w' g n := h.ch hb (fun h => h)
end Go.Proofs.Ytimpagcanengoaa

namespace Go.Proofs.Ytimpagcanengoaa
set_option maxRecDepth 100000
set_option linter.unusedSimpArgs false
set_option linter.unusedVariables false
open Go.RowKit Go
set_option maxHeartbeats 400000

end Go.Proofs.Ytimpagcanengoaa

namespace Go.Proofs.Ytimpagcanengoaa
set_option maxRecDepth 100000
set_option linter.unusedSimpArgs false
set_option linter.unusedVariables false
open Go.RowKit Go
set_option maxHeartbeats 400000

end Go.Proofs.Ytimpagcanengoaa

namespace Go.Proofs.Ytimpagcanengoaa
set_option maxRecDepth 100000
set_option linter.unusedSimpArgs false
set_option linter.unusedVariables false
open Go.RowKit Go
set_option maxHeartbeats 400000

end Go.Proofs.Ytimpagcanengoaa

namespace Go.Proofs.Ytimpagcanengoaa
set_option maxRecDepth 100000
set_option linter.unusedSimpArgs false
set_option linter.unusedVariables false
open Go.RowKit Go
set_option maxHeartbeats 4000000

/-- What is picked out of three numbers that were written out. -/
def sel3 (v : Nat) (a b c : Int) : Int := if v = 0 then a else if v = 1 then b else c
theorem sel3_cell {v : Nat} (h : v < 3) (W : World) (a b c : Int) (T : TypeId) : (W.alloc (.cells #[.int .i64 a, .int .i64 b, .int .i64 c] T)).cell? ⟨W.heap.size, v, none⟩ = some (.int .i64 (sel3 v a b c)) := by
  rcases (show v = 0 ∨ v = 1 ∨ v = 2 by omega) with rfl | rfl | rfl <;> simp [go_sem, sel3]
theorem Lb.at_ {w : World} {g n : Nat} (h : Lb w g n) {i : Nat} (hi : i < n) : ∃ v, w.cell? ⟨g, i, none⟩ = some v := by
  obtain ⟨cs, T, h1, h2⟩ := h
  exact ⟨cs[i], by simp [World.cell?, h1, h2, hi]⟩
/-- A gate in block g: its head's numbers, and who is done. -/
structure GAt (w : World) (g : Nat) (a b d : Int) (B : Option Addr) (k e : Nat) : Prop where
  lt : g < w.heap.size
  c0 : w.cell? ⟨g, 0, none⟩ = some (.int .i64 a)
  c1 : w.cell? ⟨g, 1, none⟩ = some (.int .i64 b)
  c2 : w.cell? ⟨g, 2, none⟩ = some (.int .i64 d)
  c3 : w.cell? ⟨g, 3, none⟩ = some (.slice B k e)
  free : ∀ i, w.frozen? ⟨g, i, none⟩ = false
end Go.Proofs.Ytimpagcanengoaa

namespace Go.Proofs.Ytimpagcanengoaa
set_option maxRecDepth 100000
set_option linter.unusedSimpArgs false
set_option linter.unusedVariables false
open Go.RowKit Go
set_option maxHeartbeats 4000000

theorem l21AnyReq_c (rb P : Nat) (aL : Option Addr) (aLc aLn : Nat) (aP : Option Addr) (aPc aPn : Nat) (aD : Option Addr) (aDc aDn : Nat) (aN : Option Addr) (aNc aNn : Nat) (aS : Option Addr) (aSc aSn : Nat) (m : Sw.Mkt) (rows : List Sw.Row) (n : Int) (w : World) (hr : Rdp w rb P) (hok : Sw.MOk m rows) (hM : RM w (rb + 1) aL aLc aLn aP aPc aPn aD aDc aDn aN aNc aNn aS aSc aSn m) (hP : P ≤ 800000) (h1 : 1 ≤ n) (h2 : n ≤ 1000000) : Calls Try.prog 65 #[.pointer (some ⟨rb, 0, none⟩), .agg #[.slice aL aLn aLc, .slice aP aPn aPc, .slice aD aDn aDc, .int .i64 m.clock, .slice aN aNn aNc, .slice aS aSn aSc], .int .i64 n] w fun E w' => ∃ p q r s t u, E = .returned (.agg #[.int .i64 p, .int .i64 q, .int .i64 r, .int .i64 s, .int .i64 t, .int .i64 u]) ∧ Rdp w' rb (P + 60) ∧ Ch (· = rb) w w' := by
  have hlt := hr.lt
  have HO := Lib.hid hok
  clear hok
  go_enter Try.func65, Try.ntmps65
  go_wp2_with fail
  apply Calls.mono
  apply (l21Req_c (m := m) (rows := rows))
  · apply Rdp.keep hr; (exact kb_)
  · exact HO.out
  · exact (hM.keep kf_).less (by omega)
  · omega
  rintro E w1 ⟨p, q, r, s, t, u, rfl, hrd, hb⟩
  (have hst := xc hb; (try simp only [zA, zC, zD, zN] at hst); obtain ⟨hc, hf, hz⟩ := hst)
  go_upto_region 2 with fail
  (refine wp_name ?_; intro W0 hb0; have hst := xr hb0; (try simp only [zA, zC, zD, zN] at hst); obtain ⟨hc0, hf0, hz0⟩ := hst)
  obtain ⟨g, hgg⟩ : ∃ g, g = w1.heap.size := ⟨_, rfl⟩
  have hI : Ints W0 g 6 := Ints.ch hb0 (fun h => h) (by rw [hgg]; exact Ints.new (zs := [_, _, _, _, _, _]) rfl rfl rfl)
  have hR : Ints W0 (w.heap.size + 1) 6 := (by (repeat (first | with_reducible assumption | exact Ints.new (zs := [_, _, _, _, _, _]) (by first | with_reducible rfl | omega | (simp only [zA, zC, zD, zN]; done) | (simp only [zA, zC, zD, zN]; omega)) rfl rfl | exact Ints.new (zs := [_, _, _]) (by first | with_reducible rfl | omega | (simp only [zA, zC, zD, zN]; done) | (simp only [zA, zC, zD, zN]; omega)) rfl rfl | exact Ints.new (zs := [_, _, _, _]) (by first | with_reducible rfl | omega | (simp only [zA, zC, zD, zN]; done) | (simp only [zA, zC, zD, zN]; omega)) rfl rfl | with_reducible apply Ints.alloc | with_reducible apply Ints.drew | (with_reducible refine Ints.set ?_ rfl) | (with_reducible refine Ints.ch (by assumption) (by first | exact (fun h => h) | omega | (simp only [zA, zC, zD, zN]; omega)) ?_))))
  have HK : RdCh w W0 rb (P + 40) := ⟨Rdp.keep hrd (by (exact kb_)), ext_⟩
  have hg0 : w.heap.size + 2 ≤ g := by rw [hgg]; exact sz_
  rw [← hgg]
  clear hgg hrd hb hc hf hz hb0 hc0 hf0 hz0 hM
  ((repeat (rename Ch _ _ _ => zz; clear zz)); (repeat (rename Rdp _ _ _ => zz; clear zz)); (repeat (rename (∀ (b o : Nat), ¬ ((⟨b, 0, none⟩ : Addr) = ⟨b - _ + _, 0, none⟩) → _) => zz; clear zz)))
  have hrd := HK.rd
  have hb := HK.ch
  have hgr : g ≠ rb := by omega
  have hgS := hI.lt
  obtain ⟨ci0, hci0⟩ := hI.at_ (i := 0) (by omega); obtain ⟨ci1, hci1⟩ := hI.at_ (i := 1) (by omega); obtain ⟨ci2, hci2⟩ := hI.at_ (i := 2) (by omega); obtain ⟨ci3, hci3⟩ := hI.at_ (i := 3) (by omega); obtain ⟨ci4, hci4⟩ := hI.at_ (i := 4) (by omega); obtain ⟨ci5, hci5⟩ := hI.at_ (i := 5) (by omega); have hcif := hI.free
  obtain ⟨cr0, hcr0⟩ := hR.at_ (i := 0) (by omega); obtain ⟨cr1, hcr1⟩ := hR.at_ (i := 1) (by omega); obtain ⟨cr2, hcr2⟩ := hR.at_ (i := 2) (by omega); obtain ⟨cr3, hcr3⟩ := hR.at_ (i := 3) (by omega); obtain ⟨cr4, hcr4⟩ := hR.at_ (i := 4) (by omega); obtain ⟨cr5, hcr5⟩ := hR.at_ (i := 5) (by omega); have hcrf := hR.free
  go_wp2_with fail
  apply Calls.mono
  apply odd_c
  · exact hrd
  · omega
  · exact h1
  · exact h2
  rintro E w2 ⟨b, rfl, hrd, hb⟩
  (have hst := xc hb; (try simp only [zA, zC, zD, zN] at hst); obtain ⟨hc, hf, hz⟩ := hst)
  cases b
  case false =>
    go_wp2_with fail
    refine bodyPost_ret (v := .agg #[.int .i64 ci0, .int .i64 ci1, .int .i64 ci2, .int .i64 ci3, .int .i64 ci4, .int .i64 ci5]) (by simp [results, Try.results65, go_sem, *]) rfl ?_
    exact ⟨_, _, _, _, _, _, rfl, (Rdp.keep hrd (by (exact kb_))).more (by omega), ext_⟩
  case true =>
    go_upto_block 0 with (go_at_call 72; apply Calls.mono; apply pick_c; (apply Rdp.keep; assumption; (exact kb_)); (first | assumption | omega); (first | assumption | omega); rintro E w1 ⟨v, rfl, ⟨hv0, hv1⟩, hrd, hb⟩; have hst := xc hb; (try simp only [zA, zC, zD, zN] at hst); obtain ⟨hc, hf, hz⟩ := hst)
    go_cut [] (fun wx => DrawAt w wx rb (w.heap.size + 1) g 6 (P + 50))
    case first =>
      go_wp2_with (first | (go_at_call 72; apply Calls.mono; apply (pickLit (fun _ => True)); (apply Rdp.keep; assumption; (exact kb_)); omega; (first | rfl | (simp; done)); (repeat (first | exact LitQ.nil | (refine LitQ.cons ⟨_, rfl, (by first | exact trivial | omega)⟩ ?_))); omega; (first | omega | (simp only [zA, zC, zD, zN]; omega)); rintro E w1 ⟨v, x, rfl, hv, hq, hcx, hrd, hb⟩; (try simp only [zA, zC, zD, zN] at hcx); have hst := xc hb; (try simp only [zA, zC, zD, zN] at hst); obtain ⟨hc, hf, hz⟩ := hst) | (go_at_call 72; apply Calls.mono; apply pick_c; (apply Rdp.keep; assumption; (exact kb_)); (first | assumption | omega); (first | assumption | omega); rintro E w1 ⟨v, rfl, ⟨hv0, hv1⟩, hrd, hb⟩; have hst := xc hb; (try simp only [zA, zC, zD, zN] at hst); obtain ⟨hc, hf, hz⟩ := hst) | fail)
      all_goals go_meet
      all_goals exact ⟨by (repeat (first | with_reducible assumption | exact Ints.new (zs := [_, _, _, _, _, _]) (by first | with_reducible rfl | omega | (simp only [zA, zC, zD, zN]; done) | (simp only [zA, zC, zD, zN]; omega)) rfl rfl | exact Ints.new (zs := [_, _, _]) (by first | with_reducible rfl | omega | (simp only [zA, zC, zD, zN]; done) | (simp only [zA, zC, zD, zN]; omega)) rfl rfl | exact Ints.new (zs := [_, _, _, _]) (by first | with_reducible rfl | omega | (simp only [zA, zC, zD, zN]; done) | (simp only [zA, zC, zD, zN]; omega)) rfl rfl | with_reducible apply Ints.alloc | with_reducible apply Ints.drew | (with_reducible refine Ints.set ?_ rfl) | (with_reducible refine Ints.ch (by assumption) (by first | exact (fun h => h) | omega | (simp only [zA, zC, zD, zN]; omega)) ?_))), by (repeat (first | with_reducible assumption | exact Ints.new (zs := [_, _, _, _, _, _]) (by first | with_reducible rfl | omega | (simp only [zA, zC, zD, zN]; done) | (simp only [zA, zC, zD, zN]; omega)) rfl rfl | exact Ints.new (zs := [_, _, _]) (by first | with_reducible rfl | omega | (simp only [zA, zC, zD, zN]; done) | (simp only [zA, zC, zD, zN]; omega)) rfl rfl | exact Ints.new (zs := [_, _, _, _]) (by first | with_reducible rfl | omega | (simp only [zA, zC, zD, zN]; done) | (simp only [zA, zC, zD, zN]; omega)) rfl rfl | with_reducible apply Ints.alloc | with_reducible apply Ints.drew | (with_reducible refine Ints.set ?_ rfl) | (with_reducible refine Ints.ch (by assumption) (by first | exact (fun h => h) | omega | (simp only [zA, zC, zD, zN]; omega)) ?_))), Rdp.more (Rdp.keep (by assumption) (by (exact kb_))) (by omega), ext_⟩
    case rest =>
      ((repeat (rename Ch _ _ _ => zz; clear zz)); (repeat (rename Rdp _ _ _ => zz; clear zz)); (repeat (rename (∀ (b o : Nat), ¬ ((⟨b, 0, none⟩ : Addr) = ⟨b - _ + _, 0, none⟩) → _) => zz; clear zz)))
      clear hI hR ci0 ci1 ci2 ci3 ci4 ci5 hci0 hci1 hci2 hci3 hci4 hci5 hcif cr0 cr1 cr2 cr3 cr4 cr5 hcr0 hcr1 hcr2 hcr3 hcr4 hcr5 hcrf
      obtain ⟨own, res, rd, hbx⟩ := hcut
      obtain ⟨o0, ho0⟩ := own.at_ (i := 0) (by omega); obtain ⟨o1, ho1⟩ := own.at_ (i := 1) (by omega); obtain ⟨o2, ho2⟩ := own.at_ (i := 2) (by omega); obtain ⟨o3, ho3⟩ := own.at_ (i := 3) (by omega); obtain ⟨o4, ho4⟩ := own.at_ (i := 4) (by omega); obtain ⟨o5, ho5⟩ := own.at_ (i := 5) (by omega); have hof := own.free
      obtain ⟨r0, hr0⟩ := res.at_ (i := 0) (by omega); obtain ⟨r1, hr1⟩ := res.at_ (i := 1) (by omega); obtain ⟨r2, hr2⟩ := res.at_ (i := 2) (by omega); obtain ⟨r3, hr3⟩ := res.at_ (i := 3) (by omega); obtain ⟨r4, hr4⟩ := res.at_ (i := 4) (by omega); obtain ⟨r5, hr5⟩ := res.at_ (i := 5) (by omega); have hrf := res.free
      go_wp2_with fail
      refine bodyPost_ret (v := .agg #[.int .i64 o0, .int .i64 o1, .int .i64 o2, .int .i64 o3, .int .i64 o4, .int .i64 o5]) (by simp [results, Try.results65, go_sem, *]) rfl ?_
      exact ⟨_, _, _, _, _, _, rfl, (Rdp.keep rd (by (exact kb_))).more (by omega), ext_⟩
end Go.Proofs.Ytimpagcanengoaa

