/- Texts joined: WldE, WldF, DrawA, LawS, LawT. -/
import Derived.Test.YtnnoiagommiapaaGreatPz42
import Derived.Test.YtnnoiagommiapaaGreatPz41
import Derived.Test.YtnnoiagommiapaaGreatPz14
import Derived.Test.YtnnoiagommiapaaGreatPz11
import Derived.Test.YtnnoiagommiapaaGreatPz43
import Derived.Test.YtnnoiagommiapaaGreatPz36
import Derived.Test.YtnnoiagommiapaaGreatPz35
import Derived.Test.YtnnoiagommiapaaGreatPz27
import Derived.Test.YtnnoiagommiapaaGreatPz28
import Derived.Test.YtnnoiagommiapaaGreatPz8
import Derived.Test.YtnnoiagommiapaaGreatPz12
import Derived.Test.YtnnoiagommiapaaGreatPz3
import Derived.Test.YtnnoiagommiapaaGreatPz20
import Derived.Test.YtnnoiagommiapaaGreatPz25
import Derived.Deep.DeepCutAuto
set_option maxRecDepth 100000
set_option linter.unusedSimpArgs false
set_option linter.unusedVariables false
namespace Go.Proofs.YtnnoiagommiapaaGreat
open Go.RowKit Go
set_option maxHeartbeats 1000000
def Zr (τ : Nat → Nat) (k : Nat) : Nat → Prop := fun b => b < k ∧ τ b = 0
def UpT (lo : Nat) (τ : Nat → Nat) : Nat → Prop := fun b => lo ≤ b ∧ 1 ≤ τ b
def WPost (lo : Nat) (τ : Nat → Nat) (w w' : World) (v : Value → Value) (E : Ending) (z : Sw.World) : Prop :=
 ∃ (bF : Option Addr) (bFc bFn : Nat) (bL : Option Addr) (bLc bLn : Nat) (bP : Option Addr) (bPc bPn : Nat) (bD : Option Addr) (bDc bDn : Nat) (bN : Option Addr) (bNc bNn : Nat) (bS : Option Addr) (bSc bSn : Nat) (bI : Option Addr) (bIc bIn : Nat) (bG : Option Addr) (bGc bGn : Nat) (bB : Option Addr) (bBc bBn : Nat), E = .returned (v (.agg #[.slice bF bFn bFc, .slice bL bLn bLc, .slice bP bPn bPc, .slice bD bDn bDc, .int .i64 z.market.clock, .slice bN bNn bNc, .slice bS bSn bSc, .slice bI bIn bIc, .slice bG bGn bGc, .slice bB bBn bBc])) ∧ (∀ w'', Ch (Zr τ w.heap.size) w' w'' → RW w'' lo bF bFc bFn bL bLc bLn bP bPc bPn bD bDc bDn bN bNc bNn bS bSc bSn bI bIc bIn bG bGc bGn bB bBc bBn z) ∧ Ch (UpT lo τ) w w'
section
variable {fd fp τ τ' : Nat → Nat} {W w w' w1 w2 w3 : World} {lo c k d n c1 g0 g1 : Nat} {A B A1 : Option Addr}
theorem KT.box {t k : Nat} {a : World} (h : KT τ t lo a w) (hx : Ch (Zr τ k) w w') (ht : 1 ≤ t) : KT τ t lo a w' :=
 KT.ch hx h fun i hi => .inr (by rw [hi.2]; omega)
theorem KT.boxg {t k : Nat} {a : World} (h : KT τ' t lo a w) (hx : Ch (Zr τ k) w w') (hτ : ∀ b, b < k → τ' b = τ b) (ht : 1 ≤ t) : KT τ' t lo a w' :=
 KT.ch hx h fun i hi => .inr (by rw [hτ i hi.1, hi.2]; omega)
theorem OwW.zeros {aF : Option Addr} {aFc aFn : Nat} {aL : Option Addr} {aLc aLn : Nat} {aP : Option Addr} {aPc aPn : Nat} {aD : Option Addr} {aDc aDn : Nat} {aN : Option Addr} {aNc aNn : Nat} {aS : Option Addr} {aSc aSn : Nat} {aI : Option Addr} {aIc aIn : Nat} {aG : Option Addr} {aGc aGn : Nat} {aB : Option Addr} {aBc aBn : Nat} {x : Sw.World} (h : OwW fdS fpS τ w lo aF aFc aFn aL aLc aLn aP aPc aPn aD aDc aDn aN aNc aNn aS aSc aSn aI aIc aIn aG aGc aGn aB aBc aBn x) (hx : Ch (Zr τ k) w w') : OwW fdS fpS τ w' lo aF aFc aFn aL aLc aLn aP aPc aPn aD aDc aDn aN aNc aNn aS aSc aSn aI aIc aIn aG aGc aGn aB aBc aBn x := by
 have K : ∀ t, 1 ≤ t → KT τ t lo w w' := fun t ht => (KT.refl _ _ _ _).box hx ht
 exact ⟨h.first.keep (K 6 (by decide)), h.mkt.keep fun t h1 _ => K t h1, h.lines.keep (K 7 (by decide)), h.gates.keep (K 8 (by decide)) fun j => K _ (by unfold fdS; omega), h.bag.keep (K 9 (by decide)) fun j => K _ (by unfold fpS; omega)⟩
theorem Zr.of {K : Nat} (h : Ch (BX w.heap.size g1) w1 w2) (hk : Ch (Zr τ w.heap.size) w2 w3) (hg : g1 ≤ K) (hw : w.heap.size ≤ K) : Ch (Zr (glue τ w.heap.size (fun _ => 0)) K) w1 w3 :=
 (h.mono fun i _ hi => ⟨by have := hi.2; omega, if_neg (by have := hi.1; omega)⟩).trans (hk.mono fun i _ hi => ⟨by have := hi.1; omega, (if_pos hi.1).trans hi.2⟩)
theorem OwW.glueL {aF : Option Addr} {aFc aFn : Nat} {aL : Option Addr} {aLc aLn : Nat} {aP : Option Addr} {aPc aPn : Nat} {aD : Option Addr} {aDc aDn : Nat} {aN : Option Addr} {aNc aNn : Nat} {aS : Option Addr} {aSc aSn : Nat} {aI : Option Addr} {aIc aIn : Nat} {aG : Option Addr} {aGc aGn : Nat} {aB : Option Addr} {aBc aBn : Nat} {x : Sw.World} (h : OwW fd fp τ w lo aF aFc aFn aL aLc aLn aP aPc aPn aD aDc aDn aN aNc aNn aS aSc aSn aI aIc aIn aG aGc aGn aB aBc aBn x) (hk : w.heap.size ≤ k) : OwW fd fp (glue τ k τ') w lo aF aFc aFn aL aLc aLn aP aPc aPn aD aDc aDn aN aNc aNn aS aSc aSn aI aIc aIn aG aGc aGn aB aBc aBn x := h.retag fun b hb => if_pos (by omega)
theorem OwW.tail {aF : Option Addr} {aFc aFn : Nat} {aL : Option Addr} {aLc aLn : Nat} {aP : Option Addr} {aPc aPn : Nat} {aD : Option Addr} {aDc aDn : Nat} {aN : Option Addr} {aNc aNn : Nat} {aS : Option Addr} {aSc aSn : Nat} {aI : Option Addr} {aIc aIn : Nat} {aG : Option Addr} {aGc aGn : Nat} {aB : Option Addr} {aBc aBn : Nat} {x : Sw.World} (h : OwW fdS fpS τ W lo aF aFc aFn aL aLc aLn aP aPc aPn aD aDc aDn aN aNc aNn aS aSc aSn aI aIc aIn aG aGc aGn aB aBc aBn x) (hb : Ex W w1) (hc : Ch (atA aB) w1 w2) (he : Ch (Zr τ W.heap.size) w2 w3) :
   RI w3 lo aF aFc aFn x.first ∧ RM w3 lo aL aLc aLn aP aPc aPn aD aDc aDn aN aNc aNn aS aSc aSn x.market ∧ RQ w3 lo aI aIc aIn x.lines ∧ RG w3 lo aG aGc aGn x.gates := by
 have ht : ∀ a, aB = some a → τ a.block = 9 := by
   obtain ⟨vs, h1, _⟩ := h.bag.ex
   exact h1.tag
 have K : ∀ t, 1 ≤ t → t ≠ 9 → KT τ t lo W w3 := fun t h1 h9 => (KT.app hb hc ht (Ne.symm h9)).box he h1
 exact ⟨(h.first.keep (K 6 (by decide) (by decide))).rs, (h.mkt.keep fun t h1 h5 => K t h1 (by omega)).rm, (h.lines.keep (K 7 (by decide) (by decide))).rs, (h.gates.keep (K 8 (by decide) (by decide)) fun j => K _ (by unfold fdS; omega) (by unfold fdS; omega)).rg⟩
theorem OwW.bag_lt {aF : Option Addr} {aFc aFn : Nat} {aL : Option Addr} {aLc aLn : Nat} {aP : Option Addr} {aPc aPn : Nat} {aD : Option Addr} {aDc aDn : Nat} {aN : Option Addr} {aNc aNn : Nat} {aS : Option Addr} {aSc aSn : Nat} {aI : Option Addr} {aIc aIn : Nat} {aG : Option Addr} {aGc aGn : Nat} {aB : Option Addr} {aBc aBn : Nat} {x : Sw.World} (h : OwW fd fp τ w lo aF aFc aFn aL aLc aLn aP aPc aPn aD aDc aDn aN aNc aNn aS aSc aSn aI aIc aIn aG aGc aGn aB aBc aBn x) : ∀ a, aB = some a → a.block < w.heap.size := by
 obtain ⟨vs, h1, _⟩ := h.bag.ex
 exact fun a ha => (h1.ow.blk ha).2
theorem OwW.gates_lt {aF : Option Addr} {aFc aFn : Nat} {aL : Option Addr} {aLc aLn : Nat} {aP : Option Addr} {aPc aPn : Nat} {aD : Option Addr} {aDc aDn : Nat} {aN : Option Addr} {aNc aNn : Nat} {aS : Option Addr} {aSc aSn : Nat} {aI : Option Addr} {aIc aIn : Nat} {aG : Option Addr} {aGc aGn : Nat} {aB : Option Addr} {aBc aBn : Nat} {x : Sw.World} (h : OwW fd fp τ w lo aF aFc aFn aL aLc aLn aP aPc aPn aD aDc aDn aN aNc aNn aS aSc aSn aI aIc aIn aG aGc aGn aB aBc aBn x) : ∀ a, aG = some a → a.block < w.heap.size := by
 obtain ⟨vs, h1, _⟩ := h.gates.ex
 exact fun a ha => (h1.ow.blk ha).2
theorem OwW.bag_up {aF : Option Addr} {aFc aFn : Nat} {aL : Option Addr} {aLc aLn : Nat} {aP : Option Addr} {aPc aPn : Nat} {aD : Option Addr} {aDc aDn : Nat} {aN : Option Addr} {aNc aNn : Nat} {aS : Option Addr} {aSc aSn : Nat} {aI : Option Addr} {aIc aIn : Nat} {aG : Option Addr} {aGc aGn : Nat} {aB : Option Addr} {aBc aBn : Nat} {x : Sw.World} (h : OwW fd fp τ w lo aF aFc aFn aL aLc aLn aP aPc aPn aD aDc aDn aN aNc aNn aS aSc aSn aI aIc aIn aG aGc aGn aB aBc aBn x) : ∀ a, aB = some a → UpT lo τ a.block := by
 obtain ⟨vs, h1, _⟩ := h.bag.ex
 exact fun a ha => ⟨(h1.ow.blk ha).1, by rw [h1.tag a ha]; omega⟩
theorem OwW.gates_up {aF : Option Addr} {aFc aFn : Nat} {aL : Option Addr} {aLc aLn : Nat} {aP : Option Addr} {aPc aPn : Nat} {aD : Option Addr} {aDc aDn : Nat} {aN : Option Addr} {aNc aNn : Nat} {aS : Option Addr} {aSc aSn : Nat} {aI : Option Addr} {aIc aIn : Nat} {aG : Option Addr} {aGc aGn : Nat} {aB : Option Addr} {aBc aBn : Nat} {x : Sw.World} (h : OwW fd fp τ w lo aF aFc aFn aL aLc aLn aP aPc aPn aD aDc aDn aN aNc aNn aS aSc aSn aI aIc aIn aG aGc aGn aB aBc aBn x) : ∀ a, aG = some a → UpT lo τ a.block := by
 obtain ⟨vs, h1, _⟩ := h.gates.ex
 exact fun a ha => ⟨(h1.ow.blk ha).1, by rw [h1.tag a ha]; omega⟩
theorem UpT.up {w w' : World} (h : Ch (UpT lo τ) w w') : Ch (UpF lo) w w' := h.mono fun i _ hi => hi.1
theorem OwX.cap {xs : List Sw.Msg} (h : OwX fp τ w lo A c n xs) : n ≤ c := by
 obtain ⟨vs, h1, _⟩ := h.ex
 exact h1.ow.rs.2.le
theorem OwX.capm {xs : List Sw.Msg} (h : OwX fp τ w lo A c n xs) : c ≤ 9223372036854775807 := by
 obtain ⟨vs, h1, _⟩ := h.ex
 have := h1.ow.rs.2.cap
 unfold maxLen at this
 omega
theorem OwW.sent {aF : Option Addr} {aFc aFn : Nat} {aL : Option Addr} {aLc aLn : Nat} {aP : Option Addr} {aPc aPn : Nat} {aD : Option Addr} {aDc aDn : Nat} {aN : Option Addr} {aNc aNn : Nat} {aS : Option Addr} {aSc aSn : Nat} {aI : Option Addr} {aIc aIn : Nat} {aG : Option Addr} {aGc aGn : Nat} {aB : Option Addr} {aBc aBn : Nat} {x : Sw.World} {m : Sw.Msg} {vs : List XV} (h : OwW fdS fpS τ W lo aF aFc aFn aL aLc aLn aP aPc aPn aD aDc aDn aN aNc aNn aS aSc aSn aI aIc aIn aG aGc aGn aB aBc aBn x) (h1 : OwTX τ 9 W lo aB aBc aBn vs) (h2 : aBn = x.bag.length)
   (h3 : ∀ (j : Nat) (v : XV) (g : Sw.Msg), vs[j]? = some v → x.bag[j]? = some g → v.g = g.gate ∧ v.h = g.head ∧ OwTI τ (fpS j) W lo v.A v.c v.n g.proof)
   (hb : Ex W w1) (hd : OwI w1 W.heap.size B d n m.proof) (hlo : lo ≤ W.heap.size) (ho : OwXV w2 lo A1 c1 (aBn + 1) (vs ++ [⟨m.gate, m.head, B, d, n⟩])) (hc : Ch (atA aB) w1 w2)
   (hat : ∀ b, A1 = some b → aB = some b ∨ w1.heap.size ≤ b.block) (he : Ch (Zr τ W.heap.size) w2 w3) :
   RW w3 lo aF aFc aFn aL aLc aLn aP aPc aPn aD aDc aDn aN aNc aNn aS aSc aSn aI aIc aIn aG aGc aGn A1 c1 (aBn + 1) { x with bag := x.bag ++ [m] } := by
 obtain ⟨q1, q2, q3, q4⟩ := h.tail hb hc he
 have hz := hb.size
 have hs := OwX.snoc h1 h2 h3 hb hd hlo ho hc hat fpS_ne
 have h0' : ∀ b, b < W.heap.size → glue (glue τ W.heap.size (fun _ => fpS aBn)) w1.heap.size (fun _ => 9) b = τ b := fun b h1 => (if_pos (by omega)).trans (if_pos h1)
 exact ⟨q1, q2, q3, q4, (hs.keep ((KT.refl _ _ _ _).boxg he h0' (by decide)) fun j => (KT.refl _ _ _ _).boxg he h0' (by unfold fpS; omega)).rx⟩
theorem OwW.still {aF : Option Addr} {aFc aFn : Nat} {aL : Option Addr} {aLc aLn : Nat} {aP : Option Addr} {aPc aPn : Nat} {aD : Option Addr} {aDc aDn : Nat} {aN : Option Addr} {aNc aNn : Nat} {aS : Option Addr} {aSc aSn : Nat} {aI : Option Addr} {aIc aIn : Nat} {aG : Option Addr} {aGc aGn : Nat} {aB : Option Addr} {aBc aBn : Nat} {x : Sw.World} (_ : OwW fdS fpS τ W lo aF aFc aFn aL aLc aLn aP aPc aPn aD aDc aDn aN aNc aNn aS aSc aSn aI aIc aIn aG aGc aGn aB aBc aBn x) (hb : Ex W w1) (he : Ch (Zr τ W.heap.size) w1 w3) : ∀ t, 1 ≤ t → KT τ t lo W w3 :=
 fun t h1 => (KT.ex hb (KT.refl _ _ _ _)).box he h1
theorem OwW.gateK {aF : Option Addr} {aFc aFn : Nat} {aL : Option Addr} {aLc aLn : Nat} {aP : Option Addr} {aPc aPn : Nat} {aD : Option Addr} {aDc aDn : Nat} {aN : Option Addr} {aNc aNn : Nat} {aS : Option Addr} {aSc aSn : Nat} {aI : Option Addr} {aIc aIn : Nat} {aG : Option Addr} {aGc aGn : Nat} {aB : Option Addr} {aBc aBn : Nat} {x : Sw.World} {gG k0 : Nat} {y : GV} (h : OwW fdS fpS τ W lo aF aFc aFn aL aLc aLn aP aPc aPn aD aDc aDn aN aNc aNn aS aSc aSn aI aIc aIn aG aGc aGn aB aBc aBn x) (hA : aG = some ⟨gG, 0, none⟩) (hb : Ex W w1)
   (he : Ch (Zr τ k0) (setCells w1 gG (k * 4) y.enc) w3) : ∀ t, 1 ≤ t → t ≠ 8 → KT τ t lo W w3 := by
 obtain ⟨vs, v1, v2, v3⟩ := h.gates.ex
 have tG : τ gG = 8 := v1.tag _ hA
 have hset : Ch (· = gG) w1 (setCells w1 gG (k * 4) y.enc) := setCells_ch (Ch.refl _ _) rfl
 exact fun t h1 h8 => (KT.ch hset (KT.ex hb (KT.refl _ _ _ _)) fun i hi => .inr (by rw [show i = gG from hi, tG]; exact Ne.symm h8)).box he h1
theorem OwW.gated {aF : Option Addr} {aFc aFn : Nat} {aL : Option Addr} {aLc aLn : Nat} {aP : Option Addr} {aPc aPn : Nat} {aD : Option Addr} {aDc aDn : Nat} {aN : Option Addr} {aNc aNn : Nat} {aS : Option Addr} {aSc aSn : Nat} {aI : Option Addr} {aIc aIn : Nat} {aG : Option Addr} {aGc aGn : Nat} {aB : Option Addr} {aBc aBn : Nat} {x : Sw.World} {gG k0 : Nat} {y : Sw.Gate} (h : OwW fdS fpS τ W lo aF aFc aFn aL aLc aLn aP aPc aPn aD aDc aDn aN aNc aNn aS aSc aSn aI aIc aIn aG aGc aGn aB aBc aBn x) (hA : aG = some ⟨gG, 0, none⟩) (hk : k < aGn) (hb : Ex W w1) (hd : OwI w1 W.heap.size B d n y.done) (hlo : lo ≤ W.heap.size) (hk0 : k0 ≤ W.heap.size)
   (he : Ch (Zr τ k0) (setCells w1 gG (k * 4) (GV.enc ⟨y.head, B, d, n⟩)) w3) :
   RI w3 lo aF aFc aFn x.first ∧ RM w3 lo aL aLc aLn aP aPc aPn aD aDc aDn aN aNc aNn aS aSc aSn x.market ∧ RQ w3 lo aI aIc aIn x.lines ∧ RG w3 lo aG aGc aGn (x.gates.set k y) ∧ RX w3 lo aB aBc aBn x.bag := by
 obtain ⟨vs, v1, v2, v3⟩ := h.gates.ex
 have hgG := v1.ow.blk hA
 dsimp only at hgG
 have tG : τ gG = 8 := v1.tag _ hA
 have hz := hb.size
 have hset : Ch (· = gG) w1 (setCells w1 gG (k * 4) (GV.enc ⟨y.head, B, d, n⟩)) := setCells_ch (Ch.refl _ _) rfl
 have K : ∀ t, 1 ≤ t → t ≠ 8 → KT τ t lo W w3 := fun t h1 h8 => (KT.ch hset (KT.ex hb (KT.refl _ _ _ _)) fun i hi => .inr (by rw [show i = gG from hi, tG]; exact Ne.symm h8)).box he h1
 have hne : ∀ b, b ≠ gG → (setCells w1 gG (k * 4) (GV.enc ⟨y.head, B, d, n⟩)).heap[b]? = w1.heap[b]? := fun b hb => set_cells_heap hb _ _ _
 have hnb : ∀ b, b < w1.heap.size → ¬ Zr τ k0 b → w3.heap[b]? = (setCells w1 gG (k * 4) (GV.enc ⟨y.head, B, d, n⟩)).heap[b]? := fun b h1 h2 => he.block b (by rw [set_cells_size]; exact h1) h2
 refine ⟨(h.first.keep (K 6 (by decide) (by decide))).rs, (h.mkt.keep fun t h1 h5 => K t h1 (by omega)).rm, (h.lines.keep (K 7 (by decide) (by decide))).rs, ?_, (h.bag.keep (K 9 (by decide) (by decide)) fun j => K _ (by unfold fpS; omega) (by unfold fpS; omega)).rx⟩
 have hp := Ow.put (v1.ow.keep (kE hb (kR _ _))) (fun _ => rfl) ⟨y.head, B, d, n⟩ hA hk
 refine ⟨_, Ow.rs (hp.keep_ fun a ha => ?_), by rw [List.length_set]; exact v2, fun j v z hv hz' => ?_⟩
 · rw [hA] at ha
   cases ha
   refine hnb gG (by omega) fun hbx => ?_
   have := hbx.2
   omega
 · rw [List.getElem?_set] at hv hz'
   by_cases hjk : k = j
   · subst hjk
     rw [if_pos rfl, if_pos (by rw [← v1.ow.1]; exact hk)] at hv
     rw [if_pos rfl, if_pos (by omega)] at hz'
     cases hv; cases hz'
     refine ⟨rfl, Ow.rs ((hd.less hlo).keep_ fun a ha => ?_)⟩
     have hab := hd.blk ha
     rw [hnb _ hab.2 (fun h => by have := h.1; omega), hne _ (by omega)]
   · rw [if_neg hjk] at hv hz'
     obtain ⟨e, hr⟩ := v3 j v z hv hz'
     exact ⟨e, (hr.keep (K _ (by unfold fdS; omega) (by unfold fdS; omega))).rs⟩
theorem msgs_keep {xs : List Sw.Msg} {vs : List XV} (h3 : ∀ (j : Nat) (v : XV) (g : Sw.Msg), vs[j]? = some v → xs[j]? = some g → v.g = g.gate ∧ v.h = g.head ∧ OwTI τ (fpS j) W lo v.A v.c v.n g.proof) (hk : ∀ t, 1 ≤ t → KT τ t lo W w') :
   ∀ (j : Nat) (v : XV) (g : Sw.Msg), vs[j]? = some v → xs[j]? = some g → v.g = g.gate ∧ v.h = g.head ∧ OwTI τ (fpS j) w' lo v.A v.c v.n g.proof :=
 fun j v g hv hg => ⟨(h3 j v g hv hg).1, (h3 j v g hv hg).2.1, (h3 j v g hv hg).2.2.keep (hk _ (by unfold fpS; omega))⟩
theorem OwW.lost {aF : Option Addr} {aFc aFn : Nat} {aL : Option Addr} {aLc aLn : Nat} {aP : Option Addr} {aPc aPn : Nat} {aD : Option Addr} {aDc aDn : Nat} {aN : Option Addr} {aNc aNn : Nat} {aS : Option Addr} {aSc aSn : Nat} {aI : Option Addr} {aIc aIn : Nat} {aG : Option Addr} {aGc aGn : Nat} {aB : Option Addr} {aBc aBn : Nat} {x : Sw.World} {vs : List XV} {i N c2 lw : Nat} {A2 : Option Addr} (h : OwW fdS fpS τ W lo aF aFc aFn aL aLc aLn aP aPc aPn aD aDc aDn aN aNc aNn aS aSc aSn aI aIc aIn aG aGc aGn aB aBc aBn x) (h1 : OwTX τ 9 W lo aB aBc aBn vs) (h2 : aBn = x.bag.length)
   (h3 : ∀ (j : Nat) (v : XV) (g : Sw.Msg), vs[j]? = some v → x.bag[j]? = some g → v.g = g.gate ∧ v.h = g.head ∧ OwTI τ (fpS j) W lo v.A v.c v.n g.proof)
   (hb : Ex W w1) (he : Ch (Zr τ W.heap.size) w1 w3) (hlo : lo ≤ W.heap.size) (ho : OwXV w1 lw A2 c2 N (vs.take i ++ vs.drop (i + 1))) (hlw : W.heap.size ≤ lw) (hi : i < aBn) (hN : N = aBn - 1) :
   RW w3 lo aF aFc aFn aL aLc aLn aP aPc aPn aD aDc aDn aN aNc aNn aS aSc aSn aI aIc aIn aG aGc aGn A2 c2 N { x with bag := x.bag.eraseIdx i } := by
 have K := h.still hb he
 have hz := hb.size
 exact ⟨(h.first.keep (K 6 (by decide))).rs, (h.mkt.keep fun t h1 h5 => K t h1).rm, (h.lines.keep (K 7 (by decide))).rs, (h.gates.keep (K 8 (by decide)) fun j => K _ (by unfold fdS; omega)).rg,
   RX.erase h2 h1.ow.1 (fun j v z hv hz' => ⟨(h3 j v z hv hz').1, (h3 j v z hv hz').2.1, ((h3 j v z hv hz').2.2.keep (K _ (by unfold fpS; omega))).rs⟩)
     (Ow.rs ((ho.less (show lo ≤ lw by omega)).keep_ fun a ha => by have := ho.blk ha; exact he.block _ this.2 fun hx => by have := hx.1; omega)) hi hN⟩
theorem OwW.heard {aF : Option Addr} {aFc aFn : Nat} {aL : Option Addr} {aLc aLn : Nat} {aP : Option Addr} {aPc aPn : Nat} {aD : Option Addr} {aDc aDn : Nat} {aN : Option Addr} {aNc aNn : Nat} {aS : Option Addr} {aSc aSn : Nat} {aI : Option Addr} {aIc aIn : Nat} {aG : Option Addr} {aGc aGn : Nat} {aB : Option Addr} {aBc aBn : Nat} {x : Sw.World} {vs : List XV} {wz : World} {i N c2 lw gG k0 : Nat} {A2 : Option Addr} {y : Sw.Gate} (h : OwW fdS fpS τ W lo aF aFc aFn aL aLc aLn aP aPc aPn aD aDc aDn aN aNc aNn aS aSc aSn aI aIc aIn aG aGc aGn aB aBc aBn x) (h1 : OwTX τ 9 W lo aB aBc aBn vs) (h2 : aBn = x.bag.length)
   (h3 : ∀ (j : Nat) (v : XV) (g : Sw.Msg), vs[j]? = some v → x.bag[j]? = some g → v.g = g.gate ∧ v.h = g.head ∧ OwTI τ (fpS j) W lo v.A v.c v.n g.proof)
   (hA : aG = some ⟨gG, 0, none⟩) (hk : k < aGn) (hb : Ex W w1) (hd : OwI w1 W.heap.size B d n y.done) (he : Ch (Zr τ k0) (setCells w1 gG (k * 4) (GV.enc ⟨y.head, B, d, n⟩)) w3) (hlo : lo ≤ W.heap.size)
   (ho : OwXV wz lw A2 c2 N (vs.take i ++ vs.drop (i + 1))) (hzw : Ex wz w1) (hlw : k0 ≤ lw) (hk0 : k0 ≤ W.heap.size) (hgl : gG < lw) (hll : lo ≤ lw) (hi : i < aBn) (hN : N = aBn - 1) :
   RW w3 lo aF aFc aFn aL aLc aLn aP aPc aPn aD aDc aDn aN aNc aNn aS aSc aSn aI aIc aIn aG aGc aGn A2 c2 N { x with gates := x.gates.set k y, bag := x.bag.eraseIdx i } := by
 obtain ⟨q1, q2, q3, q4, -⟩ := h.gated (y := y) hA hk hb hd hlo hk0 he
 have K := h.gateK hA hb he
 have hz := hb.size
 have ho1 : OwXV w1 lw A2 c2 N (vs.take i ++ vs.drop (i + 1)) := ho.keep (kE hzw (kR _ _))
 exact ⟨q1, q2, q3, q4,
   RX.erase h2 h1.ow.1 (fun j v z hv hz' => ⟨(h3 j v z hv hz').1, (h3 j v z hv hz').2.1, ((h3 j v z hv hz').2.2.keep (K _ (by unfold fpS; omega) (by unfold fpS; omega))).rs⟩)
     (Ow.rs ((ho1.less hll).keep_ fun a ha => by
       have hab := ho1.blk ha
       rw [he.block _ (by rw [set_cells_size]; exact hab.2) (fun hx => by have := hx.1; omega)]
       exact set_cells_heap (by omega) _ _ _)) hi hN⟩
end
end Go.Proofs.YtnnoiagommiapaaGreat
namespace Go.Proofs.YtnnoiagommiapaaGreat
open Go.RowKit Go
set_option maxHeartbeats 4000000
theorem wld_parts {x : Sw.World} (h : Sw.wldOk x = true) : (∃ rows, Sw.MOk x.market rows) ∧ x.lines.length ≤ 300 ∧ x.gates.length = 2 ∧ x.bag.length ≤ 6 ∧ (∀ m ∈ x.bag, Sw.msgOk m = true) ∧ (∀ g ∈ x.gates, Sw.gatOk g = true) := by
 simp only [Sw.wldOk, Bool.and_eq_true, decide_eq_true_eq, List.all_eq_true] at h
 obtain ⟨⟨⟨⟨⟨⟨⟨h1, h2⟩, h3⟩, h4⟩, h5⟩, h6⟩, h7⟩, h8⟩ := h
 exact ⟨Sw.mktOk_iff.1 h1, h3, h4, h5, h8, h7⟩
theorem sSend_c (aF : Option Addr) (aFc aFn : Nat) (aL : Option Addr) (aLc aLn : Nat) (aP : Option Addr) (aPc aPn : Nat) (aD : Option Addr) (aDc aDn : Nat) (aN : Option Addr) (aNc aNn : Nat) (aS : Option Addr) (aSc aSn : Nat) (aI : Option Addr) (aIc aIn : Nat) (aG : Option Addr) (aGc aGn : Nat) (aB : Option Addr) (aBc aBn : Nat) (x : Sw.World) (k : Int) (lo : Nat) (τ : Nat → Nat) (w : World) (hW : OwW fdS fpS τ w lo aF aFc aFn aL aLc aLn aP aPc aPn aD aDc aDn aN aNc aNn aS aSc aSn aI aIc aIn aG aGc aGn aB aBc aBn x) (hok : Sw.wldOk x = true) (hlo : lo ≤ w.heap.size) : Calls Tryz.prog 144 #[.agg #[.slice aF aFn aFc, .slice aL aLn aLc, .slice aP aPn aPc, .slice aD aDn aDc, .int .i64 x.market.clock, .slice aN aNn aNc, .slice aS aSn aSc, .slice aI aIn aIc, .slice aG aGn aGc, .slice aB aBn aBc], .int .i64 k] w fun E w' => WPost lo τ w w' (fun u => u) E (Sw.send x k) := by
 obtain ⟨-, -, hG2, hB6, -, -⟩ := wld_parts hok
 have hl4 := hW.gates.rg.len.1
 have hl5 := hW.bag.rx.len.1
 have L5 := Lib.hid hl5
 have hB4 : aBn ≤ 6 := by omega
 have L4 := Lib.hid (show aGn = 2 by omega)
 clear hl4 hG2
 have hBb := hW.bag_lt
 cases g1 : Sw.inR k 0 1
 case false =>
   have e : Sw.send x k = x := by simp [Sw.send, g1]
   rw [e]; clear e
   go_enter Tryz.func144, Tryz.ntmps144
   go_wp2_with (first | (go_at_call 99; refine (l1In_c _ _ _ _).mono ?_; rintro E w' ⟨rfl, rfl⟩))
   refine bodyPost_ret (v := .agg #[.slice aF aFn aFc, .slice aL aLn aLc, .slice aP aPn aPc, .slice aD aDn aDc, .int .i64 x.market.clock, .slice aN aNn aNc, .slice aS aSn aSc, .slice aI aIn aIc, .slice aG aGn aGc, .slice aB aBn aBc]) (by simp [results, Tryz.results144, go_sem, *]) rfl ?_
   exact ⟨aF, aFc, aFn, aL, aLc, aLn, aP, aPc, aPn, aD, aDc, aDn, aN, aNc, aNn, aS, aSc, aSn, aI, aIc, aIn, aG, aGc, aGn, aB, aBc, aBn, rfl, fun w'' hz => ((hW.keepF kf_).zeros hz).rw_, ext_⟩
 by_cases g2 : aBn = 6
 · have g2' : ((aBn : Int) == 6) = true := by simp; omega
   have e : Sw.send x k = x := by simp [Sw.send, ← hl5, g2]
   rw [e]; clear e g2
   go_enter Tryz.func144, Tryz.ntmps144
   go_wp2_with (first | (go_at_call 99; refine (l1In_c _ _ _ _).mono ?_; rintro E w' ⟨rfl, rfl⟩))
   refine bodyPost_ret (v := .agg #[.slice aF aFn aFc, .slice aL aLn aLc, .slice aP aPn aPc, .slice aD aDn aDc, .int .i64 x.market.clock, .slice aN aNn aNc, .slice aS aSn aSc, .slice aI aIn aIc, .slice aG aGn aGc, .slice aB aBn aBc]) (by simp [results, Tryz.results144, go_sem, *]) rfl ?_
   exact ⟨aF, aFc, aFn, aL, aLc, aLn, aP, aPc, aPn, aD, aDc, aDn, aN, aNc, aNn, aS, aSc, aSn, aI, aIc, aIn, aG, aGc, aGn, aB, aBc, aBn, rfl, fun w'' hz => ((hW.keepF kf_).zeros hz).rw_, ext_⟩
 have g2' : ((aBn : Int) == 6) = false := by simp; omega
 obtain rfl := L4.out
 have hk01 := Sw.inR_iff.1 g1
 obtain ⟨kk, rfl⟩ : ∃ kk : Nat, k = kk := ⟨k.toNat, by omega⟩
 have hkk : kk < 2 := by omega
 have hG := hW.glueL (τ' := fun _ => 0) (Nat.le_refl _)
 obtain ⟨gg, off, y, B1, d1, m1, rfl, hg0, hg1, hd, hy, q0, q1, q2, q3, hr⟩ := at_G hW.gates.rg hkk
 have e : Sw.send x kk = { x with bag := x.bag ++ [⟨kk, (Sw.hedOf x.market.log).getD Sw.headZ, Sw.hedProof x.market.log y.head.size⟩] } := by
   have h6 : x.bag.length < 6 := by omega
   have hgt : Sw.gateAt x kk = y := by unfold Sw.gateAt; rw [Int.toNat_natCast]; exact Sw.getD_of hy
   simp [Sw.send, g1, h6, hgt]
 rw [e]
 clear e hd hy q1 q2 q3 hr hk01 hl5
 obtain ⟨hh, hhe⟩ : ∃ hh, hh = (Sw.hedOf x.market.log).getD Sw.headZ := ⟨_, rfl⟩
 rw [← hhe]
 have HH := Lib.hid hhe
 clear hhe
 have t1 : (0 : Int) ≤ (kk : Int) := by omega
 have t2 : (kk : Int) < 2 := by omega
 go_enter Tryz.func144, Tryz.ntmps144
 go_wp2_with (first | (go_at_call 99; refine (l1In_c _ _ _ _).mono ?_; rintro E w' ⟨rfl, rfl⟩) | (go_at_call 204; apply Calls.mono; apply (sHedOf_c (xs := x.market.log)); (apply Rs.at0 hW.mkt.log.rs; (exact kf_)); rintro E w1 ⟨rfl, hb⟩; rw [← HH.out]; obtain ⟨hc, hf, hz⟩ := xy hb))
 (refine wn_ fun W0 hb0 hc0 hf0 hz0 => ?_)
 have p0 : W0.cell? ⟨w.heap.size, 0, none⟩ = some (.slice aF aFn aFc) := (co_); have p1 : W0.cell? ⟨w.heap.size, 1, none⟩ = some (.slice aL aLn aLc) := (co_); have p2 : W0.cell? ⟨w.heap.size, 2, none⟩ = some (.slice aP aPn aPc) := (co_); have p3 : W0.cell? ⟨w.heap.size, 3, none⟩ = some (.slice aD aDn aDc) := (co_); have p4 : W0.cell? ⟨w.heap.size, 4, none⟩ = some (.int .i64 x.market.clock) := (co_); have p5 : W0.cell? ⟨w.heap.size, 5, none⟩ = some (.slice aN aNn aNc) := (co_); have p6 : W0.cell? ⟨w.heap.size, 6, none⟩ = some (.slice aS aSn aSc) := (co_); have p7 : W0.cell? ⟨w.heap.size, 7, none⟩ = some (.slice aI aIn aIc) := (co_); have p8 : W0.cell? ⟨w.heap.size, 8, none⟩ = some (.slice (some ⟨gg, off, none⟩) 2 aGc) := (co_); have p9 : W0.cell? ⟨w.heap.size, 9, none⟩ = some (.slice aB aBn aBc) := (co_)
 have pf : ∀ i : Nat, W0.frozen? ⟨w.heap.size, i, none⟩ = false := fun i => co_
 have q0' : W0.cell? ⟨gg, off + kk * 4, none⟩ = some (.int .i64 y.head.size) := co_
 have hLr : Lb W0 (w.heap.size + 1) 10 := lbc_
 have r0 : W0.cell? ⟨w1.heap.size, 0, none⟩ = some (.int .i64 hh.size) := (co_); have r1 : W0.cell? ⟨w1.heap.size, 1, none⟩ = some (.int .i64 hh.log) := (co_); have r2 : W0.cell? ⟨w1.heap.size, 2, none⟩ = some (.int .i64 hh.own) := (co_)
 have hGq := hG.keepF (show KF lo w W0 from kf_)
 have hcq : Ex w W0 := ext_
 have hzq : w.heap.size + 2 ≤ w1.heap.size := sz_
 have hzq1 : w1.heap.size + 1 ≤ W0.heap.size := sz_
 clear hb hc hf hb0 hc0 hf0
 obtain ⟨Wq, hWq⟩ : ∃ z, z = W0 := ⟨_, rfl⟩
 subst hWq
 obtain ⟨vs, hv1, hv2, hv3⟩ := hGq.bag.ex
 have HV3 := Lib.hid hv3
 have HV2 := Lib.hid hv2
 clear hv3 hv2
 obtain ⟨hcz, hfz⟩ := Lb.rules hLr
 (focus (refine wn_ fun W0 hb0 hc0 hf0 hz0 => ?_; refine wp_regionX [17, 18, 19] (S := fun w' => Held W0 w') hdH (fun hHeld => ?_); refine GoesX.take 0 24 [1, 17, 18, 19] hHeld (h := ?_); refine GoesX.take 1 25 [17, 18, 19] hHeld (h := ?_); refine GoesX.take 2 26 [15, 16, 17, 18, 19] hHeld (h := ?_); refine GoesX.take 3 27 [15, 16, 17, 18, 19] hHeld (h := ?_); refine GoesX.take 4 28 [5, 6, 14, 15, 16, 17, 18, 19] hHeld (h := ?_); refine GoesX.take 5 29 [6, 14, 15, 16, 17, 18, 19] hHeld (h := ?_); refine GoesX.take 6 30 [14, 15, 16, 17, 18, 19] hHeld (h := ?_); refine GoesX.take 7 31 [8, 10, 11, 12, 13, 14, 15, 16, 17, 18, 19] hHeld (h := ?_); refine GoesX.take 8 32 [10, 11, 12, 13, 14, 15, 16, 17, 18, 19] hHeld (h := ?_); refine GoesX.take 9 33 [10, 11, 12, 13, 14, 15, 16, 17, 18, 19] hHeld (h := ?_); refine GoesX.take 10 34 [11, 12, 13, 14, 15, 16, 17, 18, 19] hHeld (h := ?_); refine GoesX.take 11 35 [12, 13, 14, 15, 16, 17, 18, 19] hHeld (h := ?_); refine GoesX.take 12 36 [13, 14, 15, 16, 17, 18, 19] hHeld (h := ?_); refine GoesX.take 13 37 [14, 15, 16, 17, 18, 19] hHeld (h := ?_); refine GoesX.one 14 (h := fun K hK => ?_); go_simp; (go_at_call 205; apply Calls.mono; apply (sHedProof_c (xs := x.market.log)); (apply Rs.at0 hGq.mkt.log.rs; (exact kf_)); rintro E w3 ⟨B2, d2, n2, rfl, hoP, hb⟩; obtain ⟨hc, hf, hz⟩ := xy hb); (try go_wp2_with fail); refine outS hK hdH (h := ?_); clear hK K hHeld; intro hHeld; refine GoesX.take 15 39 [16, 17, 18, 19] hHeld (h := ?_); refine GoesX.one 16 (h := fun K hK => ?_); go_simp; refine outS hK hdH (h := ?_); clear hK K hHeld; intro hHeld; refine GoesX.oneX 17 (h := fun K hK => ?_); (apply step_app (lo := lo) el_X one_X rfl rfl rfl rfl; (exact Ow.keep hv1.ow kf_); (refine Rs.new [⟨kk, hh, B2, d2, n2⟩] (by (first | with_reducible rfl | (simp only [zq_]; done) | (simp only [zq_]; omega))) rfl rfl (fun _ => rfl) (by omega)); omega; (exact sz_); intro A1 c1 w4 ho1 hch1 hat1 hex1 hlow1; clear hex1 hlow1; obtain ⟨hC0, hG0⟩ := Ch.atA_keep hch1 (g := w.heap.size) (by exact sz_) (fun a ha => by have := hBb a ha; omega); obtain ⟨hC1, hG1⟩ := Ch.atA_keep hch1 (g := w.heap.size + 1) (by exact sz_) (fun a ha => by have := hBb a ha; omega); have hzA := hch1.size; (try simp only [zq_] at hzA)); refine outX hK (h := ?_); clear hK K; refine GoesX.takeX 18 42 (h := ?_); refine GoesX.oneX 19 (h := fun K hK => ?_); go_simp; refine outX hK (h := ?_); clear hK K; refine GoesX.done (by kernel_rfl) ?_ _))
 go_wp2_with fail
 refine bodyPost_ret (v := .agg #[.slice aF aFn aFc, .slice aL aLn aLc, .slice aP aPn aPc, .slice aD aDn aDc, .int .i64 x.market.clock, .slice aN aNn aNc, .slice aS aSn aSc, .slice aI aIn aIc, .slice (some ⟨gg, off, none⟩) 2 aGc, .slice A1 (aBn + 1) c1]) (by simp [results, Tryz.results144, go_sem, *]) rfl ?_
 have hbl := hW.bag_up
 have hS := Ch.trans' (show Ch (UpT lo τ) w _ from ext_) hch1 (fun i _ ⟨a, ha, e⟩ => by rw [e]; exact hbl a ha)
 exact ⟨aF, aFc, aFn, aL, aLc, aLn, aP, aPc, aPn, aD, aDc, aDn, aN, aNc, aNn, aS, aSc, aSn, aI, aIc, aIn, some ⟨gg, off, none⟩, aGc, 2, A1, c1, aBn + 1, rfl, fun w'' hz => OwW.sent (m := ⟨kk, hh, Sw.hedProof x.market.log y.head.size⟩) hGq hv1 HV2.out HV3.out (by exact ext_) ((hoP.keep kf_).less sz_) sz_ ho1 hch1 hat1 (Zr.of (g1 := w.heap.size + 2) bx_ hz sz_ sz_), ext_⟩
set_option maxHeartbeats 4000000
structure ExH (a b : World) : Prop where
 out : Ex a b
set_option maxHeartbeats 2000000
structure QAt (w : World) (g : Nat) (r : Sw.Req) : Prop where
 lt : g < w.heap.size
 c0 : w.cell? ⟨g, 0, none⟩ = some (.int .i64 r.user)
 c1 : w.cell? ⟨g, 1, none⟩ = some (.int .i64 r.n)
 c2 : w.cell? ⟨g, 2, none⟩ = some (.int .i64 r.kind)
 c3 : w.cell? ⟨g, 3, none⟩ = some (.int .i64 r.ticket)
 c4 : w.cell? ⟨g, 4, none⟩ = some (.int .i64 r.who)
 c5 : w.cell? ⟨g, 5, none⟩ = some (.int .i64 r.price)
 free : ∀ i, w.frozen? ⟨g, i, none⟩ = false
theorem swMarketZ_c (aL : Option Addr) (aLc aLn : Nat) (aP : Option Addr) (aPc aPn : Nat) (aD : Option Addr) (aDc aDn : Nat) (aN : Option Addr) (aNc aNn : Nat) (aS : Option Addr) (aSc aSn : Nat) (x : Sw.Mkt) (w : World) (hx : RM w 0 aL aLc aLn aP aPc aPn aD aDc aDn aN aNc aNn aS aSc aSn x) : Calls Tryz.prog 42 #[.agg #[.slice aL aLn aLc, .slice aP aPn aPc, .slice aD aDn aDc, .int .i64 x.clock, .slice aN aNn aNc, .slice aS aSn aSc], .agg #[.slice none 0 0, .slice none 0 0, .slice none 0 0, .int .i64 0, .slice none 0 0, .slice none 0 0]] w fun E w' => E = .returned (.bool (decide (x = Sw.mktZ))) ∧ Ex w w' :=
 swMarket_c _ _ _ _ _ _ _ _ _ _ _ _ _ _ _ x _ _ _ _ _ _ _ _ _ _ _ _ _ _ _ Sw.mktZ w hx ⟨⟨rfl, Rd.none_ _ _ _⟩, ⟨rfl, Rd.none_ _ _ _⟩, ⟨rfl, Rd.none_ _ _ _⟩, ⟨rfl, Rd.none_ _ _ _⟩, ⟨rfl, Rd.none_ _ _ _⟩⟩
set_option maxHeartbeats 2000000
end Go.Proofs.YtnnoiagommiapaaGreat
