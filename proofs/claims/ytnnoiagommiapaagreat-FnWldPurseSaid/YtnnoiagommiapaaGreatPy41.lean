/- Texts joined: WldE. -/
import Derived.Test.YtnnoiagommiapaaGreatPy40
import Derived.Test.YtnnoiagommiapaaGreatPy34
import Derived.Test.YtnnoiagommiapaaGreatPy19
set_option maxRecDepth 100000
set_option linter.unusedSimpArgs false
set_option linter.unusedVariables false
namespace Go.Proofs.YtnnoiagommiapaaGreat
open Go.RowKit Go
set_option maxHeartbeats 1000000
def Zr (τ : Nat → Nat) (k : Nat) : Nat → Prop := fun b => b < k ∧ τ b = 0
def UpT (lo : Nat) (τ : Nat → Nat) : Nat → Prop := fun b => lo ≤ b ∧ 1 ≤ τ b
def WPost (lo : Nat) (τ : Nat → Nat) (w w' : World) (v : Value → Value) (E : Ending) (z : Sw.World) : Prop :=
 ∃ (bF : Option Addr) (bFc bFn : Nat) (bL : Option Addr) (bLc bLn : Nat) (bP : Option Addr) (bPc bPn : Nat) (bD : Option Addr) (bDc bDn : Nat) (bN : Option Addr) (bNc bNn : Nat) (bS : Option Addr) (bSc bSn : Nat) (bI : Option Addr) (bIc bIn : Nat) (bG : Option Addr) (bGc bGn : Nat) (bB : Option Addr) (bBc bBn : Nat), E = .returned (v (.agg #[.slice bF bFn bFc, .slice bL bLn bLc, .slice bP bPn bPc, .slice bD bDn bDc, .int .i64 z.market.clock, .slice bN bNn bNc, .slice bS bSn bSc, .slice bI bIn bIc, .slice bG bGn bGc, .slice bB bBn bBc])) ∧ (∀ w'', Ch (Zr τ w.heap.size) w' w'' → RW w'' lo bF bFc bFn bL bLc bLn bP bPc bPn bD bDc bDn bN bNc bNn bS bSc bSn bI bIc bIn bG bGc bGn bB bBc bBn z) ∧ Ch (UpT lo τ) w w'
section
variable {fd fp τ τ' : Nat → Nat} {W w w' w1 w2 w3 : World} {lo c k d n c1 g0 g1 : Nat} {A B A1 : Option Addr}
theorem KT.box {t k : Nat} {a : World} (h : KT τ t lo a w) (hx : Ch (Zr τ k) w w') (ht : 1 ≤ t) : KT τ t lo a w' :=
 KT.ch hx h fun i hi => .inr (by rw [hi.2]; omega)
theorem KT.boxg {t k : Nat} {a : World} (h : KT τ' t lo a w) (hx : Ch (Zr τ k) w w') (hτ : ∀ b, b < k → τ' b = τ b) (ht : 1 ≤ t) : KT τ' t lo a w' :=
 KT.ch hx h fun i hi => .inr (by rw [hτ i hi.1, hi.2]; omega)
theorem OwW.zeros {aF : Option Addr} {aFc aFn : Nat} {aL : Option Addr} {aLc aLn : Nat} {aP : Option Addr} {aPc aPn : Nat} {aD : Option Addr} {aDc aDn : Nat} {aN : Option Addr} {aNc aNn : Nat} {aS : Option Addr} {aSc aSn : Nat} {aI : Option Addr} {aIc aIn : Nat} {aG : Option Addr} {aGc aGn : Nat} {aB : Option Addr} {aBc aBn : Nat} {x : Sw.World} (h : OwW fdS fpS τ w lo aF aFc aFn aL aLc aLn aP aPc aPn aD aDc aDn aN aNc aNn aS aSc aSn aI aIc aIn aG aGc aGn aB aBc aBn x) (hx : Ch (Zr τ k) w w') : OwW fdS fpS τ w' lo aF aFc aFn aL aLc aLn aP aPc aPn aD aDc aDn aN aNc aNn aS aSc aSn aI aIc aIn aG aGc aGn aB aBc aBn x := by
 have K : ∀ t, 1 ≤ t → KT τ t lo w w' := fun t ht => (KT.refl _ _ _ _).box hx ht
 exact ⟨h.first.keep (K 6 (by decide)), h.mkt.keep fun t h1 _ => K t h1, h.lines.keep (K 7 (by decide)), h.gates.keep (K 8 (by decide)) fun j => K _ (by unfold fdS; omega), h.bag.keep (K 9 (by decide)) fun j => K _ (by unfold fpS; omega)⟩
theorem Zr.of {K : Nat} (h : Ch (BX w.heap.size g1) w1 w2) (hk : Ch (Zr τ w.heap.size) w2 w3) (hg : g1 ≤ K) (hw : w.heap.size ≤ K) : Ch (Zr (glue τ w.heap.size (fun _ => 0)) K) w1 w3 :=
 (h.mono fun i _ hi => ⟨by have := hi.2; omega, if_neg (by have := hi.1; omega)⟩).trans (hk.mono fun i _ hi => ⟨by have := hi.1; omega, (if_pos hi.1).trans hi.2⟩)
theorem OwW.glueL {aF : Option Addr} {aFc aFn : Nat} {aL : Option Addr} {aLc aLn : Nat} {aP : Option Addr} {aPc aPn : Nat} {aD : Option Addr} {aDc aDn : Nat} {aN : Option Addr} {aNc aNn : Nat} {aS : Option Addr} {aSc aSn : Nat} {aI : Option Addr} {aIc aIn : Nat} {aG : Option Addr} {aGc aGn : Nat} {aB : Option Addr} {aBc aBn : Nat} {x : Sw.World} (h : OwW fd fp τ w lo aF aFc aFn aL aLc aLn aP aPc aPn aD aDc aDn aN aNc aNn aS aSc aSn aI aIc aIn aG aGc aGn aB aBc aBn x) (hk : w.heap.size ≤ k) : OwW fd fp (glue τ k τ') w lo aF aFc aFn aL aLc aLn aP aPc aPn aD aDc aDn aN aNc aNn aS aSc aSn aI aIc aIn aG aGc aGn aB aBc aBn x := h.retag fun b hb => if_pos (by omega)
theorem OwW.tail {aF : Option Addr} {aFc aFn : Nat} {aL : Option Addr} {aLc aLn : Nat} {aP : Option Addr} {aPc aPn : Nat} {aD : Option Addr} {aDc aDn : Nat} {aN : Option Addr} {aNc aNn : Nat} {aS : Option Addr} {aSc aSn : Nat} {aI : Option Addr} {aIc aIn : Nat} {aG : Option Addr} {aGc aGn : Nat} {aB : Option Addr} {aBc aBn : Nat} {x : Sw.World} (h : OwW fdS fpS τ W lo aF aFc aFn aL aLc aLn aP aPc aPn aD aDc aDn aN aNc aNn aS aSc aSn aI aIc aIn aG aGc aGn aB aBc aBn x) (hb : Ex W w1) (hc : Ch (atA aB) w1 w2) (he : Ch (Zr τ W.heap.size) w2 w3) :
   RI w3 lo aF aFc aFn x.first ∧ RM w3 lo aL aLc aLn aP aPc aPn aD aDc aDn aN aNc aNn aS aSc aSn x.market ∧ RQ w3 lo aI aIc aIn x.lines ∧ RG w3 lo aG aGc aGn x.gates := by
 have ht : ∀ a, aB = some a → τ a.block = 9 := by
   obtain ⟨vs, h1, _⟩ := h.bag.ex
   exact h1.tag
 have K : ∀ t, 1 ≤ t → t ≠ 9 → KT τ t lo W w3 := fun t h1 h9 => (KT.app hb hc ht (Ne.symm h9)).box he h1
 exact ⟨(h.first.keep (K 6 (by decide) (by decide))).rs, (h.mkt.keep fun t h1 h5 => K t h1 (by omega)).rm, (h.lines.keep (K 7 (by decide) (by decide))).rs, (h.gates.keep (K 8 (by decide) (by decide)) fun j => K _ (by unfold fdS; omega) (by unfold fdS; omega)).rg⟩
theorem OwW.bag_lt {aF : Option Addr} {aFc aFn : Nat} {aL : Option Addr} {aLc aLn : Nat} {aP : Option Addr} {aPc aPn : Nat} {aD : Option Addr} {aDc aDn : Nat} {aN : Option Addr} {aNc aNn : Nat} {aS : Option Addr} {aSc aSn : Nat} {aI : Option Addr} {aIc aIn : Nat} {aG : Option Addr} {aGc aGn : Nat} {aB : Option Addr} {aBc aBn : Nat} {x : Sw.World} (h : OwW fd fp τ w lo aF aFc aFn aL aLc aLn aP aPc aPn aD aDc aDn aN aNc aNn aS aSc aSn aI aIc aIn aG aGc aGn aB aBc aBn x) : ∀ a, aB = some a → a.block < w.heap.size := by
 obtain ⟨vs, h1, _⟩ := h.bag.ex
 exact fun a ha => (h1.ow.blk ha).2
theorem OwW.gates_lt {aF : Option Addr} {aFc aFn : Nat} {aL : Option Addr} {aLc aLn : Nat} {aP : Option Addr} {aPc aPn : Nat} {aD : Option Addr} {aDc aDn : Nat} {aN : Option Addr} {aNc aNn : Nat} {aS : Option Addr} {aSc aSn : Nat} {aI : Option Addr} {aIc aIn : Nat} {aG : Option Addr} {aGc aGn : Nat} {aB : Option Addr} {aBc aBn : Nat} {x : Sw.World} (h : OwW fd fp τ w lo aF aFc aFn aL aLc aLn aP aPc aPn aD aDc aDn aN aNc aNn aS aSc aSn aI aIc aIn aG aGc aGn aB aBc aBn x) : ∀ a, aG = some a → a.block < w.heap.size := by
 obtain ⟨vs, h1, _⟩ := h.gates.ex
 exact fun a ha => (h1.ow.blk ha).2
theorem OwW.bag_up {aF : Option Addr} {aFc aFn : Nat} {aL : Option Addr} {aLc aLn : Nat} {aP : Option Addr} {aPc aPn : Nat} {aD : Option Addr} {aDc aDn : Nat} {aN : Option Addr} {aNc aNn : Nat} {aS : Option Addr} {aSc aSn : Nat} {aI : Option Addr} {aIc aIn : Nat} {aG : Option Addr} {aGc aGn : Nat} {aB : Option Addr} {aBc aBn : Nat} {x : Sw.World} (h : OwW fd fp τ w lo aF aFc aFn aL aLc aLn aP aPc aPn aD aDc aDn aN aNc aNn aS aSc aSn aI aIc aIn aG aGc aGn aB aBc aBn x) : ∀ a, aB = some a → UpT lo τ a.block := by
 obtain ⟨vs, h1, _⟩ := h.bag.ex
 exact fun a ha => ⟨(h1.ow.blk ha).1, by rw [h1.tag a ha]; omega⟩
theorem OwW.gates_up {aF : Option Addr} {aFc aFn : Nat} {aL : Option Addr} {aLc aLn : Nat} {aP : Option Addr} {aPc aPn : Nat} {aD : Option Addr} {aDc aDn : Nat} {aN : Option Addr} {aNc aNn : Nat} {aS : Option Addr} {aSc aSn : Nat} {aI : Option Addr} {aIc aIn : Nat} {aG : Option Addr} {aGc aGn : Nat} {aB : Option Addr} {aBc aBn : Nat} {x : Sw.World} (h : OwW fd fp τ w lo aF aFc aFn aL aLc aLn aP aPc aPn aD aDc aDn aN aNc aNn aS aSc aSn aI aIc aIn aG aGc aGn aB aBc aBn x) : ∀ a, aG = some a → UpT lo τ a.block := by
 obtain ⟨vs, h1, _⟩ := h.gates.ex
 exact fun a ha => ⟨(h1.ow.blk ha).1, by rw [h1.tag a ha]; omega⟩
theorem UpT.up {w w' : World} (h : Ch (UpT lo τ) w w') : Ch (UpF lo) w w' := h.mono fun i _ hi => hi.1
theorem OwX.cap {xs : List Sw.Msg} (h : OwX fp τ w lo A c n xs) : n ≤ c := by
 obtain ⟨vs, h1, _⟩ := h.ex
 exact h1.ow.rs.2.le
theorem OwX.capm {xs : List Sw.Msg} (h : OwX fp τ w lo A c n xs) : c ≤ 9223372036854775807 := by
 obtain ⟨vs, h1, _⟩ := h.ex
 have := h1.ow.rs.2.cap
 unfold maxLen at this
 omega
theorem OwW.sent {aF : Option Addr} {aFc aFn : Nat} {aL : Option Addr} {aLc aLn : Nat} {aP : Option Addr} {aPc aPn : Nat} {aD : Option Addr} {aDc aDn : Nat} {aN : Option Addr} {aNc aNn : Nat} {aS : Option Addr} {aSc aSn : Nat} {aI : Option Addr} {aIc aIn : Nat} {aG : Option Addr} {aGc aGn : Nat} {aB : Option Addr} {aBc aBn : Nat} {x : Sw.World} {m : Sw.Msg} {vs : List XV} (h : OwW fdS fpS τ W lo aF aFc aFn aL aLc aLn aP aPc aPn aD aDc aDn aN aNc aNn aS aSc aSn aI aIc aIn aG aGc aGn aB aBc aBn x) (h1 : OwTX τ 9 W lo aB aBc aBn vs) (h2 : aBn = x.bag.length)
   (h3 : ∀ (j : Nat) (v : XV) (g : Sw.Msg), vs[j]? = some v → x.bag[j]? = some g → v.g = g.gate ∧ v.h = g.head ∧ OwTI τ (fpS j) W lo v.A v.c v.n g.proof)
   (hb : Ex W w1) (hd : OwI w1 W.heap.size B d n m.proof) (hlo : lo ≤ W.heap.size) (ho : OwXV w2 lo A1 c1 (aBn + 1) (vs ++ [⟨m.gate, m.head, B, d, n⟩])) (hc : Ch (atA aB) w1 w2)
   (hat : ∀ b, A1 = some b → aB = some b ∨ w1.heap.size ≤ b.block) (he : Ch (Zr τ W.heap.size) w2 w3) :
   RW w3 lo aF aFc aFn aL aLc aLn aP aPc aPn aD aDc aDn aN aNc aNn aS aSc aSn aI aIc aIn aG aGc aGn A1 c1 (aBn + 1) { x with bag := x.bag ++ [m] } := by
 obtain ⟨q1, q2, q3, q4⟩ := h.tail hb hc he
 have hz := hb.size
 have hs := OwX.snoc h1 h2 h3 hb hd hlo ho hc hat fpS_ne
 have h0' : ∀ b, b < W.heap.size → glue (glue τ W.heap.size (fun _ => fpS aBn)) w1.heap.size (fun _ => 9) b = τ b := fun b h1 => (if_pos (by omega)).trans (if_pos h1)
 exact ⟨q1, q2, q3, q4, (hs.keep ((KT.refl _ _ _ _).boxg he h0' (by decide)) fun j => (KT.refl _ _ _ _).boxg he h0' (by unfold fpS; omega)).rx⟩
theorem OwW.still {aF : Option Addr} {aFc aFn : Nat} {aL : Option Addr} {aLc aLn : Nat} {aP : Option Addr} {aPc aPn : Nat} {aD : Option Addr} {aDc aDn : Nat} {aN : Option Addr} {aNc aNn : Nat} {aS : Option Addr} {aSc aSn : Nat} {aI : Option Addr} {aIc aIn : Nat} {aG : Option Addr} {aGc aGn : Nat} {aB : Option Addr} {aBc aBn : Nat} {x : Sw.World} (_ : OwW fdS fpS τ W lo aF aFc aFn aL aLc aLn aP aPc aPn aD aDc aDn aN aNc aNn aS aSc aSn aI aIc aIn aG aGc aGn aB aBc aBn x) (hb : Ex W w1) (he : Ch (Zr τ W.heap.size) w1 w3) : ∀ t, 1 ≤ t → KT τ t lo W w3 :=
 fun t h1 => (KT.ex hb (KT.refl _ _ _ _)).box he h1
theorem OwW.gateK {aF : Option Addr} {aFc aFn : Nat} {aL : Option Addr} {aLc aLn : Nat} {aP : Option Addr} {aPc aPn : Nat} {aD : Option Addr} {aDc aDn : Nat} {aN : Option Addr} {aNc aNn : Nat} {aS : Option Addr} {aSc aSn : Nat} {aI : Option Addr} {aIc aIn : Nat} {aG : Option Addr} {aGc aGn : Nat} {aB : Option Addr} {aBc aBn : Nat} {x : Sw.World} {gG k0 : Nat} {y : GV} (h : OwW fdS fpS τ W lo aF aFc aFn aL aLc aLn aP aPc aPn aD aDc aDn aN aNc aNn aS aSc aSn aI aIc aIn aG aGc aGn aB aBc aBn x) (hA : aG = some ⟨gG, 0, none⟩) (hb : Ex W w1)
   (he : Ch (Zr τ k0) (setCells w1 gG (k * 4) y.enc) w3) : ∀ t, 1 ≤ t → t ≠ 8 → KT τ t lo W w3 := by
 obtain ⟨vs, v1, v2, v3⟩ := h.gates.ex
 have tG : τ gG = 8 := v1.tag _ hA
 have hset : Ch (· = gG) w1 (setCells w1 gG (k * 4) y.enc) := setCells_ch (Ch.refl _ _) rfl
 exact fun t h1 h8 => (KT.ch hset (KT.ex hb (KT.refl _ _ _ _)) fun i hi => .inr (by rw [show i = gG from hi, tG]; exact Ne.symm h8)).box he h1
theorem OwW.gated {aF : Option Addr} {aFc aFn : Nat} {aL : Option Addr} {aLc aLn : Nat} {aP : Option Addr} {aPc aPn : Nat} {aD : Option Addr} {aDc aDn : Nat} {aN : Option Addr} {aNc aNn : Nat} {aS : Option Addr} {aSc aSn : Nat} {aI : Option Addr} {aIc aIn : Nat} {aG : Option Addr} {aGc aGn : Nat} {aB : Option Addr} {aBc aBn : Nat} {x : Sw.World} {gG k0 : Nat} {y : Sw.Gate} (h : OwW fdS fpS τ W lo aF aFc aFn aL aLc aLn aP aPc aPn aD aDc aDn aN aNc aNn aS aSc aSn aI aIc aIn aG aGc aGn aB aBc aBn x) (hA : aG = some ⟨gG, 0, none⟩) (hk : k < aGn) (hb : Ex W w1) (hd : OwI w1 W.heap.size B d n y.done) (hlo : lo ≤ W.heap.size) (hk0 : k0 ≤ W.heap.size)
   (he : Ch (Zr τ k0) (setCells w1 gG (k * 4) (GV.enc ⟨y.head, B, d, n⟩)) w3) :
   RI w3 lo aF aFc aFn x.first ∧ RM w3 lo aL aLc aLn aP aPc aPn aD aDc aDn aN aNc aNn aS aSc aSn x.market ∧ RQ w3 lo aI aIc aIn x.lines ∧ RG w3 lo aG aGc aGn (x.gates.set k y) ∧ RX w3 lo aB aBc aBn x.bag := by
 obtain ⟨vs, v1, v2, v3⟩ := h.gates.ex
 have hgG := v1.ow.blk hA
 dsimp only at hgG
 have tG : τ gG = 8 := v1.tag _ hA
 have hz := hb.size
 have hset : Ch (· = gG) w1 (setCells w1 gG (k * 4) (GV.enc ⟨y.head, B, d, n⟩)) := setCells_ch (Ch.refl _ _) rfl
 have K : ∀ t, 1 ≤ t → t ≠ 8 → KT τ t lo W w3 := fun t h1 h8 => (KT.ch hset (KT.ex hb (KT.refl _ _ _ _)) fun i hi => .inr (by rw [show i = gG from hi, tG]; exact Ne.symm h8)).box he h1
 have hne : ∀ b, b ≠ gG → (setCells w1 gG (k * 4) (GV.enc ⟨y.head, B, d, n⟩)).heap[b]? = w1.heap[b]? := fun b hb => set_cells_heap hb _ _ _
 have hnb : ∀ b, b < w1.heap.size → ¬ Zr τ k0 b → w3.heap[b]? = (setCells w1 gG (k * 4) (GV.enc ⟨y.head, B, d, n⟩)).heap[b]? := fun b h1 h2 => he.block b (by rw [set_cells_size]; exact h1) h2
 refine ⟨(h.first.keep (K 6 (by decide) (by decide))).rs, (h.mkt.keep fun t h1 h5 => K t h1 (by omega)).rm, (h.lines.keep (K 7 (by decide) (by decide))).rs, ?_, (h.bag.keep (K 9 (by decide) (by decide)) fun j => K _ (by unfold fpS; omega) (by unfold fpS; omega)).rx⟩
 have hp := Ow.put (v1.ow.keep (kE hb (kR _ _))) (fun _ => rfl) ⟨y.head, B, d, n⟩ hA hk
 refine ⟨_, Ow.rs (hp.keep_ fun a ha => ?_), by rw [List.length_set]; exact v2, fun j v z hv hz' => ?_⟩
 · rw [hA] at ha
   cases ha
   refine hnb gG (by omega) fun hbx => ?_
   have := hbx.2
   omega
 · rw [List.getElem?_set] at hv hz'
   by_cases hjk : k = j
   · subst hjk
     rw [if_pos rfl, if_pos (by rw [← v1.ow.1]; exact hk)] at hv
     rw [if_pos rfl, if_pos (by omega)] at hz'
     cases hv; cases hz'
     refine ⟨rfl, Ow.rs ((hd.less hlo).keep_ fun a ha => ?_)⟩
     have hab := hd.blk ha
     rw [hnb _ hab.2 (fun h => by have := h.1; omega), hne _ (by omega)]
   · rw [if_neg hjk] at hv hz'
     obtain ⟨e, hr⟩ := v3 j v z hv hz'
     exact ⟨e, (hr.keep (K _ (by unfold fdS; omega) (by unfold fdS; omega))).rs⟩
theorem msgs_keep {xs : List Sw.Msg} {vs : List XV} (h3 : ∀ (j : Nat) (v : XV) (g : Sw.Msg), vs[j]? = some v → xs[j]? = some g → v.g = g.gate ∧ v.h = g.head ∧ OwTI τ (fpS j) W lo v.A v.c v.n g.proof) (hk : ∀ t, 1 ≤ t → KT τ t lo W w') :
   ∀ (j : Nat) (v : XV) (g : Sw.Msg), vs[j]? = some v → xs[j]? = some g → v.g = g.gate ∧ v.h = g.head ∧ OwTI τ (fpS j) w' lo v.A v.c v.n g.proof :=
 fun j v g hv hg => ⟨(h3 j v g hv hg).1, (h3 j v g hv hg).2.1, (h3 j v g hv hg).2.2.keep (hk _ (by unfold fpS; omega))⟩
theorem OwW.lost {aF : Option Addr} {aFc aFn : Nat} {aL : Option Addr} {aLc aLn : Nat} {aP : Option Addr} {aPc aPn : Nat} {aD : Option Addr} {aDc aDn : Nat} {aN : Option Addr} {aNc aNn : Nat} {aS : Option Addr} {aSc aSn : Nat} {aI : Option Addr} {aIc aIn : Nat} {aG : Option Addr} {aGc aGn : Nat} {aB : Option Addr} {aBc aBn : Nat} {x : Sw.World} {vs : List XV} {i N c2 lw : Nat} {A2 : Option Addr} (h : OwW fdS fpS τ W lo aF aFc aFn aL aLc aLn aP aPc aPn aD aDc aDn aN aNc aNn aS aSc aSn aI aIc aIn aG aGc aGn aB aBc aBn x) (h1 : OwTX τ 9 W lo aB aBc aBn vs) (h2 : aBn = x.bag.length)
   (h3 : ∀ (j : Nat) (v : XV) (g : Sw.Msg), vs[j]? = some v → x.bag[j]? = some g → v.g = g.gate ∧ v.h = g.head ∧ OwTI τ (fpS j) W lo v.A v.c v.n g.proof)
   (hb : Ex W w1) (he : Ch (Zr τ W.heap.size) w1 w3) (hlo : lo ≤ W.heap.size) (ho : OwXV w1 lw A2 c2 N (vs.take i ++ vs.drop (i + 1))) (hlw : W.heap.size ≤ lw) (hi : i < aBn) (hN : N = aBn - 1) :
   RW w3 lo aF aFc aFn aL aLc aLn aP aPc aPn aD aDc aDn aN aNc aNn aS aSc aSn aI aIc aIn aG aGc aGn A2 c2 N { x with bag := x.bag.eraseIdx i } := by
 have K := h.still hb he
 have hz := hb.size
 exact ⟨(h.first.keep (K 6 (by decide))).rs, (h.mkt.keep fun t h1 h5 => K t h1).rm, (h.lines.keep (K 7 (by decide))).rs, (h.gates.keep (K 8 (by decide)) fun j => K _ (by unfold fdS; omega)).rg,
   RX.erase h2 h1.ow.1 (fun j v z hv hz' => ⟨(h3 j v z hv hz').1, (h3 j v z hv hz').2.1, ((h3 j v z hv hz').2.2.keep (K _ (by unfold fpS; omega))).rs⟩)
     (Ow.rs ((ho.less (show lo ≤ lw by omega)).keep_ fun a ha => by have := ho.blk ha; exact he.block _ this.2 fun hx => by have := hx.1; omega)) hi hN⟩
theorem OwW.heard {aF : Option Addr} {aFc aFn : Nat} {aL : Option Addr} {aLc aLn : Nat} {aP : Option Addr} {aPc aPn : Nat} {aD : Option Addr} {aDc aDn : Nat} {aN : Option Addr} {aNc aNn : Nat} {aS : Option Addr} {aSc aSn : Nat} {aI : Option Addr} {aIc aIn : Nat} {aG : Option Addr} {aGc aGn : Nat} {aB : Option Addr} {aBc aBn : Nat} {x : Sw.World} {vs : List XV} {wz : World} {i N c2 lw gG k0 : Nat} {A2 : Option Addr} {y : Sw.Gate} (h : OwW fdS fpS τ W lo aF aFc aFn aL aLc aLn aP aPc aPn aD aDc aDn aN aNc aNn aS aSc aSn aI aIc aIn aG aGc aGn aB aBc aBn x) (h1 : OwTX τ 9 W lo aB aBc aBn vs) (h2 : aBn = x.bag.length)
   (h3 : ∀ (j : Nat) (v : XV) (g : Sw.Msg), vs[j]? = some v → x.bag[j]? = some g → v.g = g.gate ∧ v.h = g.head ∧ OwTI τ (fpS j) W lo v.A v.c v.n g.proof)
   (hA : aG = some ⟨gG, 0, none⟩) (hk : k < aGn) (hb : Ex W w1) (hd : OwI w1 W.heap.size B d n y.done) (he : Ch (Zr τ k0) (setCells w1 gG (k * 4) (GV.enc ⟨y.head, B, d, n⟩)) w3) (hlo : lo ≤ W.heap.size)
   (ho : OwXV wz lw A2 c2 N (vs.take i ++ vs.drop (i + 1))) (hzw : Ex wz w1) (hlw : k0 ≤ lw) (hk0 : k0 ≤ W.heap.size) (hgl : gG < lw) (hll : lo ≤ lw) (hi : i < aBn) (hN : N = aBn - 1) :
   RW w3 lo aF aFc aFn aL aLc aLn aP aPc aPn aD aDc aDn aN aNc aNn aS aSc aSn aI aIc aIn aG aGc aGn A2 c2 N { x with gates := x.gates.set k y, bag := x.bag.eraseIdx i } := by
 obtain ⟨q1, q2, q3, q4, -⟩ := h.gated (y := y) hA hk hb hd hlo hk0 he
 have K := h.gateK hA hb he
 have hz := hb.size
 have ho1 : OwXV w1 lw A2 c2 N (vs.take i ++ vs.drop (i + 1)) := ho.keep (kE hzw (kR _ _))
 exact ⟨q1, q2, q3, q4,
   RX.erase h2 h1.ow.1 (fun j v z hv hz' => ⟨(h3 j v z hv hz').1, (h3 j v z hv hz').2.1, ((h3 j v z hv hz').2.2.keep (K _ (by unfold fpS; omega) (by unfold fpS; omega))).rs⟩)
     (Ow.rs ((ho1.less hll).keep_ fun a ha => by
       have hab := ho1.blk ha
       rw [he.block _ (by rw [set_cells_size]; exact hab.2) (fun hx => by have := hx.1; omega)]
       exact set_cells_heap (by omega) _ _ _)) hi hN⟩
end
end Go.Proofs.YtnnoiagommiapaaGreat
