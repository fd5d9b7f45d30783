/- Texts joined: PtrW. -/
import Derived.Test.YtnnoiagommiapaaGreatPy31
import Derived.Test.YtnnoiagommiapaaGreatPy28
import Derived.Test.YtnnoiagommiapaaGreatPy19
set_option maxRecDepth 100000
set_option linter.unusedSimpArgs false
set_option linter.unusedVariables false
namespace Go.Proofs.YtnnoiagommiapaaGreat
open Go.RowKit Go
set_option maxHeartbeats 1000000
def SWg (g lo : Nat) (τ : Nat → Nat) : Nat → Prop := fun b => b = g ∨ (lo ≤ b ∧ 1 ≤ τ b)
structure WS (g lo : Nat) (τ0 : Nat → Nat) (w0 : World) (aF : Option Addr) (aFc aFn : Nat) (aL : Option Addr) (aLc aLn : Nat) (aP : Option Addr) (aPc aPn : Nat) (aD : Option Addr) (aDc aDn : Nat) (aN : Option Addr) (aNc aNn : Nat) (aS : Option Addr) (aSc aSn : Nat) (aI : Option Addr) (aIc aIn : Nat) (aG : Option Addr) (aGc aGn : Nat) (aB : Option Addr) (aBc aBn : Nat) (x : Sw.World) (τ : Nat → Nat) (w : World) : Prop where
 first : w.cell? ⟨g, 0, none⟩ = some (.slice aF aFn aFc)
 at_ : MktAt w g 1 aL aLc aLn aP aPc aPn aD aDc aDn aN aNc aNn aS aSc aSn x.market.clock
 lines : w.cell? ⟨g, 7, none⟩ = some (.slice aI aIn aIc)
 gates : w.cell? ⟨g, 8, none⟩ = some (.slice aG aGn aGc)
 bag : w.cell? ⟨g, 9, none⟩ = some (.slice aB aBn aBc)
 lb : Lb w g 10
 ow : OwW fdL fpL τ w lo aF aFc aFn aL aLc aLn aP aPc aPn aD aDc aDn aN aNc aNn aS aSc aSn aI aIc aIn aG aGc aGn aB aBc aBn x
 tag : ∀ b, b < w0.heap.size → τ b = τ0 b
 ch : Ch (SWg g lo τ0) w0 w
 glt : g < w0.heap.size
 gz : τ0 g = 0
 llo : lo ≤ w0.heap.size
theorem fpL_ne (j : Nat) : fpL j ≠ 9 := by unfold fpL; omega
section
variable {g lo : Nat} {τ0 τ τ' : Nat → Nat} {w0 w w' w1 : World} {aF : Option Addr} {aFc aFn : Nat} {aL : Option Addr} {aLc aLn : Nat} {aP : Option Addr} {aPc aPn : Nat} {aD : Option Addr} {aDc aDn : Nat} {aN : Option Addr} {aNc aNn : Nat} {aS : Option Addr} {aSc aSn : Nat} {aI : Option Addr} {aIc aIn : Nat} {aG : Option Addr} {aGc aGn : Nat} {aB : Option Addr} {aBc aBn : Nat} {x : Sw.World}
theorem WS.g0 (h : WS g lo τ0 w0 aF aFc aFn aL aLc aLn aP aPc aPn aD aDc aDn aN aNc aNn aS aSc aSn aI aIc aIn aG aGc aGn aB aBc aBn x τ w) : τ g = 0 := (h.tag g h.glt).trans h.gz
theorem WS.lo_le (h : WS g lo τ0 w0 aF aFc aFn aL aLc aLn aP aPc aPn aD aDc aDn aN aNc aNn aS aSc aSn aI aIc aIn aG aGc aGn aB aBc aBn x τ w) : lo ≤ w.heap.size := Nat.le_trans h.llo h.ch.size
theorem WS.trans {bF : Option Addr} {bFc bFn : Nat} {bL : Option Addr} {bLc bLn : Nat} {bP : Option Addr} {bPc bPn : Nat} {bD : Option Addr} {bDc bDn : Nat} {bN : Option Addr} {bNc bNn : Nat} {bS : Option Addr} {bSc bSn : Nat} {bI : Option Addr} {bIc bIn : Nat} {bG : Option Addr} {bGc bGn : Nat} {bB : Option Addr} {bBc bBn : Nat} {z : Sw.World} (h : WS g lo τ0 w0 aF aFc aFn aL aLc aLn aP aPc aPn aD aDc aDn aN aNc aNn aS aSc aSn aI aIc aIn aG aGc aGn aB aBc aBn x τ w) (k : WS g lo τ w bF bFc bFn bL bLc bLn bP bPc bPn bD bDc bDn bN bNc bNn bS bSc bSn bI bIc bIn bG bGc bGn bB bBc bBn z τ' w') : WS g lo τ0 w0 bF bFc bFn bL bLc bLn bP bPc bPn bD bDc bDn bN bNc bNn bS bSc bSn bI bIc bIn bG bGc bGn bB bBc bBn z τ' w' := by
 have hz := h.ch.size
 refine ⟨k.first, k.at_, k.lines, k.gates, k.bag, k.lb, k.ow, fun b hb => (k.tag b (by omega)).trans (h.tag b hb), h.ch.trans' k.ch fun i hi hs => ?_, h.glt, h.gz, h.llo⟩
 rcases hs with hs | ⟨h1, h2⟩
 · exact .inl hs
 · exact .inr ⟨h1, by rw [← h.tag i hi]; exact h2⟩
theorem WS.ex (h : WS g lo τ0 w0 aF aFc aFn aL aLc aLn aP aPc aPn aD aDc aDn aN aNc aNn aS aSc aSn aI aIc aIn aG aGc aGn aB aBc aBn x τ w) (hb : Ex w w') : WS g lo τ0 w0 aF aFc aFn aL aLc aLn aP aPc aPn aD aDc aDn aN aNc aNn aS aSc aSn aI aIc aIn aG aGc aGn aB aBc aBn x τ w' := by
 have hk : KF 0 w w' := kE hb (kR _ _)
 have hc : ∀ i : Nat, w'.cell? ⟨g, i, none⟩ = w.cell? ⟨g, i, none⟩ := fun i => World.cell?_of_block (w := w) (a := ⟨g, i, none⟩) (hb.block g h.at_.lt (fun h => h))
 exact ⟨(hc _).trans h.first, h.at_.keep hk, (hc _).trans h.lines, (hc _).trans h.gates, (hc _).trans h.bag, h.lb.ex hb, h.ow.keepF (kE hb (kR _ _)), h.tag, cE hb h.ch, h.glt, h.gz, h.llo⟩
theorem WS.move {r : Nat} (h : WS g lo τ0 w0 aF aFc aFn aL aLc aLn aP aPc aPn aD aDc aDn aN aNc aNn aS aSc aSn aI aIc aIn aG aGc aGn aB aBc aBn x τ w) (hb : Ch (· = r) w w') (h1 : r < lo) (h2 : g ≠ r) : WS g lo τ w' aF aFc aFn aL aLc aLn aP aPc aPn aD aDc aDn aN aNc aNn aS aSc aSn aI aIc aIn aG aGc aGn aB aBc aBn x τ w' := by
 have hc : ∀ i : Nat, w'.cell? ⟨g, i, none⟩ = w.cell? ⟨g, i, none⟩ := fun i => World.cell?_of_block (w := w) (a := ⟨g, i, none⟩) (hb.block g h.at_.lt h2)
 exact ⟨(hc _).trans h.first, h.at_.apart hb h2, (hc _).trans h.lines, (hc _).trans h.gates, (hc _).trans h.bag, h.lb.chk hb h2, h.ow.keepF (kC hb (kR _ _) (.inl h1)), fun _ _ => rfl, Ch.refl _ _, Nat.lt_of_lt_of_le h.at_.lt hb.size, h.g0, Nat.le_trans h.lo_le hb.size⟩
theorem WS.zero (h : WS g lo τ0 w0 aF aFc aFn aL aLc aLn aP aPc aPn aD aDc aDn aN aNc aNn aS aSc aSn aI aIc aIn aG aGc aGn aB aBc aBn x τ w) (hb : Ex w w') : WS g lo τ0 w0 aF aFc aFn aL aLc aLn aP aPc aPn aD aDc aDn aN aNc aNn aS aSc aSn aI aIc aIn aG aGc aGn aB aBc aBn x (glue τ w.heap.size (fun _ => 0)) w' := by
 have h' := h.ex hb
 have hz := h.ch.size
 exact ⟨h'.first, h'.at_, h'.lines, h'.gates, h'.bag, h'.lb, (h.ow.retag fun b hb => if_pos hb).keepF (kE hb (kR _ _)), fun b hb => (if_pos (by omega)).trans (h.tag b hb), h'.ch, h.glt, h.gz, h.llo⟩
theorem OwW.cell (h : OwW fdL fpL τ w lo aF aFc aFn aL aLc aLn aP aPc aPn aD aDc aDn aN aNc aNn aS aSc aSn aI aIc aIn aG aGc aGn aB aBc aBn x) (hg : τ g = 0) (i : Nat) (v : Value) : OwW fdL fpL τ (w.setCell ⟨g, i, none⟩ v) lo aF aFc aFn aL aLc aLn aP aPc aPn aD aDc aDn aN aNc aNn aS aSc aSn aI aIc aIn aG aGc aGn aB aBc aBn x := by
 have K : ∀ t, 1 ≤ t → KT τ t lo w (w.setCell ⟨g, i, none⟩ v) := fun t ht => (KT.refl _ _ _ _).setCell (.inr (by show τ g ≠ t; omega))
 exact ⟨h.first.keep (K 6 (by decide)), h.mkt.keep fun t h1 _ => K t h1, h.lines.keep (K 7 (by decide)), h.gates.keep (K 8 (by decide)) fun j => K _ (by unfold fdL; omega), h.bag.keep (K 9 (by decide)) fun j => K _ (by unfold fpL; omega)⟩
theorem KT.sg {t : Nat} (hc : Ch (SG g lo τ) w w') (hg : τ g = 0) (ht : 6 ≤ t) : KT τ t lo w w' :=
 ⟨hc.size, fun b h1 h2 h3 => hc.block b h2 fun h => by
   rcases h with h | ⟨_, _, h5⟩
   · subst h; omega
   · omega⟩
theorem WS.market {bL : Option Addr} {bLc bLn : Nat} {bP : Option Addr} {bPc bPn : Nat} {bD : Option Addr} {bDc bDn : Nat} {bN : Option Addr} {bNc bNn : Nat} {bS : Option Addr} {bSc bSn : Nat} {m : Sw.Mkt} (h : WS g lo τ0 w0 aF aFc aFn aL aLc aLn aP aPc aPn aD aDc aDn aN aNc aNn aS aSc aSn aI aIc aIn aG aGc aGn aB aBc aBn x τ w) (k : MS g 1 10 lo τ w bL bLc bLn bP bPc bPn bD bDc bDn bN bNc bNn bS bSc bSn m τ' w') : WS g lo τ0 w0 aF aFc aFn bL bLc bLn bP bPc bPn bD bDc bDn bN bNc bNn bS bSc bSn aI aIc aIn aG aGc aGn aB aBc aBn { x with market := m } τ' w' := by
 have K : ∀ t, 6 ≤ t → KT τ' t lo w w' := fun t ht => (KT.sg k.ch h.g0 ht).retag k.tag
 refine h.trans ⟨(k.out 0 (by omega)).trans h.first, k.at_, (k.out 7 (by omega)).trans h.lines, (k.out 8 (by omega)).trans h.gates, (k.out 9 (by omega)).trans h.bag, k.lb,
   ⟨(h.ow.first.retag k.tag).keep (K 6 (by decide)), k.ow, (h.ow.lines.retag k.tag).keep (K 7 (by decide)), (h.ow.gates.retag k.tag).keep (K 8 (by decide)) fun j => K _ (by unfold fdL; omega), (h.ow.bag.retag k.tag).keep (K 9 (by decide)) fun j => K _ (by unfold fpL; omega)⟩,
   k.tag, k.ch.mono fun i _ hi => ?_, h.at_.lt, h.g0, h.lo_le⟩
 rcases hi with hi | ⟨h1, h2, _⟩
 · exact .inl hi
 · exact .inr ⟨h1, h2⟩
theorem MktAt.setW {clock : Int} {i : Nat} {v : Value} (h : MktAt w g 1 aL aLc aLn aP aPc aPn aD aDc aDn aN aNc aNn aS aSc aSn clock) (hi : i = 0 ∨ 7 ≤ i) : MktAt (w.setCell ⟨g, i, none⟩ v) g 1 aL aLc aLn aP aPc aPn aD aDc aDn aN aNc aNn aS aSc aSn clock :=
 ⟨by simpa [World.setCell] using h.lt, (World.cell?_setCell_other _ _ _ _ (cne (by omega))).trans h.log, (World.cell?_setCell_other _ _ _ _ (cne (by omega))).trans h.purses, (World.cell?_setCell_other _ _ _ _ (cne (by omega))).trans h.deals, (World.cell?_setCell_other _ _ _ _ (cne (by omega))).trans h.clk,
   (World.cell?_setCell_other _ _ _ _ (cne (by omega))).trans h.nums, (World.cell?_setCell_other _ _ _ _ (cne (by omega))).trans h.said, fun i => by simpa using h.free i⟩
theorem WS.lined (h : WS g lo τ0 w0 aF aFc aFn aL aLc aLn aP aPc aPn aD aDc aDn aN aNc aNn aS aSc aSn aI aIc aIn aG aGc aGn aB aBc aBn x τ w) {A : Option Addr} {c k : Nat} {ls : List Sw.Req} (ho : OwQ w' lo A c k ls) (hc : Ch (atA aI) w w') (hat : ∀ b, A = some b → aI = some b ∨ w.heap.size ≤ b.block) :
   WS g lo τ0 w0 aF aFc aFn aL aLc aLn aP aPc aPn aD aDc aDn aN aNc aNn aS aSc aSn A c k aG aGc aGn aB aBc aBn { x with lines := ls } (glue τ w.heap.size (fun _ => 7)) (w'.setCell ⟨g, 7, none⟩ (.slice A k c)) := by
 have hS : ¬ atA aI g := fun ⟨a, ha, e⟩ => by have := h.ow.lines.tag a ha; have := h.g0; rw [← e] at *; omega
 have hk := hc.block g h.at_.lt hS
 have hcc : ∀ i : Nat, w'.cell? ⟨g, i, none⟩ = w.cell? ⟨g, i, none⟩ := fun i => World.cell?_of_block (w := w) (a := ⟨g, i, none⟩) hk
 have tg : ∀ b, b < w.heap.size → glue τ w.heap.size (fun _ => 7) b = τ b := fun b hb => if_pos hb
 have K : ∀ t, t ≠ 7 → KT (glue τ w.heap.size (fun _ => 7)) t lo w w' := fun t ht => KT.ch hc (KT.refl _ _ _ _) fun i ⟨a, ha, hi⟩ => .inr (by rw [hi, glue_tag (h.ow.lines.tag a ha)]; exact Ne.symm ht)
 have hw : OwW fdL fpL (glue τ w.heap.size (fun _ => 7)) w' lo aF aFc aFn aL aLc aLn aP aPc aPn aD aDc aDn aN aNc aNn aS aSc aSn A c k aG aGc aGn aB aBc aBn { x with lines := ls } :=
   ⟨(h.ow.first.retag tg).keep (K 6 (by decide)), (h.ow.mkt.retag tg).keep fun t h1 h5 => K t (by omega), OwT.full ho h.ow.lines hat, (h.ow.gates.retag tg).keep (K 8 (by decide)) fun j => K _ (by unfold fdL; omega), (h.ow.bag.retag tg).keep (K 9 (by decide)) fun j => K _ (by unfold fpL; omega)⟩
 refine h.trans ⟨?_, (h.at_.apart hc hS).setW (.inr (Nat.le_refl _)), World.cell?_setCell_same _ _ _ ((hcc 7).trans h.lines), ?_, ?_, (h.lb.chk hc hS).set, hw.cell ((tg g h.at_.lt).trans h.g0) _ _, tg, cS (Ch.mono hc fun i _ ⟨a, ha, e⟩ => .inr ?_) (.inl (.inl rfl)) _, h.at_.lt, h.g0, h.lo_le⟩
 · exact (World.cell?_setCell_other _ _ _ _ (cne (by omega))).trans ((hcc 0).trans h.first)
 · exact (World.cell?_setCell_other _ _ _ _ (cne (by omega))).trans ((hcc 8).trans h.gates)
 · exact (World.cell?_setCell_other _ _ _ _ (cne (by omega))).trans ((hcc 9).trans h.bag)
 · subst e
   have h1 := h.ow.lines.ow.blk ha
   have h2 := h.ow.lines.tag a ha
   exact ⟨h1.1, by omega⟩
theorem WS.bagged (h : WS g lo τ0 w0 aF aFc aFn aL aLc aLn aP aPc aPn aD aDc aDn aN aNc aNn aS aSc aSn aI aIc aIn aG aGc aGn aB aBc aBn x τ w) {A : Option Addr} {c k : Nat} {ms : List Sw.Msg} (hX : OwX fpL τ' w' lo A c k ms) (tg : ∀ b, b < w.heap.size → τ' b = τ b) (hc : Ch (atA aB) w w') :
   WS g lo τ0 w0 aF aFc aFn aL aLc aLn aP aPc aPn aD aDc aDn aN aNc aNn aS aSc aSn aI aIc aIn aG aGc aGn A c k { x with bag := ms } τ' (w'.setCell ⟨g, 9, none⟩ (.slice A k c)) := by
 obtain ⟨vs, v1, _⟩ := h.ow.bag.ex
 have hS : ¬ atA aB g := fun ⟨a, ha, e⟩ => by have := v1.tag a ha; have := h.g0; rw [← e] at *; omega
 have hk := hc.block g h.at_.lt hS
 have hcc : ∀ i : Nat, w'.cell? ⟨g, i, none⟩ = w.cell? ⟨g, i, none⟩ := fun i => World.cell?_of_block (w := w) (a := ⟨g, i, none⟩) hk
 have K : ∀ t, t ≠ 9 → KT τ' t lo w w' := fun t ht => KT.retag (KT.ch hc (KT.refl _ _ _ _) fun i ⟨a, ha, hi⟩ => .inr (by rw [hi, v1.tag a ha]; exact Ne.symm ht)) tg
 have hw : OwW fdL fpL τ' w' lo aF aFc aFn aL aLc aLn aP aPc aPn aD aDc aDn aN aNc aNn aS aSc aSn aI aIc aIn aG aGc aGn A c k { x with bag := ms } :=
   ⟨(h.ow.first.retag tg).keep (K 6 (by decide)), (h.ow.mkt.retag tg).keep fun t h1 h5 => K t (by omega), (h.ow.lines.retag tg).keep (K 7 (by decide)), (h.ow.gates.retag tg).keep (K 8 (by decide)) fun j => K _ (by unfold fdL; omega), hX⟩
 refine h.trans ⟨?_, (h.at_.apart hc hS).setW (.inr (by omega)), ?_, ?_, World.cell?_setCell_same _ _ _ ((hcc 9).trans h.bag), (h.lb.chk hc hS).set, hw.cell ((tg g h.at_.lt).trans h.g0) _ _, tg, cS (Ch.mono hc fun i _ ⟨a, ha, e⟩ => .inr ?_) (.inl (.inl rfl)) _, h.at_.lt, h.g0, h.lo_le⟩
 · exact (World.cell?_setCell_other _ _ _ _ (cne (by omega))).trans ((hcc 0).trans h.first)
 · exact (World.cell?_setCell_other _ _ _ _ (cne (by omega))).trans ((hcc 7).trans h.lines)
 · exact (World.cell?_setCell_other _ _ _ _ (cne (by omega))).trans ((hcc 8).trans h.gates)
 · subst e
   have h1 := v1.ow.blk ha
   have h2 := v1.tag a ha
   exact ⟨h1.1, by omega⟩
theorem WS.mark {τx : Nat → Nat} (h : WS g lo τ0 w0 aF aFc aFn aL aLc aLn aP aPc aPn aD aDc aDn aN aNc aNn aS aSc aSn aI aIc aIn aG aGc aGn aB aBc aBn x τ w) (hb : Ex w w') : WS g lo τ0 w0 aF aFc aFn aL aLc aLn aP aPc aPn aD aDc aDn aN aNc aNn aS aSc aSn aI aIc aIn aG aGc aGn aB aBc aBn x (glue τ w.heap.size τx) w' := by
 have h' := h.ex hb
 have hz := h.ch.size
 exact ⟨h'.first, h'.at_, h'.lines, h'.gates, h'.bag, h'.lb, (h.ow.retag fun b hb => if_pos hb).keepF (kE hb (kR _ _)), fun b hb => (if_pos (by omega)).trans (h.tag b hb), h'.ch, h.glt, h.gz, h.llo⟩
theorem WS.sent (h : WS g lo τ0 w0 aF aFc aFn aL aLc aLn aP aPc aPn aD aDc aDn aN aNc aNn aS aSc aSn aI aIc aIn aG aGc aGn aB aBc aBn x τ w) {m : Sw.Msg} {vs : List XV} {B A1 : Option Addr} {d n c1 : Nat} {w2 : World} (h1 : OwTX τ 9 w lo aB aBc aBn vs) (h2 : aBn = x.bag.length)
   (h3 : ∀ (j : Nat) (v : XV) (g : Sw.Msg), vs[j]? = some v → x.bag[j]? = some g → v.g = g.gate ∧ v.h = g.head ∧ OwTI τ (fpL j) w lo v.A v.c v.n g.proof)
   (hb : Ex w w1) (hd : OwI w1 w.heap.size B d n m.proof) (ho : OwXV w2 lo A1 c1 (aBn + 1) (vs ++ [⟨m.gate, m.head, B, d, n⟩])) (hc : Ch (atA aB) w1 w2) (hat : ∀ b, A1 = some b → aB = some b ∨ w1.heap.size ≤ b.block) :
   WS g lo τ0 w0 aF aFc aFn aL aLc aLn aP aPc aPn aD aDc aDn aN aNc aNn aS aSc aSn aI aIc aIn aG aGc aGn A1 c1 (aBn + 1) { x with bag := x.bag ++ [m] } (glue (glue τ w.heap.size (fun _ => fpL aBn)) w1.heap.size (fun _ => 9)) (w2.setCell ⟨g, 9, none⟩ (.slice A1 (aBn + 1) c1)) :=
 (h.mark (τx := fun _ => fpL aBn) hb).bagged (OwX.snoc h1 h2 h3 hb hd h.lo_le ho hc hat fpL_ne) (fun b hb => if_pos hb) hc
end
end Go.Proofs.YtnnoiagommiapaaGreat
