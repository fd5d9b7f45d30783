/- Texts joined: PtrC, Tick, ImpG. -/
import Derived.Test.YtnnoiagommiapaaGreatPz22
import Derived.Test.YtnnoiagommiapaaGreatPz23
import Derived.Test.YtnnoiagommiapaaGreatPz26
import Derived.Test.YtnnoiagommiapaaGreatPz27
import Derived.Test.YtnnoiagommiapaaGreatPz24
import Derived.Test.YtnnoiagommiapaaGreatPz14
import Derived.Test.YtnnoiagommiapaaGreatPz12
set_option maxRecDepth 100000
set_option linter.unusedSimpArgs false
set_option linter.unusedVariables false
namespace Go.Proofs.YtnnoiagommiapaaGreat
open Go.RowKit Go
set_option maxHeartbeats 2000000
structure MS (g o n lo : Nat) (τ0 : Nat → Nat) (w0 : World) (aL : Option Addr) (aLc aLn : Nat) (aP : Option Addr) (aPc aPn : Nat) (aD : Option Addr) (aDc aDn : Nat) (aN : Option Addr) (aNc aNn : Nat) (aS : Option Addr) (aSc aSn : Nat) (m : Sw.Mkt) (τ : Nat → Nat) (w : World) : Prop where
 at_ : MktAt w g o aL aLc aLn aP aPc aPn aD aDc aDn aN aNc aNn aS aSc aSn m.clock
 lb : Lb w g n
 ow : OwM τ w lo aL aLc aLn aP aPc aPn aD aDc aDn aN aNc aNn aS aSc aSn m
 tag : ∀ b, b < w0.heap.size → τ b = τ0 b
 out : ∀ i, i < o ∨ o + 6 ≤ i → w.cell? ⟨g, i, none⟩ = w0.cell? ⟨g, i, none⟩
 ch : Ch (SG g lo τ0) w0 w
 glt : g < w0.heap.size
 gz : τ0 g = 0
 llo : lo ≤ w0.heap.size
section
variable {g o n lo : Nat} {τ0 τ : Nat → Nat} {w0 w w' : World} {aL : Option Addr} {aLc aLn : Nat} {aP : Option Addr} {aPc aPn : Nat} {aD : Option Addr} {aDc aDn : Nat} {aN : Option Addr} {aNc aNn : Nat} {aS : Option Addr} {aSc aSn : Nat} {m : Sw.Mkt}
theorem MS.start (hA : MktAt w g o aL aLc aLn aP aPc aPn aD aDc aDn aN aNc aNn aS aSc aSn m.clock) (hL : Lb w g n) (hM : OwM τ w lo aL aLc aLn aP aPc aPn aD aDc aDn aN aNc aNn aS aSc aSn m) (hg : τ g = 0) (hlo : lo ≤ w.heap.size) : MS g o n lo τ w aL aLc aLn aP aPc aPn aD aDc aDn aN aNc aNn aS aSc aSn m τ w :=
 ⟨hA, hL, hM, fun _ _ => rfl, fun _ _ => rfl, Ch.refl _ _, hA.lt, hg, hlo⟩
theorem MS.g0 (h : MS g o n lo τ0 w0 aL aLc aLn aP aPc aPn aD aDc aDn aN aNc aNn aS aSc aSn m τ w) : τ g = 0 := (h.tag g h.glt).trans h.gz
theorem MS.ex (h : MS g o n lo τ0 w0 aL aLc aLn aP aPc aPn aD aDc aDn aN aNc aNn aS aSc aSn m τ w) (hb : Ex w w') : MS g o n lo τ0 w0 aL aLc aLn aP aPc aPn aD aDc aDn aN aNc aNn aS aSc aSn m τ w' := by
 have hk : KF 0 w w' := kE hb (kR _ _)
 exact ⟨h.at_.keep hk, h.lb.ex hb, h.ow.keepF (kE hb (kR _ _)), h.tag, fun i hi => (World.cell?_of_block (w := w) (a := ⟨g, i, none⟩) (hb.block g h.at_.lt (fun h => h))).trans (h.out i hi), cE hb h.ch, h.glt, h.gz, h.llo⟩
theorem MS.may (h : MS g o n lo τ0 w0 aL aLc aLn aP aPc aPn aD aDc aDn aN aNc aNn aS aSc aSn m τ w) {i t : Nat} (hl : lo ≤ i) (ht : τ i = t) (h1 : 1 ≤ t) (h5 : t ≤ 5) : SG g lo τ0 i ∨ w0.heap.size ≤ i := by
 by_cases hi : i < w0.heap.size
 · exact .inl (.inr ⟨hl, by rw [← h.tag i hi, ht]; exact h1, by rw [← h.tag i hi, ht]; exact h5⟩)
 · exact .inr (by omega)
theorem MS.ne (h : MS g o n lo τ0 w0 aL aLc aLn aP aPc aPn aD aDc aDn aN aNc aNn aS aSc aSn m τ w) {i t : Nat} (ht : τ i = t) (h1 : 1 ≤ t) : i ≠ g := by
 rintro rfl
 have := h.g0
 omega
theorem cne {g i j : Nat} (h : i ≠ j) : (⟨g, i, none⟩ : Addr) ≠ ⟨g, j, none⟩ := fun e => h (by injection e)
theorem MktAt.setL {clock : Int} (h : MktAt w g o aL aLc aLn aP aPc aPn aD aDc aDn aN aNc aNn aS aSc aSn clock) (B : Option Addr) (n d : Nat) : MktAt (w.setCell ⟨g, o, none⟩ (.slice B n d)) g o B d n aP aPc aPn aD aDc aDn aN aNc aNn aS aSc aSn clock :=
 ⟨by simpa [World.setCell] using h.lt, World.cell?_setCell_same _ _ _ h.log, (World.cell?_setCell_other _ _ _ _ (cne (by omega))).trans h.purses, (World.cell?_setCell_other _ _ _ _ (cne (by omega))).trans h.deals, (World.cell?_setCell_other _ _ _ _ (cne (by omega))).trans h.clk,
   (World.cell?_setCell_other _ _ _ _ (cne (by omega))).trans h.nums, (World.cell?_setCell_other _ _ _ _ (cne (by omega))).trans h.said, fun i => by simpa using h.free i⟩
theorem MktAt.setD {clock : Int} (h : MktAt w g o aL aLc aLn aP aPc aPn aD aDc aDn aN aNc aNn aS aSc aSn clock) (B : Option Addr) (n d : Nat) : MktAt (w.setCell ⟨g, o + 2, none⟩ (.slice B n d)) g o aL aLc aLn aP aPc aPn B d n aN aNc aNn aS aSc aSn clock :=
 ⟨by simpa [World.setCell] using h.lt, (World.cell?_setCell_other _ _ _ _ (cne (by omega))).trans h.log, (World.cell?_setCell_other _ _ _ _ (cne (by omega))).trans h.purses, World.cell?_setCell_same _ _ _ h.deals, (World.cell?_setCell_other _ _ _ _ (cne (by omega))).trans h.clk,
   (World.cell?_setCell_other _ _ _ _ (cne (by omega))).trans h.nums, (World.cell?_setCell_other _ _ _ _ (cne (by omega))).trans h.said, fun i => by simpa using h.free i⟩
theorem MktAt.apart {S : Nat → Prop} {clock : Int} (h : MktAt w g o aL aLc aLn aP aPc aPn aD aDc aDn aN aNc aNn aS aSc aSn clock) (hb : Ch S w w') (hS : ¬ S g) : MktAt w' g o aL aLc aLn aP aPc aPn aD aDc aDn aN aNc aNn aS aSc aSn clock := by
 have hk := hb.block g h.lt hS
 have c : ∀ i : Nat, w'.cell? ⟨g, i, none⟩ = w.cell? ⟨g, i, none⟩ := fun i => World.cell?_of_block (w := w) (a := ⟨g, i, none⟩) hk
 exact ⟨Nat.lt_of_lt_of_le h.lt hb.size, (c _).trans h.log, (c _).trans h.purses, (c _).trans h.deals, (c _).trans h.clk, (c _).trans h.nums, (c _).trans h.said, fun i => (World.frozen?_of_block (w := w) (a := ⟨g, i, none⟩) hk).trans (h.free i)⟩
theorem OwM.cell (h : OwM τ w lo aL aLc aLn aP aPc aPn aD aDc aDn aN aNc aNn aS aSc aSn m) (hg : τ g = 0) (i : Nat) (v : Value) : OwM τ (w.setCell ⟨g, i, none⟩ v) lo aL aLc aLn aP aPc aPn aD aDc aDn aN aNc aNn aS aSc aSn m :=
 h.keep fun t h1 _ => (KT.refl _ _ _ _).setCell (.inr (by show τ g ≠ t; omega))
theorem OwM.redealt (h : OwM τ w lo aL aLc aLn aP aPc aPn aD aDc aDn aN aNc aNn aS aSc aSn m) {A : Option Addr} {c n : Nat} {ds : List Sw.Deal} (ho : OwD w' lo A c n ds) (hc : Ch (atA aD) w w') (hat : ∀ b, A = some b → aD = some b ∨ w.heap.size ≤ b.block) :
   OwM (glue τ w.heap.size (fun _ => 3)) w' lo aL aLc aLn aP aPc aPn A c n aN aNc aNn aS aSc aSn { m with deals := ds } := by
 have K : ∀ t, t ≠ 3 → KT (glue τ w.heap.size (fun _ => 3)) t lo w w' := fun t ht => KT.ch hc (KT.refl _ _ _ _) fun i ⟨a, ha, hi⟩ => .inr (by rw [hi, glue_tag (h.deals.tag a ha)]; exact Ne.symm ht)
 exact ⟨(h.log.glueL (Nat.le_refl _)).keep (K 1 (by decide)), (h.purses.glueL (Nat.le_refl _)).keep (K 2 (by decide)), OwT.full ho h.deals hat, (h.nums.glueL (Nat.le_refl _)).keep (K 4 (by decide)), (h.said.glueL (Nat.le_refl _)).keep (K 5 (by decide))⟩
theorem MS.glue_tag (h : MS g o n lo τ0 w0 aL aLc aLn aP aPc aPn aD aDc aDn aN aNc aNn aS aSc aSn m τ w) (t : Nat) : ∀ b, b < w0.heap.size → glue τ w.heap.size (fun _ => t) b = τ0 b := fun b hb =>
 (if_pos (by have := h.ch.size; omega)).trans (h.tag b hb)
theorem MS.glue_g (h : MS g o n lo τ0 w0 aL aLc aLn aP aPc aPn aD aDc aDn aN aNc aNn aS aSc aSn m τ w) (t : Nat) : glue τ w.heap.size (fun _ => t) g = 0 := (h.glue_tag t g h.glt).trans h.gz
theorem MS.lo_le (h : MS g o n lo τ0 w0 aL aLc aLn aP aPc aPn aD aDc aDn aN aNc aNn aS aSc aSn m τ w) : lo ≤ w.heap.size := Nat.le_trans h.llo h.ch.size
theorem MS.deals (h : MS g o n lo τ0 w0 aL aLc aLn aP aPc aPn aD aDc aDn aN aNc aNn aS aSc aSn m τ w) {A : Option Addr} {c k : Nat} {ds : List Sw.Deal} (ho : OwD w' lo A c k ds) (hc : Ch (atA aD) w w') (hat : ∀ b, A = some b → aD = some b ∨ w.heap.size ≤ b.block) :
   MS g o n lo τ0 w0 aL aLc aLn aP aPc aPn A c k aN aNc aNn aS aSc aSn { m with deals := ds } (glue τ w.heap.size (fun _ => 3)) (w'.setCell ⟨g, o + 2, none⟩ (.slice A k c)) := by
 have hS : ¬ atA aD g := fun ⟨a, ha, e⟩ => h.ne (h.ow.deals.tag a ha) (by decide) e.symm
 refine ⟨(h.at_.apart hc hS).setD A k c, (h.lb.chk hc hS).set, (h.ow.redealt ho hc hat).cell (h.glue_g 3) _ _, h.glue_tag 3, fun i hi => ?_, cS (h.ch.trans' hc fun i hi ⟨a, ha, e⟩ => ?_) (.inl (.inl rfl)) _, h.glt, h.gz, h.llo⟩
 · refine (World.cell?_setCell_other _ _ _ _ (cne (by omega))).trans ?_
   exact (hc.cell (p := ⟨g, i, none⟩) h.at_.lt hS).trans (h.out i hi)
 · subst e
   rcases h.may (h.ow.deals.ow.blk ha).1 (h.ow.deals.tag a ha) (by decide) (by decide) with h1 | h1
   · exact h1
   · omega
theorem MS.log (h : MS g o n lo τ0 w0 aL aLc aLn aP aPc aPn aD aDc aDn aN aNc aNn aS aSc aSn m τ w) {A : Option Addr} {c k : Nat} {es : List Sw.Ent} (ho : OwE w' lo A c k es) (hc : Ch (atA aL) w w') (hat : ∀ b, A = some b → aL = some b ∨ w.heap.size ≤ b.block) :
   MS g o n lo τ0 w0 A c k aP aPc aPn aD aDc aDn aN aNc aNn aS aSc aSn { m with log := es } (glue τ w.heap.size (fun _ => 1)) (w'.setCell ⟨g, o, none⟩ (.slice A k c)) := by
 have hS : ¬ atA aL g := fun ⟨a, ha, e⟩ => h.ne (h.ow.log.tag a ha) (by decide) e.symm
 refine ⟨(h.at_.apart hc hS).setL A k c, (h.lb.chk hc hS).set, (h.ow.logged ho hc hat).cell (h.glue_g 1) _ _, h.glue_tag 1, fun i hi => ?_, cS (h.ch.trans' hc fun i hi ⟨a, ha, e⟩ => ?_) (.inl (.inl rfl)) _, h.glt, h.gz, h.llo⟩
 · refine (World.cell?_setCell_other _ _ _ _ (cne (by omega))).trans ?_
   exact (hc.cell (p := ⟨g, i, none⟩) h.at_.lt hS).trans (h.out i hi)
 · subst e
   rcases h.may (h.ow.log.ow.blk ha).1 (h.ow.log.tag a ha) (by decide) (by decide) with h1 | h1
   · exact h1
   · omega
theorem MS.purses (h : MS g o n lo τ0 w0 aL aLc aLn aP aPc aPn aD aDc aDn aN aNc aNn aS aSc aSn m τ w) {A : Option Addr} {c k : Nat} {ps : List Int} (ho : OwI w' w.heap.size A c k ps) (hc : Ex w w') :
   MS g o n lo τ0 w0 aL aLc aLn A c k aD aDc aDn aN aNc aNn aS aSc aSn { m with purses := ps } (glue τ w.heap.size (fun _ => 2)) (w'.setCell ⟨g, o + 1, none⟩ (.slice A k c)) := by
 refine ⟨(h.at_.keep (kE hc (kR _ _))).setP A k c, (h.lb.ex hc).set, (h.ow.pursed ho (Nat.le_refl _) h.lo_le (kE hc (kR _ _))).cell (h.glue_g 2) _ _, h.glue_tag 2, fun i hi => ?_, cS (cE hc h.ch) (.inl (.inl rfl)) _, h.glt, h.gz, h.llo⟩
 refine (World.cell?_setCell_other _ _ _ _ (cne (by omega))).trans ?_
 exact (hc.cell (p := ⟨g, i, none⟩) h.at_.lt (fun h => h)).trans (h.out i hi)
theorem MS.zero (h : MS g o n lo τ0 w0 aL aLc aLn aP aPc aPn aD aDc aDn aN aNc aNn aS aSc aSn m τ w) (hb : Ex w w') : MS g o n lo τ0 w0 aL aLc aLn aP aPc aPn aD aDc aDn aN aNc aNn aS aSc aSn m (glue τ w.heap.size (fun _ => 0)) w' := by
 have h' := h.ex hb
 exact ⟨h'.at_, h'.lb, (h.ow.glueL (Nat.le_refl _)).keepF (kE hb (kR _ _)), h.glue_tag 0, h'.out, h'.ch, h.glt, h.gz, h.llo⟩
theorem MS.rebase (h : MS g o n lo τ0 w0 aL aLc aLn aP aPc aPn aD aDc aDn aN aNc aNn aS aSc aSn m τ w) : MS g o n lo τ w aL aLc aLn aP aPc aPn aD aDc aDn aN aNc aNn aS aSc aSn m τ w := ⟨h.at_, h.lb, h.ow, fun _ _ => rfl, fun _ _ => rfl, Ch.refl _ _, h.at_.lt, h.g0, h.lo_le⟩
theorem MS.trans {bL : Option Addr} {bLc bLn : Nat} {bP : Option Addr} {bPc bPn : Nat} {bD : Option Addr} {bDc bDn : Nat} {bN : Option Addr} {bNc bNn : Nat} {bS : Option Addr} {bSc bSn : Nat} {m' : Sw.Mkt} {τ' : Nat → Nat} (h : MS g o n lo τ0 w0 aL aLc aLn aP aPc aPn aD aDc aDn aN aNc aNn aS aSc aSn m τ w) (k : MS g o n lo τ w bL bLc bLn bP bPc bPn bD bDc bDn bN bNc bNn bS bSc bSn m' τ' w') : MS g o n lo τ0 w0 bL bLc bLn bP bPc bPn bD bDc bDn bN bNc bNn bS bSc bSn m' τ' w' := by
 have hz := h.ch.size
 refine ⟨k.at_, k.lb, k.ow, fun b hb => (k.tag b (by omega)).trans (h.tag b hb), fun i hi => (k.out i hi).trans (h.out i hi), h.ch.trans' k.ch fun i hi hs => ?_, h.glt, h.gz, h.llo⟩
 rcases hs with hs | ⟨h1, h2, h3⟩
 · exact .inl hs
 · exact .inr ⟨h1, by rw [← h.tag i hi]; exact h2, by rw [← h.tag i hi]; exact h3⟩
theorem MS.box {b : Nat} (h : MS g o n lo τ0 w0 aL aLc aLn aP aPc aPn aD aDc aDn aN aNc aNn aS aSc aSn m τ w) (hb : b < w0.heap.size) (hz : τ0 b = 0) (hne : b ≠ g) : (∀ i, w.cell? ⟨b, i, none⟩ = w0.cell? ⟨b, i, none⟩) ∧ (∀ i, w.frozen? ⟨b, i, none⟩ = w0.frozen? ⟨b, i, none⟩) := by
 have hS : ¬ SG g lo τ0 b := by
   rintro (h1 | ⟨_, h2, _⟩)
   · exact hne h1
   · omega
 exact ⟨fun i => h.ch.cell (p := ⟨b, i, none⟩) hb hS, fun i => h.ch.frozen (p := ⟨b, i, none⟩) hb hS⟩
theorem glue0 {τ : Nat → Nat} {k b : Nat} (h : k ≤ b) : glue τ k (fun _ => 0) b = 0 := if_neg (by omega)
end
end Go.Proofs.YtnnoiagommiapaaGreat
namespace Go.Proofs.YtnnoiagommiapaaGreat
open Go.RowKit Go
set_option maxHeartbeats 2000000
theorem sMktTick_c (aL : Option Addr) (aLc aLn : Nat) (aP : Option Addr) (aPc aPn : Nat) (aD : Option Addr) (aDc aDn : Nat) (aN : Option Addr) (aNc aNn : Nat) (aS : Option Addr) (aSc aSn : Nat) (m : Sw.Mkt) (w : World) (hm : RM w 0 aL aLc aLn aP aPc aPn aD aDc aDn aN aNc aNn aS aSc aSn m) (hn : aLn + aPn + aDn + aNn + aSn ≤ 1048576) : Calls Tryz.prog 113 #[.agg #[.slice aL aLn aLc, .slice aP aPn aPc, .slice aD aDn aDc, .int .i64 m.clock, .slice aN aNn aNc, .slice aS aSn aSc]] w fun E w' => ∃ bL bLc bLn bP bPc bPn bD bDc bDn bN bNc bNn bS bSc bSn τ, E = .returned (.tuple #[.agg #[.slice bL bLn bLc, .slice bP bPn bPc, .slice bD bDn bDc, .int .i64 (Sw.mktTick m).1.clock, .slice bN bNn bNc, .slice bS bSn bSc], .bool (Sw.mktTick m).2]) ∧ OwM τ w' w.heap.size bL bLc bLn bP bPc bPn bD bDc bDn bN bNc bNn bS bSc bSn (Sw.mktTick m).1 ∧ Ex w w' := by
 cases g1 : Sw.mktOk m
 case false =>
   have e : Sw.mktTick m = (⟨[], [], [], 0, [], []⟩, false) := by simp [Sw.mktTick, g1, Sw.mktZ]
   have He := Lib.hid e; clear e
   go_enter Tryz.func113, Tryz.ntmps113
   go_wp2_with (first | (go_at_call 96; apply Calls.mono; apply sMktOk_c; (exact rdM_); rintro E w1 ⟨rfl, hb⟩; obtain ⟨hc, hf, hz⟩ := xy hb))
   refine bodyPost_ret (v := .tuple #[.agg #[.slice none 0 0, .slice none 0 0, .slice none 0 0, .int .i64 0, .slice none 0 0, .slice none 0 0], .bool false]) (by simp [results, Tryz.results113, go_sem, *]) rfl ?_
   refine ⟨_, _, _, _, _, _, _, _, _, _, _, _, _, _, _, fun _ => 0, by rw [He.out], ?_, ext_⟩
   rw [He.out]
   exact ⟨OwT.nil .., OwT.nil .., OwT.nil .., OwT.nil .., OwT.nil ..⟩
 have hok := (Sw.mktOk_iff.1 g1)
 obtain ⟨rows, hok⟩ := hok
 have hck := hok.clk
 obtain ⟨ck0, ck1⟩ := hck
 clear hok
 by_cases g2 : m.clock = 99999
 · have g2' : (m.clock == 99999) = true := by simp [g2]
   have e : Sw.mktTick m = (m, false) := by simp [Sw.mktTick, g1, g2]
   have He := Lib.hid e; clear e g2
   go_enter Tryz.func113, Tryz.ntmps113
   go_wp2_with (first | (go_at_call 96; apply Calls.mono; apply sMktOk_c; (exact rdM_); rintro E w1 ⟨rfl, hb⟩; obtain ⟨hc, hf, hz⟩ := xy hb) | (go_at_call 115; apply Calls.mono; apply sMktCopy_c; (exact rdM_); (first | assumption | omega); rintro E w1 ⟨bL, bLc, bLn, bP, bPc, bPn, bD, bDc, bDn, bN, bNc, bNn, bS, bSc, bSn, τ, rfl, ho, hb⟩; obtain ⟨hc, hf, hz⟩ := xy hb))
   refine bodyPost_ret (v := .tuple #[.agg #[.slice bL bLn bLc, .slice bP bPn bPc, .slice bD bDn bDc, .int .i64 m.clock, .slice bN bNn bNc, .slice bS bSn bSc], .bool false]) (by simp [results, Tryz.results113, go_sem, *]) rfl ?_
   refine ⟨_, _, _, _, _, _, _, _, _, _, _, _, _, _, _, τ, by rw [He.out], ?_, ext_⟩
   rw [He.out]
   exact OwM.less (ho.keepF (by (exact kf_))) (by exact sz_)
 · have g2' : (m.clock == 99999) = false := by simp [g2]
   have e : Sw.mktTick m = (Sw.tick m, true) := by simp [Sw.mktTick, g1, g2]
   have He := Lib.hid e; clear e g2
   have l3 := Lib.hid hm.deals.1
   have l2 := Lib.hid hm.purses.1
   go_enter Tryz.func113, Tryz.ntmps113
   go_wp2_with (first | (go_at_call 96; apply Calls.mono; apply sMktOk_c; (exact rdM_); rintro E w1 ⟨rfl, hb⟩; obtain ⟨hc, hf, hz⟩ := xy hb) | (go_at_call 115; apply Calls.mono; apply sMktCopy_c; (exact rdM_); (first | assumption | omega); rintro E w1 ⟨bL, bLc, bLn, bP, bPc, bPn, bD, bDc, bDn, bN, bNc, bNn, bS, bSc, bSn, τ, rfl, ho, hb⟩; obtain ⟨hc, hf, hz⟩ := xy hb))
   apply Calls.mono
   apply (sTick_c (τ := τ))
   · exact ho.keepF (by (exact kf_))
   · exact ck0
   · exact ck1
   · have := ho.deals.ow.1; have := l3.out; omega
   · have := ho.purses.ow.1; have := l2.out; omega
   · exact sz_
   rintro E w3 ⟨A3, c3, τ3, rfl, ho3, hτ3, hb3⟩
   obtain ⟨hc3, hf3⟩ := low_rules (fun b hb => hb3.block b (by exact sz_) (fun h => Nat.not_lt.2 h.1 hb))
   have hex : Ex w w3 := Ch.trans' (show Ex w _ from ext_) hb3 (fun i hi h => absurd h.1 (by (first | omega | (simp only [zq_] at *; omega) | (simp only [zq_]; omega))))
   clear hb3 hτ3
   go_wp2
   refine bodyPost_ret (v := .tuple #[.agg #[.slice bL bLn bLc, .slice A3 bPn c3, .slice bD bDn bDc, .int .i64 (m.clock + 1), .slice bN bNn bNc, .slice bS bSn bSc], .bool true]) (by simp [results, Tryz.results113, go_sem, *]) rfl ?_
   refine ⟨_, _, _, _, _, _, _, _, _, _, _, _, _, _, _, τ3, by rw [He.out]; rfl, ?_, ext_⟩
   rw [He.out]
   exact OwM.less (ho3.keepF (by (exact kf_))) (by exact sz_)
theorem iMktTick_c (aL : Option Addr) (aLc aLn : Nat) (aP : Option Addr) (aPc aPn : Nat) (aD : Option Addr) (aDc aDn : Nat) (aN : Option Addr) (aNc aNn : Nat) (aS : Option Addr) (aSc aSn : Nat) (m : Sw.Mkt) (w : World) (hm : RM w 0 aL aLc aLn aP aPc aPn aD aDc aDn aN aNc aNn aS aSc aSn m) (hn : aLn + aPn + aDn + aNn + aSn ≤ 1048576) : Calls Tryz.prog 45 #[.agg #[.slice aL aLn aLc, .slice aP aPn aPc, .slice aD aDn aDc, .int .i64 m.clock, .slice aN aNn aNc, .slice aS aSn aSc]] w fun E w' => ∃ bL bLc bLn bP bPc bPn bD bDc bDn bN bNc bNn bS bSc bSn τ, E = .returned (.tuple #[.agg #[.slice bL bLn bLc, .slice bP bPn bPc, .slice bD bDn bDc, .int .i64 (Sw.mktTick m).1.clock, .slice bN bNn bNc, .slice bS bSn bSc], .bool (Sw.mktTick m).2]) ∧ OwM τ w' w.heap.size bL bLc bLn bP bPc bPn bD bDc bDn bN bNc bNn bS bSc bSn (Sw.mktTick m).1 ∧ Ex w w' := by
 cases g1 : Sw.mktOk m
 case false =>
   have e : Sw.mktTick m = (⟨[], [], [], 0, [], []⟩, false) := by simp [Sw.mktTick, g1, Sw.mktZ]
   have He := Lib.hid e; clear e
   go_enter Tryz.func45, Tryz.ntmps45
   go_wp2_with (first | (go_at_call 44; apply Calls.mono; apply iMktOk_c; (exact rdM_); rintro E w1 ⟨rfl, hb⟩; obtain ⟨hc, hf, hz⟩ := xy hb))
   refine bodyPost_ret (v := .tuple #[.agg #[.slice none 0 0, .slice none 0 0, .slice none 0 0, .int .i64 0, .slice none 0 0, .slice none 0 0], .bool false]) (by simp [results, Tryz.results45, go_sem, *]) rfl ?_
   refine ⟨_, _, _, _, _, _, _, _, _, _, _, _, _, _, _, fun _ => 0, by rw [He.out], ?_, ext_⟩
   rw [He.out]
   exact ⟨OwT.nil .., OwT.nil .., OwT.nil .., OwT.nil .., OwT.nil ..⟩
 have hok := (Sw.mktOk_iff.1 g1)
 obtain ⟨rows, hok⟩ := hok
 have hck := hok.clk
 obtain ⟨ck0, ck1⟩ := hck
 clear hok
 by_cases g2 : m.clock = 99999
 · have g2' : (m.clock == 99999) = true := by simp [g2]
   have e : Sw.mktTick m = (m, false) := by simp [Sw.mktTick, g1, g2]
   have He := Lib.hid e; clear e
   have HC := Lib.hid g2; clear g2
   go_enter Tryz.func45, Tryz.ntmps45
   go_wp2_with (first | (go_at_call 44; apply Calls.mono; apply iMktOk_c; (exact rdM_); rintro E w1 ⟨rfl, hb⟩; obtain ⟨hc, hf, hz⟩ := xy hb) | (go_at_call 111; apply Calls.mono; apply iMktClone_c; (exact rdM_); (first | assumption | omega); rintro E w1 ⟨bL, bLc, bLn, bP, bPc, bPn, bD, bDc, bDn, bN, bNc, bNn, bS, bSc, bSn, τ, rfl, ho, hb⟩; obtain ⟨hc, hf, hz⟩ := xy hb))
   apply Calls.mono
   apply (iTickEnd_c (t := m.clock) (aL := bL) (aLc := bLc) (aLn := bLn) (aP := bP) (aPc := bPc) (aPn := bPn) (aD := bD) (aDc := bDc) (aDn := bDn) (aN := bN) (aNc := bNc) (aNn := bNn) (aS := bS) (aSc := bSc) (aSn := bSn))
   · exact ⟨by simp, by simp [go_sem], by simp [go_sem], by simp [go_sem], by simp [go_sem], by simp [go_sem], by simp [go_sem], fun i => by simp [go_sem]⟩
   · exact HC.out
   rintro E w3 ⟨rfl, hb⟩
   obtain ⟨hc, hf, hz⟩ := xy hb
   go_wp2
   refine bodyPost_ret (v := .tuple #[.agg #[.slice bL bLn bLc, .slice bP bPn bPc, .slice bD bDn bDc, .int .i64 m.clock, .slice bN bNn bNc, .slice bS bSn bSc], .bool false]) (by simp [results, Tryz.results45, go_sem, *]) rfl ?_
   refine ⟨_, _, _, _, _, _, _, _, _, _, _, _, _, _, _, τ, by rw [He.out], ?_, ext_⟩
   rw [He.out]
   exact OwM.less (ho.keepF (by (exact kf_))) (by exact sz_)
 · have g2' : (m.clock == 99999) = false := by simp [g2]
   have e : Sw.mktTick m = (Sw.tick m, true) := by simp [Sw.mktTick, g1, g2]
   have He := Lib.hid e; clear e
   have hck : m.clock < 99999 := by omega
   clear g2
   have l3 := Lib.hid hm.deals.1
   have l2 := Lib.hid hm.purses.1
   go_enter Tryz.func45, Tryz.ntmps45
   go_wp2_with (first | (go_at_call 44; apply Calls.mono; apply iMktOk_c; (exact rdM_); rintro E w1 ⟨rfl, hb⟩; obtain ⟨hc, hf, hz⟩ := xy hb) | (go_at_call 111; apply Calls.mono; apply iMktClone_c; (exact rdM_); (first | assumption | omega); rintro E w1 ⟨bL, bLc, bLn, bP, bPc, bPn, bD, bDc, bDn, bN, bNc, bNn, bS, bSc, bSn, τ, rfl, ho, hb⟩; obtain ⟨hc, hf, hz⟩ := xy hb))
   apply Calls.mono
   have hgl := ho.glueL (τ' := fun _ => 0) (Nat.le_refl w1.heap.size)
   apply (iTick_c (n := 6) (m := m) (τ := glue τ w1.heap.size (fun _ => 0)) (aL := bL) (aLc := bLc) (aLn := bLn) (aP := bP) (aPc := bPc) (aPn := bPn) (aD := bD) (aDc := bDc) (aDn := bDn) (aN := bN) (aNc := bNc) (aNn := bNn) (aS := bS) (aSc := bSc) (aSn := bSn))
   · exact ⟨by simp, by simp [go_sem], by simp [go_sem], by simp [go_sem], by simp [go_sem], by simp [go_sem], by simp [go_sem], fun i => by simp [go_sem]⟩
   · exact lbc_
   · exact hgl.keepF (by (exact kf_))
   · unfold glue; rw [if_neg (Nat.lt_irrefl _)]
   · exact ck0
   · exact hck
   · have := ho.deals.ow.1; have := l3.out; omega
   · have := ho.purses.ow.1; have := l2.out; omega
   · exact sz_
   rintro E w3 ⟨A3, c3, τ3, rfl, hA3, hL3, ho3, hτ3, hout3, hb3⟩
   have hex : Ex w w3 := Ch.trans' (show Ex w _ from ext_) hb3 (fun i hi h => h.elim (fun h => absurd h (by (first | omega | (simp only [zq_] at *; omega) | (simp only [zq_]; omega)))) (fun h => absurd h.1 (by (first | omega | (simp only [zq_] at *; omega) | (simp only [zq_]; omega)))))
   have hlow : ∀ b, b < w.heap.size + 1 + 1 → w3.heap[b]? = w1.heap[b]? := fun b hb => (hb3.block b (by exact sz_) (fun h => h.elim (fun h => absurd h (by (first | omega | (simp only [zq_] at *; omega) | (simp only [zq_]; omega)))) (fun h => absurd h.1 (by (first | omega | (simp only [zq_] at *; omega) | (simp only [zq_]; omega)))))).trans (Below.heap_alloc _ _ _ (by exact sz_))
   obtain ⟨hc3, hf3⟩ := low_rules hlow
   obtain ⟨k0, k1, k2, k3, k4, k5, k6, kf⟩ := hA3
   simp only [Nat.zero_add] at k1 k2 k3 k4 k5 k6
   clear hb3 hτ3 hout3 hlow
   go_wp2
   refine bodyPost_ret (v := .tuple #[.agg #[.slice bL bLn bLc, .slice A3 bPn c3, .slice bD bDn bDc, .int .i64 (m.clock + 1), .slice bN bNn bNc, .slice bS bSn bSc], .bool true]) (by simp [results, Tryz.results45, go_sem, *]) rfl ?_
   refine ⟨_, _, _, _, _, _, _, _, _, _, _, _, _, _, _, τ3, by rw [He.out]; rfl, ?_, ext_⟩
   rw [He.out]
   exact OwM.less (ho3.keepF (by (exact kf_))) (by exact sz_)
set_option maxHeartbeats 8000000
end Go.Proofs.YtnnoiagommiapaaGreat
