/- Texts joined: DoB. -/
import Derived.Test.YtnnoiagommiapaaGreatPy22
import Derived.Test.YtnnoiagommiapaaGreatPy15
import Derived.Test.YtnnoiagommiapaaGreatPy19
set_option maxRecDepth 100000
set_option linter.unusedSimpArgs false
set_option linter.unusedVariables false
namespace Go.Proofs.YtnnoiagommiapaaGreat
open Go.RowKit Go
set_option maxHeartbeats 2000000
@[go_sem] theorem setCell_same_ (W : World) (b i : Nat) (u : Value) : (W.setCell ⟨b, i, none⟩ u).cell? ⟨b, i, none⟩ = (W.cell? ⟨b, i, none⟩).map (fun _ => u) := by
 cases h : W.cell? ⟨b, i, none⟩ with
 | some v => rw [World.cell?_setCell_same _ _ _ h]; rfl
 | none =>
   simp only [World.cell?, World.setCell, Array.getElem?_modify, if_true] at h ⊢
   cases hh : W.heap[b]? with
   | none => simp
   | some o =>
     rw [hh] at h
     cases o with
     | cells c T fz => simp at h ⊢; omega
     | _ => simp
def MktPost (lo : Nat) (τ : Nat → Nat) (w w' : World) (E : Ending) (x : Sw.Mkt × Int) : Prop :=
 ∃ (bL : Option Addr) (bLc bLn : Nat) (bP : Option Addr) (bPc bPn : Nat) (bD : Option Addr) (bDc bDn : Nat) (bN : Option Addr) (bNc bNn : Nat) (bS : Option Addr) (bSc bSn : Nat) (τ' : Nat → Nat), E = .returned (.tuple #[.agg #[.slice bL bLn bLc, .slice bP bPn bPc, .slice bD bDn bDc, .int .i64 x.1.clock, .slice bN bNn bNc, .slice bS bSn bSc], .int .i64 x.2]) ∧ OwM τ' w' lo bL bLc bLn bP bPc bPn bD bDc bDn bN bNc bNn bS bSc bSn x.1 ∧ (∀ b, b < w.heap.size → τ' b = τ b) ∧ Ch (SM lo τ) w w'
section
variable {τ : Nat → Nat} {w w' : World} {lo g k : Nat}
theorem Ch.atA_keep {A : Option Addr} (h : Ch (atA A) w w') (hg : g < w.heap.size) (hA : ∀ a, A = some a → a.block ≠ g) : (∀ o, w'.cell? ⟨g, o, none⟩ = w.cell? ⟨g, o, none⟩) ∧ (∀ o, w'.frozen? ⟨g, o, none⟩ = w.frozen? ⟨g, o, none⟩) :=
 ⟨fun o => h.cell (p := ⟨g, o, none⟩) hg (fun ⟨a, ha, e⟩ => hA a ha e.symm), fun o => h.frozen (p := ⟨g, o, none⟩) hg (fun ⟨a, ha, e⟩ => hA a ha e.symm)⟩
theorem Ch.sm_keep (h : Ch (SM lo τ) w w') (hg : g < w.heap.size) (h0 : τ g = 0) : (∀ o, w'.cell? ⟨g, o, none⟩ = w.cell? ⟨g, o, none⟩) ∧ (∀ o, w'.frozen? ⟨g, o, none⟩ = w.frozen? ⟨g, o, none⟩) :=
 ⟨fun o => h.cell (p := ⟨g, o, none⟩) hg (fun ⟨_, h1, _⟩ => by have h1 : 1 ≤ τ g := h1; omega), fun o => h.frozen (p := ⟨g, o, none⟩) hg (fun ⟨_, h1, _⟩ => by have h1 : 1 ≤ τ g := h1; omega)⟩
theorem OwM.old {aL : Option Addr} {aLc aLn : Nat} {aP : Option Addr} {aPc aPn : Nat} {aD : Option Addr} {aDc aDn : Nat} {aN : Option Addr} {aNc aNn : Nat} {aS : Option Addr} {aSc aSn : Nat} {m : Sw.Mkt} {w0 : World} (h : OwM τ w0 lo aL aLc aLn aP aPc aPn aD aDc aDn aN aNc aNn aS aSc aSn m) (hg : w0.heap.size ≤ g) :
   (∀ a, aL = some a → a.block ≠ g) ∧ (∀ a, aP = some a → a.block ≠ g) ∧ (∀ a, aD = some a → a.block ≠ g) ∧ (∀ a, aN = some a → a.block ≠ g) ∧ (∀ a, aS = some a → a.block ≠ g) :=
 ⟨fun a ha => by have := (h.log.ow.blk ha).2; omega, fun a ha => by have := (h.purses.ow.blk ha).2; omega, fun a ha => by have := (h.deals.ow.blk ha).2; omega, fun a ha => by have := (h.nums.ow.blk ha).2; omega, fun a ha => by have := (h.said.ow.blk ha).2; omega⟩
theorem OwM.atL {aL : Option Addr} {aLc aLn : Nat} {aP : Option Addr} {aPc aPn : Nat} {aD : Option Addr} {aDc aDn : Nat} {aN : Option Addr} {aNc aNn : Nat} {aS : Option Addr} {aSc aSn : Nat} {m : Sw.Mkt} (h : OwM τ w lo aL aLc aLn aP aPc aPn aD aDc aDn aN aNc aNn aS aSc aSn m) {i : Nat} (hi : atA aL i) : SM lo τ i := by
 obtain ⟨a, ha, rfl⟩ := hi
 exact ⟨(h.log.ow.blk ha).1, by rw [h.log.tag a ha]; decide, by rw [h.log.tag a ha]; decide⟩
theorem OwM.logged {aL : Option Addr} {aLc aLn : Nat} {aP : Option Addr} {aPc aPn : Nat} {aD : Option Addr} {aDc aDn : Nat} {aN : Option Addr} {aNc aNn : Nat} {aS : Option Addr} {aSc aSn : Nat} {m : Sw.Mkt} (h : OwM τ w lo aL aLc aLn aP aPc aPn aD aDc aDn aN aNc aNn aS aSc aSn m) {A : Option Addr} {c n : Nat} {es : List Sw.Ent} (ho : OwE w' lo A c n es) (hc : Ch (atA aL) w w') (hat : ∀ b, A = some b → aL = some b ∨ w.heap.size ≤ b.block) :
   OwM (glue τ w.heap.size (fun _ => 1)) w' lo A c n aP aPc aPn aD aDc aDn aN aNc aNn aS aSc aSn { m with log := es } := by
 have K : ∀ t, t ≠ 1 → KT (glue τ w.heap.size (fun _ => 1)) t lo w w' := fun t ht => KT.ch hc (KT.refl _ _ _ _) fun i ⟨a, ha, hi⟩ => .inr (by rw [hi, glue_tag (h.log.tag a ha)]; exact Ne.symm ht)
 exact ⟨OwT.full ho h.log hat, (h.purses.glueL (Nat.le_refl _)).keep (K 2 (by decide)), (h.deals.glueL (Nat.le_refl _)).keep (K 3 (by decide)), (h.nums.glueL (Nat.le_refl _)).keep (K 4 (by decide)), (h.said.glueL (Nat.le_refl _)).keep (K 5 (by decide))⟩
theorem OwM.pursed {aL : Option Addr} {aLc aLn : Nat} {aP : Option Addr} {aPc aPn : Nat} {aD : Option Addr} {aDc aDn : Nat} {aN : Option Addr} {aNc aNn : Nat} {aS : Option Addr} {aSc aSn : Nat} {m : Sw.Mkt} (h : OwM τ w lo aL aLc aLn aP aPc aPn aD aDc aDn aN aNc aNn aS aSc aSn m) {A : Option Addr} {c n l : Nat} {ps : List Int} (ho : OwI w' l A c n ps) (hl : w.heap.size ≤ l) (hlo : lo ≤ l) (hk : KF lo w w') :
   OwM (glue τ w.heap.size (fun _ => 2)) w' lo aL aLc aLn A c n aD aDc aDn aN aNc aNn aS aSc aSn { m with purses := ps } :=
 ⟨(h.log.glueL (Nat.le_refl _)).keepF hk, OwT.newT ho hl hlo, (h.deals.glueL (Nat.le_refl _)).keepF hk, (h.nums.glueL (Nat.le_refl _)).keepF hk, (h.said.glueL (Nat.le_refl _)).keepF hk⟩
theorem OwM.dealt {aL : Option Addr} {aLc aLn : Nat} {aP : Option Addr} {aPc aPn : Nat} {aD : Option Addr} {aDc aDn : Nat} {aN : Option Addr} {aNc aNn : Nat} {aS : Option Addr} {aSc aSn : Nat} {m : Sw.Mkt} (h : OwM τ w lo aL aLc aLn aP aPc aPn aD aDc aDn aN aNc aNn aS aSc aSn m) {A : Option Addr} {c n l : Nat} {ds : List Sw.Deal} (ho : OwD w' l A c n ds) (hl : w.heap.size ≤ l) (hlo : lo ≤ l) (hk : KF lo w w') :
   OwM (glue τ w.heap.size (fun _ => 3)) w' lo aL aLc aLn aP aPc aPn A c n aN aNc aNn aS aSc aSn { m with deals := ds } :=
 ⟨(h.log.glueL (Nat.le_refl _)).keepF hk, (h.purses.glueL (Nat.le_refl _)).keepF hk, OwT.newT ho hl hlo, (h.nums.glueL (Nat.le_refl _)).keepF hk, (h.said.glueL (Nat.le_refl _)).keepF hk⟩
end
theorem Ow.apart {α : Type} {enc : α → List Value} {sz : Nat} {e : TypeId} {w : World} {lo c n g : Nat} {A : Option Addr} {xs : List α} (h : Ow enc sz e w lo A c n xs) (hg : w.heap.size ≤ g) : ∀ a, A = some a → a.block ≠ g :=
 fun a ha => by have := (h.blk ha).2; omega
def BX (g0 g1 : Nat) : Nat → Prop := fun b => g0 ≤ b ∧ b < g1
theorem BX.mk {g0 g1 b : Nat} (h : g0 ≤ b) (k : b < g1) : BX g0 g1 b := ⟨h, k⟩
theorem bx_ {p : Prop} (h : p := by with_reducible repeat (first | exact cR _ _ | apply cA | apply cD | apply cN | (refine cS ?_ (Or.inl (BX.mk sz_ sz_)) _) | (refine cS ?_ (Or.inr sz_) _) | (apply cE; assumption))) : p := h
theorem OwM.box {τ : Nat → Nat} {w w' : World} {lo g0 g1 : Nat} {aL : Option Addr} {aLc aLn : Nat} {aP : Option Addr} {aPc aPn : Nat} {aD : Option Addr} {aDc aDn : Nat} {aN : Option Addr} {aNc aNn : Nat} {aS : Option Addr} {aSc aSn : Nat} {m : Sw.Mkt} (h : OwM τ w lo aL aLc aLn aP aPc aPn aD aDc aDn aN aNc aNn aS aSc aSn m) (hx : Ch (BX g0 g1) w w') (h0 : ∀ b, g0 ≤ b → b < g1 → τ b = 0) : OwM τ w' lo aL aLc aLn aP aPc aPn aD aDc aDn aN aNc aNn aS aSc aSn m :=
 h.keep fun t h1 _ => KT.ch hx (KT.refl _ _ _ _) fun i hi => .inr (by rw [h0 i hi.1 hi.2]; omega)
theorem tag0 {τ : Nat → Nat} {k g1 : Nat} : ∀ b, k ≤ b → b < g1 → glue τ k (fun _ => 0) b = 0 := fun b h _ => if_neg (by omega)
theorem tag1 {τ τ' : Nat → Nat} {g0 g1 k : Nat} (h : ∀ b, g0 ≤ b → b < g1 → τ b = 0) (hk : g1 ≤ k) : ∀ b, g0 ≤ b → b < g1 → glue τ k τ' b = 0 := fun b h1 h2 => (if_pos (by omega)).trans (h b h1 h2)
theorem rows8 {m : Sw.Mkt} {rows : List Sw.Row} (h : Sw.MOk m rows) : Sw.mktRows m = rows ∧ rows.length = 8 := ⟨Sw.mktRows_of h.fold, Sw.ownOk_len (Sw.ownFold_ok h.fold)⟩
theorem sIssue_c (aL : Option Addr) (aLc aLn : Nat) (aP : Option Addr) (aPc aPn : Nat) (aD : Option Addr) (aDc aDn : Nat) (aN : Option Addr) (aNc aNn : Nat) (aS : Option Addr) (aSc aSn : Nat) (m : Sw.Mkt) (r : Sw.Req) (rows : List Sw.Row) (lo : Nat) (τ : Nat → Nat) (w : World) (hM : OwM τ w lo aL aLc aLn aP aPc aPn aD aDc aDn aN aNc aNn aS aSc aSn m) (hok : Sw.MOk m rows) (hr : Sw.reqOk r = true) (hk : r.kind = 1) (hlo : lo ≤ w.heap.size) : Calls Tryz.prog 230 #[.agg #[.slice aL aLn aLc, .slice aP aPn aPc, .slice aD aDn aDc, .int .i64 m.clock, .slice aN aNn aNc, .slice aS aSn aSc], .agg #[.int .i64 r.user, .int .i64 r.n, .int .i64 r.kind, .int .i64 r.ticket, .int .i64 r.who, .int .i64 r.price]] w fun E w' => MktPost lo τ w w' E (Sw.issue m r (Sw.rowAt rows r.ticket)) := by
 have hr' := Sw.reqOk_iff.1 hr
 obtain ⟨hrow, h8⟩ := rows8 hok
 have hL40 : m.log.length ≤ 40 := (Sw.ownFold_some.1 hok.fold).1
 have hML := hM.log
 have hMP := hM.purses
 have hMD := hM.deals
 have l1 := hM.log.ow.1
 have l2 := Lib.hid hM.purses.ow.1
 have hp5 : aPn ≤ 4194304 := by have := l2.out; have := (Sw.monOk_iff.1 hok.mon).1; omega
 have hfits : Sw.ownFits rows ⟨1, r.ticket, r.who, r.price⟩ = decide ((Sw.rowAt rows r.ticket).who = 0) := by
   have he : Sw.entOk ⟨1, r.ticket, r.who, r.price⟩ = true := Sw.entOk_iff.2 ⟨hr'.2.2.2.1, by dsimp only; omega, by dsimp only; omega⟩
   simp [Sw.ownFits, Sw.ownFold_ok hok.fold, he, Sw.fitsRow]
 by_cases h1 : r.user ≠ 1 ∨ r.who = 1
 · have e : Sw.issue m r (Sw.rowAt rows r.ticket) = (m, 2) := by unfold Sw.issue; rw [if_pos h1]
   rw [e]
   clear e hfits hrow hr' hr hk l1
   rcases h1 with h1 | h1
   · have g1 : (r.user != 1) = true := by simpa using h1
     clear h1
     go_enter Tryz.func230, Tryz.ntmps230
     go_wp2_with fail
     refine bodyPost_ret (v := .tuple #[.agg #[.slice aL aLn aLc, .slice aP aPn aPc, .slice aD aDn aDc, .int .i64 m.clock, .slice aN aNn aNc, .slice aS aSn aSc], .int .i64 2]) (by simp [results, Tryz.results230, go_sem, *]) rfl ?_
     exact ⟨_, _, _, _, _, _, _, _, _, _, _, _, _, _, _, τ, rfl, hM.keepF (by (exact kf_)), fun _ _ => rfl, by (exact ext_)⟩
   · have g1 : (r.who == 1) = true := by simpa using h1
     clear h1
     cases g2 : (r.user != 1)
     all_goals
       go_enter Tryz.func230, Tryz.ntmps230
       go_wp2_with fail
       refine bodyPost_ret (v := .tuple #[.agg #[.slice aL aLn aLc, .slice aP aPn aPc, .slice aD aDn aDc, .int .i64 m.clock, .slice aN aNn aNc, .slice aS aSn aSc], .int .i64 2]) (by simp [results, Tryz.results230, go_sem, *]) rfl ?_
       exact ⟨_, _, _, _, _, _, _, _, _, _, _, _, _, _, _, τ, rfl, hM.keepF (by (exact kf_)), fun _ _ => rfl, by (exact ext_)⟩
 have h1a : (r.user != 1) = false := by simpa using fun h => h1 (.inl h)
 have h1b : (r.who == 1) = false := by simpa using fun h => h1 (.inr h)
 have HR := Lib.hid hrow
 have HF := Lib.hid hfits
 have HL := Lib.hid l1
 cases h2 : decide ((Sw.rowAt rows r.ticket).who = 0)
 case false =>
   have h2' := of_decide_eq_false h2
   have e : Sw.issue m r (Sw.rowAt rows r.ticket) = (m, 3) := by unfold Sw.issue; rw [if_neg h1, if_pos h2']
   rw [e]
   clear e hfits hrow hr' hr hk l1 h1 h2'
   rw [h2] at HF; clear h2
   go_enter Tryz.func230, Tryz.ntmps230
   go_wp2_with fail
   (refine wn_ fun W0 hb0 hc0 hf0 hz0 => ?_; go_region_held3 (fun w' => Held W0 w') ((exact hq_)) ((first | (go_at_call 195; apply Calls.mono; apply sRows_c; (exact rdw_); rintro E w1 ⟨A', c', n', rfl, hoR, hb⟩; obtain ⟨hc, hf, hz⟩ := xy hb) | (go_at_call 260; apply Calls.mono; apply (sOwnFits_c (e := ⟨1, r.ticket, r.who, r.price⟩)); (apply Ow.rs0 hoR; (exact kf_)); rintro E w2 ⟨rfl, hb⟩; rw [HR.out, HF.out]; obtain ⟨hc, hf, hz⟩ := xy hb))); all_goals (obtain ⟨hb, hc, hf, hz⟩ := xh (by assumption : Held W0 _)))
   all_goals go_wp2
   refine bodyPost_ret (v := .tuple #[.agg #[.slice aL aLn aLc, .slice aP aPn aPc, .slice aD aDn aDc, .int .i64 m.clock, .slice aN aNn aNc, .slice aS aSn aSc], .int .i64 3]) (by simp [results, Tryz.results230, go_sem, *]) rfl ?_
   exact ⟨_, _, _, _, _, _, _, _, _, _, _, _, _, _, _, τ, rfl, hM.keepF (by (exact kf_)), fun _ _ => rfl, by (exact ext_)⟩
 have h2' := of_decide_eq_true h2
 rw [h2] at HF; clear h2
 by_cases h3 : m.log.length = 40
 · have e : Sw.issue m r (Sw.rowAt rows r.ticket) = (m, 6) := by unfold Sw.issue; rw [if_neg h1, if_neg (by simpa using h2'), if_pos h3]
   rw [e]
   have g3 : ((aLn : Int) == 40) = true := by simp; omega
   clear e hfits hrow hr' hr hk l1 h1 h2' h3
   go_enter Tryz.func230, Tryz.ntmps230
   go_wp2_with fail
   (refine wn_ fun W0 hb0 hc0 hf0 hz0 => ?_; go_region_held3 (fun w' => Held W0 w') ((exact hq_)) ((first | (go_at_call 195; apply Calls.mono; apply sRows_c; (exact rdw_); rintro E w1 ⟨A', c', n', rfl, hoR, hb⟩; obtain ⟨hc, hf, hz⟩ := xy hb) | (go_at_call 260; apply Calls.mono; apply (sOwnFits_c (e := ⟨1, r.ticket, r.who, r.price⟩)); (apply Ow.rs0 hoR; (exact kf_)); rintro E w2 ⟨rfl, hb⟩; rw [HR.out, HF.out]; obtain ⟨hc, hf, hz⟩ := xy hb))); all_goals (obtain ⟨hb, hc, hf, hz⟩ := xh (by assumption : Held W0 _)))
   all_goals go_wp2
   refine bodyPost_ret (v := .tuple #[.agg #[.slice aL aLn aLc, .slice aP aPn aPc, .slice aD aDn aDc, .int .i64 m.clock, .slice aN aNn aNc, .slice aS aSn aSc], .int .i64 6]) (by simp [results, Tryz.results230, go_sem, *]) rfl ?_
   exact ⟨_, _, _, _, _, _, _, _, _, _, _, _, _, _, _, τ, rfl, hM.keepF (by (exact kf_)), fun _ _ => rfl, by (exact ext_)⟩
 have g3 : ((aLn : Int) == 40) = false := by simp; omega
 cases h4 : Sw.moveMay m.purses r.who 1 r.price
 case false =>
   have e : Sw.issue m r (Sw.rowAt rows r.ticket) = (m, 5) := by unfold Sw.issue; rw [if_neg h1, if_neg (by simpa using h2'), if_neg h3, if_neg (by simp [h4])]
   rw [e]
   clear e hfits hrow hr' hr hk l1 h1 h2' h3
   go_enter Tryz.func230, Tryz.ntmps230
   go_wp2_with fail
   (refine wn_ fun W0 hb0 hc0 hf0 hz0 => ?_; go_region_held3 (fun w' => Held W0 w') ((exact hq_)) ((first | (go_at_call 195; apply Calls.mono; apply sRows_c; (exact rdw_); rintro E w1 ⟨A', c', n', rfl, hoR, hb⟩; obtain ⟨hc, hf, hz⟩ := xy hb) | (go_at_call 260; apply Calls.mono; apply (sOwnFits_c (e := ⟨1, r.ticket, r.who, r.price⟩)); (apply Ow.rs0 hoR; (exact kf_)); rintro E w2 ⟨rfl, hb⟩; rw [HR.out, HF.out]; obtain ⟨hc, hf, hz⟩ := xy hb))); all_goals (obtain ⟨hb, hc, hf, hz⟩ := xh (by assumption : Held W0 _)))
   all_goals go_wp2_with (go_at_call 265; apply Calls.mono; apply sMonMove_c; (exact rdw_); (first | assumption | omega); rintro E w1 ⟨A', c', rfl, hoP, hb⟩; obtain ⟨hc, hf, hz⟩ := xy hb)
   refine bodyPost_ret (v := .tuple #[.agg #[.slice aL aLn aLc, .slice aP aPn aPc, .slice aD aDn aDc, .int .i64 m.clock, .slice aN aNn aNc, .slice aS aSn aSc], .int .i64 5]) (by simp [results, Tryz.results230, go_sem, *]) rfl ?_
   exact ⟨_, _, _, _, _, _, _, _, _, _, _, _, _, _, _, τ, rfl, hM.keepF (by (exact kf_)), fun _ _ => rfl, by (exact ext_)⟩
 have e : Sw.issue m r (Sw.rowAt rows r.ticket) = ({ m with purses := Sw.turned (Sw.turned m.purses r.who (-r.price)) 1 r.price, log := m.log ++ [⟨1, r.ticket, r.who, r.price⟩] }, 1) := by
   unfold Sw.issue; rw [if_neg h1, if_neg (by simpa using h2'), if_neg h3, if_pos h4]
 rw [e]
 have hpe : Sw.monMove m.purses r.who 1 r.price = Sw.turned (Sw.turned m.purses r.who (-r.price)) 1 r.price := by unfold Sw.monMove; rw [if_pos h4]
 have HP := Lib.hid hpe
 have hl40 : aLn ≤ 40 := by omega
 clear e hfits hrow hr' hr hk l1 h1 h2' h3 hpe
 go_enter Tryz.func230, Tryz.ntmps230
 go_wp2_with fail
 (refine wn_ fun W0 hb0 hc0 hf0 hz0 => ?_; go_region_held3 (fun w' => Held W0 w') ((exact hq_)) ((first | (go_at_call 195; apply Calls.mono; apply sRows_c; (exact rdw_); rintro E w1 ⟨A', c', n', rfl, hoR, hb⟩; obtain ⟨hc, hf, hz⟩ := xy hb) | (go_at_call 260; apply Calls.mono; apply (sOwnFits_c (e := ⟨1, r.ticket, r.who, r.price⟩)); (apply Ow.rs0 hoR; (exact kf_)); rintro E w2 ⟨rfl, hb⟩; rw [HR.out, HF.out]; obtain ⟨hc, hf, hz⟩ := xy hb))); all_goals (obtain ⟨hb, hc, hf, hz⟩ := xh (by assumption : Held W0 _)))
 all_goals go_wp2_with (first | (go_at_call 265; apply Calls.mono; apply sMonMove_c; (exact rdw_); (first | assumption | omega); rintro E w1 ⟨A', c', rfl, hoP, hb⟩; obtain ⟨hc, hf, hz⟩ := xy hb) | (at_builtin; apply wpList_app (lo := lo) el_E one_E rfl rfl rfl rfl; (exact Ow.keep (hML.ow) kf_); (refine Rs.new [⟨1, r.ticket, r.who, r.price⟩] (by (first | rfl | (simp only [zq_]; done) | omega)) rfl rfl (fun _ => rfl) (by omega)); omega; (exact sz_); intro A1 c1 w2 ho1 hch1 hat1 hex1 hlow1; clear hex1; obtain ⟨hB0, hF0⟩ := Ch.atA_keep hch1 (g := w.heap.size) (by exact sz_) (Ow.apart (hML.ow) (by omega)); obtain ⟨hB1, hF1⟩ := Ch.atA_keep hch1 (g := w.heap.size + 1) (by exact sz_) (Ow.apart (hML.ow) (by omega)); obtain ⟨hB2, hF2⟩ := Ch.atA_keep hch1 (g := w.heap.size + 1 + 1) (by exact sz_) (Ow.apart (hML.ow) (by omega)); have hzA := hch1.size; (try simp only [zq_] at hzA)))
 refine bodyPost_ret (v := .tuple #[.agg #[.slice A1 (aLn + 1) c1, .slice A' aPn c', .slice aD aDn aDc, .int .i64 m.clock, .slice aN aNn aNc, .slice aS aSn aSc], .int .i64 1]) (by simp [results, Tryz.results230, go_sem, *]) rfl ?_
 rw [HP.out] at hoP
 have m1 := OwM.pursed ((hM.glueL (τ' := fun _ => 0) (Nat.le_refl _)).keepF kf_) hoP (Nat.le_refl _) sz_ (kE hb (kR _ _))
 have m2 := OwM.logged (m1.box (g0 := w.heap.size) (g1 := w.heap.size + 4) bx_ (tag1 tag0 sz_)) ho1 hch1 hat1
 have hS := Ch.trans' (show Ch (SM lo τ) w _ from ext_) hch1 (fun i _ h => hM.atL h)
 exact ⟨_, _, _, _, _, _, _, _, _, _, _, _, _, _, _, _, rfl, m2.box (g0 := w.heap.size) (g1 := w.heap.size + 4) bx_ (tag1 (tag1 tag0 sz_) sz_), fun b hb => (if_pos sz_).trans ((if_pos sz_).trans (if_pos hb)), ext_⟩
end Go.Proofs.YtnnoiagommiapaaGreat
