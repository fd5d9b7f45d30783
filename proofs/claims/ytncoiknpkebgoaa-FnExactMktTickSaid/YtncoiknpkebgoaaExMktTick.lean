/-
  Walk: the law ExactMktTick.
-/
import Derived.Test.YtncoiknpkebgoaaTick
import Derived.Test.YtncoiknpkebgoaaLawMk2
import Derived.Test.YtncoiknpkebgoaaLawEq3
namespace Go.Proofs.Ytncoiknpkebgoaa
set_option maxRecDepth 100000
set_option linter.unusedSimpArgs false
set_option linter.unusedVariables false
open Go.RowKit Go
set_option maxHeartbeats 4000000

def Sw.Mkt.len (m : Sw.Mkt) : Nat := m.log.length + m.purses.length + m.deals.length + m.nums.length + m.said.length
theorem monTurn_len (p : List Int) (who n : Int) : (Sw.monTurn p who n).length = p.length := by
  unfold Sw.monTurn Sw.turned
  split <;> simp
theorem backPurses_len (t : Int) : ∀ (ds : List Sw.Deal) (p : List Int), (ds.foldl (Sw.backPurse t) p).length = p.length
  | [], p => rfl
  | d :: ds, p => by
    rw [List.foldl_cons, backPurses_len t ds]
    unfold Sw.backPurse
    split
    · exact monTurn_len _ _ _
    · rfl
theorem mktTick_len (m : Sw.Mkt) : (Sw.mktTick m).1.len ≤ m.len := by
  unfold Sw.mktTick
  split
  · split
    · exact Nat.le_refl _
    · simp [Sw.tick, Sw.Mkt.len, backPurses_len]
  · simp [Sw.mktZ, Sw.Mkt.len]
section
variable {τ : Nat → Nat} {w w' w0 : World} {lo lo' hi : Nat}
theorem RM.len {aL : Option Addr} {aLc aLn : Nat} {aP : Option Addr} {aPc aPn : Nat} {aD : Option Addr} {aDc aDn : Nat} {aN : Option Addr} {aNc aNn : Nat} {aS : Option Addr} {aSc aSn : Nat} {m : Sw.Mkt} (h : RM w lo aL aLc aLn aP aPc aPn aD aDc aDn aN aNc aNn aS aSc aSn m) : aLn + aPn + aDn + aNn + aSn = m.len := by
  have h1 := h.1.1; have h2 := h.2.1; have h3 := h.3.1; have h4 := h.4.1; have h5 := h.5.1
  unfold Sw.Mkt.len; omega
theorem KF.trans {a b c : World} (h : KF lo a b) (k : KF lo b c) : KF lo a c :=
  ⟨Nat.le_trans h.size k.size, fun i h1 h2 => (k.block i h1 (Nat.lt_of_lt_of_le h2 h.size)).trans (h.block i h1 h2)⟩
/-- Blocks from l on, but for those from h on. -/
def RG2 (l h : Nat) : Nat → Prop := fun b => l ≤ b ∧ b < h
/-- A market that is marked: what has turned lies in its range. -/
theorem OwM.ranged {aL : Option Addr} {aLc aLn : Nat} {aP : Option Addr} {aPc aPn : Nat} {aD : Option Addr} {aDc aDn : Nat} {aN : Option Addr} {aNc aNn : Nat} {aS : Option Addr} {aSc aSn : Nat} {m : Sw.Mkt} (h : OwM τ w lo aL aLc aLn aP aPc aPn aD aDc aDn aN aNc aNn aS aSc aSn m) (hk : KF lo w w') : OwM (glue τ w.heap.size (fun _ => 0)) w' lo aL aLc aLn aP aPc aPn aD aDc aDn aN aNc aNn aS aSc aSn m := (h.glueL (Nat.le_refl _)).keepF hk
theorem SM.range {b : Nat} (h : SM lo (glue τ hi (fun _ => 0)) b) : RG2 lo hi b := by
  obtain ⟨h1, h2, h3⟩ := h
  refine ⟨h1, ?_⟩
  by_cases hb : b < hi
  · exact hb
  · unfold glue at h2
    rw [if_neg hb] at h2
    exact absurd (show 1 ≤ 0 from h2) (by decide)
theorem KF.range (hb : Ch (RG2 lo hi) w w') (k : KF lo' w0 w) (hl : hi ≤ lo' ∨ w0.heap.size ≤ lo) : KF lo' w0 w' :=
  ⟨Nat.le_trans k.size hb.size, fun b h1 h2 => (hb.block b (Nat.lt_of_lt_of_le h2 k.size) (fun h => by have h3 : lo ≤ b := h.1; have h4 : b < hi := h.2; omega)).trans (k.block b h1 h2)⟩
theorem OwM.keepR {aL : Option Addr} {aLc aLn : Nat} {aP : Option Addr} {aPc aPn : Nat} {aD : Option Addr} {aDc aDn : Nat} {aN : Option Addr} {aNc aNn : Nat} {aS : Option Addr} {aSc aSn : Nat} {m : Sw.Mkt} (h : OwM τ w0 lo' aL aLc aLn aP aPc aPn aD aDc aDn aN aNc aNn aS aSc aSn m) (k : KF lo' w0 w) (hb : Ch (RG2 lo hi) w w') (hl : hi ≤ lo' ∨ w0.heap.size ≤ lo) : OwM τ w' lo' aL aLc aLn aP aPc aPn aD aDc aDn aN aNc aNn aS aSc aSn m ∧ KF lo' w0 w' :=
  ⟨h.keepF (KF.range hb k hl), KF.range hb k hl⟩
theorem RG2.rules (hb : Ch (RG2 lo hi) w w') {g : Nat} (hg : g < lo ∨ hi ≤ g) (hs : g < w.heap.size) : (∀ o, w'.cell? ⟨g, o, none⟩ = w.cell? ⟨g, o, none⟩) :=
  fun o => hb.cell (p := ⟨g, o, none⟩) hs (fun h => by have h1 : lo ≤ g := h.1; have h2 : g < hi := h.2; omega)
end

theorem exMktTick_c (aL : Option Addr) (aLc aLn : Nat) (aP : Option Addr) (aPc aPn : Nat) (aD : Option Addr) (aDc aDn : Nat) (aN : Option Addr) (aNc aNn : Nat) (aS : Option Addr) (aSc aSn : Nat) (m : Sw.Mkt) (w : World) (hx : RM w 0 aL aLc aLn aP aPc aPn aD aDc aDn aN aNc aNn aS aSc aSn m) : Calls Try.prog 7 #[.agg #[.slice aL aLn aLc, .slice aP aPn aPc, .slice aD aDn aDc, .int .i64 m.clock, .slice aN aNn aNc, .slice aS aSn aSc]] w fun E w' => E = .returned (.bool true) ∧ Ex w w' := by
  by_cases hn : aLn + aPn + aDn + aNn + aSn ≤ 1048576
  case neg =>
    go_enter Try.func7, Try.ntmps7
    go_wp2_with (first | (go_at_call 43; apply Calls.mono; apply szMkt_n; ((first | (apply RM.at0; assumption) | (apply OwM.rm0; assumption)); with_reducible repeat (first | exact kR _ _ | apply kA | apply kD | apply kN | (refine kS ?_ (by first | omega | (simp only [zA, zC, zD]; omega))) | (apply kE; assumption) | (refine kC (by assumption) ?_ (by first | omega | (simp only [zA, zC, zD]; omega))))); (first | assumption | omega); (first | assumption | omega); (first | assumption | omega); rintro E w1 ⟨rfl, hb⟩; have hst := xr hb; (try simp only [zA, zC, zD] at hst); obtain ⟨hc, hf, hz⟩ := hst))
    go_ret
    exact ⟨rfl, (by (with_reducible repeat (first | exact cR _ _ | apply cA | apply cD | apply cN | (refine cS ?_ (Or.inr (by first | omega | (simp only [zA, zC, zD]; omega))) _) | (apply cE; assumption) | (apply cK; assumption) | (refine cG (by assumption) ?_ (by first | omega | (simp only [zA, zC, zD]; omega))))))⟩
  have hle := mktTick_len m
  have hlen := hx.len
  rw [hlen] at hn
  have HN := Lib.hid (And.intro hn hle)
  have HL := Lib.hid hlen
  have hv : decide ((1048576 : Int) - ((aLn : Int) + aPn + aDn + aNn + aSn) < 0) = false := by simp; omega
  clear hn hle hlen
  go_enter Try.func7, Try.ntmps7
  go_wp2_with (go_at_call 43; apply Calls.mono; apply szMkt_y; (apply RM.at0 hx; (with_reducible repeat (first | exact kR _ _ | apply kA | apply kD | apply kN | (refine kS ?_ (by first | omega | (simp only [zA, zC, zD]; omega))) | (apply kE; assumption) | (refine kC (by assumption) ?_ (by first | omega | (simp only [zA, zC, zD]; omega)))))); omega; (have := HL.out; have := HN.out.1; omega); rintro E w1 ⟨rfl, hb⟩; have hst := xr hb; (try simp only [zA, zC, zD] at hst); obtain ⟨hc, hf, hz⟩ := hst)
  apply Calls.mono
  apply toMktHouse_c
  · apply RM.at0 hx; (with_reducible repeat (first | exact kR _ _ | apply kA | apply kD | apply kN | (refine kS ?_ (by first | omega | (simp only [zA, zC, zD]; omega))) | (apply kE; assumption) | (refine kC (by assumption) ?_ (by first | omega | (simp only [zA, zC, zD]; omega)))))
  · have := HL.out; have := HN.out.1; omega
  rintro E w2 ⟨bL, bLc, bLn, bP, bPc, bPn, bD, bDc, bDn, bN, bNc, bNn, bS, bSc, bSn, τb, rfl, hob, hb⟩
  have hbb := hb
  have hst := xr hb; (try simp only [zA, zC, zD] at hst); obtain ⟨hc, hf, hz⟩ := hst
  have hlb := Lib.hid hob.rm.len
  replace hob := hob.ranged (kR _ _)
  go_wp2_with fail
  apply Calls.mono
  apply sMktTick_c
  · apply OwM.rm0 hob; (with_reducible repeat (first | exact kR _ _ | apply kA | apply kD | apply kN | (refine kS ?_ (by first | omega | (simp only [zA, zC, zD]; omega))) | (apply kE; assumption) | (refine kC (by assumption) ?_ (by first | omega | (simp only [zA, zC, zD]; omega)))))
  · have := hlb.out; have := HN.out.1; omega
  rintro E w3 ⟨cL, cLc, cLn, cP, cPc, cPn, cD, cDc, cDn, cN, cNc, cNn, cS, cSc, cSn, τc, rfl, hoc, hb⟩
  have hst := xr hb; (try simp only [zA, zC, zD] at hst); obtain ⟨hc, hf, hz⟩ := hst
  have hlc := Lib.hid hoc.rm.len
  replace hoc := hoc.ranged (kR _ _)
  go_wp2_with fail
  apply Calls.mono
  apply toMktHouse_c
  · apply RM.at0 hx; (with_reducible repeat (first | exact kR _ _ | apply kA | apply kD | apply kN | (refine kS ?_ (by first | omega | (simp only [zA, zC, zD]; omega))) | (apply kE; assumption) | (refine kC (by assumption) ?_ (by first | omega | (simp only [zA, zC, zD]; omega)))))
  · have := HL.out; have := HN.out.1; omega
  rintro E w4 ⟨dL, dLc, dLn, dP, dPc, dPn, dD, dDc, dDn, dN, dNc, dNn, dS, dSc, dSn, τd, rfl, hod, hb⟩
  have hbd := hb
  have hst := xr hb; (try simp only [zA, zC, zD] at hst); obtain ⟨hc, hf, hz⟩ := hst
  have hld := Lib.hid hod.rm.len
  replace hod := hod.ranged (kR _ _)
  go_wp2_with fail
  apply Calls.mono
  apply iMktTick_c
  · apply OwM.rm0 hod; (with_reducible repeat (first | exact kR _ _ | apply kA | apply kD | apply kN | (refine kS ?_ (by first | omega | (simp only [zA, zC, zD]; omega))) | (apply kE; assumption) | (refine kC (by assumption) ?_ (by first | omega | (simp only [zA, zC, zD]; omega)))))
  · have := hld.out; have := HN.out.1; omega
  rintro E w5 ⟨eL, eLc, eLn, eP, ePc, ePn, eD, eDc, eDn, eN, eNc, eNn, eS, eSc, eSn, τe, rfl, hoe, hb⟩
  have hst := xr hb; (try simp only [zA, zC, zD] at hst); obtain ⟨hc, hf, hz⟩ := hst
  have hle := Lib.hid hoe.rm.len
  replace hoe := hoe.ranged (kR _ _)
  go_wp2_with fail
  apply Calls.mono
  apply (eqMktHouse_c (x := (Sw.mktTick m).1) (y := (Sw.mktTick m).1))
  · apply OwM.rm0 hoe; (with_reducible repeat (first | exact kR _ _ | apply kA | apply kD | apply kN | (refine kS ?_ (by first | omega | (simp only [zA, zC, zD]; omega))) | (apply kE; assumption) | (refine kC (by assumption) ?_ (by first | omega | (simp only [zA, zC, zD]; omega)))))
  · apply OwM.rm0 hoc; (with_reducible repeat (first | exact kR _ _ | apply kA | apply kD | apply kN | (refine kS ?_ (by first | omega | (simp only [zA, zC, zD]; omega))) | (apply kE; assumption) | (refine kC (by assumption) ?_ (by first | omega | (simp only [zA, zC, zD]; omega)))))
  rintro E w6 ⟨rfl, hb⟩
  rw [show decide ((Sw.mktTick m).1 = (Sw.mktTick m).1) = true from decide_eq_true rfl]
  have hst := xr hb; (try simp only [zA, zC, zD] at hst); obtain ⟨hc, hf, hz⟩ := hst
  go_wp2_with fail
  (refine wp_name ?_; intro W0 hb0; have hst := xr hb0; (try simp only [zA, zC, zD] at hst); obtain ⟨hc0, hf0, hz0⟩ := hst; go_region_held3 (fun w' => Held W0 w') ((first | with_reducible assumption | with_reducible exact Held.start _ | with_reducible exact Held.of (by assumption) | with_reducible exact Held.ex (by assumption) (by assumption) | ((repeat (first | with_reducible refine Held.set ?_ (by simp only [zA, zC, zD]; omega) | with_reducible refine Held.alloc ?_ _ | with_reducible refine Held.drew ?_)); (first | with_reducible assumption | with_reducible exact Held.refl _ | with_reducible exact Held.of (by assumption) | with_reducible exact Held.ex (by assumption) (by assumption))) | exact Held.of (by (with_reducible repeat (first | exact cR _ _ | apply cA | apply cD | apply cN | (refine cS ?_ (Or.inr (by first | omega | (simp only [zA, zC, zD]; omega))) _) | (apply cE; assumption) | (apply cK; assumption) | (refine cG (by assumption) ?_ (by first | omega | (simp only [zA, zC, zD]; omega)))))))) ((first | (go_at_call 45; apply Calls.mono; apply toMktHouse_c; (apply RM.at0 hx; (with_reducible repeat (first | exact kR _ _ | apply kA | apply kD | apply kN | (refine kS ?_ (by first | omega | (simp only [zA, zC, zD]; omega))) | (apply kE; assumption) | (refine kC (by assumption) ?_ (by first | omega | (simp only [zA, zC, zD]; omega)))))); (have := HL.out; have := HN.out.1; omega); rintro E wf ⟨fL, fLc, fLn, fP, fPc, fPn, fD, fDc, fDn, fN, fNc, fNn, fS, fSc, fSn, τf, rfl, hof, hb⟩; have hst := xr hb; (try simp only [zA, zC, zD] at hst); obtain ⟨hc, hf, hz⟩ := hst) | (go_at_call 47; apply Calls.mono; apply (eqMktHouse_c (x := m) (y := m)); (apply OwM.rm0 hod; (with_reducible repeat (first | exact kR _ _ | apply kA | apply kD | apply kN | (refine kS ?_ (by first | omega | (simp only [zA, zC, zD]; omega))) | (apply kE; assumption) | (refine kC (by assumption) ?_ (by first | omega | (simp only [zA, zC, zD]; omega)))))); (apply OwM.rm0 hof; (with_reducible repeat (first | exact kR _ _ | apply kA | apply kD | apply kN | (refine kS ?_ (by first | omega | (simp only [zA, zC, zD]; omega))) | (apply kE; assumption) | (refine kC (by assumption) ?_ (by first | omega | (simp only [zA, zC, zD]; omega)))))); rintro E wg ⟨rfl, hb⟩; rw [show decide (m = m) = true from decide_eq_true rfl]; have hst := xr hb; (try simp only [zA, zC, zD] at hst); obtain ⟨hc, hf, hz⟩ := hst))); all_goals (have hb := And.right (by assumption : Held W0 _); have hst := xr hb; (try simp only [zA, zC, zD] at hst); obtain ⟨hc, hf, hz⟩ := hst))
  go_wp2_with fail
  have hx0 := hx
  have hoc0 := hoc
  have hoe0 := hoe
  have kd1 : decide ((1 : Int) + (dLn : Int) * 4 + dPn + (dDn : Int) * 5 + dNn + dSn < 0) = false := by simp; omega
  have ke1 : decide ((1 : Int) + (eLn : Int) * 4 + ePn + (eDn : Int) * 5 + eNn + eSn < 0) = false := by simp; omega
  apply Calls.mono
  apply (markMkt_c (m := m) (τ := glue τd w4.heap.size (fun _ => 0)))
  · exact hod.keepF (by (with_reducible repeat (first | exact kR _ _ | apply kA | apply kD | apply kN | (refine kS ?_ (by first | omega | (simp only [zA, zC, zD]; omega))) | (apply kE; assumption) | (refine kC (by assumption) ?_ (by first | omega | (simp only [zA, zC, zD]; omega))))))
  · decide
  · decide
  · have := hld.out; have := HN.out.1; have := HN.out.2; omega
  rintro E w7 ⟨rfl, -, hmk⟩
  have hr := hmk.mono (fun i _ h => SM.range h)
  have bxw70 := RG2.rules hr (g := w.heap.size) (.inl (by (first | omega | (simp only [zA, zC, zD]; omega) | (simp only [zA, zC, zD] at *; omega)))) (by (first | omega | (simp only [zA, zC, zD]; omega) | (simp only [zA, zC, zD] at *; omega)))
  have bxw71 := RG2.rules hr (g := w3.heap.size) (.inl (by (first | omega | (simp only [zA, zC, zD]; omega) | (simp only [zA, zC, zD] at *; omega)))) (by (first | omega | (simp only [zA, zC, zD]; omega) | (simp only [zA, zC, zD] at *; omega)))
  have bxw72 := RG2.rules hr (g := w5.heap.size) (.inr (by (first | omega | (simp only [zA, zC, zD]; omega) | (simp only [zA, zC, zD] at *; omega)))) (by (first | omega | (simp only [zA, zC, zD]; omega) | (simp only [zA, zC, zD] at *; omega)))
  obtain ⟨hoc, kkcw7⟩ := OwM.keepR hoc0 (by (with_reducible repeat (first | exact kR _ _ | apply kA | apply kD | apply kN | (refine kS ?_ (by first | omega | (simp only [zA, zC, zD]; omega))) | (apply kE; assumption) | (refine kC (by assumption) ?_ (by first | omega | (simp only [zA, zC, zD]; omega)))))) hr (.inr (by (first | omega | (simp only [zA, zC, zD]; omega) | (simp only [zA, zC, zD] at *; omega))))
  obtain ⟨hoe, kkew7⟩ := OwM.keepR hoe0 (by (with_reducible repeat (first | exact kR _ _ | apply kA | apply kD | apply kN | (refine kS ?_ (by first | omega | (simp only [zA, zC, zD]; omega))) | (apply kE; assumption) | (refine kC (by assumption) ?_ (by first | omega | (simp only [zA, zC, zD]; omega)))))) hr (.inl (by (first | omega | (simp only [zA, zC, zD]; omega) | (simp only [zA, zC, zD] at *; omega))))
  have hexw7 : Ex w w7 := Ch.trans' (show Ex w _ from (by (with_reducible repeat (first | exact cR _ _ | apply cA | apply cD | apply cN | (refine cS ?_ (Or.inr (by first | omega | (simp only [zA, zC, zD]; omega))) _) | (apply cE; assumption) | (apply cK; assumption) | (refine cG (by assumption) ?_ (by first | omega | (simp only [zA, zC, zD]; omega))))))) hr (fun i hi h => absurd h.1 (by (first | omega | (simp only [zA, zC, zD] at *; omega) | (simp only [zA, zC, zD]; omega))))
  have hx := hx0.at0 (kE hexw7 (kR _ _))
  have hszw7 := hr.size
  (try simp only [zA, zC, zD] at hszw7)
  clear hr hmk
  go_wp2_with fail
  apply Calls.mono
  apply (eqMktHouse_c (x := (Sw.mktTick m).1) (y := (Sw.mktTick m).1))
  · apply OwM.rm0 hoe; (with_reducible repeat (first | exact kR _ _ | apply kA | apply kD | apply kN | (refine kS ?_ (by first | omega | (simp only [zA, zC, zD]; omega))) | (apply kE; assumption) | (refine kC (by assumption) ?_ (by first | omega | (simp only [zA, zC, zD]; omega)))))
  · apply OwM.rm0 hoc; (with_reducible repeat (first | exact kR _ _ | apply kA | apply kD | apply kN | (refine kS ?_ (by first | omega | (simp only [zA, zC, zD]; omega))) | (apply kE; assumption) | (refine kC (by assumption) ?_ (by first | omega | (simp only [zA, zC, zD]; omega)))))
  rintro E w8 ⟨rfl, hb⟩
  rw [show decide ((Sw.mktTick m).1 = (Sw.mktTick m).1) = true from decide_eq_true rfl]
  have hst := xr hb; (try simp only [zA, zC, zD] at hst); obtain ⟨hc, hf, hz⟩ := hst
  go_wp2_with fail
  apply Calls.mono
  apply (markMkt_c (m := (Sw.mktTick m).1) (τ := glue τe w5.heap.size (fun _ => 0)))
  · exact hoe.keepF (by (with_reducible repeat (first | exact kR _ _ | apply kA | apply kD | apply kN | (refine kS ?_ (by first | omega | (simp only [zA, zC, zD]; omega))) | (apply kE; assumption) | (refine kC (by assumption) ?_ (by first | omega | (simp only [zA, zC, zD]; omega))))))
  · decide
  · decide
  · have := hle.out; have := HN.out.1; have := HN.out.2; omega
  rintro E w9 ⟨rfl, hmM, hmk⟩
  have hr := hmk.mono (fun i _ h => SM.range h)
  have bxw90 := RG2.rules hr (g := w.heap.size) (.inl (by (first | omega | (simp only [zA, zC, zD]; omega) | (simp only [zA, zC, zD] at *; omega)))) (by (first | omega | (simp only [zA, zC, zD]; omega) | (simp only [zA, zC, zD] at *; omega)))
  have bxw91 := RG2.rules hr (g := w3.heap.size) (.inl (by (first | omega | (simp only [zA, zC, zD]; omega) | (simp only [zA, zC, zD] at *; omega)))) (by (first | omega | (simp only [zA, zC, zD]; omega) | (simp only [zA, zC, zD] at *; omega)))
  have bxw92 := RG2.rules hr (g := w5.heap.size) (.inr (by (first | omega | (simp only [zA, zC, zD]; omega) | (simp only [zA, zC, zD] at *; omega)))) (by (first | omega | (simp only [zA, zC, zD]; omega) | (simp only [zA, zC, zD] at *; omega)))
  obtain ⟨hoc, kkcw9⟩ := OwM.keepR hoc0 (kkcw7.trans (by (with_reducible repeat (first | exact kR _ _ | apply kA | apply kD | apply kN | (refine kS ?_ (by first | omega | (simp only [zA, zC, zD]; omega))) | (apply kE; assumption) | (refine kC (by assumption) ?_ (by first | omega | (simp only [zA, zC, zD]; omega))))))) hr (.inr (by (first | omega | (simp only [zA, zC, zD]; omega) | (simp only [zA, zC, zD] at *; omega))))
  have hexw9 : Ex w w9 := Ch.trans' (show Ex w _ from (by (with_reducible repeat (first | exact cR _ _ | apply cA | apply cD | apply cN | (refine cS ?_ (Or.inr (by first | omega | (simp only [zA, zC, zD]; omega))) _) | (apply cE; assumption) | (apply cK; assumption) | (refine cG (by assumption) ?_ (by first | omega | (simp only [zA, zC, zD]; omega))))))) hr (fun i hi h => absurd h.1 (by (first | omega | (simp only [zA, zC, zD] at *; omega) | (simp only [zA, zC, zD]; omega))))
  have hx := hx0.at0 (kE hexw9 (kR _ _))
  have hszw9 := hr.size
  (try simp only [zA, zC, zD] at hszw9)
  clear hr hmk
  go_wp2_with fail
  apply Calls.mono
  apply heldMkt_c
  · exact hmM.keep (by (with_reducible repeat (first | exact kR _ _ | apply kA | apply kD | apply kN | (refine kS ?_ (by first | omega | (simp only [zA, zC, zD]; omega))) | (apply kE; assumption) | (refine kC (by assumption) ?_ (by first | omega | (simp only [zA, zC, zD]; omega))))))
  · decide
  · decide
  · have := hle.out; have := HN.out.1; have := HN.out.2; omega
  rintro E w10 ⟨rfl, hb⟩
  have hst := xr hb; (try simp only [zA, zC, zD] at hst); obtain ⟨hc, hf, hz⟩ := hst
  go_wp2_with fail
  apply Calls.mono
  apply toMktHouse_c
  · apply RM.at0 hx; (with_reducible repeat (first | exact kR _ _ | apply kA | apply kD | apply kN | (refine kS ?_ (by first | omega | (simp only [zA, zC, zD]; omega))) | (apply kE; assumption) | (refine kC (by assumption) ?_ (by first | omega | (simp only [zA, zC, zD]; omega)))))
  · have := HL.out; have := HN.out.1; omega
  rintro E w11 ⟨gL, gLc, gLn, gP, gPc, gPn, gD, gDc, gDn, gN, gNc, gNn, gS, gSc, gSn, τg, rfl, hog, hb⟩
  have hbg := hb
  have hst := xr hb; (try simp only [zA, zC, zD] at hst); obtain ⟨hc, hf, hz⟩ := hst
  have hlg := Lib.hid hog.rm.len
  replace hog := hog.ranged (kR _ _)
  go_wp2_with fail
  apply Calls.mono
  apply iMktTick_c
  · apply OwM.rm0 hog; (with_reducible repeat (first | exact kR _ _ | apply kA | apply kD | apply kN | (refine kS ?_ (by first | omega | (simp only [zA, zC, zD]; omega))) | (apply kE; assumption) | (refine kC (by assumption) ?_ (by first | omega | (simp only [zA, zC, zD]; omega)))))
  · have := hlg.out; have := HN.out.1; omega
  rintro E w12 ⟨iL, iLc, iLn, iP, iPc, iPn, iD, iDc, iDn, iN, iNc, iNn, iS, iSc, iSn, τi, rfl, hoi, hb⟩
  have hst := xr hb; (try simp only [zA, zC, zD] at hst); obtain ⟨hc, hf, hz⟩ := hst
  have hli := Lib.hid hoi.rm.len
  replace hoi := hoi.ranged (kR _ _)
  go_wp2_with fail
  apply Calls.mono
  apply (eqMktHouse_c (x := (Sw.mktTick m).1) (y := (Sw.mktTick m).1))
  · apply OwM.rm0 hoi; (with_reducible repeat (first | exact kR _ _ | apply kA | apply kD | apply kN | (refine kS ?_ (by first | omega | (simp only [zA, zC, zD]; omega))) | (apply kE; assumption) | (refine kC (by assumption) ?_ (by first | omega | (simp only [zA, zC, zD]; omega)))))
  · apply OwM.rm0 hoc; (with_reducible repeat (first | exact kR _ _ | apply kA | apply kD | apply kN | (refine kS ?_ (by first | omega | (simp only [zA, zC, zD]; omega))) | (apply kE; assumption) | (refine kC (by assumption) ?_ (by first | omega | (simp only [zA, zC, zD]; omega)))))
  rintro E w13 ⟨rfl, hb⟩
  rw [show decide ((Sw.mktTick m).1 = (Sw.mktTick m).1) = true from decide_eq_true rfl]
  have hst := xr hb; (try simp only [zA, zC, zD] at hst); obtain ⟨hc, hf, hz⟩ := hst
  go_wp2_with fail
  apply Calls.mono
  apply heldMkt_c
  · exact hmM.keep (by (with_reducible repeat (first | exact kR _ _ | apply kA | apply kD | apply kN | (refine kS ?_ (by first | omega | (simp only [zA, zC, zD]; omega))) | (apply kE; assumption) | (refine kC (by assumption) ?_ (by first | omega | (simp only [zA, zC, zD]; omega))))))
  · decide
  · decide
  · have := hle.out; have := HN.out.1; have := HN.out.2; omega
  rintro E w14 ⟨rfl, hb⟩
  have hst := xr hb; (try simp only [zA, zC, zD] at hst); obtain ⟨hc, hf, hz⟩ := hst
  go_wp2_with fail
  go_ret
  exact ⟨rfl, (by (with_reducible repeat (first | exact cR _ _ | apply cA | apply cD | apply cN | (refine cS ?_ (Or.inr (by first | omega | (simp only [zA, zC, zD]; omega))) _) | (apply cE; assumption) | (apply cK; assumption) | (refine cG (by assumption) ?_ (by first | omega | (simp only [zA, zC, zD]; omega))))))⟩
end Go.Proofs.Ytncoiknpkebgoaa
