/-
  Texts joined: DoF, PtrC, ImpN, PtrD, PtrE, PtrF, PtrG.
-/
import Derived.Test.YtimpagcanengoaaPk5
import Derived.Test.YtimpagcanengoaaPk4
import Derived.Deep.CutBlock
import Derived.Deep.DeepCutAuto
namespace Go.Proofs.Ytimpagcanengoaa
set_option maxRecDepth 100000
set_option linter.unusedSimpArgs false
set_option linter.unusedVariables false
open Go.RowKit Go
set_option maxHeartbeats 2000000

theorem OwM.atD {aL : Option Addr} {aLc aLn : Nat} {aP : Option Addr} {aPc aPn : Nat} {aD : Option Addr} {aDc aDn : Nat} {aN : Option Addr} {aNc aNn : Nat} {aS : Option Addr} {aSc aSn : Nat} {m : Sw.Mkt} {τ : Nat → Nat} {w : World} {lo : Nat} (h : OwM τ w lo aL aLc aLn aP aPc aPn aD aDc aDn aN aNc aNn aS aSc aSn m) {g : Nat} (hg : aD = some ⟨g, 0, none⟩) : SM lo τ g :=
  ⟨(h.deals.ow.blk hg).1, by have := h.deals.tag _ hg; rw [show τ g = 3 from this]; decide, by have := h.deals.tag _ hg; rw [show τ g = 3 from this]; decide⟩
/-- A price put down: one deal turned in place. -/
theorem OwM.funded {aL aP aN aS : Option Addr} {aLc aLn aPc aPn aDc aDn aNc aNn aSc aSn : Nat} {m : Sw.Mkt} {τ : Nat → Nat} {w : World} {lo : Nat} {gD k : Nat} {y : Sw.Deal} (h : OwM τ w lo aL aLc aLn aP aPc aPn (some ⟨gD, 0, none⟩) aDc aDn aN aNc aNn aS aSc aSn m) (hx : m.deals[k]? = some y) (b d : Int) :
    OwM τ ((w.setCell ⟨gD, k * 5 + 3, none⟩ (.int .i64 b)).setCell ⟨gD, k * 5 + 4, none⟩ (.int .i64 d)) lo aL aLc aLn aP aPc aPn (some ⟨gD, 0, none⟩) aDc aDn aN aNc aNn aS aSc aSn { m with deals := m.deals.set k { y with buyer := b, due := d } } := by
  have tD : τ gD = 3 := h.deals.tag _ rfl
  have K : ∀ t, t ≠ 3 → KT τ t lo w ((w.setCell ⟨gD, k * 5 + 3, none⟩ (.int .i64 b)).setCell ⟨gD, k * 5 + 4, none⟩ (.int .i64 d)) := fun t ht =>
    ((KT.refl _ _ _ _).setCell (.inr (by show τ gD ≠ t; rw [tD]; exact Ne.symm ht))).setCell (.inr (by show τ gD ≠ t; rw [tD]; exact Ne.symm ht))
  refine ⟨h.log.keep (K 1 (by decide)), h.purses.keep (K 2 (by decide)), ⟨?_, h.deals.tag⟩, h.nums.keep (K 4 (by decide)), h.said.keep (K 5 (by decide))⟩
  have h2 := OD_set4 (OD_set3 h.deals.ow rfl hx b) rfl (set_atM hx) d
  rw [List.set_set] at h2
  exact h2

theorem sFund_c (aL : Option Addr) (aLc aLn : Nat) (aP : Option Addr) (aPc aPn : Nat) (aD : Option Addr) (aDc aDn : Nat) (aN : Option Addr) (aNc aNn : Nat) (aS : Option Addr) (aSc aSn : Nat) (m : Sw.Mkt) (ru rn rk : Int) (t : Nat) (rh rp : Int) (rows : List Sw.Row) (lo : Nat) (τ : Nat → Nat) (w : World) (hM : OwM τ w lo aL aLc aLn aP aPc aPn aD aDc aDn aN aNc aNn aS aSc aSn m) (hok : Sw.MOk m rows) (ht : t < 8) (hu1 : 1 ≤ ru) (hu5 : ru ≤ 5) (hlo : lo ≤ w.heap.size) : Calls Try.prog 105 #[.agg #[.slice aL aLn aLc, .slice aP aPn aPc, .slice aD aDn aDc, .int .i64 m.clock, .slice aN aNn aNc, .slice aS aSn aSc], .agg #[.int .i64 ru, .int .i64 rn, .int .i64 rk, .int .i64 t, .int .i64 rh, .int .i64 rp]] w fun E w' => MktPost lo τ w w' E (Sw.fund m ⟨ru, rn, rk, t, rh, rp⟩ (Sw.dealAt m.deals t)) := by
  have hMD := hM.deals
  have hMP := hM.purses
  have hd8 : m.deals.length ≤ 8 := hok.dlen
  have l3 := hM.deals.ow.1
  have hp5 : aPn ≤ 4194304 := by have := hM.purses.ow.1; have := (Sw.monOk_iff.1 hok.mon).1; omega
  have hck := hok.clk
  obtain ⟨hck0, hck1⟩ := hck
  have i0 : (0 : Int) ≤ (t : Int) := by omega
  have i1 : (t : Int) < 8 := by omega
  cases h3 : Sw.dealAt m.deals t
  case none =>
    have e : Sw.fund m ⟨ru, rn, rk, t, rh, rp⟩ none = (m, 3) := rfl
    rw [e]
    have HD := Lib.hid (dealIx_none h3)
    clear e l3 h3 hok
    go_enter Try.func105, Try.ntmps105
    go_wp2_with (go_at_call 114; apply Calls.mono; apply sFind_c; (apply OwT.rs0 hMD; (exact kf_)); rintro E w' ⟨rfl, rfl⟩; rw [HD.out])
    refine bodyPost_ret (v := .tuple #[.agg #[.slice aL aLn aLc, .slice aP aPn aPc, .slice aD aDn aDc, .int .i64 m.clock, .slice aN aNn aNc, .slice aS aSn aSc], .int .i64 3]) (by simp [results, Try.results105, go_sem, *]) rfl ?_
    exact ⟨_, _, _, _, _, _, _, _, _, _, _, _, _, _, _, τ, rfl, hM.keepF kf_, fun _ _ => rfl, ext_⟩
  rename_i kd
  obtain ⟨d, hd, hdt⟩ := Sw.dealAt_some h3
  have hk : kd < aDn := by have := (List.getElem?_eq_some_iff.1 hd).1; omega
  have HD := Lib.hid (dealIx_some h3)
  have hgd := Sw.getD_of (z := Sw.dealZ) hd
  obtain ⟨gD, y, rfl, hloD, hltD, hy, d0, d1, d2, d3, d4, hfD⟩ := at_OD hM.deals.ow hk
  obtain rfl : y = d := Option.some.inj (hy.symm.trans hd)
  have hpr := (Sw.dealOk_iff.1 (hok.deals.get hd)).2.2.2.2.1
  have hcl := Sw.entCap_le (Sw.rowAt rows y.ticket).face
  have p0 : 1 ≤ y.price := by omega
  have p1 : y.price ≤ 60 := by omega
  clear hpr hcl hok
  have k0 : (0 : Int) ≤ (kd : Int) := by omega
  have k1 : (kd : Int) < (aDn : Int) := by omega
  have k2 : ¬ (kd : Int) < 0 := by omega
  by_cases h4 : 0 < y.buyer
  · have e : Sw.fund m ⟨ru, rn, rk, t, rh, rp⟩ (some kd) = (m, 3) := by unfold Sw.fund; dsimp only; rw [hgd, if_pos (by simp [Sw.held, h4])]
    rw [e]
    clear e l3 h3 hd hdt hy hgd
    go_enter Try.func105, Try.ntmps105
    go_wp2_with (go_at_call 114; apply Calls.mono; apply sFind_c; (apply OwT.rs0 hMD; (exact kf_)); rintro E w' ⟨rfl, rfl⟩; rw [HD.out])
    refine bodyPost_ret (v := .tuple #[.agg #[.slice aL aLn aLc, .slice aP aPn aPc, .slice (some ⟨gD, 0, none⟩) aDn aDc, .int .i64 m.clock, .slice aN aNn aNc, .slice aS aSn aSc], .int .i64 3]) (by simp [results, Try.results105, go_sem, *]) rfl ?_
    exact ⟨_, _, _, _, _, _, _, _, _, _, _, _, _, _, _, τ, rfl, hM.keepF kf_, fun _ _ => rfl, ext_⟩
  have hh : ¬ Sw.held y = true := by simp [Sw.held]; omega
  by_cases h5 : y.seller = ru
  · have g5 : (y.seller == ru) = true := by simpa using h5
    have e : Sw.fund m ⟨ru, rn, rk, t, rh, rp⟩ (some kd) = (m, 2) := by unfold Sw.fund; dsimp only; rw [hgd, if_neg hh, if_pos h5]
    rw [e]
    clear e l3 h3 hd hdt hy hgd h5 hh
    go_enter Try.func105, Try.ntmps105
    go_wp2_with (go_at_call 114; apply Calls.mono; apply sFind_c; (apply OwT.rs0 hMD; (exact kf_)); rintro E w' ⟨rfl, rfl⟩; rw [HD.out])
    (go_quiet ((first | fail)); all_goals (generalize hWq : World.drewN _ nq = W0; have hb0 := Ex.ofN hWq; clear hWq; have hst := xr hb0; (try simp only [zA, zC, zD, zN] at hst); obtain ⟨hc0, hf0, hz0⟩ := hst))
    go_wp2
    refine bodyPost_ret (v := .tuple #[.agg #[.slice aL aLn aLc, .slice aP aPn aPc, .slice (some ⟨gD, 0, none⟩) aDn aDc, .int .i64 m.clock, .slice aN aNn aNc, .slice aS aSn aSc], .int .i64 2]) (by simp [results, Try.results105, go_sem, *]) rfl ?_
    exact ⟨_, _, _, _, _, _, _, _, _, _, _, _, _, _, _, τ, rfl, hM.keepF kf_, fun _ _ => rfl, ext_⟩
  have g5 : (y.seller == ru) = false := by simpa using h5
  have hwr : IntKind.i64.wrap (-y.price) = -y.price := IntWalk.i64_in _ (by omega)
  cases h6 : Sw.turnMay m.purses ru (-y.price)
  case false =>
    have e : Sw.fund m ⟨ru, rn, rk, t, rh, rp⟩ (some kd) = (m, 5) := by unfold Sw.fund; dsimp only; rw [hgd, if_neg hh, if_neg h5, if_neg (by simp [h6])]
    rw [e]
    clear e l3 h3 hd hdt hy hgd h5 hh
    go_enter Try.func105, Try.ntmps105
    go_wp2_with (go_at_call 114; apply Calls.mono; apply sFind_c; (apply OwT.rs0 hMD; (exact kf_)); rintro E w' ⟨rfl, rfl⟩; rw [HD.out])
    (go_quiet ((first | fail)); all_goals (generalize hWq : World.drewN _ nq = W0; have hb0 := Ex.ofN hWq; clear hWq; have hst := xr hb0; (try simp only [zA, zC, zD, zN] at hst); obtain ⟨hc0, hf0, hz0⟩ := hst))
    go_wp2
    (refine wp_name ?_; intro W0 hb0; have hst := xr hb0; (try simp only [zA, zC, zD, zN] at hst); obtain ⟨hc0, hf0, hz0⟩ := hst; go_region_held3 (fun w' => Held W0 w') ((first | with_reducible assumption | with_reducible exact Held.start _ | with_reducible exact Held.of (by assumption) | with_reducible exact Held.ex (by assumption) (by assumption) | ((repeat (first | with_reducible refine Held.set ?_ (by simp only [zA, zC, zD, zN]; omega) | with_reducible refine Held.alloc ?_ _ | with_reducible refine Held.drew ?_)); (first | with_reducible assumption | with_reducible exact Held.refl _ | with_reducible exact Held.of (by assumption) | with_reducible exact Held.ex (by assumption) (by assumption))) | exact Held.of (by exact ext_))) (((go_at_call 76; apply Calls.mono; apply sMonTurn_c; ((first | (apply Rs.at0; assumption) | (apply Ow.rs0; assumption) | (apply OwT.rs0; assumption)); exact kf_); (first | assumption | omega); rintro E w1 ⟨A', c', rfl, hoP, hb⟩; have hst := xr hb; (try simp only [zA, zC, zD, zN] at hst); obtain ⟨hc, hf, hz⟩ := hst))); all_goals (have hb := And.right (by assumption : Held W0 _); have hst := xr hb; (try simp only [zA, zC, zD, zN] at hst); obtain ⟨hc, hf, hz⟩ := hst))
    all_goals go_wp2
    refine bodyPost_ret (v := .tuple #[.agg #[.slice aL aLn aLc, .slice aP aPn aPc, .slice (some ⟨gD, 0, none⟩) aDn aDc, .int .i64 m.clock, .slice aN aNn aNc, .slice aS aSn aSc], .int .i64 5]) (by simp [results, Try.results105, go_sem, *]) rfl ?_
    exact ⟨_, _, _, _, _, _, _, _, _, _, _, _, _, _, _, τ, rfl, hM.keepF kf_, fun _ _ => rfl, ext_⟩
  have e : Sw.fund m ⟨ru, rn, rk, t, rh, rp⟩ (some kd) = ({ m with purses := Sw.turned m.purses ru (-y.price), deals := m.deals.set kd { y with buyer := ru, due := m.clock + 5 } }, 1) := by unfold Sw.fund; dsimp only; rw [hgd, if_neg hh, if_neg h5, if_pos h6]
  rw [e]
  have HP := Lib.hid (show Sw.monTurn m.purses ru (-y.price) = Sw.turned m.purses ru (-y.price) from by unfold Sw.monTurn; rw [if_pos h6])
  have HY := Lib.hid hy
  clear e l3 h3 hd hdt hy hgd h5 hh
  go_enter Try.func105, Try.ntmps105
  go_wp2_with (go_at_call 114; apply Calls.mono; apply sFind_c; (apply OwT.rs0 hMD; (exact kf_)); rintro E w' ⟨rfl, rfl⟩; rw [HD.out])
  (go_quiet ((first | fail)); all_goals (generalize hWq : World.drewN _ nq = W0; have hb0 := Ex.ofN hWq; clear hWq; have hst := xr hb0; (try simp only [zA, zC, zD, zN] at hst); obtain ⟨hc0, hf0, hz0⟩ := hst))
  go_wp2
  (refine wp_name ?_; intro W0 hb0; have hst := xr hb0; (try simp only [zA, zC, zD, zN] at hst); obtain ⟨hc0, hf0, hz0⟩ := hst; go_region_held3 (fun w' => Held W0 w') ((first | with_reducible assumption | with_reducible exact Held.start _ | with_reducible exact Held.of (by assumption) | with_reducible exact Held.ex (by assumption) (by assumption) | ((repeat (first | with_reducible refine Held.set ?_ (by simp only [zA, zC, zD, zN]; omega) | with_reducible refine Held.alloc ?_ _ | with_reducible refine Held.drew ?_)); (first | with_reducible assumption | with_reducible exact Held.refl _ | with_reducible exact Held.of (by assumption) | with_reducible exact Held.ex (by assumption) (by assumption))) | exact Held.of (by exact ext_))) (((go_at_call 76; apply Calls.mono; apply sMonTurn_c; ((first | (apply Rs.at0; assumption) | (apply Ow.rs0; assumption) | (apply OwT.rs0; assumption)); exact kf_); (first | assumption | omega); rintro E w1 ⟨A', c', rfl, hoP, hb⟩; have hst := xr hb; (try simp only [zA, zC, zD, zN] at hst); obtain ⟨hc, hf, hz⟩ := hst))); all_goals (have hb := And.right (by assumption : Held W0 _); have hst := xr hb; (try simp only [zA, zC, zD, zN] at hst); obtain ⟨hc, hf, hz⟩ := hst))
  all_goals go_wp2
  refine bodyPost_ret (v := .tuple #[.agg #[.slice aL aLn aLc, .slice A' aPn c', .slice (some ⟨gD, 0, none⟩) aDn aDc, .int .i64 m.clock, .slice aN aNn aNc, .slice aS aSn aSc], .int .i64 1]) (by simp [results, Try.results105, go_sem, *]) rfl ?_
  rw [HP.out] at hoP
  have m1 := OwM.pursed ((hM.glueL (τ' := fun _ => 0) (Nat.le_refl _)).keepF kf_) hoP (Nat.le_refl _) sz_ (kE (by assumption) (kR _ _))
  have m2 := OwM.funded (m1.box (w' := w1.setCell ⟨w.heap.size, 1, none⟩ (.slice A' aPn c')) (g0 := w.heap.size) (g1 := w.heap.size + 3) bx_ (tag1 tag0 sz_)) HY.out ru (m.clock + 5)
  have hgS : SM lo τ gD ∨ w.heap.size ≤ gD := .inl (hM.atD rfl)
  exact ⟨_, _, _, _, _, _, _, _, _, _, _, _, _, _, _, _, rfl, m2.box (g0 := w.heap.size) (g1 := w.heap.size + 3) bx_ (tag1 tag0 sz_), fun b hb => (if_pos sz_).trans (if_pos hb), by (with_reducible repeat (first | exact cR _ _ | apply cA | apply cD | apply cN | (refine cS ?_ (Or.inr (by first | omega | (simp only [zA, zC, zD, zN]; omega))) _) | (refine cS ?_ hgS _) | (apply cE; assumption) | (apply cK; assumption)))⟩
end Go.Proofs.Ytimpagcanengoaa

namespace Go.Proofs.Ytimpagcanengoaa
set_option maxRecDepth 100000
set_option linter.unusedSimpArgs false
set_option linter.unusedVariables false
open Go.RowKit Go
set_option maxHeartbeats 2000000

/-- A market in the six cells from o on of block g, since a world w0 whose blocks were marked τ0. -/
structure MS (g o n lo : Nat) (τ0 : Nat → Nat) (w0 : World) (aL : Option Addr) (aLc aLn : Nat) (aP : Option Addr) (aPc aPn : Nat) (aD : Option Addr) (aDc aDn : Nat) (aN : Option Addr) (aNc aNn : Nat) (aS : Option Addr) (aSc aSn : Nat) (m : Sw.Mkt) (τ : Nat → Nat) (w : World) : Prop where
  at_ : MktAt w g o aL aLc aLn aP aPc aPn aD aDc aDn aN aNc aNn aS aSc aSn m.clock
  lb : Lb w g n
  ow : OwM τ w lo aL aLc aLn aP aPc aPn aD aDc aDn aN aNc aNn aS aSc aSn m
  tag : ∀ b, b < w0.heap.size → τ b = τ0 b
  out : ∀ i, i < o ∨ o + 6 ≤ i → w.cell? ⟨g, i, none⟩ = w0.cell? ⟨g, i, none⟩
  ch : Ch (SG g lo τ0) w0 w
  glt : g < w0.heap.size
  gz : τ0 g = 0
  llo : lo ≤ w0.heap.size
section
variable {g o n lo : Nat} {τ0 τ : Nat → Nat} {w0 w w' : World} {aL : Option Addr} {aLc aLn : Nat} {aP : Option Addr} {aPc aPn : Nat} {aD : Option Addr} {aDc aDn : Nat} {aN : Option Addr} {aNc aNn : Nat} {aS : Option Addr} {aSc aSn : Nat} {m : Sw.Mkt}
theorem MS.start (hA : MktAt w g o aL aLc aLn aP aPc aPn aD aDc aDn aN aNc aNn aS aSc aSn m.clock) (hL : Lb w g n) (hM : OwM τ w lo aL aLc aLn aP aPc aPn aD aDc aDn aN aNc aNn aS aSc aSn m) (hg : τ g = 0) (hlo : lo ≤ w.heap.size) : MS g o n lo τ w aL aLc aLn aP aPc aPn aD aDc aDn aN aNc aNn aS aSc aSn m τ w :=
  ⟨hA, hL, hM, fun _ _ => rfl, fun _ _ => rfl, Ch.refl _ _, hA.lt, hg, hlo⟩
theorem MS.g0 (h : MS g o n lo τ0 w0 aL aLc aLn aP aPc aPn aD aDc aDn aN aNc aNn aS aSc aSn m τ w) : τ g = 0 := (h.tag g h.glt).trans h.gz
theorem MS.ex (h : MS g o n lo τ0 w0 aL aLc aLn aP aPc aPn aD aDc aDn aN aNc aNn aS aSc aSn m τ w) (hb : Ex w w') : MS g o n lo τ0 w0 aL aLc aLn aP aPc aPn aD aDc aDn aN aNc aNn aS aSc aSn m τ w' := by
  have hk : KF 0 w w' := kE hb (kR _ _)
  exact ⟨h.at_.keep hk, h.lb.ex hb, h.ow.keepF (kE hb (kR _ _)), h.tag, fun i hi => (World.cell?_of_block (w := w) (a := ⟨g, i, none⟩) (hb.block g h.at_.lt (fun h => h))).trans (h.out i hi), cE hb h.ch, h.glt, h.gz, h.llo⟩
/-- A block of the market's own may turn. -/
theorem MS.may (h : MS g o n lo τ0 w0 aL aLc aLn aP aPc aPn aD aDc aDn aN aNc aNn aS aSc aSn m τ w) {i t : Nat} (hl : lo ≤ i) (ht : τ i = t) (h1 : 1 ≤ t) (h5 : t ≤ 5) : SG g lo τ0 i ∨ w0.heap.size ≤ i := by
  by_cases hi : i < w0.heap.size
  · exact .inl (.inr ⟨hl, by rw [← h.tag i hi, ht]; exact h1, by rw [← h.tag i hi, ht]; exact h5⟩)
  · exact .inr (by omega)
theorem MS.ne (h : MS g o n lo τ0 w0 aL aLc aLn aP aPc aPn aD aDc aDn aN aNc aNn aS aSc aSn m τ w) {i t : Nat} (ht : τ i = t) (h1 : 1 ≤ t) : i ≠ g := by
  rintro rfl
  have := h.g0
  omega
theorem cne {g i j : Nat} (h : i ≠ j) : (⟨g, i, none⟩ : Addr) ≠ ⟨g, j, none⟩ := fun e => h (by injection e)
theorem MktAt.setL {clock : Int} (h : MktAt w g o aL aLc aLn aP aPc aPn aD aDc aDn aN aNc aNn aS aSc aSn clock) (B : Option Addr) (n d : Nat) : MktAt (w.setCell ⟨g, o, none⟩ (.slice B n d)) g o B d n aP aPc aPn aD aDc aDn aN aNc aNn aS aSc aSn clock :=
  ⟨by simpa [World.setCell] using h.lt, World.cell?_setCell_same _ _ _ h.log, (World.cell?_setCell_other _ _ _ _ (cne (by omega))).trans h.purses, (World.cell?_setCell_other _ _ _ _ (cne (by omega))).trans h.deals, (World.cell?_setCell_other _ _ _ _ (cne (by omega))).trans h.clk,
    (World.cell?_setCell_other _ _ _ _ (cne (by omega))).trans h.nums, (World.cell?_setCell_other _ _ _ _ (cne (by omega))).trans h.said, fun i => by simpa using h.free i⟩
theorem MktAt.setD {clock : Int} (h : MktAt w g o aL aLc aLn aP aPc aPn aD aDc aDn aN aNc aNn aS aSc aSn clock) (B : Option Addr) (n d : Nat) : MktAt (w.setCell ⟨g, o + 2, none⟩ (.slice B n d)) g o aL aLc aLn aP aPc aPn B d n aN aNc aNn aS aSc aSn clock :=
  ⟨by simpa [World.setCell] using h.lt, (World.cell?_setCell_other _ _ _ _ (cne (by omega))).trans h.log, (World.cell?_setCell_other _ _ _ _ (cne (by omega))).trans h.purses, World.cell?_setCell_same _ _ _ h.deals, (World.cell?_setCell_other _ _ _ _ (cne (by omega))).trans h.clk,
    (World.cell?_setCell_other _ _ _ _ (cne (by omega))).trans h.nums, (World.cell?_setCell_other _ _ _ _ (cne (by omega))).trans h.said, fun i => by simpa using h.free i⟩
/-- What lies in g, where another block has turned. -/
theorem MktAt.apart {S : Nat → Prop} {clock : Int} (h : MktAt w g o aL aLc aLn aP aPc aPn aD aDc aDn aN aNc aNn aS aSc aSn clock) (hb : Ch S w w') (hS : ¬ S g) : MktAt w' g o aL aLc aLn aP aPc aPn aD aDc aDn aN aNc aNn aS aSc aSn clock := by
  have hk := hb.block g h.lt hS
  have c : ∀ i : Nat, w'.cell? ⟨g, i, none⟩ = w.cell? ⟨g, i, none⟩ := fun i => World.cell?_of_block (w := w) (a := ⟨g, i, none⟩) hk
  exact ⟨Nat.lt_of_lt_of_le h.lt hb.size, (c _).trans h.log, (c _).trans h.purses, (c _).trans h.deals, (c _).trans h.clk, (c _).trans h.nums, (c _).trans h.said, fun i => (World.frozen?_of_block (w := w) (a := ⟨g, i, none⟩) hk).trans (h.free i)⟩
/-- What a cell of g takes turns nothing of what the market owns. -/
theorem OwM.cell (h : OwM τ w lo aL aLc aLn aP aPc aPn aD aDc aDn aN aNc aNn aS aSc aSn m) (hg : τ g = 0) (i : Nat) (v : Value) : OwM τ (w.setCell ⟨g, i, none⟩ v) lo aL aLc aLn aP aPc aPn aD aDc aDn aN aNc aNn aS aSc aSn m :=
  h.keep fun t h1 _ => (KT.refl _ _ _ _).setCell (.inr (by show τ g ≠ t; omega))
/-- Deals that have turned, in place or not. -/
theorem OwM.redealt (h : OwM τ w lo aL aLc aLn aP aPc aPn aD aDc aDn aN aNc aNn aS aSc aSn m) {A : Option Addr} {c n : Nat} {ds : List Sw.Deal} (ho : OwD w' lo A c n ds) (hc : Ch (atA aD) w w') (hat : ∀ b, A = some b → aD = some b ∨ w.heap.size ≤ b.block) :
    OwM (glue τ w.heap.size (fun _ => 3)) w' lo aL aLc aLn aP aPc aPn A c n aN aNc aNn aS aSc aSn { m with deals := ds } := by
  have K : ∀ t, t ≠ 3 → KT (glue τ w.heap.size (fun _ => 3)) t lo w w' := fun t ht => KT.ch hc (KT.refl _ _ _ _) fun i ⟨a, ha, hi⟩ => .inr (by rw [hi, glue_tag (h.deals.tag a ha)]; exact Ne.symm ht)
  exact ⟨(h.log.glueL (Nat.le_refl _)).keep (K 1 (by decide)), (h.purses.glueL (Nat.le_refl _)).keep (K 2 (by decide)), OwT.full ho h.deals hat, (h.nums.glueL (Nat.le_refl _)).keep (K 4 (by decide)), (h.said.glueL (Nat.le_refl _)).keep (K 5 (by decide))⟩
theorem MS.glue_tag (h : MS g o n lo τ0 w0 aL aLc aLn aP aPc aPn aD aDc aDn aN aNc aNn aS aSc aSn m τ w) (t : Nat) : ∀ b, b < w0.heap.size → glue τ w.heap.size (fun _ => t) b = τ0 b := fun b hb =>
  (if_pos (by have := h.ch.size; omega)).trans (h.tag b hb)
theorem MS.glue_g (h : MS g o n lo τ0 w0 aL aLc aLn aP aPc aPn aD aDc aDn aN aNc aNn aS aSc aSn m τ w) (t : Nat) : glue τ w.heap.size (fun _ => t) g = 0 := (h.glue_tag t g h.glt).trans h.gz
theorem MS.lo_le (h : MS g o n lo τ0 w0 aL aLc aLn aP aPc aPn aD aDc aDn aN aNc aNn aS aSc aSn m τ w) : lo ≤ w.heap.size := Nat.le_trans h.llo h.ch.size
/-- Its deals turn, and are written down. -/
theorem MS.deals (h : MS g o n lo τ0 w0 aL aLc aLn aP aPc aPn aD aDc aDn aN aNc aNn aS aSc aSn m τ w) {A : Option Addr} {c k : Nat} {ds : List Sw.Deal} (ho : OwD w' lo A c k ds) (hc : Ch (atA aD) w w') (hat : ∀ b, A = some b → aD = some b ∨ w.heap.size ≤ b.block) :
    MS g o n lo τ0 w0 aL aLc aLn aP aPc aPn A c k aN aNc aNn aS aSc aSn { m with deals := ds } (glue τ w.heap.size (fun _ => 3)) (w'.setCell ⟨g, o + 2, none⟩ (.slice A k c)) := by
  have hS : ¬ atA aD g := fun ⟨a, ha, e⟩ => h.ne (h.ow.deals.tag a ha) (by decide) e.symm
  refine ⟨(h.at_.apart hc hS).setD A k c, (h.lb.chk hc hS).set, (h.ow.redealt ho hc hat).cell (h.glue_g 3) _ _, h.glue_tag 3, fun i hi => ?_, cS (h.ch.trans' hc fun i hi ⟨a, ha, e⟩ => ?_) (.inl (.inl rfl)) _, h.glt, h.gz, h.llo⟩
  · refine (World.cell?_setCell_other _ _ _ _ (cne (by omega))).trans ?_
    exact (hc.cell (p := ⟨g, i, none⟩) h.at_.lt hS).trans (h.out i hi)
  · subst e
    rcases h.may (h.ow.deals.ow.blk ha).1 (h.ow.deals.tag a ha) (by decide) (by decide) with h1 | h1
    · exact h1
    · omega
/-- An entry more. -/
theorem MS.log (h : MS g o n lo τ0 w0 aL aLc aLn aP aPc aPn aD aDc aDn aN aNc aNn aS aSc aSn m τ w) {A : Option Addr} {c k : Nat} {es : List Sw.Ent} (ho : OwE w' lo A c k es) (hc : Ch (atA aL) w w') (hat : ∀ b, A = some b → aL = some b ∨ w.heap.size ≤ b.block) :
    MS g o n lo τ0 w0 A c k aP aPc aPn aD aDc aDn aN aNc aNn aS aSc aSn { m with log := es } (glue τ w.heap.size (fun _ => 1)) (w'.setCell ⟨g, o, none⟩ (.slice A k c)) := by
  have hS : ¬ atA aL g := fun ⟨a, ha, e⟩ => h.ne (h.ow.log.tag a ha) (by decide) e.symm
  refine ⟨(h.at_.apart hc hS).setL A k c, (h.lb.chk hc hS).set, (h.ow.logged ho hc hat).cell (h.glue_g 1) _ _, h.glue_tag 1, fun i hi => ?_, cS (h.ch.trans' hc fun i hi ⟨a, ha, e⟩ => ?_) (.inl (.inl rfl)) _, h.glt, h.gz, h.llo⟩
  · refine (World.cell?_setCell_other _ _ _ _ (cne (by omega))).trans ?_
    exact (hc.cell (p := ⟨g, i, none⟩) h.at_.lt hS).trans (h.out i hi)
  · subst e
    rcases h.may (h.ow.log.ow.blk ha).1 (h.ow.log.tag a ha) (by decide) (by decide) with h1 | h1
    · exact h1
    · omega
/-- Other purses. -/
theorem MS.purses (h : MS g o n lo τ0 w0 aL aLc aLn aP aPc aPn aD aDc aDn aN aNc aNn aS aSc aSn m τ w) {A : Option Addr} {c k : Nat} {ps : List Int} (ho : OwI w' w.heap.size A c k ps) (hc : Ex w w') :
    MS g o n lo τ0 w0 aL aLc aLn A c k aD aDc aDn aN aNc aNn aS aSc aSn { m with purses := ps } (glue τ w.heap.size (fun _ => 2)) (w'.setCell ⟨g, o + 1, none⟩ (.slice A k c)) := by
  refine ⟨(h.at_.keep (kE hc (kR _ _))).setP A k c, (h.lb.ex hc).set, (h.ow.pursed ho (Nat.le_refl _) h.lo_le (kE hc (kR _ _))).cell (h.glue_g 2) _ _, h.glue_tag 2, fun i hi => ?_, cS (cE hc h.ch) (.inl (.inl rfl)) _, h.glt, h.gz, h.llo⟩
  refine (World.cell?_setCell_other _ _ _ _ (cne (by omega))).trans ?_
  exact (hc.cell (p := ⟨g, i, none⟩) h.at_.lt (fun h => h)).trans (h.out i hi)
theorem MS.zero (h : MS g o n lo τ0 w0 aL aLc aLn aP aPc aPn aD aDc aDn aN aNc aNn aS aSc aSn m τ w) (hb : Ex w w') : MS g o n lo τ0 w0 aL aLc aLn aP aPc aPn aD aDc aDn aN aNc aNn aS aSc aSn m (glue τ w.heap.size (fun _ => 0)) w' := by
  have h' := h.ex hb
  exact ⟨h'.at_, h'.lb, (h.ow.glueL (Nat.le_refl _)).keepF (kE hb (kR _ _)), h.glue_tag 0, h'.out, h'.ch, h.glt, h.gz, h.llo⟩
theorem MS.rebase (h : MS g o n lo τ0 w0 aL aLc aLn aP aPc aPn aD aDc aDn aN aNc aNn aS aSc aSn m τ w) : MS g o n lo τ w aL aLc aLn aP aPc aPn aD aDc aDn aN aNc aNn aS aSc aSn m τ w := ⟨h.at_, h.lb, h.ow, fun _ _ => rfl, fun _ _ => rfl, Ch.refl _ _, h.at_.lt, h.g0, h.lo_le⟩
theorem MS.trans {bL : Option Addr} {bLc bLn : Nat} {bP : Option Addr} {bPc bPn : Nat} {bD : Option Addr} {bDc bDn : Nat} {bN : Option Addr} {bNc bNn : Nat} {bS : Option Addr} {bSc bSn : Nat} {m' : Sw.Mkt} {τ' : Nat → Nat} (h : MS g o n lo τ0 w0 aL aLc aLn aP aPc aPn aD aDc aDn aN aNc aNn aS aSc aSn m τ w) (k : MS g o n lo τ w bL bLc bLn bP bPc bPn bD bDc bDn bN bNc bNn bS bSc bSn m' τ' w') : MS g o n lo τ0 w0 bL bLc bLn bP bPc bPn bD bDc bDn bN bNc bNn bS bSc bSn m' τ' w' := by
  have hz := h.ch.size
  refine ⟨k.at_, k.lb, k.ow, fun b hb => (k.tag b (by omega)).trans (h.tag b hb), fun i hi => (k.out i hi).trans (h.out i hi), h.ch.trans' k.ch fun i hi hs => ?_, h.glt, h.gz, h.llo⟩
  rcases hs with hs | ⟨h1, h2, h3⟩
  · exact .inl hs
  · exact .inr ⟨h1, by rw [← h.tag i hi]; exact h2, by rw [← h.tag i hi]; exact h3⟩
/-- A block that is none of the market's is as it was. -/
theorem MS.box {b : Nat} (h : MS g o n lo τ0 w0 aL aLc aLn aP aPc aPn aD aDc aDn aN aNc aNn aS aSc aSn m τ w) (hb : b < w0.heap.size) (hz : τ0 b = 0) (hne : b ≠ g) : (∀ i, w.cell? ⟨b, i, none⟩ = w0.cell? ⟨b, i, none⟩) ∧ (∀ i, w.frozen? ⟨b, i, none⟩ = w0.frozen? ⟨b, i, none⟩) := by
  have hS : ¬ SG g lo τ0 b := by
    rintro (h1 | ⟨_, h2, _⟩)
    · exact hne h1
    · omega
  exact ⟨fun i => h.ch.cell (p := ⟨b, i, none⟩) hb hS, fun i => h.ch.frozen (p := ⟨b, i, none⟩) hb hS⟩
theorem glue0 {τ : Nat → Nat} {k b : Nat} (h : k ≤ b) : glue τ k (fun _ => 0) b = 0 := if_neg (by omega)
end
end Go.Proofs.Ytimpagcanengoaa

namespace Go.Proofs.Ytimpagcanengoaa
set_option maxRecDepth 100000
set_option linter.unusedSimpArgs false
set_option linter.unusedVariables false
open Go.RowKit Go
set_option maxHeartbeats 2000000

theorem iAbout_c (gt : Nat) (t : Int) (d : Sw.Deal) (w : World) (hgt : w.cell? ⟨gt, 0, none⟩ = some (.int .i64 t)) : Calls Try.prog 90 #[.agg #[.int .i64 d.ticket, .int .i64 d.seller, .int .i64 d.price, .int .i64 d.buyer, .int .i64 d.due], .pointer (some ⟨gt, 0, none⟩)] w fun E w' => E = .returned (.bool (isAbout t d)) ∧ Ex w w' := by
  have hlt : gt < w.heap.size := by
    rcases Nat.lt_or_ge gt w.heap.size with h | h
    · exact h
    · simp [World.cell?, Array.getElem?_eq_none h] at hgt
  obtain ⟨p, q, r, s, u⟩ := d
  dsimp only
  go_enter Try.func90, Try.ntmps90
  go_wp2_with fail
  go_ret
  exact ⟨ret_b (by simp [isAbout, beqI]), ext_⟩
theorem iAboutAt_c (gt : Nat) (t : Int) (A : Option Addr) (c n : Nat) (xs : List Sw.Deal) (w : World) (hxs : RDl w 0 A c n xs) (hgt : w.cell? ⟨gt, 0, none⟩ = some (.int .i64 t)) (hlg : gt < w.heap.size) : Calls Try.prog 89 #[.slice A n c, .func (.func 90) #[] #[.pointer (some ⟨gt, 0, none⟩)]] w fun E w' => E = .returned (.int .i64 (hitAt (isAbout t) xs)) ∧ Ex w w' := by

  have hl := Lib.hid hxs.1
  have hbig := Rs.big hxs
  go_enter Try.func89, Try.ntmps89
  go_wp2_with fail
  go_loopw [8] (fun i wr => ∃ k : Nat, k ≤ n ∧ i = .int .i64 k ∧ Ex w wr ∧ ∀ j, j < k → ∀ z, xs[j]? = some z → isAbout t z = false) (fun i _ => n - (intOf i).toNat)
  case atStart => exact ⟨0, Nat.zero_le _, rfl, (by exact ext_), by omega⟩
  case round =>
    obtain ⟨k, hk, rfl, hb2, hrel⟩ := hrel
    have Hrel := Lib.hid hrel; clear hrel
    have hst := xr hb2
    (try simp only [zA, zC, zD, zN] at hst)
    obtain ⟨hc2, hf2, hz2⟩ := hst
    by_cases hlt : k < n
    · obtain ⟨g, off, y, rfl, hg0, hg, hd, hy, hca0, hca1, hca2, hca3, hca4⟩ := at_D hxs hlt
      have Hy := Lib.hid hy; clear hd hy
      cases hmx : isAbout t y
      case true =>
        go_wp2_with (go_at_call 90; apply Calls.mono; apply (iAbout_c (t := t)); (exact (hb2.cell (p := ⟨gt, 0, none⟩) hlg (fun h => h)).trans hgt); rintro E w1 ⟨rfl, hb⟩; have hst := xr hb; (try simp only [zA, zC, zD, zN] at hst); obtain ⟨hc, hf, hz⟩ := hst)
        go_ret
        exact ⟨ret_i (hitAt_here Hy.out Hrel.out hmx).symm, (by exact ext_)⟩
      case false =>
        go_wp2_with (go_at_call 90; apply Calls.mono; apply (iAbout_c (t := t)); (exact (hb2.cell (p := ⟨gt, 0, none⟩) hlg (fun h => h)).trans hgt); rintro E w1 ⟨rfl, hb⟩; have hst := xr hb; (try simp only [zA, zC, zD, zN] at hst); obtain ⟨hc, hf, hz⟩ := hst)
        go_roundw
        case rel => exact ⟨k + 1, by omega, by go_num, (by exact ext_), notHit_step Hy.out Hrel.out hmx⟩
        case measure => simp [intOf]; omega
    · go_wp2_with fail
      go_ret
      exact ⟨ret_i (hitAt_none (by have := hl.out; omega) Hrel.out).symm, (by exact ext_)⟩

theorem iDeal_c (aL : Option Addr) (aLc aLn : Nat) (aP : Option Addr) (aPc aPn : Nat) (aD : Option Addr) (aDc aDn : Nat) (aN : Option Addr) (aNc aNn : Nat) (aS : Option Addr) (aSc aSn : Nat) (m : Sw.Mkt) (t : Int) (w : World) (hD : RDl w 0 aD aDc aDn m.deals) : Calls Try.prog 68 #[.agg #[.slice aL aLn aLc, .slice aP aPn aPc, .slice aD aDn aDc, .int .i64 m.clock, .slice aN aNn aNc, .slice aS aSn aSc], .int .i64 t] w fun E w' => E = .returned (.int .i64 (Sw.dealIx m.deals t)) ∧ Ex w w' := by
  have He := Lib.hid (dealIx_hit m.deals t)
  go_enter Try.func68, Try.ntmps68
  go_wp2_with fail
  (go_at_call 89)
  (apply Calls.mono; apply (iAboutAt_c (t := t)); (apply Rs.at0 hD; (exact kf_)); (simp [go_sem]); exact sz_; rintro E w1 ⟨rfl, hb⟩; have hst := xr hb; (try simp only [zA, zC, zD, zN] at hst); obtain ⟨hc, hf, hz⟩ := hst)
  go_wp2
  go_ret
  exact ⟨ret_i He.out.symm, ext_⟩
theorem iRows_c (aL : Option Addr) (aLc aLn : Nat) (aP : Option Addr) (aPc aPn : Nat) (aD : Option Addr) (aDc aDn : Nat) (aN : Option Addr) (aNc aNn : Nat) (aS : Option Addr) (aSc aSn : Nat) (m : Sw.Mkt) (w : World) (hL : RE w 0 aL aLc aLn m.log) : Calls Try.prog 32 #[.agg #[.slice aL aLn aLc, .slice aP aPn aPc, .slice aD aDn aDc, .int .i64 m.clock, .slice aN aNn aNc, .slice aS aSn aSc]] w fun E w' => ∃ A' c' n', E = .returned (.slice A' n' c') ∧ OwR w' w.heap.size A' c' n' (Sw.mktRows m) ∧ Ex w w' := by
  go_enter Try.func32, Try.ntmps32
  go_wp2_with (go_at_call 27; apply Calls.mono; apply iOwnFold_c; ((first | (apply Rs.at0; assumption) | (apply Ow.rs0; assumption) | (apply OwT.rs0; assumption)); exact kf_); rintro E w1 ⟨A', c', n', rfl, ho, hb⟩; have hst := xr hb; (try simp only [zA, zC, zD, zN] at hst); obtain ⟨hc, hf, hz⟩ := hst)
  go_ret
  exact ⟨_, _, _, rfl, (ho.keep (by (exact kf_))).less (by exact sz_), ext_⟩
theorem iDealOfY_c (aL : Option Addr) (aLc aLn : Nat) (aP : Option Addr) (aPc aPn : Nat) (aD : Option Addr) (aDc aDn : Nat) (aN : Option Addr) (aNc aNn : Nat) (aS : Option Addr) (aSc aSn : Nat) (m : Sw.Mkt) (t : Int) (k : Nat) (d : Sw.Deal) (w : World) (hD : RDl w 0 aD aDc aDn m.deals) (ht : Sw.dealIx m.deals t = k) (hd : m.deals[k]? = some d) : Calls Try.prog 36 #[.agg #[.slice aL aLn aLc, .slice aP aPn aPc, .slice aD aDn aDc, .int .i64 m.clock, .slice aN aNn aNc, .slice aS aSn aSc], .int .i64 t] w fun E w' => E = .returned (.tuple #[.agg #[.int .i64 d.ticket, .int .i64 d.seller, .int .i64 d.price, .int .i64 d.buyer, .int .i64 d.due], .bool true]) ∧ Ex w w' := by
  have hlt : k < aDn := by rw [hD.1]; exact (List.getElem?_eq_some_iff.1 hd).1
  obtain ⟨g, off, y, rfl, hg0, hg, hd', hy, hc0, hc1, hc2, hc3, hc4⟩ := at_D hD hlt
  obtain rfl : y = d := Option.some.inj (hy.symm.trans hd)
  have HT := Lib.hid ht
  clear hd hd' hy ht
  go_enter Try.func36, Try.ntmps36
  go_wp2_with (go_at_call 68; apply Calls.mono; apply iDeal_c; (apply Rs.at0 hD; (exact kf_)); rintro E w1 ⟨rfl, hb⟩; rw [HT.out]; have hst := xr hb; (try simp only [zA, zC, zD, zN] at hst); obtain ⟨hc, hf, hz⟩ := hst)
  refine bodyPost_ret (v := .tuple #[.agg #[.int .i64 y.ticket, .int .i64 y.seller, .int .i64 y.price, .int .i64 y.buyer, .int .i64 y.due], .bool true]) (by simp [results, Try.results36, go_sem, *]) rfl ?_
  exact ⟨rfl, ext_⟩
theorem iDealOfN_c (aL : Option Addr) (aLc aLn : Nat) (aP : Option Addr) (aPc aPn : Nat) (aD : Option Addr) (aDc aDn : Nat) (aN : Option Addr) (aNc aNn : Nat) (aS : Option Addr) (aSc aSn : Nat) (m : Sw.Mkt) (t : Int) (w : World) (hD : RDl w 0 aD aDc aDn m.deals) (ht : Sw.dealIx m.deals t = -1) : Calls Try.prog 36 #[.agg #[.slice aL aLn aLc, .slice aP aPn aPc, .slice aD aDn aDc, .int .i64 m.clock, .slice aN aNn aNc, .slice aS aSn aSc], .int .i64 t] w fun E w' => E = .returned (.tuple #[.agg #[.int .i64 0, .int .i64 0, .int .i64 0, .int .i64 0, .int .i64 0], .bool false]) ∧ Ex w w' := by
  have HT := Lib.hid ht
  clear ht
  go_enter Try.func36, Try.ntmps36
  go_wp2_with (go_at_call 68; apply Calls.mono; apply iDeal_c; (apply Rs.at0 hD; (exact kf_)); rintro E w1 ⟨rfl, hb⟩; rw [HT.out]; have hst := xr hb; (try simp only [zA, zC, zD, zN] at hst); obtain ⟨hc, hf, hz⟩ := hst)
  refine bodyPost_ret (v := .tuple #[.agg #[.int .i64 0, .int .i64 0, .int .i64 0, .int .i64 0, .int .i64 0], .bool false]) (by simp [results, Try.results36, go_sem, *]) rfl ?_
  exact ⟨rfl, ext_⟩
end Go.Proofs.Ytimpagcanengoaa

namespace Go.Proofs.Ytimpagcanengoaa
set_option maxRecDepth 100000
set_option linter.unusedSimpArgs false
set_option linter.unusedVariables false
open Go.RowKit Go
set_option maxHeartbeats 4000000

theorem lit1E {W : World} {gl : Nat} (p q r s : Int) (h : gl = W.heap.size) : RE (W.alloc (.cells #[.int .i64 p, .int .i64 q, .int .i64 r, .int .i64 s] 60)).drew 0 (some ⟨gl, 0, none⟩) 1 1 [⟨p, q, r, s⟩] :=
  Rs.keep (Rs.new (enc := Sw.Ent.enc) (sz := 4) [⟨p, q, r, s⟩] h rfl rfl (fun _ => rfl) (by decide)) (kD (kR _ _))
section
variable {g o n lo : Nat} {τ0 τ : Nat → Nat} {w0 w : World} {aL : Option Addr} {aLc aLn : Nat} {aP : Option Addr} {aPc aPn : Nat} {aD : Option Addr} {aDc aDn : Nat} {aN : Option Addr} {aNc aNn : Nat} {aS : Option Addr} {aSc aSn : Nat} {m : Sw.Mkt}
/-- A deal is taken out. -/
theorem iDropAt_c (hS : MS g o n lo τ0 w0 aL aLc aLn aP aPc aPn aD aDc aDn aN aNc aNn aS aSc aSn m τ w) {k : Nat} (hk : k < aDn) : Calls Try.prog 94 #[.pointer (some ⟨g, o, none⟩), .int .i64 k] w fun E w' =>
    ∃ τ', E = .returned (.tuple #[]) ∧ MS g o n lo τ0 w0 aL aLc aLn aP aPc aPn aD aDc (aDn - 1) aN aNc aNn aS aSc aSn { m with deals := m.deals.eraseIdx k } τ' w' := by
  obtain ⟨gD, x, rfl, hgD0, hgD, hx, d0, d1, d2, d3, d4, hfD⟩ := at_OD hS.ow.deals.ow hk
  have hcb := hS.ow.deals.ow.rs.2.cap
  have hle := hS.ow.deals.ow.rs.2.le
  unfold maxLen at hcb
  obtain ⟨k0, k1, k2, k3, k4, k5, k6, kf⟩ := hS.at_
  have wk : IntKind.i64.wrap ((k : Int) + 1) = (k : Int) + 1 := IntWalk.i64_in _ (by omega)
  have HS := Lib.hid hS
  have hne := hS.ne (hS.ow.deals.tag _ rfl) (by decide)
  clear hx d0 d1 d2 d3 d4 hfD hS
  go_enter Try.func94, Try.ntmps94
  go_wp2_with (go_at_call 113; apply Calls.mono; apply (iDelete_c (lo := lo)); (exact HS.out.ow.deals.ow); exact hk; rintro E w1 ⟨rfl, hoD, hb⟩; have hst := xc hb; (try simp only [zA, zC, zD, zN] at hst); obtain ⟨hc, hf, hz⟩ := hst)
  refine bodyPost_end (v := .tuple #[]) (by simp [results, Try.results94, go_sem]) rfl ⟨_, rfl, HS.out.deals hoD ?_ (fun b hb => .inl hb)⟩
  exact Ch.mono hb fun i _ hi => ⟨_, rfl, hi⟩
/-- An entry is written down, if there is room. -/
theorem iAppendN_c (hS : MS g o n lo τ0 w0 aL aLc aLn aP aPc aPn aD aDc aDn aN aNc aNn aS aSc aSn m τ w) (p q r s : Int) (h40 : aLn = 40) : Calls Try.prog 97 #[.pointer (some ⟨g, o, none⟩), .agg #[.int .i64 p, .int .i64 q, .int .i64 r, .int .i64 s]] w fun E w' => E = .returned (.int .i64 6) ∧ Ex w w' := by
  obtain ⟨k0, k1, k2, k3, k4, k5, k6, kf⟩ := hS.at_
  clear hS
  subst h40
  go_enter Try.func97, Try.ntmps97
  go_wp2_with fail
  go_ret
  exact ⟨rfl, ext_⟩
theorem iAppend_c (hS : MS g o n lo τ0 w0 aL aLc aLn aP aPc aPn aD aDc aDn aN aNc aNn aS aSc aSn m τ w) (p q r s : Int) (h40 : aLn < 40) : Calls Try.prog 97 #[.pointer (some ⟨g, o, none⟩), .agg #[.int .i64 p, .int .i64 q, .int .i64 r, .int .i64 s]] w fun E w' =>
    ∃ A c τ', E = .returned (.int .i64 1) ∧ MS g o n lo τ0 w0 A c (aLn + 1) aP aPc aPn aD aDc aDn aN aNc aNn aS aSc aSn { m with log := m.log ++ [⟨p, q, r, s⟩] } τ' w' := by
  obtain ⟨k0, k1, k2, k3, k4, k5, k6, kf⟩ := hS.at_
  have HS := Lib.hid hS
  have hlo := hS.lo_le
  have h41 : ((aLn : Int) == 40) = false := by simp; omega
  have hSg : ¬ atA aL g := fun ⟨a, ha, e⟩ => hS.ne (hS.ow.log.tag a ha) (by decide) e.symm
  have HG := Lib.hid hSg
  clear hS hSg
  go_enter Try.func97, Try.ntmps97
  go_wp2_with fail
  go_region_law (refine step_app (lo := lo) (A := aL) (B := some ⟨w.heap.size + 1, 0, none⟩) (n := aLn) (m := 1) (d := 1) (xs := m.log) (ys := [⟨p, q, r, s⟩]) el_E one_E rfl rfl (by simp [Act.eval, Act.put]; done) (by simp [Act.eval, Act.put]; done) (HS.out.ow.log.ow.keep (by (exact kf_))) (lit1E p q r s (by simp only [zA])) (by omega) (by exact sz_) (fun A1 c1 w2 ho1 hch1 hat1 hex1 hlow1 => ?_); have hk1 := (hch1.cell (p := ⟨g, o, none⟩) (by simp only [zA, zD]; omega) HG.out); have hk2 := (hch1.frozen (p := ⟨g, o, none⟩) (by simp only [zA, zD]; omega) HG.out))
  all_goals
    clear hk1 hk2 hex1 hlow1
    go_wp2
    go_ret
    exact ⟨A1, c1, _, rfl, MS.log (HS.out.ex ext_) ho1 hch1 hat1⟩
theorem iIssue_c (hS : MS g o n lo τ0 w0 aL aLc aLn aP aPc aPn aD aDc aDn aN aNc aNn aS aSc aSn m τ w) (ru rn : Int) (t : Nat) (rh rp : Int) (row : Sw.Row) (hl : m.log.length ≤ 40) (hpn : aPn ≤ 4194304) : Calls Try.prog 92 #[.pointer (some ⟨g, o, none⟩), .agg #[.int .i64 ru, .int .i64 rn, .int .i64 1, .int .i64 t, .int .i64 rh, .int .i64 rp], .agg #[.int .i64 row.who, .int .i64 row.face, .bool row.used]] w fun E w' =>
    ∃ (bL : Option Addr) (bLc bLn : Nat) (bP : Option Addr) (bPc bPn : Nat) (bD : Option Addr) (bDc bDn : Nat) (bN : Option Addr) (bNc bNn : Nat) (bS : Option Addr) (bSc bSn : Nat) (τ' : Nat → Nat), E = .returned (.int .i64 (Sw.issue m ⟨ru, rn, 1, t, rh, rp⟩ row).2) ∧ MS g o n lo τ0 w0 bL bLc bLn bP bPc bPn bD bDc bDn bN bNc bNn bS bSc bSn (Sw.issue m ⟨ru, rn, 1, t, rh, rp⟩ row).1 τ' w' := by
  obtain ⟨f1, f2, f3⟩ := row
  obtain ⟨k0, k1, k2, k3, k4, k5, k6, kf⟩ := hS.at_
  have HS := Lib.hid hS
  have hP := hS.ow.purses
  have l1 := hS.ow.log.ow.1
  dsimp only
  by_cases h1 : ru ≠ 1 ∨ rh = 1
  · have e : Sw.issue m ⟨ru, rn, 1, t, rh, rp⟩ ⟨f1, f2, f3⟩ = (m, 2) := by unfold Sw.issue; rw [if_pos h1]
    rw [e]
    clear e hS hP l1
    by_cases h2 : ru = 1
    · subst h2
      have h3 : rh = 1 := by rcases h1 with h | h; exact absurd rfl h; exact h
      subst h3
      clear h1
      go_enter Try.func92, Try.ntmps92
      go_wp2_with fail
      go_ret
      exact ⟨_, _, _, _, _, _, _, _, _, _, _, _, _, _, _, τ, rfl, HS.out.ex ext_⟩
    · have g2 : (ru != 1) = true := by simpa using h2
      clear h1
      go_enter Try.func92, Try.ntmps92
      go_wp2_with fail
      go_ret
      exact ⟨_, _, _, _, _, _, _, _, _, _, _, _, _, _, _, τ, rfl, HS.out.ex ext_⟩
  have h1' : ru = 1 ∧ rh ≠ 1 := ⟨Classical.byContradiction fun h => h1 (.inl h), fun h => h1 (.inr h)⟩
  obtain ⟨rfl, hrh⟩ := h1'
  have g2 : (rh == 1) = false := by simpa using hrh
  clear h1
  by_cases h3 : f1 = 0
  case neg =>
    have e : Sw.issue m ⟨1, rn, 1, t, rh, rp⟩ ⟨f1, f2, f3⟩ = (m, 3) := by unfold Sw.issue; rw [if_neg (by simp [hrh]), if_pos h3]
    rw [e]
    have g3 : (f1 != 0) = true := by simpa using h3
    clear e hS hP l1
    go_enter Try.func92, Try.ntmps92
    go_wp2_with fail
    go_ret
    exact ⟨_, _, _, _, _, _, _, _, _, _, _, _, _, _, _, τ, rfl, HS.out.ex ext_⟩
  subst h3
  by_cases h4 : m.log.length = 40
  · have e : Sw.issue m ⟨1, rn, 1, t, rh, rp⟩ ⟨0, f2, f3⟩ = (m, 6) := by unfold Sw.issue; rw [if_neg (by simp [hrh]), if_neg (by simp), if_pos h4]
    rw [e]
    have g4 : ((aLn : Int) == 40) = true := by simp; omega
    clear e hS hP l1
    go_enter Try.func92, Try.ntmps92
    go_wp2_with fail
    go_ret
    exact ⟨_, _, _, _, _, _, _, _, _, _, _, _, _, _, _, τ, rfl, HS.out.ex ext_⟩
  have g4 : ((aLn : Int) == 40) = false := by simp; omega
  have hp5 := hP.ow.rs
  have l2 := hP.ow.1
  have hn40 : aLn < 40 := by omega
  cases h5 : Sw.moveMay m.purses rh 1 rp
  case false =>
    have e : Sw.issue m ⟨1, rn, 1, t, rh, rp⟩ ⟨0, f2, f3⟩ = (m, 5) := by unfold Sw.issue; rw [if_neg (by simp [hrh]), if_neg (by simp), if_neg h4, if_neg (by simp [h5])]
    rw [e]
    clear e hS l1 l2 h4
    go_enter Try.func92, Try.ntmps92
    go_wp2_with fail
    (refine wp_name ?_; intro W0 hb0; have hst := xr hb0; (try simp only [zA, zC, zD, zN] at hst); obtain ⟨hc0, hf0, hz0⟩ := hst; refine wp_region_held_drew (S := fun w' => Held W0 w') (by kernel_rfl) ?_ (fun hHeld => ?_); (focus ((try dsimp only); (first | with_reducible assumption | with_reducible exact Held.start _ | with_reducible exact Held.of (by assumption) | with_reducible exact Held.ex (by assumption) (by assumption) | ((repeat (first | with_reducible refine Held.set ?_ (by simp only [zA, zC, zD, zN]; omega) | with_reducible refine Held.alloc ?_ _ | with_reducible refine Held.drew ?_)); (first | with_reducible assumption | with_reducible exact Held.refl _ | with_reducible exact Held.of (by assumption) | with_reducible exact Held.ex (by assumption) (by assumption))) | exact Held.of (by exact ext_)))); refine regT 0 30 (v := ?_) rfl rfl (by kernel_rfl) (by kernel_rfl) (by kernel_rfl) (fun _ _ _ h => h) (by rfl) ?_ (by assumption) ?_; rotate_left; (focus (intro w hSw; (try dsimp only at hSw); go_simp; (try with_reducible rfl))); (try simp only [Act.put, List.setIfInBounds_toArray, List.set_cons_zero, List.set_cons_succ]); refine regT 1 31 (v := ?_) rfl rfl (by kernel_rfl) (by kernel_rfl) (by kernel_rfl) (fun _ _ _ h => h) (by rfl) ?_ (by assumption) ?_; rotate_left; (focus (intro w hSw; (try dsimp only at hSw); go_simp; (try with_reducible rfl))); (try simp only [Act.put, List.setIfInBounds_toArray, List.set_cons_zero, List.set_cons_succ]); refine regT 2 32 (v := ?_) rfl rfl (by kernel_rfl) (by kernel_rfl) (by kernel_rfl) (fun _ _ _ h => h) (by rfl) ?_ (by assumption) ?_; rotate_left; (focus (intro w hSw; (try dsimp only at hSw); go_simp; (try with_reducible rfl))); (try simp only [Act.put, List.setIfInBounds_toArray, List.set_cons_zero, List.set_cons_succ]); refine regT 3 33 (v := ?_) rfl rfl (by kernel_rfl) (by kernel_rfl) (by kernel_rfl) (fun _ _ _ h => h) (by rfl) ?_ (by assumption) ?_; rotate_left; (focus (intro w hSw; (try dsimp only at hSw); go_simp; (try with_reducible rfl))); (try simp only [Act.put, List.setIfInBounds_toArray, List.set_cons_zero, List.set_cons_succ]); refine regT 4 34 (v := ?_) rfl rfl (by kernel_rfl) (by kernel_rfl) (by kernel_rfl) (fun _ _ _ h => h) (by rfl) ?_ (by assumption) ?_; rotate_left; (focus (intro w hSw; (try dsimp only at hSw); go_simp; (try with_reducible rfl))); (try simp only [Act.put, List.setIfInBounds_toArray, List.set_cons_zero, List.set_cons_succ]); refine regT 5 35 (v := ?_) rfl rfl (by kernel_rfl) (by kernel_rfl) (by kernel_rfl) (fun _ _ _ h => h) (by rfl) ?_ (by assumption) ?_; rotate_left; (focus (intro w hSw; (try dsimp only at hSw); go_simp; (try with_reducible rfl))); (try simp only [Act.put, List.setIfInBounds_toArray, List.set_cons_zero, List.set_cons_succ]); refine regT 6 36 (v := ?_) rfl rfl (by kernel_rfl) (by kernel_rfl) (by kernel_rfl) (fun _ _ _ h => h) (by rfl) ?_ (by assumption) ?_; rotate_left; (focus (intro w hSw; (try dsimp only at hSw); go_simp; (try with_reducible rfl))); (try simp only [Act.put, List.setIfInBounds_toArray, List.set_cons_zero, List.set_cons_succ]); refine regT 7 37 (v := ?_) rfl rfl (by kernel_rfl) (by kernel_rfl) (by kernel_rfl) (fun _ _ _ h => h) (by rfl) ?_ (by assumption) ?_; rotate_left; (focus (intro w hSw; (try dsimp only at hSw); go_simp; (try with_reducible rfl))); (try simp only [Act.put, List.setIfInBounds_toArray, List.set_cons_zero, List.set_cons_succ]); refine wpAnyH_ready (rs := [8]) (by kernel_rfl) (by simp) ?_; refine AllReadyH.cons rfl (fun K hK => ?_) ?_; rotate_left; (focus exact AllReadyH.nil); go_simp; (go_at_call 110; apply Calls.mono; apply iMonMove_c; (apply Rs.at0 hp5; (exact kf_)); omega; rintro E w1 ⟨A1, c1, rfl, hoP, hbM⟩; have hb := hbM; rw [h5]; have hst := xr hb; (try simp only [zA, zC, zD, zN] at hst); obtain ⟨hc, hf, hz⟩ := hst); (try go_wp2_with fail); refine hK.out _ _ ?_ (fun hHeld => ?_); (focus ((try dsimp only); (first | with_reducible assumption | with_reducible exact Held.start _ | with_reducible exact Held.of (by assumption) | with_reducible exact Held.ex (by assumption) (by assumption) | ((repeat (first | with_reducible refine Held.set ?_ (by simp only [zA, zC, zD, zN]; omega) | with_reducible refine Held.alloc ?_ _ | with_reducible refine Held.drew ?_)); (first | with_reducible assumption | with_reducible exact Held.refl _ | with_reducible exact Held.of (by assumption) | with_reducible exact Held.ex (by assumption) (by assumption))) | exact Held.of (by exact ext_)))); clear hK K; (try simp only [Act.put, List.setIfInBounds_toArray, List.set_cons_zero, List.set_cons_succ]); refine regT 9 29 (v := ?_) rfl rfl (by kernel_rfl) (by kernel_rfl) (by kernel_rfl) (fun _ _ _ h => h) (by rfl) ?_ (by assumption) ?_; rotate_left; (focus (intro w hSw; (try dsimp only at hSw); go_simp; (try with_reducible rfl))); (try simp only [Act.put, List.setIfInBounds_toArray, List.set_cons_zero, List.set_cons_succ]); refine regT 10 39 (v := ?_) rfl rfl (by kernel_rfl) (by kernel_rfl) (by kernel_rfl) (fun _ _ _ h => h) (by rfl) ?_ (by assumption) ?_; rotate_left; (focus (intro w hSw; (try dsimp only at hSw); go_simp; (try with_reducible rfl))); (try simp only [Act.put, List.setIfInBounds_toArray, List.set_cons_zero, List.set_cons_succ]); refine regT 11 40 (v := ?_) rfl rfl (by kernel_rfl) (by kernel_rfl) (by kernel_rfl) (fun _ _ _ h => h) (by rfl) ?_ (by assumption) ?_; rotate_left; (focus (intro w hSw; (try dsimp only at hSw); go_simp; (try with_reducible rfl))); (try simp only [Act.put, List.setIfInBounds_toArray, List.set_cons_zero, List.set_cons_succ]); refine regT 12 7 (v := ?_) rfl rfl (by kernel_rfl) (by kernel_rfl) (by kernel_rfl) (fun _ _ _ h => h) (by rfl) ?_ (by assumption) ?_; rotate_left; (focus (intro w hSw; (try dsimp only at hSw); go_simp; (try with_reducible rfl))); (try simp only [Act.put, List.setIfInBounds_toArray, List.set_cons_zero, List.set_cons_succ]); refine regT 13 8 (v := ?_) rfl rfl (by kernel_rfl) (by kernel_rfl) (by kernel_rfl) (fun _ _ _ h => h) (by rfl) ?_ (by assumption) ?_; rotate_left; (focus (intro w hSw; (try dsimp only at hSw); go_simp; (try with_reducible rfl))); (try simp only [Act.put, List.setIfInBounds_toArray, List.set_cons_zero, List.set_cons_succ]); refine wpAnyH_done (by kernel_rfl) ?_ _; all_goals (have hb := And.right (by assumption : Held W0 _); have hst := xr hb; (try simp only [zA, zC, zD, zN] at hst); obtain ⟨hc, hf, hz⟩ := hst))
    all_goals go_wp2
    all_goals go_ret
    all_goals exact ⟨_, _, _, _, _, _, _, _, _, _, _, _, _, _, _, τ, rfl, HS.out.ex ext_⟩
  have e : Sw.issue m ⟨1, rn, 1, t, rh, rp⟩ ⟨0, f2, f3⟩ = ({ m with purses := Sw.turned (Sw.turned m.purses rh (-rp)) 1 rp, log := m.log ++ [⟨1, t, rh, rp⟩] }, 1) := by unfold Sw.issue; rw [if_neg (by simp [hrh]), if_neg (by simp), if_neg h4, if_pos h5]
  rw [e]
  have HM := Lib.hid (show Sw.monMove m.purses rh 1 rp = Sw.turned (Sw.turned m.purses rh (-rp)) 1 rp from by unfold Sw.monMove; rw [if_pos h5])
  clear e hS l1 l2 h4
  go_enter Try.func92, Try.ntmps92
  go_wp2_with fail
  (refine wp_name ?_; intro W0 hb0; have hst := xr hb0; (try simp only [zA, zC, zD, zN] at hst); obtain ⟨hc0, hf0, hz0⟩ := hst; refine wp_region_held_drew (S := fun w' => Held W0 w') (by kernel_rfl) ?_ (fun hHeld => ?_); (focus ((try dsimp only); (first | with_reducible assumption | with_reducible exact Held.start _ | with_reducible exact Held.of (by assumption) | with_reducible exact Held.ex (by assumption) (by assumption) | ((repeat (first | with_reducible refine Held.set ?_ (by simp only [zA, zC, zD, zN]; omega) | with_reducible refine Held.alloc ?_ _ | with_reducible refine Held.drew ?_)); (first | with_reducible assumption | with_reducible exact Held.refl _ | with_reducible exact Held.of (by assumption) | with_reducible exact Held.ex (by assumption) (by assumption))) | exact Held.of (by exact ext_)))); refine regT 0 30 (v := ?_) rfl rfl (by kernel_rfl) (by kernel_rfl) (by kernel_rfl) (fun _ _ _ h => h) (by rfl) ?_ (by assumption) ?_; rotate_left; (focus (intro w hSw; (try dsimp only at hSw); go_simp; (try with_reducible rfl))); (try simp only [Act.put, List.setIfInBounds_toArray, List.set_cons_zero, List.set_cons_succ]); refine regT 1 31 (v := ?_) rfl rfl (by kernel_rfl) (by kernel_rfl) (by kernel_rfl) (fun _ _ _ h => h) (by rfl) ?_ (by assumption) ?_; rotate_left; (focus (intro w hSw; (try dsimp only at hSw); go_simp; (try with_reducible rfl))); (try simp only [Act.put, List.setIfInBounds_toArray, List.set_cons_zero, List.set_cons_succ]); refine regT 2 32 (v := ?_) rfl rfl (by kernel_rfl) (by kernel_rfl) (by kernel_rfl) (fun _ _ _ h => h) (by rfl) ?_ (by assumption) ?_; rotate_left; (focus (intro w hSw; (try dsimp only at hSw); go_simp; (try with_reducible rfl))); (try simp only [Act.put, List.setIfInBounds_toArray, List.set_cons_zero, List.set_cons_succ]); refine regT 3 33 (v := ?_) rfl rfl (by kernel_rfl) (by kernel_rfl) (by kernel_rfl) (fun _ _ _ h => h) (by rfl) ?_ (by assumption) ?_; rotate_left; (focus (intro w hSw; (try dsimp only at hSw); go_simp; (try with_reducible rfl))); (try simp only [Act.put, List.setIfInBounds_toArray, List.set_cons_zero, List.set_cons_succ]); refine regT 4 34 (v := ?_) rfl rfl (by kernel_rfl) (by kernel_rfl) (by kernel_rfl) (fun _ _ _ h => h) (by rfl) ?_ (by assumption) ?_; rotate_left; (focus (intro w hSw; (try dsimp only at hSw); go_simp; (try with_reducible rfl))); (try simp only [Act.put, List.setIfInBounds_toArray, List.set_cons_zero, List.set_cons_succ]); refine regT 5 35 (v := ?_) rfl rfl (by kernel_rfl) (by kernel_rfl) (by kernel_rfl) (fun _ _ _ h => h) (by rfl) ?_ (by assumption) ?_; rotate_left; (focus (intro w hSw; (try dsimp only at hSw); go_simp; (try with_reducible rfl))); (try simp only [Act.put, List.setIfInBounds_toArray, List.set_cons_zero, List.set_cons_succ]); refine regT 6 36 (v := ?_) rfl rfl (by kernel_rfl) (by kernel_rfl) (by kernel_rfl) (fun _ _ _ h => h) (by rfl) ?_ (by assumption) ?_; rotate_left; (focus (intro w hSw; (try dsimp only at hSw); go_simp; (try with_reducible rfl))); (try simp only [Act.put, List.setIfInBounds_toArray, List.set_cons_zero, List.set_cons_succ]); refine regT 7 37 (v := ?_) rfl rfl (by kernel_rfl) (by kernel_rfl) (by kernel_rfl) (fun _ _ _ h => h) (by rfl) ?_ (by assumption) ?_; rotate_left; (focus (intro w hSw; (try dsimp only at hSw); go_simp; (try with_reducible rfl))); (try simp only [Act.put, List.setIfInBounds_toArray, List.set_cons_zero, List.set_cons_succ]); refine wpAnyH_ready (rs := [8]) (by kernel_rfl) (by simp) ?_; refine AllReadyH.cons rfl (fun K hK => ?_) ?_; rotate_left; (focus exact AllReadyH.nil); go_simp; (go_at_call 110; apply Calls.mono; apply iMonMove_c; (apply Rs.at0 hp5; (exact kf_)); omega; rintro E w1 ⟨A1, c1, rfl, hoP, hbM⟩; have hb := hbM; rw [h5]; have hst := xr hb; (try simp only [zA, zC, zD, zN] at hst); obtain ⟨hc, hf, hz⟩ := hst); (try go_wp2_with fail); refine hK.out _ _ ?_ (fun hHeld => ?_); (focus ((try dsimp only); (first | with_reducible assumption | with_reducible exact Held.start _ | with_reducible exact Held.of (by assumption) | with_reducible exact Held.ex (by assumption) (by assumption) | ((repeat (first | with_reducible refine Held.set ?_ (by simp only [zA, zC, zD, zN]; omega) | with_reducible refine Held.alloc ?_ _ | with_reducible refine Held.drew ?_)); (first | with_reducible assumption | with_reducible exact Held.refl _ | with_reducible exact Held.of (by assumption) | with_reducible exact Held.ex (by assumption) (by assumption))) | exact Held.of (by exact ext_)))); clear hK K; (try simp only [Act.put, List.setIfInBounds_toArray, List.set_cons_zero, List.set_cons_succ]); refine regT 9 29 (v := ?_) rfl rfl (by kernel_rfl) (by kernel_rfl) (by kernel_rfl) (fun _ _ _ h => h) (by rfl) ?_ (by assumption) ?_; rotate_left; (focus (intro w hSw; (try dsimp only at hSw); go_simp; (try with_reducible rfl))); (try simp only [Act.put, List.setIfInBounds_toArray, List.set_cons_zero, List.set_cons_succ]); refine regT 10 39 (v := ?_) rfl rfl (by kernel_rfl) (by kernel_rfl) (by kernel_rfl) (fun _ _ _ h => h) (by rfl) ?_ (by assumption) ?_; rotate_left; (focus (intro w hSw; (try dsimp only at hSw); go_simp; (try with_reducible rfl))); (try simp only [Act.put, List.setIfInBounds_toArray, List.set_cons_zero, List.set_cons_succ]); refine regT 11 40 (v := ?_) rfl rfl (by kernel_rfl) (by kernel_rfl) (by kernel_rfl) (fun _ _ _ h => h) (by rfl) ?_ (by assumption) ?_; rotate_left; (focus (intro w hSw; (try dsimp only at hSw); go_simp; (try with_reducible rfl))); (try simp only [Act.put, List.setIfInBounds_toArray, List.set_cons_zero, List.set_cons_succ]); refine regT 12 7 (v := ?_) rfl rfl (by kernel_rfl) (by kernel_rfl) (by kernel_rfl) (fun _ _ _ h => h) (by rfl) ?_ (by assumption) ?_; rotate_left; (focus (intro w hSw; (try dsimp only at hSw); go_simp; (try with_reducible rfl))); (try simp only [Act.put, List.setIfInBounds_toArray, List.set_cons_zero, List.set_cons_succ]); refine regT 13 8 (v := ?_) rfl rfl (by kernel_rfl) (by kernel_rfl) (by kernel_rfl) (fun _ _ _ h => h) (by rfl) ?_ (by assumption) ?_; rotate_left; (focus (intro w hSw; (try dsimp only at hSw); go_simp; (try with_reducible rfl))); (try simp only [Act.put, List.setIfInBounds_toArray, List.set_cons_zero, List.set_cons_succ]); refine wpAnyH_done (by kernel_rfl) ?_ _; all_goals (have hb := And.right (by assumption : Held W0 _); have hst := xr hb; (try simp only [zA, zC, zD, zN] at hst); obtain ⟨hc, hf, hz⟩ := hst))
  all_goals go_wp2_with fail
  rw [HM.out] at hoP
  have m1 := MS.purses (w := W0.drew) (HS.out.ex ext_) hoP hbM
  apply Calls.mono
  apply (iAppend_c m1 1 t rh rp hn40)
  rintro E w3 ⟨A3, c3, τ3, rfl, hm3⟩
  go_wp2
  go_ret
  exact ⟨_, _, _, _, _, _, _, _, _, _, _, _, _, _, _, τ3, rfl, hm3⟩
end
end Go.Proofs.Ytimpagcanengoaa

namespace Go.Proofs.Ytimpagcanengoaa
set_option maxRecDepth 100000
set_option linter.unusedSimpArgs false
set_option linter.unusedVariables false
open Go.RowKit Go
set_option maxHeartbeats 4000000

section
variable {g o n lo : Nat} {τ0 τ : Nat → Nat} {w0 w : World} {aL aP aN aS : Option Addr} {aLc aLn aPc aPn aDc aDn aNc aNn aSc aSn gD k : Nat} {m : Sw.Mkt}
/-- A price is put down: one deal turns in place. -/
theorem MS.funded (h : MS g o n lo τ0 w0 aL aLc aLn aP aPc aPn (some ⟨gD, 0, none⟩) aDc aDn aN aNc aNn aS aSc aSn m τ w) {y : Sw.Deal} (hx : m.deals[k]? = some y) (b d : Int) :
    MS g o n lo τ0 w0 aL aLc aLn aP aPc aPn (some ⟨gD, 0, none⟩) aDc aDn aN aNc aNn aS aSc aSn { m with deals := m.deals.set k { y with buyer := b, due := d } } τ ((w.setCell ⟨gD, k * 5 + 3, none⟩ (.int .i64 b)).setCell ⟨gD, k * 5 + 4, none⟩ (.int .i64 d)) := by
  have tD := h.ow.deals.tag _ rfl
  have hne : gD ≠ g := h.ne tD (by decide)
  have hm := h.may (h.ow.deals.ow.blk rfl).1 tD (by decide) (by decide)
  have gne : ∀ i j : Nat, (⟨gD, i, none⟩ : Addr) ≠ ⟨g, j, none⟩ := fun i j e => hne (by injection e)
  exact ⟨(h.at_.other _ hne).other _ hne, h.lb.set.set, h.ow.funded hx b d, h.tag, fun i hi => ((World.cell?_setCell_other _ _ _ _ (gne _ _)).trans (World.cell?_setCell_other _ _ _ _ (gne _ _))).trans (h.out i hi), cS (p := ⟨gD, k * 5 + 4, none⟩) (cS (p := ⟨gD, k * 5 + 3, none⟩) h.ch hm _) hm _, h.glt, h.gz, h.llo⟩
end
section
variable {g o n lo : Nat} {τ0 τ : Nat → Nat} {w0 w : World} {aL : Option Addr} {aLc aLn : Nat} {aP : Option Addr} {aPc aPn : Nat} {aD : Option Addr} {aDc aDn : Nat} {aN : Option Addr} {aNc aNn : Nat} {aS : Option Addr} {aSc aSn : Nat} {m : Sw.Mkt}
theorem iFund_c (hS : MS g o n lo τ0 w0 aL aLc aLn aP aPc aPn aD aDc aDn aN aNc aNn aS aSc aSn m τ w) (ru rn rk : Int) (t : Nat) (rh rp : Int) {rows : List Sw.Row} (hok : Sw.MOk m rows) (hu1 : 1 ≤ ru) (hu5 : ru ≤ 5) : Calls Try.prog 95 #[.pointer (some ⟨g, o, none⟩), .agg #[.int .i64 ru, .int .i64 rn, .int .i64 rk, .int .i64 t, .int .i64 rh, .int .i64 rp], .int .i64 (Sw.dealIx m.deals t)] w fun E w' =>
    ∃ (bL : Option Addr) (bLc bLn : Nat) (bP : Option Addr) (bPc bPn : Nat) (bD : Option Addr) (bDc bDn : Nat) (bN : Option Addr) (bNc bNn : Nat) (bS : Option Addr) (bSc bSn : Nat) (τ' : Nat → Nat), E = .returned (.int .i64 (Sw.fund m ⟨ru, rn, rk, t, rh, rp⟩ (Sw.dealAt m.deals t)).2) ∧ MS g o n lo τ0 w0 bL bLc bLn bP bPc bPn bD bDc bDn bN bNc bNn bS bSc bSn (Sw.fund m ⟨ru, rn, rk, t, rh, rp⟩ (Sw.dealAt m.deals t)).1 τ' w' := by
  obtain ⟨k0, k1, k2, k3, k4, k5, k6, kf⟩ := hS.at_
  have HS := Lib.hid hS
  have hp5 := hS.ow.purses.ow.rs
  have hpn : aPn ≤ 4194304 := by have := hS.ow.purses.ow.1; have := (Sw.monOk_iff.1 hok.mon).1; omega
  have l3 := hS.ow.deals.ow.1
  have hck := hok.clk
  obtain ⟨hck0, hck1⟩ := hck
  cases h3 : Sw.dealAt m.deals t
  case none =>
    have e : Sw.fund m ⟨ru, rn, rk, t, rh, rp⟩ none = (m, 3) := rfl
    rw [e, dealIx_none h3]
    clear e l3 h3 hok hS
    go_enter Try.func95, Try.ntmps95
    go_wp2_with fail
    go_ret
    exact ⟨_, _, _, _, _, _, _, _, _, _, _, _, _, _, _, τ, rfl, HS.out.ex ext_⟩
  rename_i kd
  obtain ⟨d, hd, hdt⟩ := Sw.dealAt_some h3
  have hk : kd < aDn := by have := (List.getElem?_eq_some_iff.1 hd).1; omega
  rw [dealIx_some h3]
  have hgd := Sw.getD_of (z := Sw.dealZ) hd
  obtain ⟨gD, y, rfl, hloD, hltD, hy, d0, d1, d2, d3, d4, hfD⟩ := at_OD hS.ow.deals.ow hk
  obtain rfl : y = d := Option.some.inj (hy.symm.trans hd)
  have hne := hS.ne (hS.ow.deals.tag _ rfl) (by decide)
  have hpr := (Sw.dealOk_iff.1 (hok.deals.get hd)).2.2.2.2.1
  have hcl := Sw.entCap_le (Sw.rowAt rows y.ticket).face
  have p0 : 1 ≤ y.price := by omega
  have p1 : y.price ≤ 60 := by omega
  clear hpr hcl hok hS
  have i0 : (0 : Int) ≤ (kd : Int) := by omega
  have i1 : (kd : Int) < (aDn : Int) := by omega
  have i2 : ¬ (kd : Int) < 0 := by omega
  by_cases h4 : 0 < y.buyer
  · have e : Sw.fund m ⟨ru, rn, rk, t, rh, rp⟩ (some kd) = (m, 3) := by unfold Sw.fund; dsimp only; rw [hgd, if_pos (by simp [Sw.held, h4])]
    rw [e]
    have hh : Sw.held y = true := by simp [Sw.held, h4]
    clear e l3 h3 hd hdt hy hgd h4
    go_enter Try.func95, Try.ntmps95
    go_wp2_with (go_at_call 48; apply Calls.mono; apply (iHeld_c y); rintro E w1 ⟨rfl, hb⟩; rw [hh]; have hst := xr hb; (try simp only [zA, zC, zD, zN] at hst); obtain ⟨hc, hf, hz⟩ := hst)
    go_ret
    exact ⟨_, _, _, _, _, _, _, _, _, _, _, _, _, _, _, τ, rfl, HS.out.ex ext_⟩
  have hh : Sw.held y = false := by simp [Sw.held]; omega
  by_cases h5 : y.seller = ru
  · have g5 : (ru == y.seller) = true := by simp [h5]
    have e : Sw.fund m ⟨ru, rn, rk, t, rh, rp⟩ (some kd) = (m, 2) := by unfold Sw.fund; dsimp only; rw [hgd, if_neg (by simp [hh]), if_pos h5]
    rw [e]
    clear e l3 h3 hd hdt hy hgd h5 h4
    go_enter Try.func95, Try.ntmps95
    go_wp2_with (go_at_call 48; apply Calls.mono; apply (iHeld_c y); rintro E w1 ⟨rfl, hb⟩; rw [hh]; have hst := xr hb; (try simp only [zA, zC, zD, zN] at hst); obtain ⟨hc, hf, hz⟩ := hst)
    (go_quiet ((first | fail)); all_goals (generalize hWq : World.drewN _ nq = W0; have hb0 := Ex.ofN hWq; clear hWq; have hst := xr hb0; (try simp only [zA, zC, zD, zN] at hst); obtain ⟨hc0, hf0, hz0⟩ := hst))
    go_wp2
    go_ret
    exact ⟨_, _, _, _, _, _, _, _, _, _, _, _, _, _, _, τ, rfl, HS.out.ex ext_⟩
  have g5 : (ru == y.seller) = false := by simp; exact fun h => h5 h.symm
  have hwr : IntKind.i64.wrap (-y.price) = -y.price := IntWalk.i64_in _ (by omega)
  have hwk : IntKind.i64.wrap (m.clock + 5) = m.clock + 5 := IntWalk.i64_in _ (by omega)
  cases h6 : Sw.turnMay m.purses ru (-y.price)
  case false =>
    have e : Sw.fund m ⟨ru, rn, rk, t, rh, rp⟩ (some kd) = (m, 5) := by unfold Sw.fund; dsimp only; rw [hgd, if_neg (by simp [hh]), if_neg h5, if_neg (by simp [h6])]
    rw [e]
    clear e l3 h3 hd hdt hy hgd h5 h4
    go_enter Try.func95, Try.ntmps95
    go_wp2_with (go_at_call 48; apply Calls.mono; apply (iHeld_c y); rintro E w1 ⟨rfl, hb⟩; rw [hh]; have hst := xr hb; (try simp only [zA, zC, zD, zN] at hst); obtain ⟨hc, hf, hz⟩ := hst)
    (go_quiet ((first | fail)); all_goals (generalize hWq : World.drewN _ nq = W0; have hb0 := Ex.ofN hWq; clear hWq; have hst := xr hb0; (try simp only [zA, zC, zD, zN] at hst); obtain ⟨hc0, hf0, hz0⟩ := hst))
    go_wp2
    (refine wp_name ?_; intro W0 hb0; have hst := xr hb0; (try simp only [zA, zC, zD, zN] at hst); obtain ⟨hc0, hf0, hz0⟩ := hst; refine wp_region_held_drew (S := fun w' => Held W0 w') (by kernel_rfl) ?_ (fun hHeld => ?_); (focus ((try dsimp only); (first | with_reducible assumption | with_reducible exact Held.start _ | with_reducible exact Held.of (by assumption) | with_reducible exact Held.ex (by assumption) (by assumption) | ((repeat (first | with_reducible refine Held.set ?_ (by simp only [zA, zC, zD, zN]; omega) | with_reducible refine Held.alloc ?_ _ | with_reducible refine Held.drew ?_)); (first | with_reducible assumption | with_reducible exact Held.refl _ | with_reducible exact Held.of (by assumption) | with_reducible exact Held.ex (by assumption) (by assumption))) | exact Held.of (by exact ext_)))); refine regT 0 36 (v := ?_) rfl rfl (by kernel_rfl) (by kernel_rfl) (by kernel_rfl) (fun _ _ _ h => h) (by rfl) ?_ (by assumption) ?_; rotate_left; (focus (intro w hSw; (try dsimp only at hSw); go_simp; (try with_reducible rfl))); (try simp only [Act.put, List.setIfInBounds_toArray, List.set_cons_zero, List.set_cons_succ]); refine regT 1 37 (v := ?_) rfl rfl (by kernel_rfl) (by kernel_rfl) (by kernel_rfl) (fun _ _ _ h => h) (by rfl) ?_ (by assumption) ?_; rotate_left; (focus (intro w hSw; (try dsimp only at hSw); go_simp; (try with_reducible rfl))); (try simp only [Act.put, List.setIfInBounds_toArray, List.set_cons_zero, List.set_cons_succ]); refine regT 2 38 (v := ?_) rfl rfl (by kernel_rfl) (by kernel_rfl) (by kernel_rfl) (fun _ _ _ h => h) (by rfl) ?_ (by assumption) ?_; rotate_left; (focus (intro w hSw; (try dsimp only at hSw); go_simp; (try with_reducible rfl))); (try simp only [Act.put, List.setIfInBounds_toArray, List.set_cons_zero, List.set_cons_succ]); refine regT 3 39 (v := ?_) rfl rfl (by kernel_rfl) (by kernel_rfl) (by kernel_rfl) (fun _ _ _ h => h) (by rfl) ?_ (by assumption) ?_; rotate_left; (focus (intro w hSw; (try dsimp only at hSw); go_simp; (try with_reducible rfl))); (try simp only [Act.put, List.setIfInBounds_toArray, List.set_cons_zero, List.set_cons_succ]); refine regT 4 40 (v := ?_) rfl rfl (by kernel_rfl) (by kernel_rfl) (by kernel_rfl) (fun _ _ _ h => h) (by rfl) ?_ (by assumption) ?_; rotate_left; (focus (intro w hSw; (try dsimp only at hSw); go_simp; (try with_reducible rfl))); (try simp only [Act.put, List.setIfInBounds_toArray, List.set_cons_zero, List.set_cons_succ]); refine regT 5 41 (v := ?_) rfl rfl (by kernel_rfl) (by kernel_rfl) (by kernel_rfl) (fun _ _ _ h => h) (by rfl) ?_ (by assumption) ?_; rotate_left; (focus (intro w hSw; (try dsimp only at hSw); go_simp; (try with_reducible rfl))); (try simp only [Act.put, List.setIfInBounds_toArray, List.set_cons_zero, List.set_cons_succ]); refine regT 6 42 (v := ?_) rfl rfl (by kernel_rfl) (by kernel_rfl) (by kernel_rfl) (fun _ _ _ h => h) (by rfl) ?_ (by assumption) ?_; rotate_left; (focus (intro w hSw; (try dsimp only at hSw); go_simp; (try with_reducible rfl))); (try simp only [Act.put, List.setIfInBounds_toArray, List.set_cons_zero, List.set_cons_succ]); refine regT 7 43 (v := ?_) rfl rfl (by kernel_rfl) (by kernel_rfl) (by kernel_rfl) (fun _ _ _ h => h) (by rfl) ?_ (by assumption) ?_; rotate_left; (focus (intro w hSw; (try dsimp only at hSw); go_simp; (try with_reducible rfl))); (try simp only [Act.put, List.setIfInBounds_toArray, List.set_cons_zero, List.set_cons_succ]); refine regT 8 44 (v := ?_) rfl rfl (by kernel_rfl) (by kernel_rfl) (by kernel_rfl) (fun _ _ _ h => h) (by rfl) ?_ (by assumption) ?_; rotate_left; (focus (intro w hSw; (try dsimp only at hSw); go_simp; (try with_reducible rfl))); (try simp only [Act.put, List.setIfInBounds_toArray, List.set_cons_zero, List.set_cons_succ]); refine regT 9 45 (v := ?_) rfl rfl (by kernel_rfl) (by kernel_rfl) (by kernel_rfl) (fun _ _ _ h => h) (by rfl) ?_ (by assumption) ?_; rotate_left; (focus (intro w hSw; (try dsimp only at hSw); go_simp; (try with_reducible rfl))); (try simp only [Act.put, List.setIfInBounds_toArray, List.set_cons_zero, List.set_cons_succ]); refine regT 10 46 (v := ?_) rfl rfl (by kernel_rfl) (by kernel_rfl) (by kernel_rfl) (fun _ _ _ h => h) (by rfl) ?_ (by assumption) ?_; rotate_left; (focus (intro w hSw; (try dsimp only at hSw); go_simp; (try with_reducible rfl))); (try simp only [Act.put, List.setIfInBounds_toArray, List.set_cons_zero, List.set_cons_succ]); refine wpAnyH_ready (rs := [11]) (by kernel_rfl) (by simp) ?_; refine AllReadyH.cons rfl (fun K hK => ?_) ?_; rotate_left; (focus exact AllReadyH.nil); go_simp; (go_at_call 75; apply Calls.mono; apply iMonTurn_c; (apply Rs.at0 hp5; (exact kf_)); omega; rintro E w1 ⟨A1, c1, rfl, hoP, hbM⟩; have hb := hbM; rw [h6]; have hst := xr hb; (try simp only [zA, zC, zD, zN] at hst); obtain ⟨hc, hf, hz⟩ := hst); (try go_wp2_with fail); refine hK.out _ _ ?_ (fun hHeld => ?_); (focus ((try dsimp only); (first | with_reducible assumption | with_reducible exact Held.start _ | with_reducible exact Held.of (by assumption) | with_reducible exact Held.ex (by assumption) (by assumption) | ((repeat (first | with_reducible refine Held.set ?_ (by simp only [zA, zC, zD, zN]; omega) | with_reducible refine Held.alloc ?_ _ | with_reducible refine Held.drew ?_)); (first | with_reducible assumption | with_reducible exact Held.refl _ | with_reducible exact Held.of (by assumption) | with_reducible exact Held.ex (by assumption) (by assumption))) | exact Held.of (by exact ext_)))); clear hK K; (try simp only [Act.put, List.setIfInBounds_toArray, List.set_cons_zero, List.set_cons_succ]); refine regT 12 35 (v := ?_) rfl rfl (by kernel_rfl) (by kernel_rfl) (by kernel_rfl) (fun _ _ _ h => h) (by rfl) ?_ (by assumption) ?_; rotate_left; (focus (intro w hSw; (try dsimp only at hSw); go_simp; (try with_reducible rfl))); (try simp only [Act.put, List.setIfInBounds_toArray, List.set_cons_zero, List.set_cons_succ]); refine regT 13 48 (v := ?_) rfl rfl (by kernel_rfl) (by kernel_rfl) (by kernel_rfl) (fun _ _ _ h => h) (by rfl) ?_ (by assumption) ?_; rotate_left; (focus (intro w hSw; (try dsimp only at hSw); go_simp; (try with_reducible rfl))); (try simp only [Act.put, List.setIfInBounds_toArray, List.set_cons_zero, List.set_cons_succ]); refine regT 14 49 (v := ?_) rfl rfl (by kernel_rfl) (by kernel_rfl) (by kernel_rfl) (fun _ _ _ h => h) (by rfl) ?_ (by assumption) ?_; rotate_left; (focus (intro w hSw; (try dsimp only at hSw); go_simp; (try with_reducible rfl))); (try simp only [Act.put, List.setIfInBounds_toArray, List.set_cons_zero, List.set_cons_succ]); refine regT 15 8 (v := ?_) rfl rfl (by kernel_rfl) (by kernel_rfl) (by kernel_rfl) (fun _ _ _ h => h) (by rfl) ?_ (by assumption) ?_; rotate_left; (focus (intro w hSw; (try dsimp only at hSw); go_simp; (try with_reducible rfl))); (try simp only [Act.put, List.setIfInBounds_toArray, List.set_cons_zero, List.set_cons_succ]); refine regT 16 9 (v := ?_) rfl rfl (by kernel_rfl) (by kernel_rfl) (by kernel_rfl) (fun _ _ _ h => h) (by rfl) ?_ (by assumption) ?_; rotate_left; (focus (intro w hSw; (try dsimp only at hSw); go_simp; (try with_reducible rfl))); (try simp only [Act.put, List.setIfInBounds_toArray, List.set_cons_zero, List.set_cons_succ]); refine wpAnyH_done (by kernel_rfl) ?_ _; all_goals (have hb := And.right (by assumption : Held W0 _); have hst := xr hb; (try simp only [zA, zC, zD, zN] at hst); obtain ⟨hc, hf, hz⟩ := hst))
    all_goals go_wp2
    all_goals go_ret
    all_goals exact ⟨_, _, _, _, _, _, _, _, _, _, _, _, _, _, _, τ, rfl, HS.out.ex ext_⟩
  have e : Sw.fund m ⟨ru, rn, rk, t, rh, rp⟩ (some kd) = ({ m with purses := Sw.turned m.purses ru (-y.price), deals := m.deals.set kd { y with buyer := ru, due := m.clock + 5 } }, 1) := by unfold Sw.fund; dsimp only; rw [hgd, if_neg (by simp [hh]), if_neg h5, if_pos h6]
  rw [e]
  have HP := Lib.hid (show Sw.monTurn m.purses ru (-y.price) = Sw.turned m.purses ru (-y.price) from by unfold Sw.monTurn; rw [if_pos h6])
  have HY := Lib.hid hy
  clear e l3 h3 hd hdt hy hgd h5 h4
  go_enter Try.func95, Try.ntmps95
  go_wp2_with (go_at_call 48; apply Calls.mono; apply (iHeld_c y); rintro E w1 ⟨rfl, hb⟩; rw [hh]; have hst := xr hb; (try simp only [zA, zC, zD, zN] at hst); obtain ⟨hc, hf, hz⟩ := hst)
  (go_quiet ((first | fail)); all_goals (generalize hWq : World.drewN _ nq = W0; have hb0 := Ex.ofN hWq; clear hWq; have hst := xr hb0; (try simp only [zA, zC, zD, zN] at hst); obtain ⟨hc0, hf0, hz0⟩ := hst))
  go_wp2
  (refine wp_name ?_; intro W0 hb0; have hst := xr hb0; (try simp only [zA, zC, zD, zN] at hst); obtain ⟨hc0, hf0, hz0⟩ := hst; refine wp_region_held_drew (S := fun w' => Held W0 w') (by kernel_rfl) ?_ (fun hHeld => ?_); (focus ((try dsimp only); (first | with_reducible assumption | with_reducible exact Held.start _ | with_reducible exact Held.of (by assumption) | with_reducible exact Held.ex (by assumption) (by assumption) | ((repeat (first | with_reducible refine Held.set ?_ (by simp only [zA, zC, zD, zN]; omega) | with_reducible refine Held.alloc ?_ _ | with_reducible refine Held.drew ?_)); (first | with_reducible assumption | with_reducible exact Held.refl _ | with_reducible exact Held.of (by assumption) | with_reducible exact Held.ex (by assumption) (by assumption))) | exact Held.of (by exact ext_)))); refine regT 0 36 (v := ?_) rfl rfl (by kernel_rfl) (by kernel_rfl) (by kernel_rfl) (fun _ _ _ h => h) (by rfl) ?_ (by assumption) ?_; rotate_left; (focus (intro w hSw; (try dsimp only at hSw); go_simp; (try with_reducible rfl))); (try simp only [Act.put, List.setIfInBounds_toArray, List.set_cons_zero, List.set_cons_succ]); refine regT 1 37 (v := ?_) rfl rfl (by kernel_rfl) (by kernel_rfl) (by kernel_rfl) (fun _ _ _ h => h) (by rfl) ?_ (by assumption) ?_; rotate_left; (focus (intro w hSw; (try dsimp only at hSw); go_simp; (try with_reducible rfl))); (try simp only [Act.put, List.setIfInBounds_toArray, List.set_cons_zero, List.set_cons_succ]); refine regT 2 38 (v := ?_) rfl rfl (by kernel_rfl) (by kernel_rfl) (by kernel_rfl) (fun _ _ _ h => h) (by rfl) ?_ (by assumption) ?_; rotate_left; (focus (intro w hSw; (try dsimp only at hSw); go_simp; (try with_reducible rfl))); (try simp only [Act.put, List.setIfInBounds_toArray, List.set_cons_zero, List.set_cons_succ]); refine regT 3 39 (v := ?_) rfl rfl (by kernel_rfl) (by kernel_rfl) (by kernel_rfl) (fun _ _ _ h => h) (by rfl) ?_ (by assumption) ?_; rotate_left; (focus (intro w hSw; (try dsimp only at hSw); go_simp; (try with_reducible rfl))); (try simp only [Act.put, List.setIfInBounds_toArray, List.set_cons_zero, List.set_cons_succ]); refine regT 4 40 (v := ?_) rfl rfl (by kernel_rfl) (by kernel_rfl) (by kernel_rfl) (fun _ _ _ h => h) (by rfl) ?_ (by assumption) ?_; rotate_left; (focus (intro w hSw; (try dsimp only at hSw); go_simp; (try with_reducible rfl))); (try simp only [Act.put, List.setIfInBounds_toArray, List.set_cons_zero, List.set_cons_succ]); refine regT 5 41 (v := ?_) rfl rfl (by kernel_rfl) (by kernel_rfl) (by kernel_rfl) (fun _ _ _ h => h) (by rfl) ?_ (by assumption) ?_; rotate_left; (focus (intro w hSw; (try dsimp only at hSw); go_simp; (try with_reducible rfl))); (try simp only [Act.put, List.setIfInBounds_toArray, List.set_cons_zero, List.set_cons_succ]); refine regT 6 42 (v := ?_) rfl rfl (by kernel_rfl) (by kernel_rfl) (by kernel_rfl) (fun _ _ _ h => h) (by rfl) ?_ (by assumption) ?_; rotate_left; (focus (intro w hSw; (try dsimp only at hSw); go_simp; (try with_reducible rfl))); (try simp only [Act.put, List.setIfInBounds_toArray, List.set_cons_zero, List.set_cons_succ]); refine regT 7 43 (v := ?_) rfl rfl (by kernel_rfl) (by kernel_rfl) (by kernel_rfl) (fun _ _ _ h => h) (by rfl) ?_ (by assumption) ?_; rotate_left; (focus (intro w hSw; (try dsimp only at hSw); go_simp; (try with_reducible rfl))); (try simp only [Act.put, List.setIfInBounds_toArray, List.set_cons_zero, List.set_cons_succ]); refine regT 8 44 (v := ?_) rfl rfl (by kernel_rfl) (by kernel_rfl) (by kernel_rfl) (fun _ _ _ h => h) (by rfl) ?_ (by assumption) ?_; rotate_left; (focus (intro w hSw; (try dsimp only at hSw); go_simp; (try with_reducible rfl))); (try simp only [Act.put, List.setIfInBounds_toArray, List.set_cons_zero, List.set_cons_succ]); refine regT 9 45 (v := ?_) rfl rfl (by kernel_rfl) (by kernel_rfl) (by kernel_rfl) (fun _ _ _ h => h) (by rfl) ?_ (by assumption) ?_; rotate_left; (focus (intro w hSw; (try dsimp only at hSw); go_simp; (try with_reducible rfl))); (try simp only [Act.put, List.setIfInBounds_toArray, List.set_cons_zero, List.set_cons_succ]); refine regT 10 46 (v := ?_) rfl rfl (by kernel_rfl) (by kernel_rfl) (by kernel_rfl) (fun _ _ _ h => h) (by rfl) ?_ (by assumption) ?_; rotate_left; (focus (intro w hSw; (try dsimp only at hSw); go_simp; (try with_reducible rfl))); (try simp only [Act.put, List.setIfInBounds_toArray, List.set_cons_zero, List.set_cons_succ]); refine wpAnyH_ready (rs := [11]) (by kernel_rfl) (by simp) ?_; refine AllReadyH.cons rfl (fun K hK => ?_) ?_; rotate_left; (focus exact AllReadyH.nil); go_simp; (go_at_call 75; apply Calls.mono; apply iMonTurn_c; (apply Rs.at0 hp5; (exact kf_)); omega; rintro E w1 ⟨A1, c1, rfl, hoP, hbM⟩; have hb := hbM; rw [h6]; have hst := xr hb; (try simp only [zA, zC, zD, zN] at hst); obtain ⟨hc, hf, hz⟩ := hst); (try go_wp2_with fail); refine hK.out _ _ ?_ (fun hHeld => ?_); (focus ((try dsimp only); (first | with_reducible assumption | with_reducible exact Held.start _ | with_reducible exact Held.of (by assumption) | with_reducible exact Held.ex (by assumption) (by assumption) | ((repeat (first | with_reducible refine Held.set ?_ (by simp only [zA, zC, zD, zN]; omega) | with_reducible refine Held.alloc ?_ _ | with_reducible refine Held.drew ?_)); (first | with_reducible assumption | with_reducible exact Held.refl _ | with_reducible exact Held.of (by assumption) | with_reducible exact Held.ex (by assumption) (by assumption))) | exact Held.of (by exact ext_)))); clear hK K; (try simp only [Act.put, List.setIfInBounds_toArray, List.set_cons_zero, List.set_cons_succ]); refine regT 12 35 (v := ?_) rfl rfl (by kernel_rfl) (by kernel_rfl) (by kernel_rfl) (fun _ _ _ h => h) (by rfl) ?_ (by assumption) ?_; rotate_left; (focus (intro w hSw; (try dsimp only at hSw); go_simp; (try with_reducible rfl))); (try simp only [Act.put, List.setIfInBounds_toArray, List.set_cons_zero, List.set_cons_succ]); refine regT 13 48 (v := ?_) rfl rfl (by kernel_rfl) (by kernel_rfl) (by kernel_rfl) (fun _ _ _ h => h) (by rfl) ?_ (by assumption) ?_; rotate_left; (focus (intro w hSw; (try dsimp only at hSw); go_simp; (try with_reducible rfl))); (try simp only [Act.put, List.setIfInBounds_toArray, List.set_cons_zero, List.set_cons_succ]); refine regT 14 49 (v := ?_) rfl rfl (by kernel_rfl) (by kernel_rfl) (by kernel_rfl) (fun _ _ _ h => h) (by rfl) ?_ (by assumption) ?_; rotate_left; (focus (intro w hSw; (try dsimp only at hSw); go_simp; (try with_reducible rfl))); (try simp only [Act.put, List.setIfInBounds_toArray, List.set_cons_zero, List.set_cons_succ]); refine regT 15 8 (v := ?_) rfl rfl (by kernel_rfl) (by kernel_rfl) (by kernel_rfl) (fun _ _ _ h => h) (by rfl) ?_ (by assumption) ?_; rotate_left; (focus (intro w hSw; (try dsimp only at hSw); go_simp; (try with_reducible rfl))); (try simp only [Act.put, List.setIfInBounds_toArray, List.set_cons_zero, List.set_cons_succ]); refine regT 16 9 (v := ?_) rfl rfl (by kernel_rfl) (by kernel_rfl) (by kernel_rfl) (fun _ _ _ h => h) (by rfl) ?_ (by assumption) ?_; rotate_left; (focus (intro w hSw; (try dsimp only at hSw); go_simp; (try with_reducible rfl))); (try simp only [Act.put, List.setIfInBounds_toArray, List.set_cons_zero, List.set_cons_succ]); refine wpAnyH_done (by kernel_rfl) ?_ _; all_goals (have hb := And.right (by assumption : Held W0 _); have hst := xr hb; (try simp only [zA, zC, zD, zN] at hst); obtain ⟨hc, hf, hz⟩ := hst))
  all_goals go_wp2_with fail
  rw [HP.out] at hoP
  have m1 := MS.purses (w := W0.drew) (HS.out.ex ext_) hoP hbM
  have hLD := m1.ow.deals.ow.lbA
  have hbW := hbM
  (refine wp_name ?_; intro W0 hb0; have hst := xr hb0; (try simp only [zA, zC, zD, zN] at hst); obtain ⟨hc0, hf0, hz0⟩ := hst; have hLb : Lb W0 (gD) (aDc * 5) := Lb.ex (by exact lbc_) hb0; go_region_held3 (fun w' => HeldB (gD) (aDc * 5) W0 w') ((first | with_reducible assumption | with_reducible exact HeldB.start hLb | with_reducible exact HeldB.of (by assumption) (by assumption) | ((repeat (first | with_reducible refine HeldB.set ?_ (by first | exact Or.inl rfl | exact Or.inr (by simp only [zA, zC, zD, zN]; omega) | exact Or.inr (by omega)) | with_reducible refine HeldB.alloc ?_ _ | with_reducible refine HeldB.drew ?_)); (first | with_reducible assumption | with_reducible exact HeldB.refl hLb | with_reducible exact HeldB.of (by assumption) (by assumption) | with_reducible exact HeldB.ex (by assumption) (by assumption))))) (fail); all_goals (rename HeldB (gD) (aDc * 5) W0 _ => hHx; have hb := HeldB.ch hHx; have hst := xc hb; (try simp only [zA, zC, zD, zN] at hst); obtain ⟨hc, hf, hz⟩ := hst; have hLb3 := HeldB.lb hHx; (repeat (first | with_reducible replace hLb3 := Lb.unset hLb3 | with_reducible replace hLb3 := Lb.undrew hLb3)); obtain ⟨hcb, hfb⟩ := Lb.rules hLb3; clear hHx))
  all_goals go_wp2
  all_goals go_ret
  all_goals exact ⟨_, _, _, _, _, _, _, _, _, _, _, _, _, _, _, _, rfl, MS.ex (MS.funded (m1.ex (by assumption)) HY.out ru (m.clock + 5)) ext_⟩
end
end Go.Proofs.Ytimpagcanengoaa

namespace Go.Proofs.Ytimpagcanengoaa
set_option maxRecDepth 100000
set_option linter.unusedSimpArgs false
set_option linter.unusedVariables false
open Go.RowKit Go
set_option maxHeartbeats 4000000

section
variable {g o n lo : Nat} {τ0 τ : Nat → Nat} {w0 w : World} {aL : Option Addr} {aLc aLn : Nat} {aP : Option Addr} {aPc aPn : Nat} {aD : Option Addr} {aDc aDn : Nat} {aN : Option Addr} {aNc aNn : Nat} {aS : Option Addr} {aSc aSn : Nat} {m : Sw.Mkt}
theorem iSettle_c (hS : MS g o n lo τ0 w0 aL aLc aLn aP aPc aPn aD aDc aDn aN aNc aNn aS aSc aSn m τ w) (ru rn rk : Int) (t : Nat) (rh rp : Int) {rows : List Sw.Row} (hok : Sw.MOk m rows) : Calls Try.prog 96 #[.pointer (some ⟨g, o, none⟩), .agg #[.int .i64 ru, .int .i64 rn, .int .i64 rk, .int .i64 t, .int .i64 rh, .int .i64 rp], .int .i64 (Sw.dealIx m.deals t)] w fun E w' =>
    ∃ (bL : Option Addr) (bLc bLn : Nat) (bP : Option Addr) (bPc bPn : Nat) (bD : Option Addr) (bDc bDn : Nat) (bN : Option Addr) (bNc bNn : Nat) (bS : Option Addr) (bSc bSn : Nat) (τ' : Nat → Nat), E = .returned (.int .i64 (Sw.settle m ⟨ru, rn, rk, t, rh, rp⟩ (Sw.dealAt m.deals t)).2) ∧ MS g o n lo τ0 w0 bL bLc bLn bP bPc bPn bD bDc bDn bN bNc bNn bS bSc bSn (Sw.settle m ⟨ru, rn, rk, t, rh, rp⟩ (Sw.dealAt m.deals t)).1 τ' w' := by
  obtain ⟨k0, k1, k2, k3, k4, k5, k6, kf⟩ := hS.at_
  have HS := Lib.hid hS
  have hpn : aPn ≤ 4194304 := by have := hS.ow.purses.ow.1; have := (Sw.monOk_iff.1 hok.mon).1; omega
  have l1 := hS.ow.log.ow.1
  have l3 := hS.ow.deals.ow.1
  have hll := (Sw.ownFold_some.1 hok.fold).1
  cases h3 : Sw.dealAt m.deals t
  case none =>
    have e : Sw.settle m ⟨ru, rn, rk, t, rh, rp⟩ none = (m, 3) := rfl
    rw [e, dealIx_none h3]
    clear e l1 l3 h3 hok hS hll
    go_enter Try.func96, Try.ntmps96
    go_wp2_with fail
    go_ret
    exact ⟨_, _, _, _, _, _, _, _, _, _, _, _, _, _, _, τ, rfl, HS.out.ex ext_⟩
  rename_i kd
  obtain ⟨d, hd, hdt⟩ := Sw.dealAt_some h3
  have hk : kd < aDn := by have := (List.getElem?_eq_some_iff.1 hd).1; omega
  rw [dealIx_some h3]
  have hgd := Sw.getD_of (z := Sw.dealZ) hd
  obtain ⟨gD, y, rfl, hloD, hltD, hy, d0, d1, d2, d3, d4, hfD⟩ := at_OD hS.ow.deals.ow hk
  obtain rfl : y = d := Option.some.inj (hy.symm.trans hd)
  have hne := hS.ne (hS.ow.deals.tag _ rfl) (by decide)
  clear hok hS
  have i0 : (0 : Int) ≤ (kd : Int) := by omega
  have i1 : (kd : Int) < (aDn : Int) := by omega
  have i2 : ¬ (kd : Int) < 0 := by omega
  cases hh : Sw.held y
  case false =>
    have e : Sw.settle m ⟨ru, rn, rk, t, rh, rp⟩ (some kd) = (m, 3) := by unfold Sw.settle; dsimp only; rw [hgd, if_pos hh]
    rw [e]
    clear e l1 l3 h3 hd hdt hy hgd hll
    go_enter Try.func96, Try.ntmps96
    go_wp2_with (go_at_call 48; apply Calls.mono; apply (iHeld_c y); rintro E w1 ⟨rfl, hb⟩; rw [hh]; have hst := xr hb; (try simp only [zA, zC, zD, zN] at hst); obtain ⟨hc, hf, hz⟩ := hst)
    go_ret
    exact ⟨_, _, _, _, _, _, _, _, _, _, _, _, _, _, _, τ, rfl, HS.out.ex ext_⟩
  by_cases h5 : y.seller = ru
  case neg =>
    have g5 : (ru != y.seller) = true := by simp; exact fun h => h5 h.symm
    have e : Sw.settle m ⟨ru, rn, rk, t, rh, rp⟩ (some kd) = (m, 2) := by unfold Sw.settle; dsimp only; rw [hgd, if_neg (by simp [hh]), if_pos h5]
    rw [e]
    clear e l1 l3 h3 hd hdt hy hgd h5 hll
    go_enter Try.func96, Try.ntmps96
    go_wp2_with (go_at_call 48; apply Calls.mono; apply (iHeld_c y); rintro E w1 ⟨rfl, hb⟩; rw [hh]; have hst := xr hb; (try simp only [zA, zC, zD, zN] at hst); obtain ⟨hc, hf, hz⟩ := hst)
    go_ret
    exact ⟨_, _, _, _, _, _, _, _, _, _, _, _, _, _, _, τ, rfl, HS.out.ex ext_⟩
  have g5 : (ru != y.seller) = false := by simp [h5]
  by_cases h4 : m.log.length = 40
  · have e : Sw.settle m ⟨ru, rn, rk, t, rh, rp⟩ (some kd) = (m, 6) := by unfold Sw.settle; dsimp only; rw [hgd, if_neg (by simp [hh]), if_neg (by simp [h5]), if_pos h4]
    rw [e]
    have h40 : aLn = 40 := by omega
    clear e l1 l3 h3 hd hdt hy hgd h5 h4 hll
    go_enter Try.func96, Try.ntmps96
    go_wp2_with (first | (go_at_call 48; apply Calls.mono; apply (iHeld_c y); rintro E w1 ⟨rfl, hb⟩; rw [hh]; have hst := xr hb; (try simp only [zA, zC, zD, zN] at hst); obtain ⟨hc, hf, hz⟩ := hst) | (go_at_call 97; apply Calls.mono; apply (iAppendN_c (HS.out.ex ext_) 2 t y.buyer y.price h40); rintro E w3 ⟨rfl, hb⟩; have hst := xr hb; (try simp only [zA, zC, zD, zN] at hst); obtain ⟨hc, hf, hz⟩ := hst))
    go_ret
    exact ⟨_, _, _, _, _, _, _, _, _, _, _, _, _, _, _, τ, rfl, HS.out.ex ext_⟩
  have e : Sw.settle m ⟨ru, rn, rk, t, rh, rp⟩ (some kd) = ({ m with purses := Sw.monTurn m.purses y.seller y.price, log := m.log ++ [⟨2, t, y.buyer, y.price⟩], deals := m.deals.eraseIdx kd }, 1) := by unfold Sw.settle; dsimp only; rw [hgd, if_neg (by simp [hh]), if_neg (by simp [h5]), if_neg h4]
  rw [e]
  have hn40 : aLn < 40 := by omega
  clear e l1 l3 h3 hd hdt hy hgd h5 h4 hll
  go_enter Try.func96, Try.ntmps96
  go_wp2_with (go_at_call 48; apply Calls.mono; apply (iHeld_c y); rintro E w1 ⟨rfl, hb⟩; rw [hh]; have hst := xr hb; (try simp only [zA, zC, zD, zN] at hst); obtain ⟨hc, hf, hz⟩ := hst)
  have hWc : Ex w (w1.alloc (.cells #[.int .i64 y.ticket, .int .i64 y.seller, .int .i64 y.price, .int .i64 y.buyer, .int .i64 y.due] 38)) := ext_
  have hA := HS.out.zero hWc
  apply Calls.mono
  apply (iAppend_c hA.rebase 2 t y.buyer y.price hn40)
  rintro E w3 ⟨A3, c3, τ3, rfl, hm3⟩
  obtain ⟨hB0, hF0⟩ := hm3.box (b := w1.heap.size) (by simp only [zA]; omega) (glue0 (by omega)) (by omega)
  obtain ⟨j0, j1, j2, j3, j4, j5, j6, jf⟩ := hm3.at_
  have hz3 := hm3.ch.size
  simp only [zA] at hz3
  have hp5 := hm3.ow.purses.ow.rs
  have hLw := hm3.lb
  have H3 := Lib.hid hm3
  clear hm3
  go_wp2_with fail
  (refine wp_name ?_; intro W0 hb0; have hst := xr hb0; (try simp only [zA, zC, zD, zN] at hst); obtain ⟨hc0, hf0, hz0⟩ := hst; have hLb : Lb W0 (g) n := Lb.ex (by exact lbc_) hb0; refine wp_region_held_drew (S := fun w' => HeldB (g) n W0 w') (by kernel_rfl) ?_ (fun hHeld => ?_); (focus ((try dsimp only); (first | with_reducible assumption | with_reducible exact HeldB.start hLb | with_reducible exact HeldB.of (by assumption) (by assumption) | ((repeat (first | with_reducible refine HeldB.set ?_ (by first | exact Or.inl rfl | exact Or.inr (by simp only [zA, zC, zD, zN]; omega) | exact Or.inr (by omega)) | with_reducible refine HeldB.alloc ?_ _ | with_reducible refine HeldB.drew ?_)); (first | with_reducible assumption | with_reducible exact HeldB.refl hLb | with_reducible exact HeldB.of (by assumption) (by assumption) | with_reducible exact HeldB.ex (by assumption) (by assumption)))))); refine regT 0 44 (v := ?_) rfl rfl (by kernel_rfl) (by kernel_rfl) (by kernel_rfl) (fun _ _ _ h => h) (by rfl) ?_ (by assumption) ?_; rotate_left; (focus (intro w hSw; (try dsimp only at hSw); go_simp; (try with_reducible rfl))); (try simp only [Act.put, List.setIfInBounds_toArray, List.set_cons_zero, List.set_cons_succ]); refine regT 1 45 (v := ?_) rfl rfl (by kernel_rfl) (by kernel_rfl) (by kernel_rfl) (fun _ _ _ h => h) (by rfl) ?_ (by assumption) ?_; rotate_left; (focus (intro w hSw; (try dsimp only at hSw); go_simp; (try with_reducible rfl))); (try simp only [Act.put, List.setIfInBounds_toArray, List.set_cons_zero, List.set_cons_succ]); refine regT 2 46 (v := ?_) rfl rfl (by kernel_rfl) (by kernel_rfl) (by kernel_rfl) (fun _ _ _ h => h) (by rfl) ?_ (by assumption) ?_; rotate_left; (focus (intro w hSw; (try dsimp only at hSw); go_simp; (try with_reducible rfl))); (try simp only [Act.put, List.setIfInBounds_toArray, List.set_cons_zero, List.set_cons_succ]); refine regT 3 47 (v := ?_) rfl rfl (by kernel_rfl) (by kernel_rfl) (by kernel_rfl) (fun _ _ _ h => h) (by rfl) ?_ (by assumption) ?_; rotate_left; (focus (intro w hSw; (try dsimp only at hSw); go_simp; (try with_reducible rfl))); (try simp only [Act.put, List.setIfInBounds_toArray, List.set_cons_zero, List.set_cons_succ]); refine regT 5 49 (v := ?_) rfl rfl (by kernel_rfl) (by kernel_rfl) (by kernel_rfl) (fun _ _ _ h => h) (by rfl) ?_ (by assumption) ?_; rotate_left; (focus (intro w hSw; (try dsimp only at hSw); go_simp; (try with_reducible rfl))); (try simp only [Act.put, List.setIfInBounds_toArray, List.set_cons_zero, List.set_cons_succ]); refine regT 6 50 (v := ?_) rfl rfl (by kernel_rfl) (by kernel_rfl) (by kernel_rfl) (fun _ _ _ h => h) (by rfl) ?_ (by assumption) ?_; rotate_left; (focus (intro w hSw; (try dsimp only at hSw); go_simp; (try with_reducible rfl))); (try simp only [Act.put, List.setIfInBounds_toArray, List.set_cons_zero, List.set_cons_succ]); refine regT 7 51 (v := ?_) rfl rfl (by kernel_rfl) (by kernel_rfl) (by kernel_rfl) (fun _ _ _ h => h) (by rfl) ?_ (by assumption) ?_; rotate_left; (focus (intro w hSw; (try dsimp only at hSw); go_simp; (try with_reducible rfl))); (try simp only [Act.put, List.setIfInBounds_toArray, List.set_cons_zero, List.set_cons_succ]); refine regT 8 52 (v := ?_) rfl rfl (by kernel_rfl) (by kernel_rfl) (by kernel_rfl) (fun _ _ _ h => h) (by rfl) ?_ (by assumption) ?_; rotate_left; (focus (intro w hSw; (try dsimp only at hSw); go_simp; (try with_reducible rfl))); (try simp only [Act.put, List.setIfInBounds_toArray, List.set_cons_zero, List.set_cons_succ]); refine wpAnyH_ready (rs := [4]) (by kernel_rfl) (by simp) ?_; refine AllReadyH.cons rfl (fun K hK => ?_) ?_; rotate_left; (focus exact AllReadyH.nil); go_simp; refine hK.out _ _ ?_ (fun hHeld => ?_); (focus ((try dsimp only); (first | with_reducible assumption | with_reducible exact HeldB.start hLb | with_reducible exact HeldB.of (by assumption) (by assumption) | ((repeat (first | with_reducible refine HeldB.set ?_ (by first | exact Or.inl rfl | exact Or.inr (by simp only [zA, zC, zD, zN]; omega) | exact Or.inr (by omega)) | with_reducible refine HeldB.alloc ?_ _ | with_reducible refine HeldB.drew ?_)); (first | with_reducible assumption | with_reducible exact HeldB.refl hLb | with_reducible exact HeldB.of (by assumption) (by assumption) | with_reducible exact HeldB.ex (by assumption) (by assumption)))))); clear hK K; (try simp only [Act.put, List.setIfInBounds_toArray, List.set_cons_zero, List.set_cons_succ]); refine wpAnyH_ready (rs := [9]) (by kernel_rfl) (by simp) ?_; refine AllReadyH.cons rfl (fun K hK => ?_) ?_; rotate_left; (focus exact AllReadyH.nil); go_simp; (go_at_call 75; apply Calls.mono; apply iMonTurn_c; (apply Rs.at0 hp5; (exact kf_)); omega; rintro E w5 ⟨A5, c5, rfl, hoP, hb⟩; have hb5 := hb; have hst := xr hb; (try simp only [zA, zC, zD, zN] at hst); obtain ⟨hc, hf, hz⟩ := hst); (try go_wp2_with fail); refine hK.out _ _ ?_ (fun hHeld => ?_); (focus ((try dsimp only); (first | with_reducible assumption | with_reducible exact HeldB.start hLb | with_reducible exact HeldB.of (by assumption) (by assumption) | ((repeat (first | with_reducible refine HeldB.set ?_ (by first | exact Or.inl rfl | exact Or.inr (by simp only [zA, zC, zD, zN]; omega) | exact Or.inr (by omega)) | with_reducible refine HeldB.alloc ?_ _ | with_reducible refine HeldB.drew ?_)); (first | with_reducible assumption | with_reducible exact HeldB.refl hLb | with_reducible exact HeldB.of (by assumption) (by assumption) | with_reducible exact HeldB.ex (by assumption) (by assumption)))))); clear hK K; (try simp only [Act.put, List.setIfInBounds_toArray, List.set_cons_zero, List.set_cons_succ]); refine regT 10 43 (v := ?_) rfl rfl (by kernel_rfl) (by kernel_rfl) (by kernel_rfl) (fun _ _ _ h => h) (by rfl) ?_ (by assumption) ?_; rotate_left; (focus (intro w hSw; (try dsimp only at hSw); go_simp; (try with_reducible rfl))); (try simp only [Act.put, List.setIfInBounds_toArray, List.set_cons_zero, List.set_cons_succ]); refine regT 11 54 (v := ?_) rfl rfl (by kernel_rfl) (by kernel_rfl) (by kernel_rfl) (fun _ _ _ h => h) (by rfl) ?_ (by assumption) ?_; rotate_left; (focus (intro w hSw; (try dsimp only at hSw); go_simp; (try with_reducible rfl))); (try simp only [Act.put, List.setIfInBounds_toArray, List.set_cons_zero, List.set_cons_succ]); refine regT 12 55 (v := ?_) rfl rfl (by kernel_rfl) (by kernel_rfl) (by kernel_rfl) (fun _ _ _ h => h) (by rfl) ?_ (by assumption) ?_; rotate_left; (focus (intro w hSw; (try dsimp only at hSw); go_simp; (try with_reducible rfl))); (try simp only [Act.put, List.setIfInBounds_toArray, List.set_cons_zero, List.set_cons_succ]); refine regT 13 56 (v := ?_) rfl rfl (by kernel_rfl) (by kernel_rfl) (by kernel_rfl) (fun _ _ _ h => h) (by rfl) ?_ (by assumption) ?_; rotate_left; (focus (intro w hSw; (try dsimp only at hSw); go_simp; (try with_reducible rfl))); (try simp only [Act.put, List.setIfInBounds_toArray, List.set_cons_zero, List.set_cons_succ]); refine regT 14 57 (v := ?_) rfl rfl (by kernel_rfl) (by kernel_rfl) (by kernel_rfl) (fun _ _ _ h => h) (by rfl) ?_ (by assumption) ?_; rotate_left; (focus (intro w hSw; (try dsimp only at hSw); go_simp; (try with_reducible rfl))); (try simp only [Act.put, List.setIfInBounds_toArray, List.set_cons_zero, List.set_cons_succ]); refine wpAnyH_ready (rs := [15]) (by kernel_rfl) (by simp) ?_; refine AllReadyH.cons rfl (fun K hK => ?_) ?_; rotate_left; (focus exact AllReadyH.nil); have hb := HeldB.ch hHeld; have hst := xc hb; (try simp only [zA, zC, zD, zN] at hst); obtain ⟨hc, hf, hz⟩ := hst; have hLbx := HeldB.lb hHeld; obtain ⟨hcx, hfx⟩ := Lb.rules hLbx; go_simp; refine hK.out _ _ ?_ (fun hHx => ?_); (focus ((try dsimp only); (first | with_reducible assumption | with_reducible exact HeldB.start hLb | with_reducible exact HeldB.of (by assumption) (by assumption) | ((repeat (first | with_reducible refine HeldB.set ?_ (by first | exact Or.inl rfl | exact Or.inr (by simp only [zA, zC, zD, zN]; omega) | exact Or.inr (by omega)) | with_reducible refine HeldB.alloc ?_ _ | with_reducible refine HeldB.drew ?_)); (first | with_reducible assumption | with_reducible exact HeldB.refl hLb | with_reducible exact HeldB.of (by assumption) (by assumption) | with_reducible exact HeldB.ex (by assumption) (by assumption)))))); clear hK K hHeld hcx hfx hLbx; have hLb3 := HeldB.lb hHx; (repeat (first | with_reducible replace hLb3 := Lb.unset hLb3 | with_reducible replace hLb3 := Lb.undrew hLb3)); obtain ⟨hcb, hfb⟩ := Lb.rules hLb3; have hbf := HeldB.ch hHx; clear hHx; (try simp only [Act.put, List.setIfInBounds_toArray, List.set_cons_zero, List.set_cons_succ]); refine wpAnyH_done (by kernel_rfl) ?_ _)
  all_goals go_wp2_with fail
  have m2 := MS.purses (w := W0.drew) (H3.out.ex ext_) hoP hb5
  apply Calls.mono
  apply (iDropAt_c m2 hk)
  rintro E w6 ⟨τ6, rfl, hm6⟩
  go_wp2
  go_ret
  exact ⟨_, _, _, _, _, _, _, _, _, _, _, _, _, _, _, τ6, rfl, hA.trans hm6⟩
end
end Go.Proofs.Ytimpagcanengoaa

namespace Go.Proofs.Ytimpagcanengoaa
set_option maxRecDepth 100000
set_option linter.unusedSimpArgs false
set_option linter.unusedVariables false
open Go.RowKit Go
set_option maxHeartbeats 8000000

theorem iRowsT_c (aL : Option Addr) (aLc aLn : Nat) (aP : Option Addr) (aPc aPn : Nat) (aD : Option Addr) (aDc aDn : Nat) (aN : Option Addr) (aNc aNn : Nat) (aS : Option Addr) (aSc aSn : Nat) (m : Sw.Mkt) (rows : List Sw.Row) (t : Nat) (w : World) (hL : RE w 0 aL aLc aLn m.log) (hf : Sw.ownFold m.log = some rows) (ht : t < 8) : Calls Try.prog 32 #[.agg #[.slice aL aLn aLc, .slice aP aPn aPc, .slice aD aDn aDc, .int .i64 m.clock, .slice aN aNn aNc, .slice aS aSn aSc]] w fun E w' => ∃ g c, E = .returned (.slice (some ⟨g, 0, none⟩) 8 c) ∧ (OwR w' w.heap.size (some ⟨g, 0, none⟩) c 8 rows ∧ w.heap.size ≤ g ∧ g < w'.heap.size ∧ w'.cell? ⟨g, t * 3, none⟩ = some (.int .i64 (Sw.rowAt rows t).who) ∧ w'.cell? ⟨g, t * 3 + 1, none⟩ = some (.int .i64 (Sw.rowAt rows t).face) ∧ w'.cell? ⟨g, t * 3 + 2, none⟩ = some (.bool (Sw.rowAt rows t).used)) ∧ Ex w w' := by
  refine (iRows_c aL aLc aLn aP aPc aPn aD aDc aDn aN aNc aNn aS aSc aSn m w hL).mono ?_
  rintro E w' ⟨A', c', n', rfl, ho, hb⟩
  rw [Sw.mktRows_of hf] at ho
  have h8 := Sw.ownOk_len (Sw.ownFold_ok hf)
  obtain rfl : n' = 8 := by rw [ho.1, h8]
  obtain ⟨g, x, rfl, hlo, hlt, hx, c0, c1, c2, hfz⟩ := at_OR ho ht
  have e : Sw.rowAt rows t = x := by unfold Sw.rowAt; rw [Int.toNat_natCast]; exact Sw.getD_of hx
  rw [e]
  exact ⟨g, c', rfl, ⟨ho, hlo, hlt, c0, c1, c2⟩, hb⟩
section
variable {g o n lo : Nat} {τ0 τ : Nat → Nat} {w0 w : World} {aL : Option Addr} {aLc aLn : Nat} {aP : Option Addr} {aPc aPn : Nat} {aD : Option Addr} {aDc aDn : Nat} {aN : Option Addr} {aNc aNn : Nat} {aS : Option Addr} {aSc aSn : Nat} {m : Sw.Mkt}
def EffPost (g o n lo : Nat) (τ0 : Nat → Nat) (w0 w' : World) (E : Ending) (x : Sw.Mkt × Int) : Prop := ∃ (bL : Option Addr) (bLc bLn : Nat) (bP : Option Addr) (bPc bPn : Nat) (bD : Option Addr) (bDc bDn : Nat) (bN : Option Addr) (bNc bNn : Nat) (bS : Option Addr) (bSc bSn : Nat) (τ' : Nat → Nat), E = .returned (.int .i64 x.2) ∧ MS g o n lo τ0 w0 bL bLc bLn bP bPc bPn bD bDc bDn bN bNc bNn bS bSc bSn x.1 τ' w'
theorem iEffect1_c (hS : MS g o n lo τ0 w0 aL aLc aLn aP aPc aPn aD aDc aDn aN aNc aNn aS aSc aSn m τ w) (ru rn : Int) (t : Nat) (rh rp : Int) {rows : List Sw.Row} (hok : Sw.MOk m rows) (ht : t < 8) (hu1 : 1 ≤ ru) (hu5 : ru ≤ 5) : Calls Try.prog 80 #[.pointer (some ⟨g, o, none⟩), .agg #[.int .i64 ru, .int .i64 rn, .int .i64 1, .int .i64 t, .int .i64 rh, .int .i64 rp]] w fun E w' =>
    EffPost g o n lo τ0 w0 w' E (Sw.issue m ⟨ru, rn, 1, t, rh, rp⟩ (Sw.rowAt rows t)) := by
  have hSw := hS
  obtain ⟨k0, k1, k2, k3, k4, k5, k6, kf⟩ := hS.at_
  have HS := Lib.hid hS
  have hLr := hS.ow.log.ow.rs
  have hDr := hS.ow.deals.ow.rs
  have hpn : aPn ≤ 4194304 := by have := hS.ow.purses.ow.1; have := (Sw.monOk_iff.1 hok.mon).1; omega
  have HL := Lib.hid (Sw.ownFold_some.1 hok.fold).1
  have HO := Lib.hid hok.fold
  have HK := Lib.hid hok
  have i0 : (0 : Int) ≤ (t : Int) := by omega
  have i1 : (t : Int) < 8 := by omega
  obtain ⟨ai, hat⟩ : ∃ z, z = Sw.dealIx m.deals t := ⟨_, rfl⟩
  have HA := Lib.hid hat
  clear hS hSw hok hat
  go_enter Try.func80, Try.ntmps80
  go_upto_region 1 with fail
  go_cut [5] (fun p wx => ∃ gb : Nat, p = .pointer (some ⟨gb, 0, none⟩) ∧ w.heap.size + 1 ≤ gb ∧ gb < wx.heap.size ∧ wx.cell? ⟨gb, 0, none⟩ = some (.int .i64 (Sw.rowAt rows t).who) ∧ wx.cell? ⟨gb, 1, none⟩ = some (.int .i64 (Sw.rowAt rows t).face) ∧ wx.cell? ⟨gb, 2, none⟩ = some (.bool (Sw.rowAt rows t).used) ∧ Ex (w.alloc (.cells #[.int .i64 ru, .int .i64 rn, .int .i64 1, .int .i64 t, .int .i64 rh, .int .i64 rp] 43)) wx)
  case first =>
    (focus (refine wp_name ?_; intro W0 hb0; have hst := xr hb0; (try simp only [zA, zC, zD, zN] at hst); obtain ⟨hc0, hf0, hz0⟩ := hst; refine wp_regionX [] (S := fun w' => Held W0 w') hdH (fun hHeld => ?_); refine GoesX.take 0 8 [] hHeld (h := ?_); refine GoesX.take 1 9 [] hHeld (h := ?_); refine GoesX.take 2 10 [] hHeld (h := ?_); refine GoesX.take 4 12 [] hHeld (h := ?_); refine GoesX.take 5 13 [] hHeld (h := ?_); refine GoesX.ready (rs := [3, 8]) (by kernel_rfl) (by simp) ?_; refine EachX.cons rfl (fun K hK => ?_) ?_; rotate_left; refine EachX.cons rfl (fun K hK => ?_) EachX.nil; (focus (go_simp; refine outS hK hdH (h := fun hH2 => ?_); clear hK K hHeld; have hHeld := hH2; clear hH2; refine GoesX.one 3 (h := fun K hK => ?_); go_simp; (go_at_call 32; apply Calls.mono; apply (iRowsT_c (rows := rows) (t := t)); (apply Rs.at0 hLr; (exact kf_)); exact HO.out; exact ht; rintro E w1 ⟨gr, dr, rfl, ⟨hoR, hgR0, hgR, q0, q1, q2⟩, hb⟩; have hst := xr hb; (try simp only [zA, zC, zD, zN] at hst); obtain ⟨hc, hf, hz⟩ := hst); (try go_wp2_with fail); refine outS hK hdH (h := fun hH2 => ?_); clear hK K hHeld; have hHeld := hH2; clear hH2; refine GoesX.take 6 14 [] hHeld (h := ?_); refine GoesX.one 7 (h := fun K hK => ?_); go_simp; refine outS hK hdH (h := fun hH2 => ?_); clear hK K hHeld; have hHeld := hH2; clear hH2; refine GoesX.one 9 (h := fun K hK => ?_); go_simp; refine outS hK hdH (h := fun hH2 => ?_); clear hK K hHeld; have hHeld := hH2; clear hH2; refine GoesX.done (by kernel_rfl) ?_ _; all_goals (have hb := And.right (by assumption : Held W0 _); have hst := xr hb; (try simp only [zA, zC, zD, zN] at hst); obtain ⟨hc, hf, hz⟩ := hst))); rotate_right 1; (focus (go_simp; (go_at_call 32; apply Calls.mono; apply (iRowsT_c (rows := rows) (t := t)); (apply Rs.at0 hLr; (exact kf_)); exact HO.out; exact ht; rintro E w1 ⟨gr, dr, rfl, ⟨hoR, hgR0, hgR, q0, q1, q2⟩, hb⟩; have hst := xr hb; (try simp only [zA, zC, zD, zN] at hst); obtain ⟨hc, hf, hz⟩ := hst); (try go_wp2_with fail); refine outS hK hdH (h := fun hH2 => ?_); clear hK K hHeld; have hHeld := hH2; clear hH2; refine GoesX.take 6 14 [] hHeld (h := ?_); refine GoesX.ready (rs := [7, 8]) (by kernel_rfl) (by simp) ?_; refine EachX.cons rfl (fun K hK => ?_) ?_; rotate_left; refine EachX.cons rfl (fun K hK => ?_) EachX.nil; (focus (go_simp; refine outS hK hdH (h := fun hH2 => ?_); clear hK K hHeld; have hHeld := hH2; clear hH2; refine GoesX.one 7 (h := fun K hK => ?_); go_simp; refine outS hK hdH (h := fun hH2 => ?_); clear hK K hHeld; have hHeld := hH2; clear hH2; refine GoesX.one 9 (h := fun K hK => ?_); go_simp; refine outS hK hdH (h := fun hH2 => ?_); clear hK K hHeld; have hHeld := hH2; clear hH2; refine GoesX.done (by kernel_rfl) ?_ _; all_goals (have hb := And.right (by assumption : Held W0 _); have hst := xr hb; (try simp only [zA, zC, zD, zN] at hst); obtain ⟨hc, hf, hz⟩ := hst))); rotate_right 1; (focus (go_simp; refine outS hK hdH (h := fun hH2 => ?_); clear hK K hHeld; have hHeld := hH2; clear hH2; refine GoesX.one 8 (h := fun K hK => ?_); go_simp; refine outS hK hdH (h := fun hH2 => ?_); clear hK K hHeld; have hHeld := hH2; clear hH2; refine GoesX.one 9 (h := fun K hK => ?_); go_simp; refine outS hK hdH (h := fun hH2 => ?_); clear hK K hHeld; have hHeld := hH2; clear hH2; refine GoesX.done (by kernel_rfl) ?_ _; all_goals (have hb := And.right (by assumption : Held W0 _); have hst := xr hb; (try simp only [zA, zC, zD, zN] at hst); obtain ⟨hc, hf, hz⟩ := hst)))))))
    all_goals go_wp2_with fail
    all_goals go_meet
    all_goals exact ⟨_, rfl, sz_, sz_, by (go_simp; first | done | simp [*]), by (go_simp; first | done | simp [*]), by (go_simp; first | done | simp [*]), ext_⟩
  case rest =>
    obtain ⟨gb, rfl, hgb0, hgb1, q0, q1, q2, hb⟩ := hcut
    have hst := xr hb; (try simp only [zA, zC, zD, zN] at hst); obtain ⟨hc, hf, hz⟩ := hst
    go_wp2_with fail
    (refine wp_name ?_; intro W0 hb0; have hst := xr hb0; (try simp only [zA, zC, zD, zN] at hst); obtain ⟨hc0, hf0, hz0⟩ := hst; refine wp_region_held_drew (S := fun w' => Held W0 w') (by kernel_rfl) ?_ (fun hHeld => ?_); (focus ((try dsimp only); (first | with_reducible assumption | with_reducible exact Held.start _ | with_reducible exact Held.of (by assumption) | with_reducible exact Held.ex (by assumption) (by assumption) | ((repeat (first | with_reducible refine Held.set ?_ (by simp only [zA, zC, zD, zN]; omega) | with_reducible refine Held.alloc ?_ _ | with_reducible refine Held.drew ?_)); (first | with_reducible assumption | with_reducible exact Held.refl _ | with_reducible exact Held.of (by assumption) | with_reducible exact Held.ex (by assumption) (by assumption))) | exact Held.of (by exact ext_)))); refine regT 0 16 (v := ?_) rfl rfl (by kernel_rfl) (by kernel_rfl) (by kernel_rfl) (fun _ _ _ h => h) (by rfl) ?_ (by assumption) ?_; rotate_left; (focus (intro w hSw; (try dsimp only at hSw); go_simp; (try with_reducible rfl))); (try simp only [Act.put, List.setIfInBounds_toArray, List.set_cons_zero, List.set_cons_succ]); refine regT 1 17 (v := ?_) rfl rfl (by kernel_rfl) (by kernel_rfl) (by kernel_rfl) (fun _ _ _ h => h) (by rfl) ?_ (by assumption) ?_; rotate_left; (focus (intro w hSw; (try dsimp only at hSw); go_simp; (try with_reducible rfl))); (try simp only [Act.put, List.setIfInBounds_toArray, List.set_cons_zero, List.set_cons_succ]); refine regT 2 18 (v := ?_) rfl rfl (by kernel_rfl) (by kernel_rfl) (by kernel_rfl) (fun _ _ _ h => h) (by rfl) ?_ (by assumption) ?_; rotate_left; (focus (intro w hSw; (try dsimp only at hSw); go_simp; (try with_reducible rfl))); (try simp only [Act.put, List.setIfInBounds_toArray, List.set_cons_zero, List.set_cons_succ]); refine regT 3 19 (v := ?_) rfl rfl (by kernel_rfl) (by kernel_rfl) (by kernel_rfl) (fun _ _ _ h => h) (by rfl) ?_ (by assumption) ?_; rotate_left; (focus (intro w hSw; (try dsimp only at hSw); go_simp; (try with_reducible rfl))); (try simp only [Act.put, List.setIfInBounds_toArray, List.set_cons_zero, List.set_cons_succ]); refine regT 4 20 (v := ?_) rfl rfl (by kernel_rfl) (by kernel_rfl) (by kernel_rfl) (fun _ _ _ h => h) (by rfl) ?_ (by assumption) ?_; rotate_left; (focus (intro w hSw; (try dsimp only at hSw); go_simp; (try with_reducible rfl))); (try simp only [Act.put, List.setIfInBounds_toArray, List.set_cons_zero, List.set_cons_succ]); refine wpAnyH_ready (rs := [5]) (by kernel_rfl) (by simp) ?_; refine AllReadyH.cons rfl (fun K hK => ?_) ?_; rotate_left; (focus exact AllReadyH.nil); go_simp; (go_at_call 68; apply Calls.mono; apply iDeal_c; (apply Rs.at0 hDr; (exact kf_)); rintro E w2 ⟨rfl, hb⟩; rw [← HA.out]; have hst := xr hb; (try simp only [zA, zC, zD, zN] at hst); obtain ⟨hc, hf, hz⟩ := hst); (try go_wp2_with fail); refine hK.out _ _ ?_ (fun hHeld => ?_); (focus ((try dsimp only); (first | with_reducible assumption | with_reducible exact Held.start _ | with_reducible exact Held.of (by assumption) | with_reducible exact Held.ex (by assumption) (by assumption) | ((repeat (first | with_reducible refine Held.set ?_ (by simp only [zA, zC, zD, zN]; omega) | with_reducible refine Held.alloc ?_ _ | with_reducible refine Held.drew ?_)); (first | with_reducible assumption | with_reducible exact Held.refl _ | with_reducible exact Held.of (by assumption) | with_reducible exact Held.ex (by assumption) (by assumption))) | exact Held.of (by exact ext_)))); clear hK K; (try simp only [Act.put, List.setIfInBounds_toArray, List.set_cons_zero, List.set_cons_succ]); refine regT 6 6 (v := ?_) rfl rfl (by kernel_rfl) (by kernel_rfl) (by kernel_rfl) (fun _ _ _ h => h) (by rfl) ?_ (by assumption) ?_; rotate_left; (focus (intro w hSw; (try dsimp only at hSw); go_simp; (try with_reducible rfl))); (try simp only [Act.put, List.setIfInBounds_toArray, List.set_cons_zero, List.set_cons_succ]); refine wpAnyH_done (by kernel_rfl) ?_ _; all_goals (have hb := And.right (by assumption : Held W0 _); have hst := xr hb; (try simp only [zA, zC, zD, zN] at hst); obtain ⟨hc, hf, hz⟩ := hst))
    all_goals go_wp2_with fail
    apply Calls.mono
    apply (iIssue_c (HS.out.ex ext_) ru rn t rh rp (Sw.rowAt rows t) HL.out hpn)
    rintro E w5 ⟨bL, bLc, bLn, bP, bPc, bPn, bD, bDc, bDn, bN, bNc, bNn, bS, bSc, bSn, τ5, rfl, hm5⟩
    go_wp2
    go_ret
    exact ⟨_, _, _, _, _, _, _, _, _, _, _, _, _, _, _, τ5, rfl, hm5⟩
theorem iEffect4_c (hS : MS g o n lo τ0 w0 aL aLc aLn aP aPc aPn aD aDc aDn aN aNc aNn aS aSc aSn m τ w) (ru rn : Int) (t : Nat) (rh rp : Int) {rows : List Sw.Row} (hok : Sw.MOk m rows) (ht : t < 8) (hu1 : 1 ≤ ru) (hu5 : ru ≤ 5) : Calls Try.prog 80 #[.pointer (some ⟨g, o, none⟩), .agg #[.int .i64 ru, .int .i64 rn, .int .i64 4, .int .i64 t, .int .i64 rh, .int .i64 rp]] w fun E w' =>
    EffPost g o n lo τ0 w0 w' E (Sw.fund m ⟨ru, rn, 4, t, rh, rp⟩ (Sw.dealAt m.deals t)) := by
  have hSw := hS
  obtain ⟨k0, k1, k2, k3, k4, k5, k6, kf⟩ := hS.at_
  have HS := Lib.hid hS
  have hLr := hS.ow.log.ow.rs
  have hDr := hS.ow.deals.ow.rs
  have hpn : aPn ≤ 4194304 := by have := hS.ow.purses.ow.1; have := (Sw.monOk_iff.1 hok.mon).1; omega
  have HL := Lib.hid (Sw.ownFold_some.1 hok.fold).1
  have HO := Lib.hid hok.fold
  have HK := Lib.hid hok
  have i0 : (0 : Int) ≤ (t : Int) := by omega
  have i1 : (t : Int) < 8 := by omega
  obtain ⟨ai, hat⟩ : ∃ z, z = Sw.dealIx m.deals t := ⟨_, rfl⟩
  have HA := Lib.hid hat
  clear hS hSw hok hat
  go_enter Try.func80, Try.ntmps80
  go_upto_region 1 with fail
  go_cut [5] (fun p wx => ∃ gb : Nat, p = .pointer (some ⟨gb, 0, none⟩) ∧ w.heap.size + 1 ≤ gb ∧ gb < wx.heap.size ∧ wx.cell? ⟨gb, 0, none⟩ = some (.int .i64 (Sw.rowAt rows t).who) ∧ wx.cell? ⟨gb, 1, none⟩ = some (.int .i64 (Sw.rowAt rows t).face) ∧ wx.cell? ⟨gb, 2, none⟩ = some (.bool (Sw.rowAt rows t).used) ∧ Ex (w.alloc (.cells #[.int .i64 ru, .int .i64 rn, .int .i64 4, .int .i64 t, .int .i64 rh, .int .i64 rp] 43)) wx)
  case first =>
    (focus (refine wp_name ?_; intro W0 hb0; have hst := xr hb0; (try simp only [zA, zC, zD, zN] at hst); obtain ⟨hc0, hf0, hz0⟩ := hst; refine wp_regionX [] (S := fun w' => Held W0 w') hdH (fun hHeld => ?_); refine GoesX.take 0 8 [] hHeld (h := ?_); refine GoesX.take 1 9 [] hHeld (h := ?_); refine GoesX.take 2 10 [] hHeld (h := ?_); refine GoesX.take 4 12 [] hHeld (h := ?_); refine GoesX.take 5 13 [] hHeld (h := ?_); refine GoesX.ready (rs := [3, 8]) (by kernel_rfl) (by simp) ?_; refine EachX.cons rfl (fun K hK => ?_) ?_; rotate_left; refine EachX.cons rfl (fun K hK => ?_) EachX.nil; (focus (go_simp; refine outS hK hdH (h := fun hH2 => ?_); clear hK K hHeld; have hHeld := hH2; clear hH2; refine GoesX.one 3 (h := fun K hK => ?_); go_simp; (go_at_call 32; apply Calls.mono; apply (iRowsT_c (rows := rows) (t := t)); (apply Rs.at0 hLr; (exact kf_)); exact HO.out; exact ht; rintro E w1 ⟨gr, dr, rfl, ⟨hoR, hgR0, hgR, q0, q1, q2⟩, hb⟩; have hst := xr hb; (try simp only [zA, zC, zD, zN] at hst); obtain ⟨hc, hf, hz⟩ := hst); (try go_wp2_with fail); refine outS hK hdH (h := fun hH2 => ?_); clear hK K hHeld; have hHeld := hH2; clear hH2; refine GoesX.take 6 14 [] hHeld (h := ?_); refine GoesX.one 7 (h := fun K hK => ?_); go_simp; refine outS hK hdH (h := fun hH2 => ?_); clear hK K hHeld; have hHeld := hH2; clear hH2; refine GoesX.one 9 (h := fun K hK => ?_); go_simp; refine outS hK hdH (h := fun hH2 => ?_); clear hK K hHeld; have hHeld := hH2; clear hH2; refine GoesX.done (by kernel_rfl) ?_ _; all_goals (have hb := And.right (by assumption : Held W0 _); have hst := xr hb; (try simp only [zA, zC, zD, zN] at hst); obtain ⟨hc, hf, hz⟩ := hst))); rotate_right 1; (focus (go_simp; (go_at_call 32; apply Calls.mono; apply (iRowsT_c (rows := rows) (t := t)); (apply Rs.at0 hLr; (exact kf_)); exact HO.out; exact ht; rintro E w1 ⟨gr, dr, rfl, ⟨hoR, hgR0, hgR, q0, q1, q2⟩, hb⟩; have hst := xr hb; (try simp only [zA, zC, zD, zN] at hst); obtain ⟨hc, hf, hz⟩ := hst); (try go_wp2_with fail); refine outS hK hdH (h := fun hH2 => ?_); clear hK K hHeld; have hHeld := hH2; clear hH2; refine GoesX.take 6 14 [] hHeld (h := ?_); refine GoesX.ready (rs := [7, 8]) (by kernel_rfl) (by simp) ?_; refine EachX.cons rfl (fun K hK => ?_) ?_; rotate_left; refine EachX.cons rfl (fun K hK => ?_) EachX.nil; (focus (go_simp; refine outS hK hdH (h := fun hH2 => ?_); clear hK K hHeld; have hHeld := hH2; clear hH2; refine GoesX.one 7 (h := fun K hK => ?_); go_simp; refine outS hK hdH (h := fun hH2 => ?_); clear hK K hHeld; have hHeld := hH2; clear hH2; refine GoesX.one 9 (h := fun K hK => ?_); go_simp; refine outS hK hdH (h := fun hH2 => ?_); clear hK K hHeld; have hHeld := hH2; clear hH2; refine GoesX.done (by kernel_rfl) ?_ _; all_goals (have hb := And.right (by assumption : Held W0 _); have hst := xr hb; (try simp only [zA, zC, zD, zN] at hst); obtain ⟨hc, hf, hz⟩ := hst))); rotate_right 1; (focus (go_simp; refine outS hK hdH (h := fun hH2 => ?_); clear hK K hHeld; have hHeld := hH2; clear hH2; refine GoesX.one 8 (h := fun K hK => ?_); go_simp; refine outS hK hdH (h := fun hH2 => ?_); clear hK K hHeld; have hHeld := hH2; clear hH2; refine GoesX.one 9 (h := fun K hK => ?_); go_simp; refine outS hK hdH (h := fun hH2 => ?_); clear hK K hHeld; have hHeld := hH2; clear hH2; refine GoesX.done (by kernel_rfl) ?_ _; all_goals (have hb := And.right (by assumption : Held W0 _); have hst := xr hb; (try simp only [zA, zC, zD, zN] at hst); obtain ⟨hc, hf, hz⟩ := hst)))))))
    all_goals go_wp2_with fail
    all_goals go_meet
    all_goals exact ⟨_, rfl, sz_, sz_, by (go_simp; first | done | simp [*]), by (go_simp; first | done | simp [*]), by (go_simp; first | done | simp [*]), ext_⟩
  case rest =>
    obtain ⟨gb, rfl, hgb0, hgb1, q0, q1, q2, hb⟩ := hcut
    have hst := xr hb; (try simp only [zA, zC, zD, zN] at hst); obtain ⟨hc, hf, hz⟩ := hst
    go_wp2_with fail
    (refine wp_name ?_; intro W0 hb0; have hst := xr hb0; (try simp only [zA, zC, zD, zN] at hst); obtain ⟨hc0, hf0, hz0⟩ := hst; refine wp_region_held_drew (S := fun w' => Held W0 w') (by kernel_rfl) ?_ (fun hHeld => ?_); (focus ((try dsimp only); (first | with_reducible assumption | with_reducible exact Held.start _ | with_reducible exact Held.of (by assumption) | with_reducible exact Held.ex (by assumption) (by assumption) | ((repeat (first | with_reducible refine Held.set ?_ (by simp only [zA, zC, zD, zN]; omega) | with_reducible refine Held.alloc ?_ _ | with_reducible refine Held.drew ?_)); (first | with_reducible assumption | with_reducible exact Held.refl _ | with_reducible exact Held.of (by assumption) | with_reducible exact Held.ex (by assumption) (by assumption))) | exact Held.of (by exact ext_)))); refine regT 0 16 (v := ?_) rfl rfl (by kernel_rfl) (by kernel_rfl) (by kernel_rfl) (fun _ _ _ h => h) (by rfl) ?_ (by assumption) ?_; rotate_left; (focus (intro w hSw; (try dsimp only at hSw); go_simp; (try with_reducible rfl))); (try simp only [Act.put, List.setIfInBounds_toArray, List.set_cons_zero, List.set_cons_succ]); refine regT 1 17 (v := ?_) rfl rfl (by kernel_rfl) (by kernel_rfl) (by kernel_rfl) (fun _ _ _ h => h) (by rfl) ?_ (by assumption) ?_; rotate_left; (focus (intro w hSw; (try dsimp only at hSw); go_simp; (try with_reducible rfl))); (try simp only [Act.put, List.setIfInBounds_toArray, List.set_cons_zero, List.set_cons_succ]); refine regT 2 18 (v := ?_) rfl rfl (by kernel_rfl) (by kernel_rfl) (by kernel_rfl) (fun _ _ _ h => h) (by rfl) ?_ (by assumption) ?_; rotate_left; (focus (intro w hSw; (try dsimp only at hSw); go_simp; (try with_reducible rfl))); (try simp only [Act.put, List.setIfInBounds_toArray, List.set_cons_zero, List.set_cons_succ]); refine regT 3 19 (v := ?_) rfl rfl (by kernel_rfl) (by kernel_rfl) (by kernel_rfl) (fun _ _ _ h => h) (by rfl) ?_ (by assumption) ?_; rotate_left; (focus (intro w hSw; (try dsimp only at hSw); go_simp; (try with_reducible rfl))); (try simp only [Act.put, List.setIfInBounds_toArray, List.set_cons_zero, List.set_cons_succ]); refine regT 4 20 (v := ?_) rfl rfl (by kernel_rfl) (by kernel_rfl) (by kernel_rfl) (fun _ _ _ h => h) (by rfl) ?_ (by assumption) ?_; rotate_left; (focus (intro w hSw; (try dsimp only at hSw); go_simp; (try with_reducible rfl))); (try simp only [Act.put, List.setIfInBounds_toArray, List.set_cons_zero, List.set_cons_succ]); refine wpAnyH_ready (rs := [5]) (by kernel_rfl) (by simp) ?_; refine AllReadyH.cons rfl (fun K hK => ?_) ?_; rotate_left; (focus exact AllReadyH.nil); go_simp; (go_at_call 68; apply Calls.mono; apply iDeal_c; (apply Rs.at0 hDr; (exact kf_)); rintro E w2 ⟨rfl, hb⟩; rw [← HA.out]; have hst := xr hb; (try simp only [zA, zC, zD, zN] at hst); obtain ⟨hc, hf, hz⟩ := hst); (try go_wp2_with fail); refine hK.out _ _ ?_ (fun hHeld => ?_); (focus ((try dsimp only); (first | with_reducible assumption | with_reducible exact Held.start _ | with_reducible exact Held.of (by assumption) | with_reducible exact Held.ex (by assumption) (by assumption) | ((repeat (first | with_reducible refine Held.set ?_ (by simp only [zA, zC, zD, zN]; omega) | with_reducible refine Held.alloc ?_ _ | with_reducible refine Held.drew ?_)); (first | with_reducible assumption | with_reducible exact Held.refl _ | with_reducible exact Held.of (by assumption) | with_reducible exact Held.ex (by assumption) (by assumption))) | exact Held.of (by exact ext_)))); clear hK K; (try simp only [Act.put, List.setIfInBounds_toArray, List.set_cons_zero, List.set_cons_succ]); refine regT 6 6 (v := ?_) rfl rfl (by kernel_rfl) (by kernel_rfl) (by kernel_rfl) (fun _ _ _ h => h) (by rfl) ?_ (by assumption) ?_; rotate_left; (focus (intro w hSw; (try dsimp only at hSw); go_simp; (try with_reducible rfl))); (try simp only [Act.put, List.setIfInBounds_toArray, List.set_cons_zero, List.set_cons_succ]); refine wpAnyH_done (by kernel_rfl) ?_ _; all_goals (have hb := And.right (by assumption : Held W0 _); have hst := xr hb; (try simp only [zA, zC, zD, zN] at hst); obtain ⟨hc, hf, hz⟩ := hst))
    all_goals go_wp2_with fail
    rw [HA.out]
    apply Calls.mono
    apply (iFund_c (HS.out.ex ext_) ru rn 4 t rh rp HK.out hu1 hu5)
    rintro E w5 ⟨bL, bLc, bLn, bP, bPc, bPn, bD, bDc, bDn, bN, bNc, bNn, bS, bSc, bSn, τ5, rfl, hm5⟩
    go_wp2
    go_ret
    exact ⟨_, _, _, _, _, _, _, _, _, _, _, _, _, _, _, τ5, rfl, hm5⟩
theorem iEffect5_c (hS : MS g o n lo τ0 w0 aL aLc aLn aP aPc aPn aD aDc aDn aN aNc aNn aS aSc aSn m τ w) (ru rn : Int) (t : Nat) (rh rp : Int) {rows : List Sw.Row} (hok : Sw.MOk m rows) (ht : t < 8) (hu1 : 1 ≤ ru) (hu5 : ru ≤ 5) : Calls Try.prog 80 #[.pointer (some ⟨g, o, none⟩), .agg #[.int .i64 ru, .int .i64 rn, .int .i64 5, .int .i64 t, .int .i64 rh, .int .i64 rp]] w fun E w' =>
    EffPost g o n lo τ0 w0 w' E (Sw.settle m ⟨ru, rn, 5, t, rh, rp⟩ (Sw.dealAt m.deals t)) := by
  have hSw := hS
  obtain ⟨k0, k1, k2, k3, k4, k5, k6, kf⟩ := hS.at_
  have HS := Lib.hid hS
  have hLr := hS.ow.log.ow.rs
  have hDr := hS.ow.deals.ow.rs
  have hpn : aPn ≤ 4194304 := by have := hS.ow.purses.ow.1; have := (Sw.monOk_iff.1 hok.mon).1; omega
  have HL := Lib.hid (Sw.ownFold_some.1 hok.fold).1
  have HO := Lib.hid hok.fold
  have HK := Lib.hid hok
  have i0 : (0 : Int) ≤ (t : Int) := by omega
  have i1 : (t : Int) < 8 := by omega
  obtain ⟨ai, hat⟩ : ∃ z, z = Sw.dealIx m.deals t := ⟨_, rfl⟩
  have HA := Lib.hid hat
  clear hS hSw hok hat
  go_enter Try.func80, Try.ntmps80
  go_upto_region 1 with fail
  go_cut [5] (fun p wx => ∃ gb : Nat, p = .pointer (some ⟨gb, 0, none⟩) ∧ w.heap.size + 1 ≤ gb ∧ gb < wx.heap.size ∧ wx.cell? ⟨gb, 0, none⟩ = some (.int .i64 (Sw.rowAt rows t).who) ∧ wx.cell? ⟨gb, 1, none⟩ = some (.int .i64 (Sw.rowAt rows t).face) ∧ wx.cell? ⟨gb, 2, none⟩ = some (.bool (Sw.rowAt rows t).used) ∧ Ex (w.alloc (.cells #[.int .i64 ru, .int .i64 rn, .int .i64 5, .int .i64 t, .int .i64 rh, .int .i64 rp] 43)) wx)
  case first =>
    (focus (refine wp_name ?_; intro W0 hb0; have hst := xr hb0; (try simp only [zA, zC, zD, zN] at hst); obtain ⟨hc0, hf0, hz0⟩ := hst; refine wp_regionX [] (S := fun w' => Held W0 w') hdH (fun hHeld => ?_); refine GoesX.take 0 8 [] hHeld (h := ?_); refine GoesX.take 1 9 [] hHeld (h := ?_); refine GoesX.take 2 10 [] hHeld (h := ?_); refine GoesX.take 4 12 [] hHeld (h := ?_); refine GoesX.take 5 13 [] hHeld (h := ?_); refine GoesX.ready (rs := [3, 8]) (by kernel_rfl) (by simp) ?_; refine EachX.cons rfl (fun K hK => ?_) ?_; rotate_left; refine EachX.cons rfl (fun K hK => ?_) EachX.nil; (focus (go_simp; refine outS hK hdH (h := fun hH2 => ?_); clear hK K hHeld; have hHeld := hH2; clear hH2; refine GoesX.one 3 (h := fun K hK => ?_); go_simp; (go_at_call 32; apply Calls.mono; apply (iRowsT_c (rows := rows) (t := t)); (apply Rs.at0 hLr; (exact kf_)); exact HO.out; exact ht; rintro E w1 ⟨gr, dr, rfl, ⟨hoR, hgR0, hgR, q0, q1, q2⟩, hb⟩; have hst := xr hb; (try simp only [zA, zC, zD, zN] at hst); obtain ⟨hc, hf, hz⟩ := hst); (try go_wp2_with fail); refine outS hK hdH (h := fun hH2 => ?_); clear hK K hHeld; have hHeld := hH2; clear hH2; refine GoesX.take 6 14 [] hHeld (h := ?_); refine GoesX.one 7 (h := fun K hK => ?_); go_simp; refine outS hK hdH (h := fun hH2 => ?_); clear hK K hHeld; have hHeld := hH2; clear hH2; refine GoesX.one 9 (h := fun K hK => ?_); go_simp; refine outS hK hdH (h := fun hH2 => ?_); clear hK K hHeld; have hHeld := hH2; clear hH2; refine GoesX.done (by kernel_rfl) ?_ _; all_goals (have hb := And.right (by assumption : Held W0 _); have hst := xr hb; (try simp only [zA, zC, zD, zN] at hst); obtain ⟨hc, hf, hz⟩ := hst))); rotate_right 1; (focus (go_simp; (go_at_call 32; apply Calls.mono; apply (iRowsT_c (rows := rows) (t := t)); (apply Rs.at0 hLr; (exact kf_)); exact HO.out; exact ht; rintro E w1 ⟨gr, dr, rfl, ⟨hoR, hgR0, hgR, q0, q1, q2⟩, hb⟩; have hst := xr hb; (try simp only [zA, zC, zD, zN] at hst); obtain ⟨hc, hf, hz⟩ := hst); (try go_wp2_with fail); refine outS hK hdH (h := fun hH2 => ?_); clear hK K hHeld; have hHeld := hH2; clear hH2; refine GoesX.take 6 14 [] hHeld (h := ?_); refine GoesX.ready (rs := [7, 8]) (by kernel_rfl) (by simp) ?_; refine EachX.cons rfl (fun K hK => ?_) ?_; rotate_left; refine EachX.cons rfl (fun K hK => ?_) EachX.nil; (focus (go_simp; refine outS hK hdH (h := fun hH2 => ?_); clear hK K hHeld; have hHeld := hH2; clear hH2; refine GoesX.one 7 (h := fun K hK => ?_); go_simp; refine outS hK hdH (h := fun hH2 => ?_); clear hK K hHeld; have hHeld := hH2; clear hH2; refine GoesX.one 9 (h := fun K hK => ?_); go_simp; refine outS hK hdH (h := fun hH2 => ?_); clear hK K hHeld; have hHeld := hH2; clear hH2; refine GoesX.done (by kernel_rfl) ?_ _; all_goals (have hb := And.right (by assumption : Held W0 _); have hst := xr hb; (try simp only [zA, zC, zD, zN] at hst); obtain ⟨hc, hf, hz⟩ := hst))); rotate_right 1; (focus (go_simp; refine outS hK hdH (h := fun hH2 => ?_); clear hK K hHeld; have hHeld := hH2; clear hH2; refine GoesX.one 8 (h := fun K hK => ?_); go_simp; refine outS hK hdH (h := fun hH2 => ?_); clear hK K hHeld; have hHeld := hH2; clear hH2; refine GoesX.one 9 (h := fun K hK => ?_); go_simp; refine outS hK hdH (h := fun hH2 => ?_); clear hK K hHeld; have hHeld := hH2; clear hH2; refine GoesX.done (by kernel_rfl) ?_ _; all_goals (have hb := And.right (by assumption : Held W0 _); have hst := xr hb; (try simp only [zA, zC, zD, zN] at hst); obtain ⟨hc, hf, hz⟩ := hst)))))))
    all_goals go_wp2_with fail
    all_goals go_meet
    all_goals exact ⟨_, rfl, sz_, sz_, by (go_simp; first | done | simp [*]), by (go_simp; first | done | simp [*]), by (go_simp; first | done | simp [*]), ext_⟩
  case rest =>
    obtain ⟨gb, rfl, hgb0, hgb1, q0, q1, q2, hb⟩ := hcut
    have hst := xr hb; (try simp only [zA, zC, zD, zN] at hst); obtain ⟨hc, hf, hz⟩ := hst
    go_wp2_with fail
    (refine wp_name ?_; intro W0 hb0; have hst := xr hb0; (try simp only [zA, zC, zD, zN] at hst); obtain ⟨hc0, hf0, hz0⟩ := hst; refine wp_region_held_drew (S := fun w' => Held W0 w') (by kernel_rfl) ?_ (fun hHeld => ?_); (focus ((try dsimp only); (first | with_reducible assumption | with_reducible exact Held.start _ | with_reducible exact Held.of (by assumption) | with_reducible exact Held.ex (by assumption) (by assumption) | ((repeat (first | with_reducible refine Held.set ?_ (by simp only [zA, zC, zD, zN]; omega) | with_reducible refine Held.alloc ?_ _ | with_reducible refine Held.drew ?_)); (first | with_reducible assumption | with_reducible exact Held.refl _ | with_reducible exact Held.of (by assumption) | with_reducible exact Held.ex (by assumption) (by assumption))) | exact Held.of (by exact ext_)))); refine regT 0 16 (v := ?_) rfl rfl (by kernel_rfl) (by kernel_rfl) (by kernel_rfl) (fun _ _ _ h => h) (by rfl) ?_ (by assumption) ?_; rotate_left; (focus (intro w hSw; (try dsimp only at hSw); go_simp; (try with_reducible rfl))); (try simp only [Act.put, List.setIfInBounds_toArray, List.set_cons_zero, List.set_cons_succ]); refine regT 1 17 (v := ?_) rfl rfl (by kernel_rfl) (by kernel_rfl) (by kernel_rfl) (fun _ _ _ h => h) (by rfl) ?_ (by assumption) ?_; rotate_left; (focus (intro w hSw; (try dsimp only at hSw); go_simp; (try with_reducible rfl))); (try simp only [Act.put, List.setIfInBounds_toArray, List.set_cons_zero, List.set_cons_succ]); refine regT 2 18 (v := ?_) rfl rfl (by kernel_rfl) (by kernel_rfl) (by kernel_rfl) (fun _ _ _ h => h) (by rfl) ?_ (by assumption) ?_; rotate_left; (focus (intro w hSw; (try dsimp only at hSw); go_simp; (try with_reducible rfl))); (try simp only [Act.put, List.setIfInBounds_toArray, List.set_cons_zero, List.set_cons_succ]); refine regT 3 19 (v := ?_) rfl rfl (by kernel_rfl) (by kernel_rfl) (by kernel_rfl) (fun _ _ _ h => h) (by rfl) ?_ (by assumption) ?_; rotate_left; (focus (intro w hSw; (try dsimp only at hSw); go_simp; (try with_reducible rfl))); (try simp only [Act.put, List.setIfInBounds_toArray, List.set_cons_zero, List.set_cons_succ]); refine regT 4 20 (v := ?_) rfl rfl (by kernel_rfl) (by kernel_rfl) (by kernel_rfl) (fun _ _ _ h => h) (by rfl) ?_ (by assumption) ?_; rotate_left; (focus (intro w hSw; (try dsimp only at hSw); go_simp; (try with_reducible rfl))); (try simp only [Act.put, List.setIfInBounds_toArray, List.set_cons_zero, List.set_cons_succ]); refine wpAnyH_ready (rs := [5]) (by kernel_rfl) (by simp) ?_; refine AllReadyH.cons rfl (fun K hK => ?_) ?_; rotate_left; (focus exact AllReadyH.nil); go_simp; (go_at_call 68; apply Calls.mono; apply iDeal_c; (apply Rs.at0 hDr; (exact kf_)); rintro E w2 ⟨rfl, hb⟩; rw [← HA.out]; have hst := xr hb; (try simp only [zA, zC, zD, zN] at hst); obtain ⟨hc, hf, hz⟩ := hst); (try go_wp2_with fail); refine hK.out _ _ ?_ (fun hHeld => ?_); (focus ((try dsimp only); (first | with_reducible assumption | with_reducible exact Held.start _ | with_reducible exact Held.of (by assumption) | with_reducible exact Held.ex (by assumption) (by assumption) | ((repeat (first | with_reducible refine Held.set ?_ (by simp only [zA, zC, zD, zN]; omega) | with_reducible refine Held.alloc ?_ _ | with_reducible refine Held.drew ?_)); (first | with_reducible assumption | with_reducible exact Held.refl _ | with_reducible exact Held.of (by assumption) | with_reducible exact Held.ex (by assumption) (by assumption))) | exact Held.of (by exact ext_)))); clear hK K; (try simp only [Act.put, List.setIfInBounds_toArray, List.set_cons_zero, List.set_cons_succ]); refine regT 6 6 (v := ?_) rfl rfl (by kernel_rfl) (by kernel_rfl) (by kernel_rfl) (fun _ _ _ h => h) (by rfl) ?_ (by assumption) ?_; rotate_left; (focus (intro w hSw; (try dsimp only at hSw); go_simp; (try with_reducible rfl))); (try simp only [Act.put, List.setIfInBounds_toArray, List.set_cons_zero, List.set_cons_succ]); refine wpAnyH_done (by kernel_rfl) ?_ _; all_goals (have hb := And.right (by assumption : Held W0 _); have hst := xr hb; (try simp only [zA, zC, zD, zN] at hst); obtain ⟨hc, hf, hz⟩ := hst))
    all_goals go_wp2_with fail
    rw [HA.out]
    apply Calls.mono
    apply (iSettle_c (HS.out.ex ext_) ru rn 5 t rh rp HK.out)
    rintro E w5 ⟨bL, bLc, bLn, bP, bPc, bPn, bD, bDc, bDn, bN, bNc, bNn, bS, bSc, bSn, τ5, rfl, hm5⟩
    go_wp2
    go_ret
    exact ⟨_, _, _, _, _, _, _, _, _, _, _, _, _, _, _, τ5, rfl, hm5⟩
end
end Go.Proofs.Ytimpagcanengoaa

