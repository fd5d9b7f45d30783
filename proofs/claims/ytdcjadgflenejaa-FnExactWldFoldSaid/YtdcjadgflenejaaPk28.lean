/-
  Texts joined: DoF, PtrC.
-/
import Derived.Test.YtdcjadgflenejaaPk27
import Derived.Test.YtdcjadgflenejaaPk22
import Derived.Test.YtdcjadgflenejaaPk23
namespace Go.Proofs.Ytdcjadgflenejaa
set_option maxRecDepth 100000
set_option linter.unusedSimpArgs false
set_option linter.unusedVariables false
open Go.RowKit Go
set_option maxHeartbeats 2000000

theorem OwM.atD {aL : Option Addr} {aLc aLn : Nat} {aP : Option Addr} {aPc aPn : Nat} {aD : Option Addr} {aDc aDn : Nat} {aN : Option Addr} {aNc aNn : Nat} {aS : Option Addr} {aSc aSn : Nat} {m : Sw.Mkt} {τ : Nat → Nat} {w : World} {lo : Nat} (h : OwM τ w lo aL aLc aLn aP aPc aPn aD aDc aDn aN aNc aNn aS aSc aSn m) {g : Nat} (hg : aD = some ⟨g, 0, none⟩) : SM lo τ g :=
  ⟨(h.deals.ow.blk hg).1, by have := h.deals.tag _ hg; rw [show τ g = 3 from this]; decide, by have := h.deals.tag _ hg; rw [show τ g = 3 from this]; decide⟩
/-- A price put down: one deal turned in place. -/
theorem OwM.funded {aL aP aN aS : Option Addr} {aLc aLn aPc aPn aDc aDn aNc aNn aSc aSn : Nat} {m : Sw.Mkt} {τ : Nat → Nat} {w : World} {lo : Nat} {gD k : Nat} {y : Sw.Deal} (h : OwM τ w lo aL aLc aLn aP aPc aPn (some ⟨gD, 0, none⟩) aDc aDn aN aNc aNn aS aSc aSn m) (hx : m.deals[k]? = some y) (b d : Int) :
    OwM τ ((w.setCell ⟨gD, k * 5 + 3, none⟩ (.int .i64 b)).setCell ⟨gD, k * 5 + 4, none⟩ (.int .i64 d)) lo aL aLc aLn aP aPc aPn (some ⟨gD, 0, none⟩) aDc aDn aN aNc aNn aS aSc aSn { m with deals := m.deals.set k { y with buyer := b, due := d } } := by
  have tD : τ gD = 3 := h.deals.tag _ rfl
  have K : ∀ t, t ≠ 3 → KT τ t lo w ((w.setCell ⟨gD, k * 5 + 3, none⟩ (.int .i64 b)).setCell ⟨gD, k * 5 + 4, none⟩ (.int .i64 d)) := fun t ht =>
    ((KT.refl _ _ _ _).setCell (.inr (by show τ gD ≠ t; rw [tD]; exact Ne.symm ht))).setCell (.inr (by show τ gD ≠ t; rw [tD]; exact Ne.symm ht))
  refine ⟨h.log.keep (K 1 (by decide)), h.purses.keep (K 2 (by decide)), ⟨?_, h.deals.tag⟩, h.nums.keep (K 4 (by decide)), h.said.keep (K 5 (by decide))⟩
  have h2 := OD_set4 (OD_set3 h.deals.ow rfl hx b) rfl (set_atM hx) d
  rw [List.set_set] at h2
  exact h2

theorem sFund_c (aL : Option Addr) (aLc aLn : Nat) (aP : Option Addr) (aPc aPn : Nat) (aD : Option Addr) (aDc aDn : Nat) (aN : Option Addr) (aNc aNn : Nat) (aS : Option Addr) (aSc aSn : Nat) (m : Sw.Mkt) (ru rn rk : Int) (t : Nat) (rh rp : Int) (rows : List Sw.Row) (lo : Nat) (τ : Nat → Nat) (w : World) (hM : OwM τ w lo aL aLc aLn aP aPc aPn aD aDc aDn aN aNc aNn aS aSc aSn m) (hok : Sw.MOk m rows) (ht : t < 8) (hu1 : 1 ≤ ru) (hu5 : ru ≤ 5) (hlo : lo ≤ w.heap.size) : Calls Try.prog 62 #[.agg #[.slice aL aLn aLc, .slice aP aPn aPc, .slice aD aDn aDc, .int .i64 m.clock, .slice aN aNn aNc, .slice aS aSn aSc], .agg #[.int .i64 ru, .int .i64 rn, .int .i64 rk, .int .i64 t, .int .i64 rh, .int .i64 rp]] w fun E w' => MktPost lo τ w w' E (Sw.fund m ⟨ru, rn, rk, t, rh, rp⟩ (Sw.dealAt m.deals t)) := by
  have hMD := hM.deals
  have hMP := hM.purses
  have hd8 : m.deals.length ≤ 8 := hok.dlen
  have l3 := hM.deals.ow.1
  have hp5 : aPn ≤ 4194304 := by have := hM.purses.ow.1; have := (Sw.monOk_iff.1 hok.mon).1; omega
  have hck := hok.clk
  obtain ⟨hck0, hck1⟩ := hck
  have i0 : (0 : Int) ≤ (t : Int) := by omega
  have i1 : (t : Int) < 8 := by omega
  cases h3 : Sw.dealAt m.deals t
  case none =>
    have e : Sw.fund m ⟨ru, rn, rk, t, rh, rp⟩ none = (m, 3) := rfl
    rw [e]
    have HD := Lib.hid (dealIx_none h3)
    clear e l3 h3 hok
    go_enter Try.func62, Try.ntmps62
    go_wp2_with (go_at_call 81; apply Calls.mono; apply sFind_c; (apply OwT.rs0 hMD; (exact kf_)); rintro E w' ⟨rfl, rfl⟩; rw [HD.out])
    refine bodyPost_ret (v := .tuple #[.agg #[.slice aL aLn aLc, .slice aP aPn aPc, .slice aD aDn aDc, .int .i64 m.clock, .slice aN aNn aNc, .slice aS aSn aSc], .int .i64 3]) (by simp [results, Try.results62, go_sem, *]) rfl ?_
    exact ⟨_, _, _, _, _, _, _, _, _, _, _, _, _, _, _, τ, rfl, hM.keepF kf_, fun _ _ => rfl, ext_⟩
  rename_i kd
  obtain ⟨d, hd, hdt⟩ := Sw.dealAt_some h3
  have hk : kd < aDn := by have := (List.getElem?_eq_some_iff.1 hd).1; omega
  have HD := Lib.hid (dealIx_some h3)
  have hgd := Sw.getD_of (z := Sw.dealZ) hd
  obtain ⟨gD, y, rfl, hloD, hltD, hy, d0, d1, d2, d3, d4, hfD⟩ := at_OD hM.deals.ow hk
  obtain rfl : y = d := Option.some.inj (hy.symm.trans hd)
  have hpr := (Sw.dealOk_iff.1 (hok.deals.get hd)).2.2.2.2.1
  have hcl := Sw.entCap_le (Sw.rowAt rows y.ticket).face
  have p0 : 1 ≤ y.price := by omega
  have p1 : y.price ≤ 60 := by omega
  clear hpr hcl hok
  have k0 : (0 : Int) ≤ (kd : Int) := by omega
  have k1 : (kd : Int) < (aDn : Int) := by omega
  have k2 : ¬ (kd : Int) < 0 := by omega
  by_cases h4 : 0 < y.buyer
  · have e : Sw.fund m ⟨ru, rn, rk, t, rh, rp⟩ (some kd) = (m, 3) := by unfold Sw.fund; dsimp only; rw [hgd, if_pos (by simp [Sw.held, h4])]
    rw [e]
    clear e l3 h3 hd hdt hy hgd
    go_enter Try.func62, Try.ntmps62
    go_wp2_with (go_at_call 81; apply Calls.mono; apply sFind_c; (apply OwT.rs0 hMD; (exact kf_)); rintro E w' ⟨rfl, rfl⟩; rw [HD.out])
    refine bodyPost_ret (v := .tuple #[.agg #[.slice aL aLn aLc, .slice aP aPn aPc, .slice (some ⟨gD, 0, none⟩) aDn aDc, .int .i64 m.clock, .slice aN aNn aNc, .slice aS aSn aSc], .int .i64 3]) (by simp [results, Try.results62, go_sem, *]) rfl ?_
    exact ⟨_, _, _, _, _, _, _, _, _, _, _, _, _, _, _, τ, rfl, hM.keepF kf_, fun _ _ => rfl, ext_⟩
  have hh : ¬ Sw.held y = true := by simp [Sw.held]; omega
  by_cases h5 : y.seller = ru
  · have g5 : (y.seller == ru) = true := by simpa using h5
    have e : Sw.fund m ⟨ru, rn, rk, t, rh, rp⟩ (some kd) = (m, 2) := by unfold Sw.fund; dsimp only; rw [hgd, if_neg hh, if_pos h5]
    rw [e]
    clear e l3 h3 hd hdt hy hgd h5 hh
    go_enter Try.func62, Try.ntmps62
    go_wp2_with (go_at_call 81; apply Calls.mono; apply sFind_c; (apply OwT.rs0 hMD; (exact kf_)); rintro E w' ⟨rfl, rfl⟩; rw [HD.out])
    (go_quiet ((first | fail)); all_goals (generalize hWq : World.drewN _ nq = W0; have hb0 := Ex.ofN hWq; clear hWq; have hst := xr hb0; (try simp only [zA, zC, zD, zN] at hst); obtain ⟨hc0, hf0, hz0⟩ := hst))
    go_wp2
    refine bodyPost_ret (v := .tuple #[.agg #[.slice aL aLn aLc, .slice aP aPn aPc, .slice (some ⟨gD, 0, none⟩) aDn aDc, .int .i64 m.clock, .slice aN aNn aNc, .slice aS aSn aSc], .int .i64 2]) (by simp [results, Try.results62, go_sem, *]) rfl ?_
    exact ⟨_, _, _, _, _, _, _, _, _, _, _, _, _, _, _, τ, rfl, hM.keepF kf_, fun _ _ => rfl, ext_⟩
  have g5 : (y.seller == ru) = false := by simpa using h5
  have hwr : IntKind.i64.wrap (-y.price) = -y.price := IntWalk.i64_in _ (by omega)
  cases h6 : Sw.turnMay m.purses ru (-y.price)
  case false =>
    have e : Sw.fund m ⟨ru, rn, rk, t, rh, rp⟩ (some kd) = (m, 5) := by unfold Sw.fund; dsimp only; rw [hgd, if_neg hh, if_neg h5, if_neg (by simp [h6])]
    rw [e]
    clear e l3 h3 hd hdt hy hgd h5 hh
    go_enter Try.func62, Try.ntmps62
    go_wp2_with (go_at_call 81; apply Calls.mono; apply sFind_c; (apply OwT.rs0 hMD; (exact kf_)); rintro E w' ⟨rfl, rfl⟩; rw [HD.out])
    (go_quiet ((first | fail)); all_goals (generalize hWq : World.drewN _ nq = W0; have hb0 := Ex.ofN hWq; clear hWq; have hst := xr hb0; (try simp only [zA, zC, zD, zN] at hst); obtain ⟨hc0, hf0, hz0⟩ := hst))
    go_wp2
    (refine wp_name ?_; intro W0 hb0; have hst := xr hb0; (try simp only [zA, zC, zD, zN] at hst); obtain ⟨hc0, hf0, hz0⟩ := hst; go_region_held3 (fun w' => Held W0 w') ((first | with_reducible assumption | with_reducible exact Held.start _ | with_reducible exact Held.of (by assumption) | with_reducible exact Held.ex (by assumption) (by assumption) | ((repeat (first | with_reducible refine Held.set ?_ (by simp only [zA, zC, zD, zN]; omega) | with_reducible refine Held.alloc ?_ _ | with_reducible refine Held.drew ?_)); (first | with_reducible assumption | with_reducible exact Held.refl _ | with_reducible exact Held.of (by assumption) | with_reducible exact Held.ex (by assumption) (by assumption))) | exact Held.of (by exact ext_))) (((go_at_call 59; apply Calls.mono; apply sMonTurn_c; ((first | (apply Rs.at0; assumption) | (apply Ow.rs0; assumption) | (apply OwT.rs0; assumption)); exact kf_); (first | assumption | omega); rintro E w1 ⟨A', c', rfl, hoP, hb⟩; have hst := xr hb; (try simp only [zA, zC, zD, zN] at hst); obtain ⟨hc, hf, hz⟩ := hst))); all_goals (have hb := And.right (by assumption : Held W0 _); have hst := xr hb; (try simp only [zA, zC, zD, zN] at hst); obtain ⟨hc, hf, hz⟩ := hst))
    all_goals go_wp2
    refine bodyPost_ret (v := .tuple #[.agg #[.slice aL aLn aLc, .slice aP aPn aPc, .slice (some ⟨gD, 0, none⟩) aDn aDc, .int .i64 m.clock, .slice aN aNn aNc, .slice aS aSn aSc], .int .i64 5]) (by simp [results, Try.results62, go_sem, *]) rfl ?_
    exact ⟨_, _, _, _, _, _, _, _, _, _, _, _, _, _, _, τ, rfl, hM.keepF kf_, fun _ _ => rfl, ext_⟩
  have e : Sw.fund m ⟨ru, rn, rk, t, rh, rp⟩ (some kd) = ({ m with purses := Sw.turned m.purses ru (-y.price), deals := m.deals.set kd { y with buyer := ru, due := m.clock + 5 } }, 1) := by unfold Sw.fund; dsimp only; rw [hgd, if_neg hh, if_neg h5, if_pos h6]
  rw [e]
  have HP := Lib.hid (show Sw.monTurn m.purses ru (-y.price) = Sw.turned m.purses ru (-y.price) from by unfold Sw.monTurn; rw [if_pos h6])
  have HY := Lib.hid hy
  clear e l3 h3 hd hdt hy hgd h5 hh
  go_enter Try.func62, Try.ntmps62
  go_wp2_with (go_at_call 81; apply Calls.mono; apply sFind_c; (apply OwT.rs0 hMD; (exact kf_)); rintro E w' ⟨rfl, rfl⟩; rw [HD.out])
  (go_quiet ((first | fail)); all_goals (generalize hWq : World.drewN _ nq = W0; have hb0 := Ex.ofN hWq; clear hWq; have hst := xr hb0; (try simp only [zA, zC, zD, zN] at hst); obtain ⟨hc0, hf0, hz0⟩ := hst))
  go_wp2
  (refine wp_name ?_; intro W0 hb0; have hst := xr hb0; (try simp only [zA, zC, zD, zN] at hst); obtain ⟨hc0, hf0, hz0⟩ := hst; go_region_held3 (fun w' => Held W0 w') ((first | with_reducible assumption | with_reducible exact Held.start _ | with_reducible exact Held.of (by assumption) | with_reducible exact Held.ex (by assumption) (by assumption) | ((repeat (first | with_reducible refine Held.set ?_ (by simp only [zA, zC, zD, zN]; omega) | with_reducible refine Held.alloc ?_ _ | with_reducible refine Held.drew ?_)); (first | with_reducible assumption | with_reducible exact Held.refl _ | with_reducible exact Held.of (by assumption) | with_reducible exact Held.ex (by assumption) (by assumption))) | exact Held.of (by exact ext_))) (((go_at_call 59; apply Calls.mono; apply sMonTurn_c; ((first | (apply Rs.at0; assumption) | (apply Ow.rs0; assumption) | (apply OwT.rs0; assumption)); exact kf_); (first | assumption | omega); rintro E w1 ⟨A', c', rfl, hoP, hb⟩; have hst := xr hb; (try simp only [zA, zC, zD, zN] at hst); obtain ⟨hc, hf, hz⟩ := hst))); all_goals (have hb := And.right (by assumption : Held W0 _); have hst := xr hb; (try simp only [zA, zC, zD, zN] at hst); obtain ⟨hc, hf, hz⟩ := hst))
  all_goals go_wp2
  refine bodyPost_ret (v := .tuple #[.agg #[.slice aL aLn aLc, .slice A' aPn c', .slice (some ⟨gD, 0, none⟩) aDn aDc, .int .i64 m.clock, .slice aN aNn aNc, .slice aS aSn aSc], .int .i64 1]) (by simp [results, Try.results62, go_sem, *]) rfl ?_
  rw [HP.out] at hoP
  have m1 := OwM.pursed ((hM.glueL (τ' := fun _ => 0) (Nat.le_refl _)).keepF kf_) hoP (Nat.le_refl _) sz_ (kE (by assumption) (kR _ _))
  have m2 := OwM.funded (m1.box (w' := w1.setCell ⟨w.heap.size, 1, none⟩ (.slice A' aPn c')) (g0 := w.heap.size) (g1 := w.heap.size + 3) bx_ (tag1 tag0 sz_)) HY.out ru (m.clock + 5)
  have hgS : SM lo τ gD ∨ w.heap.size ≤ gD := .inl (hM.atD rfl)
  exact ⟨_, _, _, _, _, _, _, _, _, _, _, _, _, _, _, _, rfl, m2.box (g0 := w.heap.size) (g1 := w.heap.size + 3) bx_ (tag1 tag0 sz_), fun b hb => (if_pos sz_).trans (if_pos hb), by (with_reducible repeat (first | exact cR _ _ | apply cA | apply cD | apply cN | (refine cS ?_ (Or.inr (by first | omega | (simp only [zA, zC, zD, zN]; omega))) _) | (refine cS ?_ hgS _) | (apply cE; assumption) | (apply cK; assumption)))⟩
end Go.Proofs.Ytdcjadgflenejaa

namespace Go.Proofs.Ytdcjadgflenejaa
set_option maxRecDepth 100000
set_option linter.unusedSimpArgs false
set_option linter.unusedVariables false
open Go.RowKit Go
set_option maxHeartbeats 2000000

/-- A market in the six cells from o on of block g, since a world w0 whose blocks were marked τ0. -/
structure MS (g o n lo : Nat) (τ0 : Nat → Nat) (w0 : World) (aL : Option Addr) (aLc aLn : Nat) (aP : Option Addr) (aPc aPn : Nat) (aD : Option Addr) (aDc aDn : Nat) (aN : Option Addr) (aNc aNn : Nat) (aS : Option Addr) (aSc aSn : Nat) (m : Sw.Mkt) (τ : Nat → Nat) (w : World) : Prop where
  at_ : MktAt w g o aL aLc aLn aP aPc aPn aD aDc aDn aN aNc aNn aS aSc aSn m.clock
  lb : Lb w g n
  ow : OwM τ w lo aL aLc aLn aP aPc aPn aD aDc aDn aN aNc aNn aS aSc aSn m
  tag : ∀ b, b < w0.heap.size → τ b = τ0 b
  out : ∀ i, i < o ∨ o + 6 ≤ i → w.cell? ⟨g, i, none⟩ = w0.cell? ⟨g, i, none⟩
  ch : Ch (SG g lo τ0) w0 w
  glt : g < w0.heap.size
  gz : τ0 g = 0
  llo : lo ≤ w0.heap.size
section
variable {g o n lo : Nat} {τ0 τ : Nat → Nat} {w0 w w' : World} {aL : Option Addr} {aLc aLn : Nat} {aP : Option Addr} {aPc aPn : Nat} {aD : Option Addr} {aDc aDn : Nat} {aN : Option Addr} {aNc aNn : Nat} {aS : Option Addr} {aSc aSn : Nat} {m : Sw.Mkt}
theorem MS.start (hA : MktAt w g o aL aLc aLn aP aPc aPn aD aDc aDn aN aNc aNn aS aSc aSn m.clock) (hL : Lb w g n) (hM : OwM τ w lo aL aLc aLn aP aPc aPn aD aDc aDn aN aNc aNn aS aSc aSn m) (hg : τ g = 0) (hlo : lo ≤ w.heap.size) : MS g o n lo τ w aL aLc aLn aP aPc aPn aD aDc aDn aN aNc aNn aS aSc aSn m τ w :=
  ⟨hA, hL, hM, fun _ _ => rfl, fun _ _ => rfl, Ch.refl _ _, hA.lt, hg, hlo⟩
theorem MS.g0 (h : MS g o n lo τ0 w0 aL aLc aLn aP aPc aPn aD aDc aDn aN aNc aNn aS aSc aSn m τ w) : τ g = 0 := (h.tag g h.glt).trans h.gz
theorem MS.ex (h : MS g o n lo τ0 w0 aL aLc aLn aP aPc aPn aD aDc aDn aN aNc aNn aS aSc aSn m τ w) (hb : Ex w w') : MS g o n lo τ0 w0 aL aLc aLn aP aPc aPn aD aDc aDn aN aNc aNn aS aSc aSn m τ w' := by
  have hk : KF 0 w w' := kE hb (kR _ _)
  exact ⟨h.at_.keep hk, h.lb.ex hb, h.ow.keepF (kE hb (kR _ _)), h.tag, fun i hi => (World.cell?_of_block (w := w) (a := ⟨g, i, none⟩) (hb.block g h.at_.lt (fun h => h))).trans (h.out i hi), cE hb h.ch, h.glt, h.gz, h.llo⟩
/-- A block of the market's own may turn. -/
theorem MS.may (h : MS g o n lo τ0 w0 aL aLc aLn aP aPc aPn aD aDc aDn aN aNc aNn aS aSc aSn m τ w) {i t : Nat} (hl : lo ≤ i) (ht : τ i = t) (h1 : 1 ≤ t) (h5 : t ≤ 5) : SG g lo τ0 i ∨ w0.heap.size ≤ i := by
  by_cases hi : i < w0.heap.size
  · exact .inl (.inr ⟨hl, by rw [← h.tag i hi, ht]; exact h1, by rw [← h.tag i hi, ht]; exact h5⟩)
  · exact .inr (by omega)
theorem MS.ne (h : MS g o n lo τ0 w0 aL aLc aLn aP aPc aPn aD aDc aDn aN aNc aNn aS aSc aSn m τ w) {i t : Nat} (ht : τ i = t) (h1 : 1 ≤ t) : i ≠ g := by
  rintro rfl
  have := h.g0
  omega
theorem cne {g i j : Nat} (h : i ≠ j) : (⟨g, i, none⟩ : Addr) ≠ ⟨g, j, none⟩ := fun e => h (by injection e)
theorem MktAt.setL {clock : Int} (h : MktAt w g o aL aLc aLn aP aPc aPn aD aDc aDn aN aNc aNn aS aSc aSn clock) (B : Option Addr) (n d : Nat) : MktAt (w.setCell ⟨g, o, none⟩ (.slice B n d)) g o B d n aP aPc aPn aD aDc aDn aN aNc aNn aS aSc aSn clock :=
  ⟨by simpa [World.setCell] using h.lt, World.cell?_setCell_same _ _ _ h.log, (World.cell?_setCell_other _ _ _ _ (cne (by omega))).trans h.purses, (World.cell?_setCell_other _ _ _ _ (cne (by omega))).trans h.deals, (World.cell?_setCell_other _ _ _ _ (cne (by omega))).trans h.clk,
    (World.cell?_setCell_other _ _ _ _ (cne (by omega))).trans h.nums, (World.cell?_setCell_other _ _ _ _ (cne (by omega))).trans h.said, fun i => by simpa using h.free i⟩
theorem MktAt.setD {clock : Int} (h : MktAt w g o aL aLc aLn aP aPc aPn aD aDc aDn aN aNc aNn aS aSc aSn clock) (B : Option Addr) (n d : Nat) : MktAt (w.setCell ⟨g, o + 2, none⟩ (.slice B n d)) g o aL aLc aLn aP aPc aPn B d n aN aNc aNn aS aSc aSn clock :=
  ⟨by simpa [World.setCell] using h.lt, (World.cell?_setCell_other _ _ _ _ (cne (by omega))).trans h.log, (World.cell?_setCell_other _ _ _ _ (cne (by omega))).trans h.purses, World.cell?_setCell_same _ _ _ h.deals, (World.cell?_setCell_other _ _ _ _ (cne (by omega))).trans h.clk,
    (World.cell?_setCell_other _ _ _ _ (cne (by omega))).trans h.nums, (World.cell?_setCell_other _ _ _ _ (cne (by omega))).trans h.said, fun i => by simpa using h.free i⟩
/-- What lies in g, where another block has turned. -/
theorem MktAt.apart {S : Nat → Prop} {clock : Int} (h : MktAt w g o aL aLc aLn aP aPc aPn aD aDc aDn aN aNc aNn aS aSc aSn clock) (hb : Ch S w w') (hS : ¬ S g) : MktAt w' g o aL aLc aLn aP aPc aPn aD aDc aDn aN aNc aNn aS aSc aSn clock := by
  have hk := hb.block g h.lt hS
  have c : ∀ i : Nat, w'.cell? ⟨g, i, none⟩ = w.cell? ⟨g, i, none⟩ := fun i => World.cell?_of_block (w := w) (a := ⟨g, i, none⟩) hk
  exact ⟨Nat.lt_of_lt_of_le h.lt hb.size, (c _).trans h.log, (c _).trans h.purses, (c _).trans h.deals, (c _).trans h.clk, (c _).trans h.nums, (c _).trans h.said, fun i => (World.frozen?_of_block (w := w) (a := ⟨g, i, none⟩) hk).trans (h.free i)⟩
/-- What a cell of g takes turns nothing of what the market owns. -/
theorem OwM.cell (h : OwM τ w lo aL aLc aLn aP aPc aPn aD aDc aDn aN aNc aNn aS aSc aSn m) (hg : τ g = 0) (i : Nat) (v : Value) : OwM τ (w.setCell ⟨g, i, none⟩ v) lo aL aLc aLn aP aPc aPn aD aDc aDn aN aNc aNn aS aSc aSn m :=
  h.keep fun t h1 _ => (KT.refl _ _ _ _).setCell (.inr (by show τ g ≠ t; omega))
/-- Deals that have turned, in place or not. -/
theorem OwM.redealt (h : OwM τ w lo aL aLc aLn aP aPc aPn aD aDc aDn aN aNc aNn aS aSc aSn m) {A : Option Addr} {c n : Nat} {ds : List Sw.Deal} (ho : OwD w' lo A c n ds) (hc : Ch (atA aD) w w') (hat : ∀ b, A = some b → aD = some b ∨ w.heap.size ≤ b.block) :
    OwM (glue τ w.heap.size (fun _ => 3)) w' lo aL aLc aLn aP aPc aPn A c n aN aNc aNn aS aSc aSn { m with deals := ds } := by
  have K : ∀ t, t ≠ 3 → KT (glue τ w.heap.size (fun _ => 3)) t lo w w' := fun t ht => KT.ch hc (KT.refl _ _ _ _) fun i ⟨a, ha, hi⟩ => .inr (by rw [hi, glue_tag (h.deals.tag a ha)]; exact Ne.symm ht)
  exact ⟨(h.log.glueL (Nat.le_refl _)).keep (K 1 (by decide)), (h.purses.glueL (Nat.le_refl _)).keep (K 2 (by decide)), OwT.full ho h.deals hat, (h.nums.glueL (Nat.le_refl _)).keep (K 4 (by decide)), (h.said.glueL (Nat.le_refl _)).keep (K 5 (by decide))⟩
theorem MS.glue_tag (h : MS g o n lo τ0 w0 aL aLc aLn aP aPc aPn aD aDc aDn aN aNc aNn aS aSc aSn m τ w) (t : Nat) : ∀ b, b < w0.heap.size → glue τ w.heap.size (fun _ => t) b = τ0 b := fun b hb =>
  (if_pos (by have := h.ch.size; omega)).trans (h.tag b hb)
theorem MS.glue_g (h : MS g o n lo τ0 w0 aL aLc aLn aP aPc aPn aD aDc aDn aN aNc aNn aS aSc aSn m τ w) (t : Nat) : glue τ w.heap.size (fun _ => t) g = 0 := (h.glue_tag t g h.glt).trans h.gz
theorem MS.lo_le (h : MS g o n lo τ0 w0 aL aLc aLn aP aPc aPn aD aDc aDn aN aNc aNn aS aSc aSn m τ w) : lo ≤ w.heap.size := Nat.le_trans h.llo h.ch.size
/-- Its deals turn, and are written down. -/
theorem MS.deals (h : MS g o n lo τ0 w0 aL aLc aLn aP aPc aPn aD aDc aDn aN aNc aNn aS aSc aSn m τ w) {A : Option Addr} {c k : Nat} {ds : List Sw.Deal} (ho : OwD w' lo A c k ds) (hc : Ch (atA aD) w w') (hat : ∀ b, A = some b → aD = some b ∨ w.heap.size ≤ b.block) :
    MS g o n lo τ0 w0 aL aLc aLn aP aPc aPn A c k aN aNc aNn aS aSc aSn { m with deals := ds } (glue τ w.heap.size (fun _ => 3)) (w'.setCell ⟨g, o + 2, none⟩ (.slice A k c)) := by
  have hS : ¬ atA aD g := fun ⟨a, ha, e⟩ => h.ne (h.ow.deals.tag a ha) (by decide) e.symm
  refine ⟨(h.at_.apart hc hS).setD A k c, (h.lb.chk hc hS).set, (h.ow.redealt ho hc hat).cell (h.glue_g 3) _ _, h.glue_tag 3, fun i hi => ?_, cS (h.ch.trans' hc fun i hi ⟨a, ha, e⟩ => ?_) (.inl (.inl rfl)) _, h.glt, h.gz, h.llo⟩
  · refine (World.cell?_setCell_other _ _ _ _ (cne (by omega))).trans ?_
    exact (hc.cell (p := ⟨g, i, none⟩) h.at_.lt hS).trans (h.out i hi)
  · subst e
    rcases h.may (h.ow.deals.ow.blk ha).1 (h.ow.deals.tag a ha) (by decide) (by decide) with h1 | h1
    · exact h1
    · omega
/-- An entry more. -/
theorem MS.log (h : MS g o n lo τ0 w0 aL aLc aLn aP aPc aPn aD aDc aDn aN aNc aNn aS aSc aSn m τ w) {A : Option Addr} {c k : Nat} {es : List Sw.Ent} (ho : OwE w' lo A c k es) (hc : Ch (atA aL) w w') (hat : ∀ b, A = some b → aL = some b ∨ w.heap.size ≤ b.block) :
    MS g o n lo τ0 w0 A c k aP aPc aPn aD aDc aDn aN aNc aNn aS aSc aSn { m with log := es } (glue τ w.heap.size (fun _ => 1)) (w'.setCell ⟨g, o, none⟩ (.slice A k c)) := by
  have hS : ¬ atA aL g := fun ⟨a, ha, e⟩ => h.ne (h.ow.log.tag a ha) (by decide) e.symm
  refine ⟨(h.at_.apart hc hS).setL A k c, (h.lb.chk hc hS).set, (h.ow.logged ho hc hat).cell (h.glue_g 1) _ _, h.glue_tag 1, fun i hi => ?_, cS (h.ch.trans' hc fun i hi ⟨a, ha, e⟩ => ?_) (.inl (.inl rfl)) _, h.glt, h.gz, h.llo⟩
  · refine (World.cell?_setCell_other _ _ _ _ (cne (by omega))).trans ?_
    exact (hc.cell (p := ⟨g, i, none⟩) h.at_.lt hS).trans (h.out i hi)
  · subst e
    rcases h.may (h.ow.log.ow.blk ha).1 (h.ow.log.tag a ha) (by decide) (by decide) with h1 | h1
    · exact h1
    · omega
/-- Other purses. -/
theorem MS.purses (h : MS g o n lo τ0 w0 aL aLc aLn aP aPc aPn aD aDc aDn aN aNc aNn aS aSc aSn m τ w) {A : Option Addr} {c k : Nat} {ps : List Int} (ho : OwI w' w.heap.size A c k ps) (hc : Ex w w') :
    MS g o n lo τ0 w0 aL aLc aLn A c k aD aDc aDn aN aNc aNn aS aSc aSn { m with purses := ps } (glue τ w.heap.size (fun _ => 2)) (w'.setCell ⟨g, o + 1, none⟩ (.slice A k c)) := by
  refine ⟨(h.at_.keep (kE hc (kR _ _))).setP A k c, (h.lb.ex hc).set, (h.ow.pursed ho (Nat.le_refl _) h.lo_le (kE hc (kR _ _))).cell (h.glue_g 2) _ _, h.glue_tag 2, fun i hi => ?_, cS (cE hc h.ch) (.inl (.inl rfl)) _, h.glt, h.gz, h.llo⟩
  refine (World.cell?_setCell_other _ _ _ _ (cne (by omega))).trans ?_
  exact (hc.cell (p := ⟨g, i, none⟩) h.at_.lt (fun h => h)).trans (h.out i hi)
theorem MS.zero (h : MS g o n lo τ0 w0 aL aLc aLn aP aPc aPn aD aDc aDn aN aNc aNn aS aSc aSn m τ w) (hb : Ex w w') : MS g o n lo τ0 w0 aL aLc aLn aP aPc aPn aD aDc aDn aN aNc aNn aS aSc aSn m (glue τ w.heap.size (fun _ => 0)) w' := by
  have h' := h.ex hb
  exact ⟨h'.at_, h'.lb, (h.ow.glueL (Nat.le_refl _)).keepF (kE hb (kR _ _)), h.glue_tag 0, h'.out, h'.ch, h.glt, h.gz, h.llo⟩
theorem MS.rebase (h : MS g o n lo τ0 w0 aL aLc aLn aP aPc aPn aD aDc aDn aN aNc aNn aS aSc aSn m τ w) : MS g o n lo τ w aL aLc aLn aP aPc aPn aD aDc aDn aN aNc aNn aS aSc aSn m τ w := ⟨h.at_, h.lb, h.ow, fun _ _ => rfl, fun _ _ => rfl, Ch.refl _ _, h.at_.lt, h.g0, h.lo_le⟩
theorem MS.trans {bL : Option Addr} {bLc bLn : Nat} {bP : Option Addr} {bPc bPn : Nat} {bD : Option Addr} {bDc bDn : Nat} {bN : Option Addr} {bNc bNn : Nat} {bS : Option Addr} {bSc bSn : Nat} {m' : Sw.Mkt} {τ' : Nat → Nat} (h : MS g o n lo τ0 w0 aL aLc aLn aP aPc aPn aD aDc aDn aN aNc aNn aS aSc aSn m τ w) (k : MS g o n lo τ w bL bLc bLn bP bPc bPn bD bDc bDn bN bNc bNn bS bSc bSn m' τ' w') : MS g o n lo τ0 w0 bL bLc bLn bP bPc bPn bD bDc bDn bN bNc bNn bS bSc bSn m' τ' w' := by
  have hz := h.ch.size
  refine ⟨k.at_, k.lb, k.ow, fun b hb => (k.tag b (by omega)).trans (h.tag b hb), fun i hi => (k.out i hi).trans (h.out i hi), h.ch.trans' k.ch fun i hi hs => ?_, h.glt, h.gz, h.llo⟩
  rcases hs with hs | ⟨h1, h2, h3⟩
  · exact .inl hs
  · exact .inr ⟨h1, by rw [← h.tag i hi]; exact h2, by rw [← h.tag i hi]; exact h3⟩
/-- A block that is none of the market's is as it was. -/
theorem MS.box {b : Nat} (h : MS g o n lo τ0 w0 aL aLc aLn aP aPc aPn aD aDc aDn aN aNc aNn aS aSc aSn m τ w) (hb : b < w0.heap.size) (hz : τ0 b = 0) (hne : b ≠ g) : (∀ i, w.cell? ⟨b, i, none⟩ = w0.cell? ⟨b, i, none⟩) ∧ (∀ i, w.frozen? ⟨b, i, none⟩ = w0.frozen? ⟨b, i, none⟩) := by
  have hS : ¬ SG g lo τ0 b := by
    rintro (h1 | ⟨_, h2, _⟩)
    · exact hne h1
    · omega
  exact ⟨fun i => h.ch.cell (p := ⟨b, i, none⟩) hb hS, fun i => h.ch.frozen (p := ⟨b, i, none⟩) hb hS⟩
theorem glue0 {τ : Nat → Nat} {k b : Nat} (h : k ≤ b) : glue τ k (fun _ => 0) b = 0 := if_neg (by omega)
end
end Go.Proofs.Ytdcjadgflenejaa

