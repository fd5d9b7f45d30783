/-
  Texts joined: PtrF, PtrG, PtrH, PtrI, DoD, DoE, DoG.
-/
import Derived.Test.YtgceeggfdomdjaaPkD6
import Derived.Deep.CutBlock
import Derived.Deep.DeepCutAuto
namespace Go.Proofs.Ytgceeggfdomdjaa
set_option maxRecDepth 100000
set_option linter.unusedSimpArgs false
set_option linter.unusedVariables false
open Go.RowKit Go
set_option maxHeartbeats 4000000

section
variable {g o n lo : Nat} {τ0 τ : Nat → Nat} {w0 w : World} {aL : Option Addr} {aLc aLn : Nat} {aP : Option Addr} {aPc aPn : Nat} {aD : Option Addr} {aDc aDn : Nat} {aN : Option Addr} {aNc aNn : Nat} {aS : Option Addr} {aSc aSn : Nat} {m : Sw.Mkt}
theorem iSettle_c (hS : MS g o n lo τ0 w0 aL aLc aLn aP aPc aPn aD aDc aDn aN aNc aNn aS aSc aSn m τ w) (ru rn rk : Int) (t : Nat) (rh rp : Int) {rows : List Sw.Row} (hok : Sw.MOk m rows) : Calls Try.prog 196 #[.pointer (some ⟨g, o, none⟩), .agg #[.int .i64 ru, .int .i64 rn, .int .i64 rk, .int .i64 t, .int .i64 rh, .int .i64 rp], .int .i64 (Sw.dealIx m.deals t)] w fun E w' =>
    ∃ (bL : Option Addr) (bLc bLn : Nat) (bP : Option Addr) (bPc bPn : Nat) (bD : Option Addr) (bDc bDn : Nat) (bN : Option Addr) (bNc bNn : Nat) (bS : Option Addr) (bSc bSn : Nat) (τ' : Nat → Nat), E = .returned (.int .i64 (Sw.settle m ⟨ru, rn, rk, t, rh, rp⟩ (Sw.dealAt m.deals t)).2) ∧ MS g o n lo τ0 w0 bL bLc bLn bP bPc bPn bD bDc bDn bN bNc bNn bS bSc bSn (Sw.settle m ⟨ru, rn, rk, t, rh, rp⟩ (Sw.dealAt m.deals t)).1 τ' w' := by
  obtain ⟨k0, k1, k2, k3, k4, k5, k6, kf⟩ := hS.at_
  have HS := Lib.hid hS
  have hpn : aPn ≤ 4194304 := by have := hS.ow.purses.ow.1; have := (Sw.monOk_iff.1 hok.mon).1; omega
  have l1 := hS.ow.log.ow.1
  have l3 := hS.ow.deals.ow.1
  have hll := (Sw.ownFold_some.1 hok.fold).1
  cases h3 : Sw.dealAt m.deals t
  case none =>
    have e : Sw.settle m ⟨ru, rn, rk, t, rh, rp⟩ none = (m, 3) := rfl
    rw [e, dealIx_none h3]
    clear e l1 l3 h3 hok hS hll
    go_enter Try.func196, Try.ntmps196
    go_wp2_with fail
    go_ret
    exact ⟨_, _, _, _, _, _, _, _, _, _, _, _, _, _, _, τ, rfl, HS.out.ex ext_⟩
  rename_i kd
  obtain ⟨d, hd, hdt⟩ := Sw.dealAt_some h3
  have hk : kd < aDn := by have := (List.getElem?_eq_some_iff.1 hd).1; omega
  rw [dealIx_some h3]
  have hgd := Sw.getD_of (z := Sw.dealZ) hd
  obtain ⟨gD, y, rfl, hloD, hltD, hy, d0, d1, d2, d3, d4, hfD⟩ := at_OD hS.ow.deals.ow hk
  obtain rfl : y = d := Option.some.inj (hy.symm.trans hd)
  have hne := hS.ne (hS.ow.deals.tag _ rfl) (by decide)
  clear hok hS
  have i0 : (0 : Int) ≤ (kd : Int) := by omega
  have i1 : (kd : Int) < (aDn : Int) := by omega
  have i2 : ¬ (kd : Int) < 0 := by omega
  cases hh : Sw.held y
  case false =>
    have e : Sw.settle m ⟨ru, rn, rk, t, rh, rp⟩ (some kd) = (m, 3) := by unfold Sw.settle; dsimp only; rw [hgd, if_pos hh]
    rw [e]
    clear e l1 l3 h3 hd hdt hy hgd hll
    go_enter Try.func196, Try.ntmps196
    go_wp2_with (go_at_call 104; apply Calls.mono; apply (iHeld_c y); rintro E w1 ⟨rfl, hb⟩; rw [hh]; have hst := xr hb; (try simp only [zA, zC, zD, zN] at hst); obtain ⟨hc, hf, hz⟩ := hst)
    go_ret
    exact ⟨_, _, _, _, _, _, _, _, _, _, _, _, _, _, _, τ, rfl, HS.out.ex ext_⟩
  by_cases h5 : y.seller = ru
  case neg =>
    have g5 : (ru != y.seller) = true := by simp; exact fun h => h5 h.symm
    have e : Sw.settle m ⟨ru, rn, rk, t, rh, rp⟩ (some kd) = (m, 2) := by unfold Sw.settle; dsimp only; rw [hgd, if_neg (by simp [hh]), if_pos h5]
    rw [e]
    clear e l1 l3 h3 hd hdt hy hgd h5 hll
    go_enter Try.func196, Try.ntmps196
    go_wp2_with (go_at_call 104; apply Calls.mono; apply (iHeld_c y); rintro E w1 ⟨rfl, hb⟩; rw [hh]; have hst := xr hb; (try simp only [zA, zC, zD, zN] at hst); obtain ⟨hc, hf, hz⟩ := hst)
    go_ret
    exact ⟨_, _, _, _, _, _, _, _, _, _, _, _, _, _, _, τ, rfl, HS.out.ex ext_⟩
  have g5 : (ru != y.seller) = false := by simp [h5]
  by_cases h4 : m.log.length = 40
  · have e : Sw.settle m ⟨ru, rn, rk, t, rh, rp⟩ (some kd) = (m, 6) := by unfold Sw.settle; dsimp only; rw [hgd, if_neg (by simp [hh]), if_neg (by simp [h5]), if_pos h4]
    rw [e]
    have h40 : aLn = 40 := by omega
    clear e l1 l3 h3 hd hdt hy hgd h5 h4 hll
    go_enter Try.func196, Try.ntmps196
    go_wp2_with (first | (go_at_call 104; apply Calls.mono; apply (iHeld_c y); rintro E w1 ⟨rfl, hb⟩; rw [hh]; have hst := xr hb; (try simp only [zA, zC, zD, zN] at hst); obtain ⟨hc, hf, hz⟩ := hst) | (go_at_call 197; apply Calls.mono; apply (iAppendN_c (HS.out.ex ext_) 2 t y.buyer y.price h40); rintro E w3 ⟨rfl, hb⟩; have hst := xr hb; (try simp only [zA, zC, zD, zN] at hst); obtain ⟨hc, hf, hz⟩ := hst))
    go_ret
    exact ⟨_, _, _, _, _, _, _, _, _, _, _, _, _, _, _, τ, rfl, HS.out.ex ext_⟩
  have e : Sw.settle m ⟨ru, rn, rk, t, rh, rp⟩ (some kd) = ({ m with purses := Sw.monTurn m.purses y.seller y.price, log := m.log ++ [⟨2, t, y.buyer, y.price⟩], deals := m.deals.eraseIdx kd }, 1) := by unfold Sw.settle; dsimp only; rw [hgd, if_neg (by simp [hh]), if_neg (by simp [h5]), if_neg h4]
  rw [e]
  have hn40 : aLn < 40 := by omega
  clear e l1 l3 h3 hd hdt hy hgd h5 h4 hll
  go_enter Try.func196, Try.ntmps196
  go_wp2_with (go_at_call 104; apply Calls.mono; apply (iHeld_c y); rintro E w1 ⟨rfl, hb⟩; rw [hh]; have hst := xr hb; (try simp only [zA, zC, zD, zN] at hst); obtain ⟨hc, hf, hz⟩ := hst)
  have hWc : Ex w (w1.alloc (.cells #[.int .i64 y.ticket, .int .i64 y.seller, .int .i64 y.price, .int .i64 y.buyer, .int .i64 y.due] 73)) := ext_
  have hA := HS.out.zero hWc
  apply Calls.mono
  apply (iAppend_c hA.rebase 2 t y.buyer y.price hn40)
  rintro E w3 ⟨A3, c3, τ3, rfl, hm3⟩
  obtain ⟨hB0, hF0⟩ := hm3.box (b := w1.heap.size) (by simp only [zA]; omega) (glue0 (by omega)) (by omega)
  obtain ⟨j0, j1, j2, j3, j4, j5, j6, jf⟩ := hm3.at_
  have hz3 := hm3.ch.size
  simp only [zA] at hz3
  have hp5 := hm3.ow.purses.ow.rs
  have hLw := hm3.lb
  have H3 := Lib.hid hm3
  clear hm3
  go_wp2_with fail
  (refine wp_name ?_; intro W0 hb0; have hst := xr hb0; (try simp only [zA, zC, zD, zN] at hst); obtain ⟨hc0, hf0, hz0⟩ := hst; have hLb : Lb W0 (g) n := Lb.ex (by exact lbc_) hb0; refine wp_region_held_drew (S := fun w' => HeldB (g) n W0 w') (by kernel_rfl) ?_ (fun hHeld => ?_); (focus ((try dsimp only); (first | with_reducible assumption | with_reducible exact HeldB.start hLb | with_reducible exact HeldB.of (by assumption) (by assumption) | ((repeat (first | with_reducible refine HeldB.set ?_ (by first | exact Or.inl rfl | exact Or.inr (by simp only [zA, zC, zD, zN]; omega) | exact Or.inr (by omega)) | with_reducible refine HeldB.alloc ?_ _ | with_reducible refine HeldB.drew ?_)); (first | with_reducible assumption | with_reducible exact HeldB.refl hLb | with_reducible exact HeldB.of (by assumption) (by assumption) | with_reducible exact HeldB.ex (by assumption) (by assumption)))))); refine regT 0 44 (v := ?_) rfl rfl (by kernel_rfl) (by kernel_rfl) (by kernel_rfl) (fun _ _ _ h => h) (by rfl) ?_ (by assumption) ?_; rotate_left; (focus (intro w hSw; (try dsimp only at hSw); go_simp; (try with_reducible rfl))); (try simp only [Act.put, List.setIfInBounds_toArray, List.set_cons_zero, List.set_cons_succ]); refine regT 1 45 (v := ?_) rfl rfl (by kernel_rfl) (by kernel_rfl) (by kernel_rfl) (fun _ _ _ h => h) (by rfl) ?_ (by assumption) ?_; rotate_left; (focus (intro w hSw; (try dsimp only at hSw); go_simp; (try with_reducible rfl))); (try simp only [Act.put, List.setIfInBounds_toArray, List.set_cons_zero, List.set_cons_succ]); refine regT 2 46 (v := ?_) rfl rfl (by kernel_rfl) (by kernel_rfl) (by kernel_rfl) (fun _ _ _ h => h) (by rfl) ?_ (by assumption) ?_; rotate_left; (focus (intro w hSw; (try dsimp only at hSw); go_simp; (try with_reducible rfl))); (try simp only [Act.put, List.setIfInBounds_toArray, List.set_cons_zero, List.set_cons_succ]); refine regT 3 47 (v := ?_) rfl rfl (by kernel_rfl) (by kernel_rfl) (by kernel_rfl) (fun _ _ _ h => h) (by rfl) ?_ (by assumption) ?_; rotate_left; (focus (intro w hSw; (try dsimp only at hSw); go_simp; (try with_reducible rfl))); (try simp only [Act.put, List.setIfInBounds_toArray, List.set_cons_zero, List.set_cons_succ]); refine regT 5 49 (v := ?_) rfl rfl (by kernel_rfl) (by kernel_rfl) (by kernel_rfl) (fun _ _ _ h => h) (by rfl) ?_ (by assumption) ?_; rotate_left; (focus (intro w hSw; (try dsimp only at hSw); go_simp; (try with_reducible rfl))); (try simp only [Act.put, List.setIfInBounds_toArray, List.set_cons_zero, List.set_cons_succ]); refine regT 6 50 (v := ?_) rfl rfl (by kernel_rfl) (by kernel_rfl) (by kernel_rfl) (fun _ _ _ h => h) (by rfl) ?_ (by assumption) ?_; rotate_left; (focus (intro w hSw; (try dsimp only at hSw); go_simp; (try with_reducible rfl))); (try simp only [Act.put, List.setIfInBounds_toArray, List.set_cons_zero, List.set_cons_succ]); refine regT 7 51 (v := ?_) rfl rfl (by kernel_rfl) (by kernel_rfl) (by kernel_rfl) (fun _ _ _ h => h) (by rfl) ?_ (by assumption) ?_; rotate_left; (focus (intro w hSw; (try dsimp only at hSw); go_simp; (try with_reducible rfl))); (try simp only [Act.put, List.setIfInBounds_toArray, List.set_cons_zero, List.set_cons_succ]); refine regT 8 52 (v := ?_) rfl rfl (by kernel_rfl) (by kernel_rfl) (by kernel_rfl) (fun _ _ _ h => h) (by rfl) ?_ (by assumption) ?_; rotate_left; (focus (intro w hSw; (try dsimp only at hSw); go_simp; (try with_reducible rfl))); (try simp only [Act.put, List.setIfInBounds_toArray, List.set_cons_zero, List.set_cons_succ]); refine wpAnyH_ready (rs := [4]) (by kernel_rfl) (by simp) ?_; refine AllReadyH.cons rfl (fun K hK => ?_) ?_; rotate_left; (focus exact AllReadyH.nil); go_simp; refine hK.out _ _ ?_ (fun hHeld => ?_); (focus ((try dsimp only); (first | with_reducible assumption | with_reducible exact HeldB.start hLb | with_reducible exact HeldB.of (by assumption) (by assumption) | ((repeat (first | with_reducible refine HeldB.set ?_ (by first | exact Or.inl rfl | exact Or.inr (by simp only [zA, zC, zD, zN]; omega) | exact Or.inr (by omega)) | with_reducible refine HeldB.alloc ?_ _ | with_reducible refine HeldB.drew ?_)); (first | with_reducible assumption | with_reducible exact HeldB.refl hLb | with_reducible exact HeldB.of (by assumption) (by assumption) | with_reducible exact HeldB.ex (by assumption) (by assumption)))))); clear hK K; (try simp only [Act.put, List.setIfInBounds_toArray, List.set_cons_zero, List.set_cons_succ]); refine wpAnyH_ready (rs := [9]) (by kernel_rfl) (by simp) ?_; refine AllReadyH.cons rfl (fun K hK => ?_) ?_; rotate_left; (focus exact AllReadyH.nil); go_simp; (go_at_call 158; apply Calls.mono; apply iMonTurn_c; (apply Rs.at0 hp5; (exact kf_)); omega; rintro E w5 ⟨A5, c5, rfl, hoP, hb⟩; have hb5 := hb; have hst := xr hb; (try simp only [zA, zC, zD, zN] at hst); obtain ⟨hc, hf, hz⟩ := hst); (try go_wp2_with fail); refine hK.out _ _ ?_ (fun hHeld => ?_); (focus ((try dsimp only); (first | with_reducible assumption | with_reducible exact HeldB.start hLb | with_reducible exact HeldB.of (by assumption) (by assumption) | ((repeat (first | with_reducible refine HeldB.set ?_ (by first | exact Or.inl rfl | exact Or.inr (by simp only [zA, zC, zD, zN]; omega) | exact Or.inr (by omega)) | with_reducible refine HeldB.alloc ?_ _ | with_reducible refine HeldB.drew ?_)); (first | with_reducible assumption | with_reducible exact HeldB.refl hLb | with_reducible exact HeldB.of (by assumption) (by assumption) | with_reducible exact HeldB.ex (by assumption) (by assumption)))))); clear hK K; (try simp only [Act.put, List.setIfInBounds_toArray, List.set_cons_zero, List.set_cons_succ]); refine regT 10 43 (v := ?_) rfl rfl (by kernel_rfl) (by kernel_rfl) (by kernel_rfl) (fun _ _ _ h => h) (by rfl) ?_ (by assumption) ?_; rotate_left; (focus (intro w hSw; (try dsimp only at hSw); go_simp; (try with_reducible rfl))); (try simp only [Act.put, List.setIfInBounds_toArray, List.set_cons_zero, List.set_cons_succ]); refine regT 11 54 (v := ?_) rfl rfl (by kernel_rfl) (by kernel_rfl) (by kernel_rfl) (fun _ _ _ h => h) (by rfl) ?_ (by assumption) ?_; rotate_left; (focus (intro w hSw; (try dsimp only at hSw); go_simp; (try with_reducible rfl))); (try simp only [Act.put, List.setIfInBounds_toArray, List.set_cons_zero, List.set_cons_succ]); refine regT 12 55 (v := ?_) rfl rfl (by kernel_rfl) (by kernel_rfl) (by kernel_rfl) (fun _ _ _ h => h) (by rfl) ?_ (by assumption) ?_; rotate_left; (focus (intro w hSw; (try dsimp only at hSw); go_simp; (try with_reducible rfl))); (try simp only [Act.put, List.setIfInBounds_toArray, List.set_cons_zero, List.set_cons_succ]); refine regT 13 56 (v := ?_) rfl rfl (by kernel_rfl) (by kernel_rfl) (by kernel_rfl) (fun _ _ _ h => h) (by rfl) ?_ (by assumption) ?_; rotate_left; (focus (intro w hSw; (try dsimp only at hSw); go_simp; (try with_reducible rfl))); (try simp only [Act.put, List.setIfInBounds_toArray, List.set_cons_zero, List.set_cons_succ]); refine regT 14 57 (v := ?_) rfl rfl (by kernel_rfl) (by kernel_rfl) (by kernel_rfl) (fun _ _ _ h => h) (by rfl) ?_ (by assumption) ?_; rotate_left; (focus (intro w hSw; (try dsimp only at hSw); go_simp; (try with_reducible rfl))); (try simp only [Act.put, List.setIfInBounds_toArray, List.set_cons_zero, List.set_cons_succ]); refine wpAnyH_ready (rs := [15]) (by kernel_rfl) (by simp) ?_; refine AllReadyH.cons rfl (fun K hK => ?_) ?_; rotate_left; (focus exact AllReadyH.nil); have hb := HeldB.ch hHeld; have hst := xc hb; (try simp only [zA, zC, zD, zN] at hst); obtain ⟨hc, hf, hz⟩ := hst; have hLbx := HeldB.lb hHeld; obtain ⟨hcx, hfx⟩ := Lb.rules hLbx; go_simp; refine hK.out _ _ ?_ (fun hHx => ?_); (focus ((try dsimp only); (first | with_reducible assumption | with_reducible exact HeldB.start hLb | with_reducible exact HeldB.of (by assumption) (by assumption) | ((repeat (first | with_reducible refine HeldB.set ?_ (by first | exact Or.inl rfl | exact Or.inr (by simp only [zA, zC, zD, zN]; omega) | exact Or.inr (by omega)) | with_reducible refine HeldB.alloc ?_ _ | with_reducible refine HeldB.drew ?_)); (first | with_reducible assumption | with_reducible exact HeldB.refl hLb | with_reducible exact HeldB.of (by assumption) (by assumption) | with_reducible exact HeldB.ex (by assumption) (by assumption)))))); clear hK K hHeld hcx hfx hLbx; have hLb3 := HeldB.lb hHx; (repeat (first | with_reducible replace hLb3 := Lb.unset hLb3 | with_reducible replace hLb3 := Lb.undrew hLb3)); obtain ⟨hcb, hfb⟩ := Lb.rules hLb3; have hbf := HeldB.ch hHx; clear hHx; (try simp only [Act.put, List.setIfInBounds_toArray, List.set_cons_zero, List.set_cons_succ]); refine wpAnyH_done (by kernel_rfl) ?_ _)
  all_goals go_wp2_with fail
  have m2 := MS.purses (w := W0.drew) (H3.out.ex ext_) hoP hb5
  apply Calls.mono
  apply (iDropAt_c m2 hk)
  rintro E w6 ⟨τ6, rfl, hm6⟩
  go_wp2
  go_ret
  exact ⟨_, _, _, _, _, _, _, _, _, _, _, _, _, _, _, τ6, rfl, hA.trans hm6⟩
end
end Go.Proofs.Ytgceeggfdomdjaa

namespace Go.Proofs.Ytgceeggfdomdjaa
set_option maxRecDepth 100000
set_option linter.unusedSimpArgs false
set_option linter.unusedVariables false
open Go.RowKit Go
set_option maxHeartbeats 8000000

theorem iRowsT_c (aL : Option Addr) (aLc aLn : Nat) (aP : Option Addr) (aPc aPn : Nat) (aD : Option Addr) (aDc aDn : Nat) (aN : Option Addr) (aNc aNn : Nat) (aS : Option Addr) (aSc aSn : Nat) (m : Sw.Mkt) (rows : List Sw.Row) (t : Nat) (w : World) (hL : RE w 0 aL aLc aLn m.log) (hf : Sw.ownFold m.log = some rows) (ht : t < 8) : Calls Try.prog 61 #[.agg #[.slice aL aLn aLc, .slice aP aPn aPc, .slice aD aDn aDc, .int .i64 m.clock, .slice aN aNn aNc, .slice aS aSn aSc]] w fun E w' => ∃ g c, E = .returned (.slice (some ⟨g, 0, none⟩) 8 c) ∧ (OwR w' w.heap.size (some ⟨g, 0, none⟩) c 8 rows ∧ w.heap.size ≤ g ∧ g < w'.heap.size ∧ w'.cell? ⟨g, t * 3, none⟩ = some (.int .i64 (Sw.rowAt rows t).who) ∧ w'.cell? ⟨g, t * 3 + 1, none⟩ = some (.int .i64 (Sw.rowAt rows t).face) ∧ w'.cell? ⟨g, t * 3 + 2, none⟩ = some (.bool (Sw.rowAt rows t).used)) ∧ Ex w w' := by
  refine (iRows_c aL aLc aLn aP aPc aPn aD aDc aDn aN aNc aNn aS aSc aSn m w hL).mono ?_
  rintro E w' ⟨A', c', n', rfl, ho, hb⟩
  rw [Sw.mktRows_of hf] at ho
  have h8 := Sw.ownOk_len (Sw.ownFold_ok hf)
  obtain rfl : n' = 8 := by rw [ho.1, h8]
  obtain ⟨g, x, rfl, hlo, hlt, hx, c0, c1, c2, hfz⟩ := at_OR ho ht
  have e : Sw.rowAt rows t = x := by unfold Sw.rowAt; rw [Int.toNat_natCast]; exact Sw.getD_of hx
  rw [e]
  exact ⟨g, c', rfl, ⟨ho, hlo, hlt, c0, c1, c2⟩, hb⟩
section
variable {g o n lo : Nat} {τ0 τ : Nat → Nat} {w0 w : World} {aL : Option Addr} {aLc aLn : Nat} {aP : Option Addr} {aPc aPn : Nat} {aD : Option Addr} {aDc aDn : Nat} {aN : Option Addr} {aNc aNn : Nat} {aS : Option Addr} {aSc aSn : Nat} {m : Sw.Mkt}
def EffPost (g o n lo : Nat) (τ0 : Nat → Nat) (w0 w' : World) (E : Ending) (x : Sw.Mkt × Int) : Prop := ∃ (bL : Option Addr) (bLc bLn : Nat) (bP : Option Addr) (bPc bPn : Nat) (bD : Option Addr) (bDc bDn : Nat) (bN : Option Addr) (bNc bNn : Nat) (bS : Option Addr) (bSc bSn : Nat) (τ' : Nat → Nat), E = .returned (.int .i64 x.2) ∧ MS g o n lo τ0 w0 bL bLc bLn bP bPc bPn bD bDc bDn bN bNc bNn bS bSc bSn x.1 τ' w'
theorem iEffect1_c (hS : MS g o n lo τ0 w0 aL aLc aLn aP aPc aPn aD aDc aDn aN aNc aNn aS aSc aSn m τ w) (ru rn : Int) (t : Nat) (rh rp : Int) {rows : List Sw.Row} (hok : Sw.MOk m rows) (ht : t < 8) (hu1 : 1 ≤ ru) (hu5 : ru ≤ 5) : Calls Try.prog 163 #[.pointer (some ⟨g, o, none⟩), .agg #[.int .i64 ru, .int .i64 rn, .int .i64 1, .int .i64 t, .int .i64 rh, .int .i64 rp]] w fun E w' =>
    EffPost g o n lo τ0 w0 w' E (Sw.issue m ⟨ru, rn, 1, t, rh, rp⟩ (Sw.rowAt rows t)) := by
  have hSw := hS
  obtain ⟨k0, k1, k2, k3, k4, k5, k6, kf⟩ := hS.at_
  have HS := Lib.hid hS
  have hLr := hS.ow.log.ow.rs
  have hDr := hS.ow.deals.ow.rs
  have hpn : aPn ≤ 4194304 := by have := hS.ow.purses.ow.1; have := (Sw.monOk_iff.1 hok.mon).1; omega
  have HL := Lib.hid (Sw.ownFold_some.1 hok.fold).1
  have HO := Lib.hid hok.fold
  have HK := Lib.hid hok
  have i0 : (0 : Int) ≤ (t : Int) := by omega
  have i1 : (t : Int) < 8 := by omega
  obtain ⟨ai, hat⟩ : ∃ z, z = Sw.dealIx m.deals t := ⟨_, rfl⟩
  have HA := Lib.hid hat
  clear hS hSw hok hat
  go_enter Try.func163, Try.ntmps163
  go_upto_region 1 with fail
  go_cut [5] (fun p wx => ∃ gb : Nat, p = .pointer (some ⟨gb, 0, none⟩) ∧ w.heap.size + 1 ≤ gb ∧ gb < wx.heap.size ∧ wx.cell? ⟨gb, 0, none⟩ = some (.int .i64 (Sw.rowAt rows t).who) ∧ wx.cell? ⟨gb, 1, none⟩ = some (.int .i64 (Sw.rowAt rows t).face) ∧ wx.cell? ⟨gb, 2, none⟩ = some (.bool (Sw.rowAt rows t).used) ∧ Ex (w.alloc (.cells #[.int .i64 ru, .int .i64 rn, .int .i64 1, .int .i64 t, .int .i64 rh, .int .i64 rp] 85)) wx)
  case first =>
    (refine wp_name ?_; intro W0 hb0; have hst := xr hb0; (try simp only [zA, zC, zD, zN] at hst); obtain ⟨hc0, hf0, hz0⟩ := hst; go_region_held3 (fun w' => Held W0 w') ((first | with_reducible assumption | with_reducible exact Held.start _ | with_reducible exact Held.of (by assumption) | with_reducible exact Held.ex (by assumption) (by assumption) | ((repeat (first | with_reducible refine Held.set ?_ (by simp only [zA, zC, zD, zN]; omega) | with_reducible refine Held.alloc ?_ _ | with_reducible refine Held.drew ?_)); (first | with_reducible assumption | with_reducible exact Held.refl _ | with_reducible exact Held.of (by assumption) | with_reducible exact Held.ex (by assumption) (by assumption))) | exact Held.of (by exact ext_))) ((go_at_call 61; apply Calls.mono; apply (iRowsT_c (rows := rows) (t := t)); (apply Rs.at0 hLr; (exact kf_)); exact HO.out; exact ht; rintro E w1 ⟨gr, dr, rfl, ⟨hoR, hgR0, hgR, q0, q1, q2⟩, hb⟩; have hst := xr hb; (try simp only [zA, zC, zD, zN] at hst); obtain ⟨hc, hf, hz⟩ := hst)); all_goals (have hb := And.right (by assumption : Held W0 _); have hst := xr hb; (try simp only [zA, zC, zD, zN] at hst); obtain ⟨hc, hf, hz⟩ := hst))
    all_goals go_wp2_with fail
    all_goals go_meet
    all_goals exact ⟨_, rfl, sz_, sz_, by (go_simp; first | done | simp [*]), by (go_simp; first | done | simp [*]), by (go_simp; first | done | simp [*]), ext_⟩
  case rest =>
    obtain ⟨gb, rfl, hgb0, hgb1, q0, q1, q2, hb⟩ := hcut
    have hst := xr hb; (try simp only [zA, zC, zD, zN] at hst); obtain ⟨hc, hf, hz⟩ := hst
    go_wp2_with fail
    (refine wp_name ?_; intro W0 hb0; have hst := xr hb0; (try simp only [zA, zC, zD, zN] at hst); obtain ⟨hc0, hf0, hz0⟩ := hst; refine wp_region_held_drew (S := fun w' => Held W0 w') (by kernel_rfl) ?_ (fun hHeld => ?_); (focus ((try dsimp only); (first | with_reducible assumption | with_reducible exact Held.start _ | with_reducible exact Held.of (by assumption) | with_reducible exact Held.ex (by assumption) (by assumption) | ((repeat (first | with_reducible refine Held.set ?_ (by simp only [zA, zC, zD, zN]; omega) | with_reducible refine Held.alloc ?_ _ | with_reducible refine Held.drew ?_)); (first | with_reducible assumption | with_reducible exact Held.refl _ | with_reducible exact Held.of (by assumption) | with_reducible exact Held.ex (by assumption) (by assumption))) | exact Held.of (by exact ext_)))); refine regT 0 16 (v := ?_) rfl rfl (by kernel_rfl) (by kernel_rfl) (by kernel_rfl) (fun _ _ _ h => h) (by rfl) ?_ (by assumption) ?_; rotate_left; (focus (intro w hSw; (try dsimp only at hSw); go_simp; (try with_reducible rfl))); (try simp only [Act.put, List.setIfInBounds_toArray, List.set_cons_zero, List.set_cons_succ]); refine regT 1 17 (v := ?_) rfl rfl (by kernel_rfl) (by kernel_rfl) (by kernel_rfl) (fun _ _ _ h => h) (by rfl) ?_ (by assumption) ?_; rotate_left; (focus (intro w hSw; (try dsimp only at hSw); go_simp; (try with_reducible rfl))); (try simp only [Act.put, List.setIfInBounds_toArray, List.set_cons_zero, List.set_cons_succ]); refine regT 2 18 (v := ?_) rfl rfl (by kernel_rfl) (by kernel_rfl) (by kernel_rfl) (fun _ _ _ h => h) (by rfl) ?_ (by assumption) ?_; rotate_left; (focus (intro w hSw; (try dsimp only at hSw); go_simp; (try with_reducible rfl))); (try simp only [Act.put, List.setIfInBounds_toArray, List.set_cons_zero, List.set_cons_succ]); refine regT 3 19 (v := ?_) rfl rfl (by kernel_rfl) (by kernel_rfl) (by kernel_rfl) (fun _ _ _ h => h) (by rfl) ?_ (by assumption) ?_; rotate_left; (focus (intro w hSw; (try dsimp only at hSw); go_simp; (try with_reducible rfl))); (try simp only [Act.put, List.setIfInBounds_toArray, List.set_cons_zero, List.set_cons_succ]); refine regT 4 20 (v := ?_) rfl rfl (by kernel_rfl) (by kernel_rfl) (by kernel_rfl) (fun _ _ _ h => h) (by rfl) ?_ (by assumption) ?_; rotate_left; (focus (intro w hSw; (try dsimp only at hSw); go_simp; (try with_reducible rfl))); (try simp only [Act.put, List.setIfInBounds_toArray, List.set_cons_zero, List.set_cons_succ]); refine wpAnyH_ready (rs := [5]) (by kernel_rfl) (by simp) ?_; refine AllReadyH.cons rfl (fun K hK => ?_) ?_; rotate_left; (focus exact AllReadyH.nil); go_simp; (go_at_call 135; apply Calls.mono; apply iDeal_c; (apply Rs.at0 hDr; (exact kf_)); rintro E w2 ⟨rfl, hb⟩; rw [← HA.out]; have hst := xr hb; (try simp only [zA, zC, zD, zN] at hst); obtain ⟨hc, hf, hz⟩ := hst); (try go_wp2_with fail); refine hK.out _ _ ?_ (fun hHeld => ?_); (focus ((try dsimp only); (first | with_reducible assumption | with_reducible exact Held.start _ | with_reducible exact Held.of (by assumption) | with_reducible exact Held.ex (by assumption) (by assumption) | ((repeat (first | with_reducible refine Held.set ?_ (by simp only [zA, zC, zD, zN]; omega) | with_reducible refine Held.alloc ?_ _ | with_reducible refine Held.drew ?_)); (first | with_reducible assumption | with_reducible exact Held.refl _ | with_reducible exact Held.of (by assumption) | with_reducible exact Held.ex (by assumption) (by assumption))) | exact Held.of (by exact ext_)))); clear hK K; (try simp only [Act.put, List.setIfInBounds_toArray, List.set_cons_zero, List.set_cons_succ]); refine regT 6 6 (v := ?_) rfl rfl (by kernel_rfl) (by kernel_rfl) (by kernel_rfl) (fun _ _ _ h => h) (by rfl) ?_ (by assumption) ?_; rotate_left; (focus (intro w hSw; (try dsimp only at hSw); go_simp; (try with_reducible rfl))); (try simp only [Act.put, List.setIfInBounds_toArray, List.set_cons_zero, List.set_cons_succ]); refine wpAnyH_done (by kernel_rfl) ?_ _; all_goals (have hb := And.right (by assumption : Held W0 _); have hst := xr hb; (try simp only [zA, zC, zD, zN] at hst); obtain ⟨hc, hf, hz⟩ := hst))
    all_goals go_wp2_with fail
    apply Calls.mono
    apply (iIssue_c (HS.out.ex ext_) ru rn t rh rp (Sw.rowAt rows t) HL.out hpn)
    rintro E w5 ⟨bL, bLc, bLn, bP, bPc, bPn, bD, bDc, bDn, bN, bNc, bNn, bS, bSc, bSn, τ5, rfl, hm5⟩
    go_wp2
    go_ret
    exact ⟨_, _, _, _, _, _, _, _, _, _, _, _, _, _, _, τ5, rfl, hm5⟩
theorem iEffect4_c (hS : MS g o n lo τ0 w0 aL aLc aLn aP aPc aPn aD aDc aDn aN aNc aNn aS aSc aSn m τ w) (ru rn : Int) (t : Nat) (rh rp : Int) {rows : List Sw.Row} (hok : Sw.MOk m rows) (ht : t < 8) (hu1 : 1 ≤ ru) (hu5 : ru ≤ 5) : Calls Try.prog 163 #[.pointer (some ⟨g, o, none⟩), .agg #[.int .i64 ru, .int .i64 rn, .int .i64 4, .int .i64 t, .int .i64 rh, .int .i64 rp]] w fun E w' =>
    EffPost g o n lo τ0 w0 w' E (Sw.fund m ⟨ru, rn, 4, t, rh, rp⟩ (Sw.dealAt m.deals t)) := by
  have hSw := hS
  obtain ⟨k0, k1, k2, k3, k4, k5, k6, kf⟩ := hS.at_
  have HS := Lib.hid hS
  have hLr := hS.ow.log.ow.rs
  have hDr := hS.ow.deals.ow.rs
  have hpn : aPn ≤ 4194304 := by have := hS.ow.purses.ow.1; have := (Sw.monOk_iff.1 hok.mon).1; omega
  have HL := Lib.hid (Sw.ownFold_some.1 hok.fold).1
  have HO := Lib.hid hok.fold
  have HK := Lib.hid hok
  have i0 : (0 : Int) ≤ (t : Int) := by omega
  have i1 : (t : Int) < 8 := by omega
  obtain ⟨ai, hat⟩ : ∃ z, z = Sw.dealIx m.deals t := ⟨_, rfl⟩
  have HA := Lib.hid hat
  clear hS hSw hok hat
  go_enter Try.func163, Try.ntmps163
  go_upto_region 1 with fail
  go_cut [5] (fun p wx => ∃ gb : Nat, p = .pointer (some ⟨gb, 0, none⟩) ∧ w.heap.size + 1 ≤ gb ∧ gb < wx.heap.size ∧ wx.cell? ⟨gb, 0, none⟩ = some (.int .i64 (Sw.rowAt rows t).who) ∧ wx.cell? ⟨gb, 1, none⟩ = some (.int .i64 (Sw.rowAt rows t).face) ∧ wx.cell? ⟨gb, 2, none⟩ = some (.bool (Sw.rowAt rows t).used) ∧ Ex (w.alloc (.cells #[.int .i64 ru, .int .i64 rn, .int .i64 4, .int .i64 t, .int .i64 rh, .int .i64 rp] 85)) wx)
  case first =>
    (refine wp_name ?_; intro W0 hb0; have hst := xr hb0; (try simp only [zA, zC, zD, zN] at hst); obtain ⟨hc0, hf0, hz0⟩ := hst; go_region_held3 (fun w' => Held W0 w') ((first | with_reducible assumption | with_reducible exact Held.start _ | with_reducible exact Held.of (by assumption) | with_reducible exact Held.ex (by assumption) (by assumption) | ((repeat (first | with_reducible refine Held.set ?_ (by simp only [zA, zC, zD, zN]; omega) | with_reducible refine Held.alloc ?_ _ | with_reducible refine Held.drew ?_)); (first | with_reducible assumption | with_reducible exact Held.refl _ | with_reducible exact Held.of (by assumption) | with_reducible exact Held.ex (by assumption) (by assumption))) | exact Held.of (by exact ext_))) ((go_at_call 61; apply Calls.mono; apply (iRowsT_c (rows := rows) (t := t)); (apply Rs.at0 hLr; (exact kf_)); exact HO.out; exact ht; rintro E w1 ⟨gr, dr, rfl, ⟨hoR, hgR0, hgR, q0, q1, q2⟩, hb⟩; have hst := xr hb; (try simp only [zA, zC, zD, zN] at hst); obtain ⟨hc, hf, hz⟩ := hst)); all_goals (have hb := And.right (by assumption : Held W0 _); have hst := xr hb; (try simp only [zA, zC, zD, zN] at hst); obtain ⟨hc, hf, hz⟩ := hst))
    all_goals go_wp2_with fail
    all_goals go_meet
    all_goals exact ⟨_, rfl, sz_, sz_, by (go_simp; first | done | simp [*]), by (go_simp; first | done | simp [*]), by (go_simp; first | done | simp [*]), ext_⟩
  case rest =>
    obtain ⟨gb, rfl, hgb0, hgb1, q0, q1, q2, hb⟩ := hcut
    have hst := xr hb; (try simp only [zA, zC, zD, zN] at hst); obtain ⟨hc, hf, hz⟩ := hst
    go_wp2_with fail
    (refine wp_name ?_; intro W0 hb0; have hst := xr hb0; (try simp only [zA, zC, zD, zN] at hst); obtain ⟨hc0, hf0, hz0⟩ := hst; refine wp_region_held_drew (S := fun w' => Held W0 w') (by kernel_rfl) ?_ (fun hHeld => ?_); (focus ((try dsimp only); (first | with_reducible assumption | with_reducible exact Held.start _ | with_reducible exact Held.of (by assumption) | with_reducible exact Held.ex (by assumption) (by assumption) | ((repeat (first | with_reducible refine Held.set ?_ (by simp only [zA, zC, zD, zN]; omega) | with_reducible refine Held.alloc ?_ _ | with_reducible refine Held.drew ?_)); (first | with_reducible assumption | with_reducible exact Held.refl _ | with_reducible exact Held.of (by assumption) | with_reducible exact Held.ex (by assumption) (by assumption))) | exact Held.of (by exact ext_)))); refine regT 0 16 (v := ?_) rfl rfl (by kernel_rfl) (by kernel_rfl) (by kernel_rfl) (fun _ _ _ h => h) (by rfl) ?_ (by assumption) ?_; rotate_left; (focus (intro w hSw; (try dsimp only at hSw); go_simp; (try with_reducible rfl))); (try simp only [Act.put, List.setIfInBounds_toArray, List.set_cons_zero, List.set_cons_succ]); refine regT 1 17 (v := ?_) rfl rfl (by kernel_rfl) (by kernel_rfl) (by kernel_rfl) (fun _ _ _ h => h) (by rfl) ?_ (by assumption) ?_; rotate_left; (focus (intro w hSw; (try dsimp only at hSw); go_simp; (try with_reducible rfl))); (try simp only [Act.put, List.setIfInBounds_toArray, List.set_cons_zero, List.set_cons_succ]); refine regT 2 18 (v := ?_) rfl rfl (by kernel_rfl) (by kernel_rfl) (by kernel_rfl) (fun _ _ _ h => h) (by rfl) ?_ (by assumption) ?_; rotate_left; (focus (intro w hSw; (try dsimp only at hSw); go_simp; (try with_reducible rfl))); (try simp only [Act.put, List.setIfInBounds_toArray, List.set_cons_zero, List.set_cons_succ]); refine regT 3 19 (v := ?_) rfl rfl (by kernel_rfl) (by kernel_rfl) (by kernel_rfl) (fun _ _ _ h => h) (by rfl) ?_ (by assumption) ?_; rotate_left; (focus (intro w hSw; (try dsimp only at hSw); go_simp; (try with_reducible rfl))); (try simp only [Act.put, List.setIfInBounds_toArray, List.set_cons_zero, List.set_cons_succ]); refine regT 4 20 (v := ?_) rfl rfl (by kernel_rfl) (by kernel_rfl) (by kernel_rfl) (fun _ _ _ h => h) (by rfl) ?_ (by assumption) ?_; rotate_left; (focus (intro w hSw; (try dsimp only at hSw); go_simp; (try with_reducible rfl))); (try simp only [Act.put, List.setIfInBounds_toArray, List.set_cons_zero, List.set_cons_succ]); refine wpAnyH_ready (rs := [5]) (by kernel_rfl) (by simp) ?_; refine AllReadyH.cons rfl (fun K hK => ?_) ?_; rotate_left; (focus exact AllReadyH.nil); go_simp; (go_at_call 135; apply Calls.mono; apply iDeal_c; (apply Rs.at0 hDr; (exact kf_)); rintro E w2 ⟨rfl, hb⟩; rw [← HA.out]; have hst := xr hb; (try simp only [zA, zC, zD, zN] at hst); obtain ⟨hc, hf, hz⟩ := hst); (try go_wp2_with fail); refine hK.out _ _ ?_ (fun hHeld => ?_); (focus ((try dsimp only); (first | with_reducible assumption | with_reducible exact Held.start _ | with_reducible exact Held.of (by assumption) | with_reducible exact Held.ex (by assumption) (by assumption) | ((repeat (first | with_reducible refine Held.set ?_ (by simp only [zA, zC, zD, zN]; omega) | with_reducible refine Held.alloc ?_ _ | with_reducible refine Held.drew ?_)); (first | with_reducible assumption | with_reducible exact Held.refl _ | with_reducible exact Held.of (by assumption) | with_reducible exact Held.ex (by assumption) (by assumption))) | exact Held.of (by exact ext_)))); clear hK K; (try simp only [Act.put, List.setIfInBounds_toArray, List.set_cons_zero, List.set_cons_succ]); refine regT 6 6 (v := ?_) rfl rfl (by kernel_rfl) (by kernel_rfl) (by kernel_rfl) (fun _ _ _ h => h) (by rfl) ?_ (by assumption) ?_; rotate_left; (focus (intro w hSw; (try dsimp only at hSw); go_simp; (try with_reducible rfl))); (try simp only [Act.put, List.setIfInBounds_toArray, List.set_cons_zero, List.set_cons_succ]); refine wpAnyH_done (by kernel_rfl) ?_ _; all_goals (have hb := And.right (by assumption : Held W0 _); have hst := xr hb; (try simp only [zA, zC, zD, zN] at hst); obtain ⟨hc, hf, hz⟩ := hst))
    all_goals go_wp2_with fail
    rw [HA.out]
    apply Calls.mono
    apply (iFund_c (HS.out.ex ext_) ru rn 4 t rh rp HK.out hu1 hu5)
    rintro E w5 ⟨bL, bLc, bLn, bP, bPc, bPn, bD, bDc, bDn, bN, bNc, bNn, bS, bSc, bSn, τ5, rfl, hm5⟩
    go_wp2
    go_ret
    exact ⟨_, _, _, _, _, _, _, _, _, _, _, _, _, _, _, τ5, rfl, hm5⟩
theorem iEffect5_c (hS : MS g o n lo τ0 w0 aL aLc aLn aP aPc aPn aD aDc aDn aN aNc aNn aS aSc aSn m τ w) (ru rn : Int) (t : Nat) (rh rp : Int) {rows : List Sw.Row} (hok : Sw.MOk m rows) (ht : t < 8) (hu1 : 1 ≤ ru) (hu5 : ru ≤ 5) : Calls Try.prog 163 #[.pointer (some ⟨g, o, none⟩), .agg #[.int .i64 ru, .int .i64 rn, .int .i64 5, .int .i64 t, .int .i64 rh, .int .i64 rp]] w fun E w' =>
    EffPost g o n lo τ0 w0 w' E (Sw.settle m ⟨ru, rn, 5, t, rh, rp⟩ (Sw.dealAt m.deals t)) := by
  have hSw := hS
  obtain ⟨k0, k1, k2, k3, k4, k5, k6, kf⟩ := hS.at_
  have HS := Lib.hid hS
  have hLr := hS.ow.log.ow.rs
  have hDr := hS.ow.deals.ow.rs
  have hpn : aPn ≤ 4194304 := by have := hS.ow.purses.ow.1; have := (Sw.monOk_iff.1 hok.mon).1; omega
  have HL := Lib.hid (Sw.ownFold_some.1 hok.fold).1
  have HO := Lib.hid hok.fold
  have HK := Lib.hid hok
  have i0 : (0 : Int) ≤ (t : Int) := by omega
  have i1 : (t : Int) < 8 := by omega
  obtain ⟨ai, hat⟩ : ∃ z, z = Sw.dealIx m.deals t := ⟨_, rfl⟩
  have HA := Lib.hid hat
  clear hS hSw hok hat
  go_enter Try.func163, Try.ntmps163
  go_upto_region 1 with fail
  go_cut [5] (fun p wx => ∃ gb : Nat, p = .pointer (some ⟨gb, 0, none⟩) ∧ w.heap.size + 1 ≤ gb ∧ gb < wx.heap.size ∧ wx.cell? ⟨gb, 0, none⟩ = some (.int .i64 (Sw.rowAt rows t).who) ∧ wx.cell? ⟨gb, 1, none⟩ = some (.int .i64 (Sw.rowAt rows t).face) ∧ wx.cell? ⟨gb, 2, none⟩ = some (.bool (Sw.rowAt rows t).used) ∧ Ex (w.alloc (.cells #[.int .i64 ru, .int .i64 rn, .int .i64 5, .int .i64 t, .int .i64 rh, .int .i64 rp] 85)) wx)
  case first =>
    (refine wp_name ?_; intro W0 hb0; have hst := xr hb0; (try simp only [zA, zC, zD, zN] at hst); obtain ⟨hc0, hf0, hz0⟩ := hst; go_region_held3 (fun w' => Held W0 w') ((first | with_reducible assumption | with_reducible exact Held.start _ | with_reducible exact Held.of (by assumption) | with_reducible exact Held.ex (by assumption) (by assumption) | ((repeat (first | with_reducible refine Held.set ?_ (by simp only [zA, zC, zD, zN]; omega) | with_reducible refine Held.alloc ?_ _ | with_reducible refine Held.drew ?_)); (first | with_reducible assumption | with_reducible exact Held.refl _ | with_reducible exact Held.of (by assumption) | with_reducible exact Held.ex (by assumption) (by assumption))) | exact Held.of (by exact ext_))) ((go_at_call 61; apply Calls.mono; apply (iRowsT_c (rows := rows) (t := t)); (apply Rs.at0 hLr; (exact kf_)); exact HO.out; exact ht; rintro E w1 ⟨gr, dr, rfl, ⟨hoR, hgR0, hgR, q0, q1, q2⟩, hb⟩; have hst := xr hb; (try simp only [zA, zC, zD, zN] at hst); obtain ⟨hc, hf, hz⟩ := hst)); all_goals (have hb := And.right (by assumption : Held W0 _); have hst := xr hb; (try simp only [zA, zC, zD, zN] at hst); obtain ⟨hc, hf, hz⟩ := hst))
    all_goals go_wp2_with fail
    all_goals go_meet
    all_goals exact ⟨_, rfl, sz_, sz_, by (go_simp; first | done | simp [*]), by (go_simp; first | done | simp [*]), by (go_simp; first | done | simp [*]), ext_⟩
  case rest =>
    obtain ⟨gb, rfl, hgb0, hgb1, q0, q1, q2, hb⟩ := hcut
    have hst := xr hb; (try simp only [zA, zC, zD, zN] at hst); obtain ⟨hc, hf, hz⟩ := hst
    go_wp2_with fail
    (refine wp_name ?_; intro W0 hb0; have hst := xr hb0; (try simp only [zA, zC, zD, zN] at hst); obtain ⟨hc0, hf0, hz0⟩ := hst; refine wp_region_held_drew (S := fun w' => Held W0 w') (by kernel_rfl) ?_ (fun hHeld => ?_); (focus ((try dsimp only); (first | with_reducible assumption | with_reducible exact Held.start _ | with_reducible exact Held.of (by assumption) | with_reducible exact Held.ex (by assumption) (by assumption) | ((repeat (first | with_reducible refine Held.set ?_ (by simp only [zA, zC, zD, zN]; omega) | with_reducible refine Held.alloc ?_ _ | with_reducible refine Held.drew ?_)); (first | with_reducible assumption | with_reducible exact Held.refl _ | with_reducible exact Held.of (by assumption) | with_reducible exact Held.ex (by assumption) (by assumption))) | exact Held.of (by exact ext_)))); refine regT 0 16 (v := ?_) rfl rfl (by kernel_rfl) (by kernel_rfl) (by kernel_rfl) (fun _ _ _ h => h) (by rfl) ?_ (by assumption) ?_; rotate_left; (focus (intro w hSw; (try dsimp only at hSw); go_simp; (try with_reducible rfl))); (try simp only [Act.put, List.setIfInBounds_toArray, List.set_cons_zero, List.set_cons_succ]); refine regT 1 17 (v := ?_) rfl rfl (by kernel_rfl) (by kernel_rfl) (by kernel_rfl) (fun _ _ _ h => h) (by rfl) ?_ (by assumption) ?_; rotate_left; (focus (intro w hSw; (try dsimp only at hSw); go_simp; (try with_reducible rfl))); (try simp only [Act.put, List.setIfInBounds_toArray, List.set_cons_zero, List.set_cons_succ]); refine regT 2 18 (v := ?_) rfl rfl (by kernel_rfl) (by kernel_rfl) (by kernel_rfl) (fun _ _ _ h => h) (by rfl) ?_ (by assumption) ?_; rotate_left; (focus (intro w hSw; (try dsimp only at hSw); go_simp; (try with_reducible rfl))); (try simp only [Act.put, List.setIfInBounds_toArray, List.set_cons_zero, List.set_cons_succ]); refine regT 3 19 (v := ?_) rfl rfl (by kernel_rfl) (by kernel_rfl) (by kernel_rfl) (fun _ _ _ h => h) (by rfl) ?_ (by assumption) ?_; rotate_left; (focus (intro w hSw; (try dsimp only at hSw); go_simp; (try with_reducible rfl))); (try simp only [Act.put, List.setIfInBounds_toArray, List.set_cons_zero, List.set_cons_succ]); refine regT 4 20 (v := ?_) rfl rfl (by kernel_rfl) (by kernel_rfl) (by kernel_rfl) (fun _ _ _ h => h) (by rfl) ?_ (by assumption) ?_; rotate_left; (focus (intro w hSw; (try dsimp only at hSw); go_simp; (try with_reducible rfl))); (try simp only [Act.put, List.setIfInBounds_toArray, List.set_cons_zero, List.set_cons_succ]); refine wpAnyH_ready (rs := [5]) (by kernel_rfl) (by simp) ?_; refine AllReadyH.cons rfl (fun K hK => ?_) ?_; rotate_left; (focus exact AllReadyH.nil); go_simp; (go_at_call 135; apply Calls.mono; apply iDeal_c; (apply Rs.at0 hDr; (exact kf_)); rintro E w2 ⟨rfl, hb⟩; rw [← HA.out]; have hst := xr hb; (try simp only [zA, zC, zD, zN] at hst); obtain ⟨hc, hf, hz⟩ := hst); (try go_wp2_with fail); refine hK.out _ _ ?_ (fun hHeld => ?_); (focus ((try dsimp only); (first | with_reducible assumption | with_reducible exact Held.start _ | with_reducible exact Held.of (by assumption) | with_reducible exact Held.ex (by assumption) (by assumption) | ((repeat (first | with_reducible refine Held.set ?_ (by simp only [zA, zC, zD, zN]; omega) | with_reducible refine Held.alloc ?_ _ | with_reducible refine Held.drew ?_)); (first | with_reducible assumption | with_reducible exact Held.refl _ | with_reducible exact Held.of (by assumption) | with_reducible exact Held.ex (by assumption) (by assumption))) | exact Held.of (by exact ext_)))); clear hK K; (try simp only [Act.put, List.setIfInBounds_toArray, List.set_cons_zero, List.set_cons_succ]); refine regT 6 6 (v := ?_) rfl rfl (by kernel_rfl) (by kernel_rfl) (by kernel_rfl) (fun _ _ _ h => h) (by rfl) ?_ (by assumption) ?_; rotate_left; (focus (intro w hSw; (try dsimp only at hSw); go_simp; (try with_reducible rfl))); (try simp only [Act.put, List.setIfInBounds_toArray, List.set_cons_zero, List.set_cons_succ]); refine wpAnyH_done (by kernel_rfl) ?_ _; all_goals (have hb := And.right (by assumption : Held W0 _); have hst := xr hb; (try simp only [zA, zC, zD, zN] at hst); obtain ⟨hc, hf, hz⟩ := hst))
    all_goals go_wp2_with fail
    rw [HA.out]
    apply Calls.mono
    apply (iSettle_c (HS.out.ex ext_) ru rn 5 t rh rp HK.out)
    rintro E w5 ⟨bL, bLc, bLn, bP, bPc, bPn, bD, bDc, bDn, bN, bNc, bNn, bS, bSc, bSn, τ5, rfl, hm5⟩
    go_wp2
    go_ret
    exact ⟨_, _, _, _, _, _, _, _, _, _, _, _, _, _, _, τ5, rfl, hm5⟩
end
end Go.Proofs.Ytgceeggfdomdjaa

namespace Go.Proofs.Ytgceeggfdomdjaa
set_option maxRecDepth 100000
set_option linter.unusedSimpArgs false
set_option linter.unusedVariables false
open Go.RowKit Go
set_option maxHeartbeats 8000000

section
variable {g o n lo : Nat} {τ0 τ : Nat → Nat} {w0 w : World} {aL : Option Addr} {aLc aLn : Nat} {aP : Option Addr} {aPc aPn : Nat} {aD : Option Addr} {aDc aDn : Nat} {aN : Option Addr} {aNc aNn : Nat} {aS : Option Addr} {aSc aSn : Nat} {m : Sw.Mkt}
theorem iEffect3_c (hS : MS g o n lo τ0 w0 aL aLc aLn aP aPc aPn aD aDc aDn aN aNc aNn aS aSc aSn m τ w) (ru rn : Int) (t : Nat) (rh rp : Int) {rows : List Sw.Row} (hok : Sw.MOk m rows) (ht : t < 8) (hu1 : 1 ≤ ru) (hu5 : ru ≤ 5) : Calls Try.prog 163 #[.pointer (some ⟨g, o, none⟩), .agg #[.int .i64 ru, .int .i64 rn, .int .i64 3, .int .i64 t, .int .i64 rh, .int .i64 rp]] w fun E w' =>
    EffPost g o n lo τ0 w0 w' E (Sw.dropIt m ⟨ru, rn, 3, t, rh, rp⟩ (Sw.rowAt rows t) (Sw.dealAt m.deals t)) := by
  have hSw := hS
  obtain ⟨k0, k1, k2, k3, k4, k5, k6, kf⟩ := hS.at_
  have HS := Lib.hid hS
  have hLr := hS.ow.log.ow.rs
  have hDr := hS.ow.deals.ow.rs
  have hpn : aPn ≤ 4194304 := by have := hS.ow.purses.ow.1; have := (Sw.monOk_iff.1 hok.mon).1; omega
  have HL := Lib.hid (Sw.ownFold_some.1 hok.fold).1
  have HO := Lib.hid hok.fold
  have HK := Lib.hid hok
  have i0 : (0 : Int) ≤ (t : Int) := by omega
  have i1 : (t : Int) < 8 := by omega
  obtain ⟨ai, hat⟩ : ∃ z, z = Sw.dealIx m.deals t := ⟨_, rfl⟩
  have HA := Lib.hid hat
  clear hS hSw hok hat
  go_enter Try.func163, Try.ntmps163
  go_upto_region 1 with fail
  go_cut [5] (fun p wx => ∃ gb : Nat, p = .pointer (some ⟨gb, 0, none⟩) ∧ w.heap.size + 1 ≤ gb ∧ gb < wx.heap.size ∧ wx.cell? ⟨gb, 0, none⟩ = some (.int .i64 (Sw.rowAt rows t).who) ∧ wx.cell? ⟨gb, 1, none⟩ = some (.int .i64 (Sw.rowAt rows t).face) ∧ wx.cell? ⟨gb, 2, none⟩ = some (.bool (Sw.rowAt rows t).used) ∧ Ex (w.alloc (.cells #[.int .i64 ru, .int .i64 rn, .int .i64 3, .int .i64 t, .int .i64 rh, .int .i64 rp] 85)) wx)
  case first =>
    (refine wp_name ?_; intro W0 hb0; have hst := xr hb0; (try simp only [zA, zC, zD, zN] at hst); obtain ⟨hc0, hf0, hz0⟩ := hst; go_region_held3 (fun w' => Held W0 w') ((first | with_reducible assumption | with_reducible exact Held.start _ | with_reducible exact Held.of (by assumption) | with_reducible exact Held.ex (by assumption) (by assumption) | ((repeat (first | with_reducible refine Held.set ?_ (by simp only [zA, zC, zD, zN]; omega) | with_reducible refine Held.alloc ?_ _ | with_reducible refine Held.drew ?_)); (first | with_reducible assumption | with_reducible exact Held.refl _ | with_reducible exact Held.of (by assumption) | with_reducible exact Held.ex (by assumption) (by assumption))) | exact Held.of (by exact ext_))) ((go_at_call 61; apply Calls.mono; apply (iRowsT_c (rows := rows) (t := t)); (apply Rs.at0 hLr; (exact kf_)); exact HO.out; exact ht; rintro E w1 ⟨gr, dr, rfl, ⟨hoR, hgR0, hgR, q0, q1, q2⟩, hb⟩; have hst := xr hb; (try simp only [zA, zC, zD, zN] at hst); obtain ⟨hc, hf, hz⟩ := hst)); all_goals (have hb := And.right (by assumption : Held W0 _); have hst := xr hb; (try simp only [zA, zC, zD, zN] at hst); obtain ⟨hc, hf, hz⟩ := hst))
    all_goals go_wp2_with fail
    all_goals go_meet
    all_goals exact ⟨_, rfl, sz_, sz_, by (go_simp; first | done | simp [*]), by (go_simp; first | done | simp [*]), by (go_simp; first | done | simp [*]), ext_⟩
  case rest =>
    obtain ⟨gb, rfl, hgb0, hgb1, q0, q1, q2, hb⟩ := hcut
    have hst := xr hb; (try simp only [zA, zC, zD, zN] at hst); obtain ⟨hc, hf, hz⟩ := hst
    go_wp2_with fail
    (refine wp_name ?_; intro W0 hb0; have hst := xr hb0; (try simp only [zA, zC, zD, zN] at hst); obtain ⟨hc0, hf0, hz0⟩ := hst; refine wp_region_held_drew (S := fun w' => Held W0 w') (by kernel_rfl) ?_ (fun hHeld => ?_); (focus ((try dsimp only); (first | with_reducible assumption | with_reducible exact Held.start _ | with_reducible exact Held.of (by assumption) | with_reducible exact Held.ex (by assumption) (by assumption) | ((repeat (first | with_reducible refine Held.set ?_ (by simp only [zA, zC, zD, zN]; omega) | with_reducible refine Held.alloc ?_ _ | with_reducible refine Held.drew ?_)); (first | with_reducible assumption | with_reducible exact Held.refl _ | with_reducible exact Held.of (by assumption) | with_reducible exact Held.ex (by assumption) (by assumption))) | exact Held.of (by exact ext_)))); refine regT 0 16 (v := ?_) rfl rfl (by kernel_rfl) (by kernel_rfl) (by kernel_rfl) (fun _ _ _ h => h) (by rfl) ?_ (by assumption) ?_; rotate_left; (focus (intro w hSw; (try dsimp only at hSw); go_simp; (try with_reducible rfl))); (try simp only [Act.put, List.setIfInBounds_toArray, List.set_cons_zero, List.set_cons_succ]); refine regT 1 17 (v := ?_) rfl rfl (by kernel_rfl) (by kernel_rfl) (by kernel_rfl) (fun _ _ _ h => h) (by rfl) ?_ (by assumption) ?_; rotate_left; (focus (intro w hSw; (try dsimp only at hSw); go_simp; (try with_reducible rfl))); (try simp only [Act.put, List.setIfInBounds_toArray, List.set_cons_zero, List.set_cons_succ]); refine regT 2 18 (v := ?_) rfl rfl (by kernel_rfl) (by kernel_rfl) (by kernel_rfl) (fun _ _ _ h => h) (by rfl) ?_ (by assumption) ?_; rotate_left; (focus (intro w hSw; (try dsimp only at hSw); go_simp; (try with_reducible rfl))); (try simp only [Act.put, List.setIfInBounds_toArray, List.set_cons_zero, List.set_cons_succ]); refine regT 3 19 (v := ?_) rfl rfl (by kernel_rfl) (by kernel_rfl) (by kernel_rfl) (fun _ _ _ h => h) (by rfl) ?_ (by assumption) ?_; rotate_left; (focus (intro w hSw; (try dsimp only at hSw); go_simp; (try with_reducible rfl))); (try simp only [Act.put, List.setIfInBounds_toArray, List.set_cons_zero, List.set_cons_succ]); refine regT 4 20 (v := ?_) rfl rfl (by kernel_rfl) (by kernel_rfl) (by kernel_rfl) (fun _ _ _ h => h) (by rfl) ?_ (by assumption) ?_; rotate_left; (focus (intro w hSw; (try dsimp only at hSw); go_simp; (try with_reducible rfl))); (try simp only [Act.put, List.setIfInBounds_toArray, List.set_cons_zero, List.set_cons_succ]); refine wpAnyH_ready (rs := [5]) (by kernel_rfl) (by simp) ?_; refine AllReadyH.cons rfl (fun K hK => ?_) ?_; rotate_left; (focus exact AllReadyH.nil); go_simp; (go_at_call 135; apply Calls.mono; apply iDeal_c; (apply Rs.at0 hDr; (exact kf_)); rintro E w2 ⟨rfl, hb⟩; rw [← HA.out]; have hst := xr hb; (try simp only [zA, zC, zD, zN] at hst); obtain ⟨hc, hf, hz⟩ := hst); (try go_wp2_with fail); refine hK.out _ _ ?_ (fun hHeld => ?_); (focus ((try dsimp only); (first | with_reducible assumption | with_reducible exact Held.start _ | with_reducible exact Held.of (by assumption) | with_reducible exact Held.ex (by assumption) (by assumption) | ((repeat (first | with_reducible refine Held.set ?_ (by simp only [zA, zC, zD, zN]; omega) | with_reducible refine Held.alloc ?_ _ | with_reducible refine Held.drew ?_)); (first | with_reducible assumption | with_reducible exact Held.refl _ | with_reducible exact Held.of (by assumption) | with_reducible exact Held.ex (by assumption) (by assumption))) | exact Held.of (by exact ext_)))); clear hK K; (try simp only [Act.put, List.setIfInBounds_toArray, List.set_cons_zero, List.set_cons_succ]); refine regT 6 6 (v := ?_) rfl rfl (by kernel_rfl) (by kernel_rfl) (by kernel_rfl) (fun _ _ _ h => h) (by rfl) ?_ (by assumption) ?_; rotate_left; (focus (intro w hSw; (try dsimp only at hSw); go_simp; (try with_reducible rfl))); (try simp only [Act.put, List.setIfInBounds_toArray, List.set_cons_zero, List.set_cons_succ]); refine wpAnyH_done (by kernel_rfl) ?_ _; all_goals (have hb := And.right (by assumption : Held W0 _); have hst := xr hb; (try simp only [zA, zC, zD, zN] at hst); obtain ⟨hc, hf, hz⟩ := hst))
    all_goals clear HK hpn HL HO hLr
    by_cases h1 : (Sw.rowAt rows t).who = ru
    case neg =>
      have g1 : ((Sw.rowAt rows t).who == ru) = false := by simpa using h1
      have e : Sw.dropIt m ⟨ru, rn, 3, t, rh, rp⟩ (Sw.rowAt rows t) (Sw.dealAt m.deals t) = (m, 2) := by unfold Sw.dropIt; rw [if_pos h1]
      have He := Lib.hid e; clear e h1
      go_wp2_with fail
      go_ret
      rw [He.out]
      exact ⟨_, _, _, _, _, _, _, _, _, _, _, _, _, _, _, τ, rfl, HS.out.ex ext_⟩
    have g1 : ((Sw.rowAt rows t).who == ru) = true := by simpa using h1
    cases h3 : Sw.dealAt m.deals t
    case none =>
      have e : Sw.dropIt m ⟨ru, rn, 3, t, rh, rp⟩ (Sw.rowAt rows t) (Sw.dealAt m.deals t) = (m, 3) := by rw [h3]; unfold Sw.dropIt; rw [if_neg (by simpa using h1)]
      have He := Lib.hid e
      obtain rfl : ai = -1 := HA.out.trans (dealIx_none h3)
      clear e h1 h3
      go_wp2_with fail
      go_ret
      rw [He.out]
      exact ⟨_, _, _, _, _, _, _, _, _, _, _, _, _, _, _, τ, rfl, HS.out.ex ext_⟩
    rename_i kd
    obtain ⟨d, hd, hdt⟩ := Sw.dealAt_some h3
    have hk : kd < aDn := by have := HS.out.ow.deals.ow.1; have := (List.getElem?_eq_some_iff.1 hd).1; omega
    obtain rfl : ai = (kd : Int) := HA.out.trans (dealIx_some h3)
    have hgd := Sw.getD_of (z := Sw.dealZ) hd
    obtain ⟨gD, y, rfl, hloD, hltD, hy, d0, d1, d2, d3, d4, hfD⟩ := at_OD HS.out.ow.deals.ow hk
    obtain rfl : y = d := Option.some.inj (hy.symm.trans hd)
    have j0 : (0 : Int) ≤ (kd : Int) := by omega
    have j1 : (kd : Int) < (aDn : Int) := by omega
    have j2 : ¬ (kd : Int) < 0 := by omega
    cases hh : Sw.held y
    case true =>
      have e : Sw.dropIt m ⟨ru, rn, 3, t, rh, rp⟩ (Sw.rowAt rows t) (Sw.dealAt m.deals t) = (m, 3) := by rw [h3]; unfold Sw.dropIt; rw [if_neg (by simpa using h1)]; dsimp only; rw [hgd, if_pos hh]
      have He := Lib.hid e
      clear e h1 h3 hd hdt hy hgd
      go_wp2_with (go_at_call 104; apply Calls.mono; apply (iHeld_c y); rintro E w4 ⟨rfl, hb⟩; rw [hh]; have hst := xr hb; (try simp only [zA, zC, zD, zN] at hst); obtain ⟨hc, hf, hz⟩ := hst)
      go_ret
      rw [He.out]
      exact ⟨_, _, _, _, _, _, _, _, _, _, _, _, _, _, _, τ, rfl, HS.out.ex ext_⟩
    have e : Sw.dropIt m ⟨ru, rn, 3, t, rh, rp⟩ (Sw.rowAt rows t) (Sw.dealAt m.deals t) = ({ m with deals := m.deals.eraseIdx kd }, 1) := by rw [h3]; unfold Sw.dropIt; rw [if_neg (by simpa using h1)]; dsimp only; rw [hgd, if_neg (by simp [hh])]
    have He := Lib.hid e
    clear e h1 h3 hd hdt hy hgd
    go_wp2_with (go_at_call 104; apply Calls.mono; apply (iHeld_c y); rintro E w4 ⟨rfl, hb⟩; rw [hh]; have hst := xr hb; (try simp only [zA, zC, zD, zN] at hst); obtain ⟨hc, hf, hz⟩ := hst)
    apply Calls.mono
    apply (iDropAt_c (HS.out.ex ext_) hk)
    rintro E w5 ⟨τ5, rfl, hm5⟩
    go_wp2
    go_ret
    rw [He.out]
    exact ⟨_, _, _, _, _, _, _, _, _, _, _, _, _, _, _, τ5, rfl, hm5⟩
theorem iEffect6_c (hS : MS g o n lo τ0 w0 aL aLc aLn aP aPc aPn aD aDc aDn aN aNc aNn aS aSc aSn m τ w) (ru rn : Int) (t : Nat) (rh rp : Int) {rows : List Sw.Row} (hok : Sw.MOk m rows) (ht : t < 8) (hu1 : 1 ≤ ru) (hu5 : ru ≤ 5) : Calls Try.prog 163 #[.pointer (some ⟨g, o, none⟩), .agg #[.int .i64 ru, .int .i64 rn, .int .i64 6, .int .i64 t, .int .i64 rh, .int .i64 rp]] w fun E w' =>
    EffPost g o n lo τ0 w0 w' E (Sw.enter m ⟨ru, rn, 6, t, rh, rp⟩ (Sw.rowAt rows t) (Sw.dealAt m.deals t)) := by
  have hSw := hS
  obtain ⟨k0, k1, k2, k3, k4, k5, k6, kf⟩ := hS.at_
  have HS := Lib.hid hS
  have hLr := hS.ow.log.ow.rs
  have hDr := hS.ow.deals.ow.rs
  have hpn : aPn ≤ 4194304 := by have := hS.ow.purses.ow.1; have := (Sw.monOk_iff.1 hok.mon).1; omega
  have HL := Lib.hid (Sw.ownFold_some.1 hok.fold).1
  have HO := Lib.hid hok.fold
  have HK := Lib.hid hok
  have i0 : (0 : Int) ≤ (t : Int) := by omega
  have i1 : (t : Int) < 8 := by omega
  obtain ⟨ai, hat⟩ : ∃ z, z = Sw.dealIx m.deals t := ⟨_, rfl⟩
  have HA := Lib.hid hat
  clear hS hSw hok hat
  go_enter Try.func163, Try.ntmps163
  go_upto_region 1 with fail
  go_cut [5] (fun p wx => ∃ gb : Nat, p = .pointer (some ⟨gb, 0, none⟩) ∧ w.heap.size + 1 ≤ gb ∧ gb < wx.heap.size ∧ wx.cell? ⟨gb, 0, none⟩ = some (.int .i64 (Sw.rowAt rows t).who) ∧ wx.cell? ⟨gb, 1, none⟩ = some (.int .i64 (Sw.rowAt rows t).face) ∧ wx.cell? ⟨gb, 2, none⟩ = some (.bool (Sw.rowAt rows t).used) ∧ Ex (w.alloc (.cells #[.int .i64 ru, .int .i64 rn, .int .i64 6, .int .i64 t, .int .i64 rh, .int .i64 rp] 85)) wx)
  case first =>
    (refine wp_name ?_; intro W0 hb0; have hst := xr hb0; (try simp only [zA, zC, zD, zN] at hst); obtain ⟨hc0, hf0, hz0⟩ := hst; go_region_held3 (fun w' => Held W0 w') ((first | with_reducible assumption | with_reducible exact Held.start _ | with_reducible exact Held.of (by assumption) | with_reducible exact Held.ex (by assumption) (by assumption) | ((repeat (first | with_reducible refine Held.set ?_ (by simp only [zA, zC, zD, zN]; omega) | with_reducible refine Held.alloc ?_ _ | with_reducible refine Held.drew ?_)); (first | with_reducible assumption | with_reducible exact Held.refl _ | with_reducible exact Held.of (by assumption) | with_reducible exact Held.ex (by assumption) (by assumption))) | exact Held.of (by exact ext_))) ((go_at_call 61; apply Calls.mono; apply (iRowsT_c (rows := rows) (t := t)); (apply Rs.at0 hLr; (exact kf_)); exact HO.out; exact ht; rintro E w1 ⟨gr, dr, rfl, ⟨hoR, hgR0, hgR, q0, q1, q2⟩, hb⟩; have hst := xr hb; (try simp only [zA, zC, zD, zN] at hst); obtain ⟨hc, hf, hz⟩ := hst)); all_goals (have hb := And.right (by assumption : Held W0 _); have hst := xr hb; (try simp only [zA, zC, zD, zN] at hst); obtain ⟨hc, hf, hz⟩ := hst))
    all_goals go_wp2_with fail
    all_goals go_meet
    all_goals exact ⟨_, rfl, sz_, sz_, by (go_simp; first | done | simp [*]), by (go_simp; first | done | simp [*]), by (go_simp; first | done | simp [*]), ext_⟩
  case rest =>
    obtain ⟨gb, rfl, hgb0, hgb1, q0, q1, q2, hb⟩ := hcut
    have hst := xr hb; (try simp only [zA, zC, zD, zN] at hst); obtain ⟨hc, hf, hz⟩ := hst
    go_wp2_with fail
    (refine wp_name ?_; intro W0 hb0; have hst := xr hb0; (try simp only [zA, zC, zD, zN] at hst); obtain ⟨hc0, hf0, hz0⟩ := hst; refine wp_region_held_drew (S := fun w' => Held W0 w') (by kernel_rfl) ?_ (fun hHeld => ?_); (focus ((try dsimp only); (first | with_reducible assumption | with_reducible exact Held.start _ | with_reducible exact Held.of (by assumption) | with_reducible exact Held.ex (by assumption) (by assumption) | ((repeat (first | with_reducible refine Held.set ?_ (by simp only [zA, zC, zD, zN]; omega) | with_reducible refine Held.alloc ?_ _ | with_reducible refine Held.drew ?_)); (first | with_reducible assumption | with_reducible exact Held.refl _ | with_reducible exact Held.of (by assumption) | with_reducible exact Held.ex (by assumption) (by assumption))) | exact Held.of (by exact ext_)))); refine regT 0 16 (v := ?_) rfl rfl (by kernel_rfl) (by kernel_rfl) (by kernel_rfl) (fun _ _ _ h => h) (by rfl) ?_ (by assumption) ?_; rotate_left; (focus (intro w hSw; (try dsimp only at hSw); go_simp; (try with_reducible rfl))); (try simp only [Act.put, List.setIfInBounds_toArray, List.set_cons_zero, List.set_cons_succ]); refine regT 1 17 (v := ?_) rfl rfl (by kernel_rfl) (by kernel_rfl) (by kernel_rfl) (fun _ _ _ h => h) (by rfl) ?_ (by assumption) ?_; rotate_left; (focus (intro w hSw; (try dsimp only at hSw); go_simp; (try with_reducible rfl))); (try simp only [Act.put, List.setIfInBounds_toArray, List.set_cons_zero, List.set_cons_succ]); refine regT 2 18 (v := ?_) rfl rfl (by kernel_rfl) (by kernel_rfl) (by kernel_rfl) (fun _ _ _ h => h) (by rfl) ?_ (by assumption) ?_; rotate_left; (focus (intro w hSw; (try dsimp only at hSw); go_simp; (try with_reducible rfl))); (try simp only [Act.put, List.setIfInBounds_toArray, List.set_cons_zero, List.set_cons_succ]); refine regT 3 19 (v := ?_) rfl rfl (by kernel_rfl) (by kernel_rfl) (by kernel_rfl) (fun _ _ _ h => h) (by rfl) ?_ (by assumption) ?_; rotate_left; (focus (intro w hSw; (try dsimp only at hSw); go_simp; (try with_reducible rfl))); (try simp only [Act.put, List.setIfInBounds_toArray, List.set_cons_zero, List.set_cons_succ]); refine regT 4 20 (v := ?_) rfl rfl (by kernel_rfl) (by kernel_rfl) (by kernel_rfl) (fun _ _ _ h => h) (by rfl) ?_ (by assumption) ?_; rotate_left; (focus (intro w hSw; (try dsimp only at hSw); go_simp; (try with_reducible rfl))); (try simp only [Act.put, List.setIfInBounds_toArray, List.set_cons_zero, List.set_cons_succ]); refine wpAnyH_ready (rs := [5]) (by kernel_rfl) (by simp) ?_; refine AllReadyH.cons rfl (fun K hK => ?_) ?_; rotate_left; (focus exact AllReadyH.nil); go_simp; (go_at_call 135; apply Calls.mono; apply iDeal_c; (apply Rs.at0 hDr; (exact kf_)); rintro E w2 ⟨rfl, hb⟩; rw [← HA.out]; have hst := xr hb; (try simp only [zA, zC, zD, zN] at hst); obtain ⟨hc, hf, hz⟩ := hst); (try go_wp2_with fail); refine hK.out _ _ ?_ (fun hHeld => ?_); (focus ((try dsimp only); (first | with_reducible assumption | with_reducible exact Held.start _ | with_reducible exact Held.of (by assumption) | with_reducible exact Held.ex (by assumption) (by assumption) | ((repeat (first | with_reducible refine Held.set ?_ (by simp only [zA, zC, zD, zN]; omega) | with_reducible refine Held.alloc ?_ _ | with_reducible refine Held.drew ?_)); (first | with_reducible assumption | with_reducible exact Held.refl _ | with_reducible exact Held.of (by assumption) | with_reducible exact Held.ex (by assumption) (by assumption))) | exact Held.of (by exact ext_)))); clear hK K; (try simp only [Act.put, List.setIfInBounds_toArray, List.set_cons_zero, List.set_cons_succ]); refine regT 6 6 (v := ?_) rfl rfl (by kernel_rfl) (by kernel_rfl) (by kernel_rfl) (fun _ _ _ h => h) (by rfl) ?_ (by assumption) ?_; rotate_left; (focus (intro w hSw; (try dsimp only at hSw); go_simp; (try with_reducible rfl))); (try simp only [Act.put, List.setIfInBounds_toArray, List.set_cons_zero, List.set_cons_succ]); refine wpAnyH_done (by kernel_rfl) ?_ _; all_goals (have hb := And.right (by assumption : Held W0 _); have hst := xr hb; (try simp only [zA, zC, zD, zN] at hst); obtain ⟨hc, hf, hz⟩ := hst))
    all_goals clear HK hpn HO hLr
    have l1 := Lib.hid HS.out.ow.log.ow.1
    by_cases h1 : (Sw.rowAt rows t).who = ru
    case neg =>
      have g1 : ((Sw.rowAt rows t).who == ru) = false := by simpa using h1
      have e : Sw.enter m ⟨ru, rn, 6, t, rh, rp⟩ (Sw.rowAt rows t) (Sw.dealAt m.deals t) = (m, 2) := by unfold Sw.enter; rw [if_pos h1]
      have He := Lib.hid e; clear e h1
      go_wp2_with fail
      go_ret
      rw [He.out]
      exact ⟨_, _, _, _, _, _, _, _, _, _, _, _, _, _, _, τ, rfl, HS.out.ex ext_⟩
    have g1 : ((Sw.rowAt rows t).who == ru) = true := by simpa using h1
    cases h2 : (Sw.rowAt rows t).used
    case true =>
      have e : Sw.enter m ⟨ru, rn, 6, t, rh, rp⟩ (Sw.rowAt rows t) (Sw.dealAt m.deals t) = (m, 3) := by unfold Sw.enter; rw [if_neg (by simpa using h1), if_pos (.inl h2)]
      have He := Lib.hid e
      rw [h2] at q2
      clear e h1 h2
      go_wp2_with fail
      go_ret
      rw [He.out]
      exact ⟨_, _, _, _, _, _, _, _, _, _, _, _, _, _, _, τ, rfl, HS.out.ex ext_⟩
    have H2 := Lib.hid h2
    rw [h2] at q2
    cases h3 : Sw.dealAt m.deals t
    case some kd =>
      have e : Sw.enter m ⟨ru, rn, 6, t, rh, rp⟩ (Sw.rowAt rows t) (Sw.dealAt m.deals t) = (m, 3) := by rw [h3]; unfold Sw.enter; rw [if_neg (by simpa using h1), if_pos (.inr rfl)]
      have He := Lib.hid e
      obtain rfl : ai = (kd : Int) := HA.out.trans (dealIx_some h3)
      have j0 : (0 : Int) ≤ (kd : Int) := by omega
      clear e h1 h3 h2
      go_wp2_with fail
      go_ret
      rw [He.out]
      exact ⟨_, _, _, _, _, _, _, _, _, _, _, _, _, _, _, τ, rfl, HS.out.ex ext_⟩
    obtain rfl : ai = -1 := HA.out.trans (dealIx_none h3)
    by_cases h4 : m.log.length = 40
    · have e : Sw.enter m ⟨ru, rn, 6, t, rh, rp⟩ (Sw.rowAt rows t) (Sw.dealAt m.deals t) = (m, 6) := by rw [h3]; unfold Sw.enter; rw [if_neg (by simpa using h1), if_neg (by simp [h2]), if_pos h4]
      have He := Lib.hid e
      have h40 : aLn = 40 := by have := l1.out; omega
      clear e h1 h3 h2 h4
      go_wp2_with (go_at_call 197; apply Calls.mono; apply (iAppendN_c (HS.out.ex ext_) 3 t ru 0 h40); rintro E w4 ⟨rfl, hb⟩; have hst := xr hb; (try simp only [zA, zC, zD, zN] at hst); obtain ⟨hc, hf, hz⟩ := hst)
      go_ret
      rw [He.out]
      exact ⟨_, _, _, _, _, _, _, _, _, _, _, _, _, _, _, τ, rfl, HS.out.ex ext_⟩
    have e : Sw.enter m ⟨ru, rn, 6, t, rh, rp⟩ (Sw.rowAt rows t) (Sw.dealAt m.deals t) = ({ m with log := m.log ++ [⟨3, t, ru, 0⟩] }, 1) := by rw [h3]; unfold Sw.enter; rw [if_neg (by simpa using h1), if_neg (by simp [h2]), if_neg h4]
    have He := Lib.hid e
    have hn40 : aLn < 40 := by have := l1.out; have := HL.out; omega
    clear e h1 h3 h2 h4
    go_wp2_with fail
    apply Calls.mono
    apply (iAppend_c (HS.out.ex ext_) 3 t ru 0 hn40)
    rintro E w5 ⟨A5, c5, τ5, rfl, hm5⟩
    go_wp2
    go_ret
    rw [He.out]
    exact ⟨_, _, _, _, _, _, _, _, _, _, _, _, _, _, _, τ5, rfl, hm5⟩
end
end Go.Proofs.Ytgceeggfdomdjaa

namespace Go.Proofs.Ytgceeggfdomdjaa
set_option maxRecDepth 100000
set_option linter.unusedSimpArgs false
set_option linter.unusedVariables false
open Go.RowKit Go
set_option maxHeartbeats 8000000

/-- What a region leaves that may turn two blocks. -/
abbrev HeldE (g gD : Nat) (W w : World) : Prop :=
  (∀ b o, ¬ ((⟨b, 0, none⟩ : Addr) = ⟨b - W.heap.size + W.heap.size, 0, none⟩) → ¬ ((⟨b, 0, none⟩ : Addr) = ⟨g, 0, none⟩) → ¬ ((⟨b, 0, none⟩ : Addr) = ⟨gD, 0, none⟩) → w.cell? ⟨b, o, none⟩ = W.cell? ⟨b, o, none⟩) ∧ Ch (fun i => i = g ∨ i = gD) W w
theorem HeldE.of {g gD : Nat} {W w : World} (h : Ch (fun i => i = g ∨ i = gD) W w) : HeldE g gD W w :=
  ⟨fun b o h1 h2 h3 => h.cell (p := ⟨b, o, none⟩) (by simp at h1; show b < _; omega) (by rintro (e | e); exact h2 (by rw [show b = g from e]); exact h3 (by rw [show b = gD from e])), h⟩
theorem HeldE.start (g gD : Nat) (W : World) : HeldE g gD W W.drew := .of (Ch.refl _ _).drew
theorem HeldE.refl (g gD : Nat) (W : World) : HeldE g gD W W := .of (Ch.refl _ _)
theorem HeldE.drew {g gD : Nat} {W w : World} (h : HeldE g gD W w) : HeldE g gD W w.drew := .of h.2.drew
theorem HeldE.alloc {g gD : Nat} {W w : World} (h : HeldE g gD W w) (o : Obj) : HeldE g gD W (w.alloc o) := .of (h.2.alloc o)
theorem HeldE.set {g gD : Nat} {W w : World} {p : Addr} {u : Value} (h : HeldE g gD W w) (hp : p.block = g) : HeldE g gD W (w.setCell p u) := .of (h.2.setCell (.inl (.inl hp)) u)
theorem HeldE.app {g gD : Nat} {W w w' : World} {A : Option Addr} (h : HeldE g gD W w) (hc : Ch (atA A) w w') (hA : ∀ a, A = some a → a.block = gD) : Ch (fun i => i = g ∨ i = gD) W w' :=
  h.2.trans' hc fun i _ ⟨a, ha, e⟩ => .inr (e.trans (hA a ha))
theorem insertDeal_at {d : Sw.Deal} : ∀ {ds : List Sw.Deal} {k : Nat}, k ≤ ds.length → (∀ j x, j < k → ds[j]? = some x → x.ticket < d.ticket) → (∀ x, ds[k]? = some x → d.ticket < x.ticket) → Sw.insertDeal d ds = ds.take k ++ d :: ds.drop k
  | [], k, hk, _, _ => by
    obtain rfl : k = 0 := by simpa using hk
    rfl
  | y :: ys, 0, _, _, h => by
    have := h y rfl
    rw [Sw.insertDeal, if_pos this]; rfl
  | y :: ys, k + 1, hk, h1, h2 => by
    have := h1 0 y (by omega) rfl
    rw [Sw.insertDeal, if_neg (by omega), insertDeal_at (k := k) (by simpa using hk) (fun j x hj hx => h1 (j + 1) x (by omega) (by simpa using hx)) (fun x hx => h2 x (by simpa using hx))]
    rfl
theorem lit1D {W : World} {gl : Nat} (d : Sw.Deal) (h : gl = W.heap.size) : RDl (W.alloc (.cells #[.int .i64 d.ticket, .int .i64 d.seller, .int .i64 d.price, .int .i64 d.buyer, .int .i64 d.due] 73)) 0 (some ⟨gl, 0, none⟩) 1 1 [d] :=
  Rs.new (enc := Sw.Deal.enc) (sz := 5) [d] h rfl rfl (fun _ => rfl) (by decide)
section
variable {g o n lo : Nat} {τ0 τ : Nat → Nat} {w0 w : World} {aL : Option Addr} {aLc aLn : Nat} {aP : Option Addr} {aPc aPn : Nat} {aD : Option Addr} {aDc aDn : Nat} {aN : Option Addr} {aNc aNn : Nat} {aS : Option Addr} {aSc aSn : Nat} {m : Sw.Mkt}
theorem iEffect2_c (hS : MS g o n lo τ0 w0 aL aLc aLn aP aPc aPn aD aDc aDn aN aNc aNn aS aSc aSn m τ w) (ru rn : Int) (t : Nat) (rh rp : Int) {rows : List Sw.Row} (hok : Sw.MOk m rows) (ht : t < 8) (hu1 : 1 ≤ ru) (hu5 : ru ≤ 5) : Calls Try.prog 163 #[.pointer (some ⟨g, o, none⟩), .agg #[.int .i64 ru, .int .i64 rn, .int .i64 2, .int .i64 t, .int .i64 rh, .int .i64 rp]] w fun E w' =>
    EffPost g o n lo τ0 w0 w' E (Sw.offer m ⟨ru, rn, 2, t, rh, rp⟩ (Sw.rowAt rows t) (Sw.dealAt m.deals t)) := by
  have hSw := hS
  obtain ⟨k0, k1, k2, k3, k4, k5, k6, kf⟩ := hS.at_
  have HS := Lib.hid hS
  have hLr := hS.ow.log.ow.rs
  have hDr := hS.ow.deals.ow.rs
  have hpn : aPn ≤ 4194304 := by have := hS.ow.purses.ow.1; have := (Sw.monOk_iff.1 hok.mon).1; omega
  have HL := Lib.hid (Sw.ownFold_some.1 hok.fold).1
  have HO := Lib.hid hok.fold
  have HK := Lib.hid hok
  have i0 : (0 : Int) ≤ (t : Int) := by omega
  have i1 : (t : Int) < 8 := by omega
  obtain ⟨ai, hat⟩ : ∃ z, z = Sw.dealIx m.deals t := ⟨_, rfl⟩
  have HA := Lib.hid hat
  clear hS hSw hok hat
  go_enter Try.func163, Try.ntmps163
  go_upto_region 1 with fail
  go_cut [5] (fun p wx => ∃ gb : Nat, p = .pointer (some ⟨gb, 0, none⟩) ∧ w.heap.size + 1 ≤ gb ∧ gb < wx.heap.size ∧ wx.cell? ⟨gb, 0, none⟩ = some (.int .i64 (Sw.rowAt rows t).who) ∧ wx.cell? ⟨gb, 1, none⟩ = some (.int .i64 (Sw.rowAt rows t).face) ∧ wx.cell? ⟨gb, 2, none⟩ = some (.bool (Sw.rowAt rows t).used) ∧ Ex (w.alloc (.cells #[.int .i64 ru, .int .i64 rn, .int .i64 2, .int .i64 t, .int .i64 rh, .int .i64 rp] 85)) wx)
  case first =>
    (refine wp_name ?_; intro W0 hb0; have hst := xr hb0; (try simp only [zA, zC, zD, zN] at hst); obtain ⟨hc0, hf0, hz0⟩ := hst; go_region_held3 (fun w' => Held W0 w') ((first | with_reducible assumption | with_reducible exact Held.start _ | with_reducible exact Held.of (by assumption) | with_reducible exact Held.ex (by assumption) (by assumption) | ((repeat (first | with_reducible refine Held.set ?_ (by simp only [zA, zC, zD, zN]; omega) | with_reducible refine Held.alloc ?_ _ | with_reducible refine Held.drew ?_)); (first | with_reducible assumption | with_reducible exact Held.refl _ | with_reducible exact Held.of (by assumption) | with_reducible exact Held.ex (by assumption) (by assumption))) | exact Held.of (by exact ext_))) ((go_at_call 61; apply Calls.mono; apply (iRowsT_c (rows := rows) (t := t)); (apply Rs.at0 hLr; (exact kf_)); exact HO.out; exact ht; rintro E w1 ⟨gr, dr, rfl, ⟨hoR, hgR0, hgR, q0, q1, q2⟩, hb⟩; have hst := xr hb; (try simp only [zA, zC, zD, zN] at hst); obtain ⟨hc, hf, hz⟩ := hst)); all_goals (have hb := And.right (by assumption : Held W0 _); have hst := xr hb; (try simp only [zA, zC, zD, zN] at hst); obtain ⟨hc, hf, hz⟩ := hst))
    all_goals go_wp2_with fail
    all_goals go_meet
    all_goals exact ⟨_, rfl, sz_, sz_, by (go_simp; first | done | simp [*]), by (go_simp; first | done | simp [*]), by (go_simp; first | done | simp [*]), ext_⟩
  case rest =>
    obtain ⟨gb, rfl, hgb0, hgb1, q0, q1, q2, hb⟩ := hcut
    have hst := xr hb; (try simp only [zA, zC, zD, zN] at hst); obtain ⟨hc, hf, hz⟩ := hst
    go_wp2_with fail
    (refine wp_name ?_; intro W0 hb0; have hst := xr hb0; (try simp only [zA, zC, zD, zN] at hst); obtain ⟨hc0, hf0, hz0⟩ := hst; refine wp_region_held_drew (S := fun w' => Held W0 w') (by kernel_rfl) ?_ (fun hHeld => ?_); (focus ((try dsimp only); (first | with_reducible assumption | with_reducible exact Held.start _ | with_reducible exact Held.of (by assumption) | with_reducible exact Held.ex (by assumption) (by assumption) | ((repeat (first | with_reducible refine Held.set ?_ (by simp only [zA, zC, zD, zN]; omega) | with_reducible refine Held.alloc ?_ _ | with_reducible refine Held.drew ?_)); (first | with_reducible assumption | with_reducible exact Held.refl _ | with_reducible exact Held.of (by assumption) | with_reducible exact Held.ex (by assumption) (by assumption))) | exact Held.of (by exact ext_)))); refine regT 0 16 (v := ?_) rfl rfl (by kernel_rfl) (by kernel_rfl) (by kernel_rfl) (fun _ _ _ h => h) (by rfl) ?_ (by assumption) ?_; rotate_left; (focus (intro w hSw; (try dsimp only at hSw); go_simp; (try with_reducible rfl))); (try simp only [Act.put, List.setIfInBounds_toArray, List.set_cons_zero, List.set_cons_succ]); refine regT 1 17 (v := ?_) rfl rfl (by kernel_rfl) (by kernel_rfl) (by kernel_rfl) (fun _ _ _ h => h) (by rfl) ?_ (by assumption) ?_; rotate_left; (focus (intro w hSw; (try dsimp only at hSw); go_simp; (try with_reducible rfl))); (try simp only [Act.put, List.setIfInBounds_toArray, List.set_cons_zero, List.set_cons_succ]); refine regT 2 18 (v := ?_) rfl rfl (by kernel_rfl) (by kernel_rfl) (by kernel_rfl) (fun _ _ _ h => h) (by rfl) ?_ (by assumption) ?_; rotate_left; (focus (intro w hSw; (try dsimp only at hSw); go_simp; (try with_reducible rfl))); (try simp only [Act.put, List.setIfInBounds_toArray, List.set_cons_zero, List.set_cons_succ]); refine regT 3 19 (v := ?_) rfl rfl (by kernel_rfl) (by kernel_rfl) (by kernel_rfl) (fun _ _ _ h => h) (by rfl) ?_ (by assumption) ?_; rotate_left; (focus (intro w hSw; (try dsimp only at hSw); go_simp; (try with_reducible rfl))); (try simp only [Act.put, List.setIfInBounds_toArray, List.set_cons_zero, List.set_cons_succ]); refine regT 4 20 (v := ?_) rfl rfl (by kernel_rfl) (by kernel_rfl) (by kernel_rfl) (fun _ _ _ h => h) (by rfl) ?_ (by assumption) ?_; rotate_left; (focus (intro w hSw; (try dsimp only at hSw); go_simp; (try with_reducible rfl))); (try simp only [Act.put, List.setIfInBounds_toArray, List.set_cons_zero, List.set_cons_succ]); refine wpAnyH_ready (rs := [5]) (by kernel_rfl) (by simp) ?_; refine AllReadyH.cons rfl (fun K hK => ?_) ?_; rotate_left; (focus exact AllReadyH.nil); go_simp; (go_at_call 135; apply Calls.mono; apply iDeal_c; (apply Rs.at0 hDr; (exact kf_)); rintro E w2 ⟨rfl, hb⟩; rw [← HA.out]; have hst := xr hb; (try simp only [zA, zC, zD, zN] at hst); obtain ⟨hc, hf, hz⟩ := hst); (try go_wp2_with fail); refine hK.out _ _ ?_ (fun hHeld => ?_); (focus ((try dsimp only); (first | with_reducible assumption | with_reducible exact Held.start _ | with_reducible exact Held.of (by assumption) | with_reducible exact Held.ex (by assumption) (by assumption) | ((repeat (first | with_reducible refine Held.set ?_ (by simp only [zA, zC, zD, zN]; omega) | with_reducible refine Held.alloc ?_ _ | with_reducible refine Held.drew ?_)); (first | with_reducible assumption | with_reducible exact Held.refl _ | with_reducible exact Held.of (by assumption) | with_reducible exact Held.ex (by assumption) (by assumption))) | exact Held.of (by exact ext_)))); clear hK K; (try simp only [Act.put, List.setIfInBounds_toArray, List.set_cons_zero, List.set_cons_succ]); refine regT 6 6 (v := ?_) rfl rfl (by kernel_rfl) (by kernel_rfl) (by kernel_rfl) (fun _ _ _ h => h) (by rfl) ?_ (by assumption) ?_; rotate_left; (focus (intro w hSw; (try dsimp only at hSw); go_simp; (try with_reducible rfl))); (try simp only [Act.put, List.setIfInBounds_toArray, List.set_cons_zero, List.set_cons_succ]); refine wpAnyH_done (by kernel_rfl) ?_ _; all_goals (have hb := And.right (by assumption : Held W0 _); have hst := xr hb; (try simp only [zA, zC, zD, zN] at hst); obtain ⟨hc, hf, hz⟩ := hst))
    all_goals clear hpn HO hLr HL
    by_cases h1 : (Sw.rowAt rows t).who = ru
    case neg =>
      have g1 : ((Sw.rowAt rows t).who == ru) = false := by simpa using h1
      have e : Sw.offer m ⟨ru, rn, 2, t, rh, rp⟩ (Sw.rowAt rows t) (Sw.dealAt m.deals t) = (m, 2) := by unfold Sw.offer; rw [if_pos h1]
      have He := Lib.hid e; clear e h1 HK
      go_wp2_with fail
      go_ret
      rw [He.out]
      exact ⟨_, _, _, _, _, _, _, _, _, _, _, _, _, _, _, τ, rfl, HS.out.ex ext_⟩
    have g1 : ((Sw.rowAt rows t).who == ru) = true := by simpa using h1
    cases h3 : Sw.dealAt m.deals t
    case some kd =>
      have e : Sw.offer m ⟨ru, rn, 2, t, rh, rp⟩ (Sw.rowAt rows t) (Sw.dealAt m.deals t) = (m, 3) := by rw [h3]; unfold Sw.offer; rw [if_neg (by simpa using h1), if_pos (.inl rfl)]
      have He := Lib.hid e
      obtain rfl : ai = (kd : Int) := HA.out.trans (dealIx_some h3)
      have j0 : (0 : Int) ≤ (kd : Int) := by omega
      clear e h1 h3 HK
      go_wp2_with fail
      go_ret
      rw [He.out]
      exact ⟨_, _, _, _, _, _, _, _, _, _, _, _, _, _, _, τ, rfl, HS.out.ex ext_⟩
    obtain rfl : ai = -1 := HA.out.trans (dealIx_none h3)
    cases h2 : (Sw.rowAt rows t).used
    case true =>
      have e : Sw.offer m ⟨ru, rn, 2, t, rh, rp⟩ (Sw.rowAt rows t) (Sw.dealAt m.deals t) = (m, 3) := by unfold Sw.offer; rw [if_neg (by simpa using h1), if_pos (.inr h2)]
      have He := Lib.hid e
      rw [h2] at q2
      clear e h1 h3 h2 HK
      go_wp2_with fail
      go_ret
      rw [He.out]
      exact ⟨_, _, _, _, _, _, _, _, _, _, _, _, _, _, _, τ, rfl, HS.out.ex ext_⟩
    rw [h2] at q2
    by_cases h4 : Sw.entCap (Sw.rowAt rows t).face < rp
    · have e : Sw.offer m ⟨ru, rn, 2, t, rh, rp⟩ (Sw.rowAt rows t) (Sw.dealAt m.deals t) = (m, 4) := by rw [h3]; unfold Sw.offer; rw [if_neg (by simpa using h1), if_neg (by simp [h2]), if_pos h4]
      have He := Lib.hid e
      clear e h1 h3 h2 HK
      go_wp2_with fail
      (go_quiet ((first | (go_at_call 58; exact Calls.quiet_same (iEntCap_c _ _)))); all_goals (generalize hWq : World.drewN _ nq = W0; have hb0 := Ex.ofN hWq; clear hWq; have hst := xr hb0; (try simp only [zA, zC, zD, zN] at hst); obtain ⟨hc0, hf0, hz0⟩ := hst))
      go_wp2
      go_ret
      rw [He.out]
      exact ⟨_, _, _, _, _, _, _, _, _, _, _, _, _, _, _, τ, rfl, HS.out.ex ext_⟩
    have e : Sw.offer m ⟨ru, rn, 2, t, rh, rp⟩ (Sw.rowAt rows t) (Sw.dealAt m.deals t) = ({ m with deals := Sw.insertDeal ⟨t, ru, rp, 0, 0⟩ m.deals }, 1) := by rw [h3]; unfold Sw.offer; rw [if_neg (by simpa using h1), if_neg (by simp [h2]), if_neg h4]
    have He := Lib.hid e
    have hno := Lib.hid (Sw.dealAt_none h3)
    have hris := Lib.hid HK.out.deals.2
    have l3 := Lib.hid HS.out.ow.deals.ow.1
    have hd8 := HK.out.dlen
    have hn8 : aDn ≤ 8 := by have := l3.out; omega
    clear e h1 h3 h2 HK hd8
    go_wp2_with fail
    (go_quiet ((first | (go_at_call 58; exact Calls.quiet_same (iEntCap_c _ _)))); all_goals (generalize hWq : World.drewN _ nq = W0; have hb0 := Ex.ofN hWq; clear hWq; have hst := xr hb0; (try simp only [zA, zC, zD, zN] at hst); obtain ⟨hc0, hf0, hz0⟩ := hst))
    go_upto_block 3 with fail
    go_cut [6] (fun a wx => ∃ j : Nat, a = .int .i64 j ∧ j ≤ aDn ∧ (∀ i x, i < j → m.deals[i]? = some x → x.ticket < t) ∧ (∀ x, m.deals[j]? = some x → (t : Int) ≤ x.ticket) ∧ Ex W0 wx)
    case first =>
      go_wp2_with fail
      go_loopw [6] (fun a wr => ∃ j : Nat, j ≤ aDn ∧ a = .int .i64 j ∧ Ex W0 wr ∧ ∀ i x, i < j → m.deals[i]? = some x → x.ticket < t) (fun a _ => aDn - (intOf a).toNat)
      case atStart => exact ⟨0, Nat.zero_le _, rfl, Ch.refl _ _, by omega⟩
      case round =>
        obtain ⟨j, hj, rfl, hb9, hlow⟩ := hrel
        have hst := xr hb9
        (try simp only [zA, zC, zD, zN] at hst)
        obtain ⟨hc9, hf9, hz9⟩ := hst
        have Hlow := Lib.hid hlow
        clear hlow
        have j0 : (0 : Int) ≤ (j : Int) := by omega
        by_cases hlt : j < aDn
        · obtain ⟨gD, x, hAD, hloD, hltD, hx, d0, d1, d2, d3, d4, hfD⟩ := at_OD HS.out.ow.deals.ow hlt
          subst hAD
          have HX := Lib.hid hx
          clear hx d1 d2 d3 d4
          have j1 : (j : Int) < (aDn : Int) := by omega
          have hwj : IntKind.i64.wrap ((j : Int) + 1) = (j : Int) + 1 := IntWalk.i64_in _ (by omega)
          by_cases hxt : x.ticket < (t : Int)
          · go_wp2_with fail
            (go_quiet ((first | fail)); all_goals (generalize hWq : World.drewN _ nq = W0; have hb0 := Ex.ofN hWq; clear hWq; have hst := xr hb0; (try simp only [zA, zC, zD, zN] at hst); obtain ⟨hc0, hf0, hz0⟩ := hst))
            go_wp2_with fail
            go_roundw
            case rel =>
              refine ⟨j + 1, by omega, by go_num, ext_, fun i z hi hz => ?_⟩
              rcases Nat.lt_or_ge i j with h | h
              · exact Hlow.out i z h hz
              · obtain rfl : i = j := by omega
                have := HX.out
                rw [this] at hz
                cases hz
                exact hxt
            case measure => simp [intOf]; omega
          · go_wp2_with fail
            (go_quiet ((first | fail)); all_goals (generalize hWq : World.drewN _ nq = W0; have hb0 := Ex.ofN hWq; clear hWq; have hst := xr hb0; (try simp only [zA, zC, zD, zN] at hst); obtain ⟨hc0, hf0, hz0⟩ := hst))
            go_wp2_with fail
            go_meet
            refine ⟨j, rfl, by omega, Hlow.out, fun z hz => ?_, ext_⟩
            have := HX.out
            rw [this] at hz
            cases hz
            omega
        · have j1 : ¬ (j : Int) < (aDn : Int) := by omega
          go_wp2_with fail
          (go_quiet ((first | fail)); all_goals (generalize hWq : World.drewN _ nq = W0; have hb0 := Ex.ofN hWq; clear hWq; have hst := xr hb0; (try simp only [zA, zC, zD, zN] at hst); obtain ⟨hc0, hf0, hz0⟩ := hst))
          go_wp2_with fail
          go_meet
          refine ⟨j, rfl, by omega, Hlow.out, fun z hz => ?_, ext_⟩
          have := (List.getElem?_eq_some_iff.1 hz).1
          have := l3.out
          omega
    case rest =>
      obtain ⟨j, rfl, hj, hlow, hhigh, hb9⟩ := hcut
      have hst := xr hb9
      (try simp only [zA, zC, zD, zN] at hst)
      obtain ⟨hc9, hf9, hz9⟩ := hst
      have Hlow := Lib.hid hlow
      have Hhigh := Lib.hid hhigh
      clear hlow hhigh
      have hSg : ¬ atA aD g := fun ⟨a, ha, e⟩ => HS.out.ne (HS.out.ow.deals.tag a ha) (by decide) e.symm
      have HSg := Lib.hid hSg
      clear hSg
      have hlo := HS.out.lo_le
      have hbW : Ex w wc := ext_
      have j0 : (0 : Int) ≤ (j : Int) := by omega
      have hins : m.deals.take j ++ (⟨t, ru, rp, 0, 0⟩ : Sw.Deal) :: m.deals.drop j = Sw.insertDeal ⟨t, ru, rp, 0, 0⟩ m.deals :=
        (insertDeal_at (by have := l3.out; omega) Hlow.out (fun x hx => by
          have h1 := Hhigh.out x hx
          have h2 := hno.out x (List.mem_of_getElem? hx)
          show (t : Int) < x.ticket
          omega)).symm
      have HI := Lib.hid hins
      clear hins
      go_upto_region 22 with fail
      have rc3 : wc.cell? ⟨w.heap.size, 3, none⟩ = some (.int .i64 t) := by (go_simp; first | done | simp [*])
      have rc0 : wc.cell? ⟨w.heap.size, 0, none⟩ = some (.int .i64 ru) := by (go_simp; first | done | simp [*])
      have rc5 : wc.cell? ⟨w.heap.size, 5, none⟩ = some (.int .i64 rp) := by (go_simp; first | done | simp [*])
      have gc2 : wc.cell? ⟨g, o + 2, none⟩ = some (.slice aD aDn aDc) := by (go_simp; first | done | simp [*])
      have gf2 : wc.frozen? ⟨g, o + 2, none⟩ = false := by (go_simp; first | done | simp [*])
      have hws : w.heap.size + 1 ≤ wc.heap.size := sz_
      obtain ⟨gE, hgE⟩ : ∃ gE, (∀ a, aD = some a → a.block = gE) ∧ ¬ gE = w.heap.size := by
        cases aD with
        | none => exact ⟨w.heap.size + 1, fun a h => (by cases h), by omega⟩
        | some a => exact ⟨a.block, fun b h => (by cases h; rfl), by have := (HS.out.ow.deals.ow.blk rfl).2; omega⟩
      have HGE := Lib.hid hgE.1
      have hgEw := hgE.2
      have hgw : ¬ g = w.heap.size := by omega
      have HBW := And.intro hbW trivial
      clear hbW hgE k1 k2 k3 k4 k5 k6 kf q0 q1 q2 hc9 hf9 g1 hDr
      (repeat (rename Ex _ _ => zz; clear zz))
      ((repeat (rename Ch _ _ _ => zz; clear zz)); (repeat (rename Rdp _ _ _ => zz; clear zz)); (repeat (rename (∀ (b o : Nat), ¬ ((⟨b, 0, none⟩ : Addr) = ⟨b - _ + _, 0, none⟩) → _) => zz; clear zz)))
      have hbW := HBW.1
      trace_state
      (refine wp_name ?_; intro W0 hb0; have hst := xr hb0; (try simp only [zA, zC, zD, zN] at hst); obtain ⟨hc0, hf0, hz0⟩ := hst)
      refine wp_region_held_drew (S := fun w' => HeldE g gE W0 w') (by kernel_rfl) ?_ (fun hHeld => ?_)
      focus ((try dsimp only); (first | with_reducible assumption | with_reducible exact HeldE.start _ _ _ | (refine HeldE.of ?_; with_reducible assumption) | ((repeat (first | with_reducible refine HeldE.set ?_ rfl | with_reducible refine HeldE.alloc ?_ _ | with_reducible refine HeldE.drew ?_)); (first | with_reducible assumption | with_reducible exact HeldE.refl _ _ _ | with_reducible exact HeldE.start _ _ _ | (refine HeldE.of ?_; with_reducible assumption)))))
      refine regT 0 93 (v := ?_) rfl rfl (by kernel_rfl) (by kernel_rfl) (by kernel_rfl) (fun _ _ _ h => h) (by rfl) ?_ (by assumption) ?_
      rotate_left
      focus (intro w hSw; (try dsimp only at hSw); go_simp; (try with_reducible rfl))
      try simp only [Act.put, List.getElem_toArray, List.getElem_cons_succ, List.getElem_cons_zero, List.setIfInBounds_toArray, List.set_cons_zero, List.set_cons_succ]
      refine regT 1 94 (v := ?_) rfl rfl (by kernel_rfl) (by kernel_rfl) (by kernel_rfl) (fun _ _ _ h => h) (by rfl) ?_ (by assumption) ?_
      rotate_left
      focus (intro w hSw; (try dsimp only at hSw); go_simp; (try with_reducible rfl))
      try simp only [Act.put, List.getElem_toArray, List.getElem_cons_succ, List.getElem_cons_zero, List.setIfInBounds_toArray, List.set_cons_zero, List.set_cons_succ]
      refine regT 2 95 (v := ?_) rfl rfl (by kernel_rfl) (by kernel_rfl) (by kernel_rfl) (fun _ _ _ h => h) (by rfl) ?_ (by assumption) ?_
      rotate_left
      focus (intro w hSw; (try dsimp only at hSw); go_simp; (try with_reducible rfl))
      try simp only [Act.put, List.getElem_toArray, List.getElem_cons_succ, List.getElem_cons_zero, List.setIfInBounds_toArray, List.set_cons_zero, List.set_cons_succ]
      refine regT 3 96 (v := ?_) rfl rfl (by kernel_rfl) (by kernel_rfl) (by kernel_rfl) (fun _ _ _ h => h) (by rfl) ?_ (by assumption) ?_
      rotate_left
      focus (intro w hSw; (try dsimp only at hSw); go_simp; (try with_reducible rfl))
      try simp only [Act.put, List.getElem_toArray, List.getElem_cons_succ, List.getElem_cons_zero, List.setIfInBounds_toArray, List.set_cons_zero, List.set_cons_succ]
      refine regT 5 98 (v := ?_) rfl rfl (by kernel_rfl) (by kernel_rfl) (by kernel_rfl) (fun _ _ _ h => h) (by rfl) ?_ (by assumption) ?_
      rotate_left
      focus (intro w hSw; (try dsimp only at hSw); go_simp; (try with_reducible rfl))
      try simp only [Act.put, List.getElem_toArray, List.getElem_cons_succ, List.getElem_cons_zero, List.setIfInBounds_toArray, List.set_cons_zero, List.set_cons_succ]
      refine regT 6 99 (v := ?_) rfl rfl (by kernel_rfl) (by kernel_rfl) (by kernel_rfl) (fun _ _ _ h => h) (by rfl) ?_ (by assumption) ?_
      rotate_left
      focus (intro w hSw; (try dsimp only at hSw); go_simp; (try with_reducible rfl))
      try simp only [Act.put, List.getElem_toArray, List.getElem_cons_succ, List.getElem_cons_zero, List.setIfInBounds_toArray, List.set_cons_zero, List.set_cons_succ]
      refine regT 7 100 (v := ?_) rfl rfl (by kernel_rfl) (by kernel_rfl) (by kernel_rfl) (fun _ _ _ h => h) (by rfl) ?_ (by assumption) ?_
      rotate_left
      focus (intro w hSw; (try dsimp only at hSw); go_simp; (try with_reducible rfl))
      try simp only [Act.put, List.getElem_toArray, List.getElem_cons_succ, List.getElem_cons_zero, List.setIfInBounds_toArray, List.set_cons_zero, List.set_cons_succ]
      refine regT 8 101 (v := ?_) rfl rfl (by kernel_rfl) (by kernel_rfl) (by kernel_rfl) (fun _ _ _ h => h) (by rfl) ?_ (by assumption) ?_
      rotate_left
      focus (intro w hSw; (try dsimp only at hSw); go_simp; (try with_reducible rfl))
      try simp only [Act.put, List.getElem_toArray, List.getElem_cons_succ, List.getElem_cons_zero, List.setIfInBounds_toArray, List.set_cons_zero, List.set_cons_succ]
      refine regT 9 102 (v := ?_) rfl rfl (by kernel_rfl) (by kernel_rfl) (by kernel_rfl) (fun _ _ _ h => h) (by rfl) ?_ (by assumption) ?_
      rotate_left
      focus (intro w hSw; (try dsimp only at hSw); go_simp; (try with_reducible rfl))
      try simp only [Act.put, List.getElem_toArray, List.getElem_cons_succ, List.getElem_cons_zero, List.setIfInBounds_toArray, List.set_cons_zero, List.set_cons_succ]
      refine regT 10 103 (v := ?_) rfl rfl (by kernel_rfl) (by kernel_rfl) (by kernel_rfl) (fun _ _ _ h => h) (by rfl) ?_ (by assumption) ?_
      rotate_left
      focus (intro w hSw; (try dsimp only at hSw); go_simp; (try with_reducible rfl))
      try simp only [Act.put, List.getElem_toArray, List.getElem_cons_succ, List.getElem_cons_zero, List.setIfInBounds_toArray, List.set_cons_zero, List.set_cons_succ]
      refine regT 11 104 (v := ?_) rfl rfl (by kernel_rfl) (by kernel_rfl) (by kernel_rfl) (fun _ _ _ h => h) (by rfl) ?_ (by assumption) ?_
      rotate_left
      focus (intro w hSw; (try dsimp only at hSw); go_simp; (try with_reducible rfl))
      try simp only [Act.put, List.getElem_toArray, List.getElem_cons_succ, List.getElem_cons_zero, List.setIfInBounds_toArray, List.set_cons_zero, List.set_cons_succ]
      refine regT 12 105 (v := ?_) rfl rfl (by kernel_rfl) (by kernel_rfl) (by kernel_rfl) (fun _ _ _ h => h) (by rfl) ?_ (by assumption) ?_
      rotate_left
      focus (intro w hSw; (try dsimp only at hSw); go_simp; (try with_reducible rfl))
      try simp only [Act.put, List.getElem_toArray, List.getElem_cons_succ, List.getElem_cons_zero, List.setIfInBounds_toArray, List.set_cons_zero, List.set_cons_succ]
      refine wpAnyH_ready (rs := [4, 13]) (by kernel_rfl) (by simp) ?_
      refine AllReadyH.cons rfl (fun K hK => ?_) (AllReadyH.cons rfl (fun K hK => ?_) AllReadyH.nil)
      · go_simp
        refine hK.out _ _ ?_ (fun hHeld => ?_)
        focus ((try dsimp only); (first | with_reducible assumption | with_reducible exact HeldE.start _ _ _ | (refine HeldE.of ?_; with_reducible assumption) | ((repeat (first | with_reducible refine HeldE.set ?_ rfl | with_reducible refine HeldE.alloc ?_ _ | with_reducible refine HeldE.drew ?_)); (first | with_reducible assumption | with_reducible exact HeldE.refl _ _ _ | with_reducible exact HeldE.start _ _ _ | (refine HeldE.of ?_; with_reducible assumption)))))
        clear hK K
        try simp only [Act.put, List.getElem_toArray, List.getElem_cons_succ, List.getElem_cons_zero, List.setIfInBounds_toArray, List.set_cons_zero, List.set_cons_succ]
        refine wpAnyH_ready (rs := [13]) (by kernel_rfl) (by simp) ?_
        refine AllReadyH.cons rfl (fun K hK => ?_) ?_
        rotate_left
        focus exact AllReadyH.nil
        go_simp
        refine hK.out _ _ ?_ (fun hHeld => ?_)
        focus ((try dsimp only); (first | with_reducible assumption | with_reducible exact HeldE.start _ _ _ | (refine HeldE.of ?_; with_reducible assumption) | ((repeat (first | with_reducible refine HeldE.set ?_ rfl | with_reducible refine HeldE.alloc ?_ _ | with_reducible refine HeldE.drew ?_)); (first | with_reducible assumption | with_reducible exact HeldE.refl _ _ _ | with_reducible exact HeldE.start _ _ _ | (refine HeldE.of ?_; with_reducible assumption)))))
        clear hK K
        try simp only [Act.put, List.getElem_toArray, List.getElem_cons_succ, List.getElem_cons_zero, List.setIfInBounds_toArray, List.set_cons_zero, List.set_cons_succ]
        refine wpAnyH_ready (rs := [14]) (by kernel_rfl) (by simp) ?_
        refine AllReadyH.cons rfl (fun K hK => ?_) ?_
        rotate_left
        focus exact AllReadyH.nil
        go_simp
        (go_at_call 193; apply Calls.mono; apply (iInsert_c (lo := lo) (ds := m.deals) (d := ⟨t, ru, rp, 0, 0⟩)); (exact HS.out.ow.deals.ow.keep kf_); exact hj; omega; (first | exact lit1D ⟨t, ru, rp, 0, 0⟩ rfl | exact Rs.keep (lit1D ⟨t, ru, rp, 0, 0⟩ rfl) (kD (kR _ _))); (first | exact Lb.new rfl rfl | exact Lb.drew (Lb.new rfl rfl)); (exact HS.out.ow.deals.ow.apart sz_); (exact sz_); rintro E w5 ⟨A5, c5, rfl, hoD, hch5, hat5⟩; have hbE := HeldE.app hHeld hch5 HGE.out; have hk1 := (hch5.cell (p := ⟨g, o + 2, none⟩) sz_ HSg.out); have hk2 := (hch5.frozen (p := ⟨g, o + 2, none⟩) sz_ HSg.out))
        (try go_wp2_with fail)
        refine hK.out _ _ ?_ (fun hHeld => ?_)
        focus ((try dsimp only); (first | with_reducible assumption | with_reducible exact HeldE.start _ _ _ | (refine HeldE.of ?_; with_reducible assumption) | ((repeat (first | with_reducible refine HeldE.set ?_ rfl | with_reducible refine HeldE.alloc ?_ _ | with_reducible refine HeldE.drew ?_)); (first | with_reducible assumption | with_reducible exact HeldE.refl _ _ _ | with_reducible exact HeldE.start _ _ _ | (refine HeldE.of ?_; with_reducible assumption)))))
        clear hK K
        try simp only [Act.put, List.getElem_toArray, List.getElem_cons_succ, List.getElem_cons_zero, List.setIfInBounds_toArray, List.set_cons_zero, List.set_cons_succ]
        refine regT 15 108 (v := ?_) rfl rfl (by kernel_rfl) (by kernel_rfl) (by kernel_rfl) (fun _ _ _ h => h) (by rfl) ?_ (by assumption) ?_
        rotate_left
        focus (intro w hSw; (try dsimp only at hSw); go_simp; (try with_reducible rfl))
        try simp only [Act.put, List.getElem_toArray, List.getElem_cons_succ, List.getElem_cons_zero, List.setIfInBounds_toArray, List.set_cons_zero, List.set_cons_succ]
        refine regT 16 109 (v := ?_) rfl rfl (by kernel_rfl) (by kernel_rfl) (by kernel_rfl) (fun _ _ _ h => h) (by rfl) ?_ (by assumption) ?_
        rotate_left
        focus (intro w hSw; (try dsimp only at hSw); go_simp; (try with_reducible rfl))
        try simp only [Act.put, List.getElem_toArray, List.getElem_cons_succ, List.getElem_cons_zero, List.setIfInBounds_toArray, List.set_cons_zero, List.set_cons_succ]
        refine wpAnyH_ready (rs := [17]) (by kernel_rfl) (by simp) ?_
        refine AllReadyH.cons rfl (fun K hK => ?_) ?_
        rotate_left
        focus exact AllReadyH.nil
        go_simp
        refine hK.out _ _ ?_ (fun hHeld => ?_)
        focus ((try dsimp only); (first | with_reducible assumption | with_reducible exact HeldE.start _ _ _ | (refine HeldE.of ?_; with_reducible assumption) | ((repeat (first | with_reducible refine HeldE.set ?_ rfl | with_reducible refine HeldE.alloc ?_ _ | with_reducible refine HeldE.drew ?_)); (first | with_reducible assumption | with_reducible exact HeldE.refl _ _ _ | with_reducible exact HeldE.start _ _ _ | (refine HeldE.of ?_; with_reducible assumption)))))
        clear hK K
        try simp only [Act.put, List.getElem_toArray, List.getElem_cons_succ, List.getElem_cons_zero, List.setIfInBounds_toArray, List.set_cons_zero, List.set_cons_succ]
        refine wpAnyH_done (by kernel_rfl) ?_ _
        rw [HI.out] at hoD
        clear hk1 hk2
        go_wp2
        go_ret
        rw [He.out]
        exact ⟨_, _, _, _, _, _, _, _, _, _, _, _, _, _, _, _, rfl, MS.deals (HS.out.ex ext_) hoD hch5 hat5⟩
      · go_simp
        refine hK.out _ _ ?_ (fun hHeld => ?_)
        focus ((try dsimp only); (first | with_reducible assumption | with_reducible exact HeldE.start _ _ _ | (refine HeldE.of ?_; with_reducible assumption) | ((repeat (first | with_reducible refine HeldE.set ?_ rfl | with_reducible refine HeldE.alloc ?_ _ | with_reducible refine HeldE.drew ?_)); (first | with_reducible assumption | with_reducible exact HeldE.refl _ _ _ | with_reducible exact HeldE.start _ _ _ | (refine HeldE.of ?_; with_reducible assumption)))))
        clear hK K
        try simp only [Act.put, List.getElem_toArray, List.getElem_cons_succ, List.getElem_cons_zero, List.setIfInBounds_toArray, List.set_cons_zero, List.set_cons_succ]
        refine wpAnyH_ready (rs := [4]) (by kernel_rfl) (by simp) ?_
        refine AllReadyH.cons rfl (fun K hK => ?_) ?_
        rotate_left
        focus exact AllReadyH.nil
        go_simp
        refine hK.out _ _ ?_ (fun hHeld => ?_)
        focus ((try dsimp only); (first | with_reducible assumption | with_reducible exact HeldE.start _ _ _ | (refine HeldE.of ?_; with_reducible assumption) | ((repeat (first | with_reducible refine HeldE.set ?_ rfl | with_reducible refine HeldE.alloc ?_ _ | with_reducible refine HeldE.drew ?_)); (first | with_reducible assumption | with_reducible exact HeldE.refl _ _ _ | with_reducible exact HeldE.start _ _ _ | (refine HeldE.of ?_; with_reducible assumption)))))
        clear hK K
        try simp only [Act.put, List.getElem_toArray, List.getElem_cons_succ, List.getElem_cons_zero, List.setIfInBounds_toArray, List.set_cons_zero, List.set_cons_succ]
        refine wpAnyH_ready (rs := [14]) (by kernel_rfl) (by simp) ?_
        refine AllReadyH.cons rfl (fun K hK => ?_) ?_
        rotate_left
        focus exact AllReadyH.nil
        go_simp
        (go_at_call 193; apply Calls.mono; apply (iInsert_c (lo := lo) (ds := m.deals) (d := ⟨t, ru, rp, 0, 0⟩)); (exact HS.out.ow.deals.ow.keep kf_); exact hj; omega; (first | exact lit1D ⟨t, ru, rp, 0, 0⟩ rfl | exact Rs.keep (lit1D ⟨t, ru, rp, 0, 0⟩ rfl) (kD (kR _ _))); (first | exact Lb.new rfl rfl | exact Lb.drew (Lb.new rfl rfl)); (exact HS.out.ow.deals.ow.apart sz_); (exact sz_); rintro E w5 ⟨A5, c5, rfl, hoD, hch5, hat5⟩; have hbE := HeldE.app hHeld hch5 HGE.out; have hk1 := (hch5.cell (p := ⟨g, o + 2, none⟩) sz_ HSg.out); have hk2 := (hch5.frozen (p := ⟨g, o + 2, none⟩) sz_ HSg.out))
        (try go_wp2_with fail)
        refine hK.out _ _ ?_ (fun hHeld => ?_)
        focus ((try dsimp only); (first | with_reducible assumption | with_reducible exact HeldE.start _ _ _ | (refine HeldE.of ?_; with_reducible assumption) | ((repeat (first | with_reducible refine HeldE.set ?_ rfl | with_reducible refine HeldE.alloc ?_ _ | with_reducible refine HeldE.drew ?_)); (first | with_reducible assumption | with_reducible exact HeldE.refl _ _ _ | with_reducible exact HeldE.start _ _ _ | (refine HeldE.of ?_; with_reducible assumption)))))
        clear hK K
        try simp only [Act.put, List.getElem_toArray, List.getElem_cons_succ, List.getElem_cons_zero, List.setIfInBounds_toArray, List.set_cons_zero, List.set_cons_succ]
        refine regT 15 108 (v := ?_) rfl rfl (by kernel_rfl) (by kernel_rfl) (by kernel_rfl) (fun _ _ _ h => h) (by rfl) ?_ (by assumption) ?_
        rotate_left
        focus (intro w hSw; (try dsimp only at hSw); go_simp; (try with_reducible rfl))
        try simp only [Act.put, List.getElem_toArray, List.getElem_cons_succ, List.getElem_cons_zero, List.setIfInBounds_toArray, List.set_cons_zero, List.set_cons_succ]
        refine regT 16 109 (v := ?_) rfl rfl (by kernel_rfl) (by kernel_rfl) (by kernel_rfl) (fun _ _ _ h => h) (by rfl) ?_ (by assumption) ?_
        rotate_left
        focus (intro w hSw; (try dsimp only at hSw); go_simp; (try with_reducible rfl))
        try simp only [Act.put, List.getElem_toArray, List.getElem_cons_succ, List.getElem_cons_zero, List.setIfInBounds_toArray, List.set_cons_zero, List.set_cons_succ]
        refine wpAnyH_ready (rs := [17]) (by kernel_rfl) (by simp) ?_
        refine AllReadyH.cons rfl (fun K hK => ?_) ?_
        rotate_left
        focus exact AllReadyH.nil
        go_simp
        refine hK.out _ _ ?_ (fun hHeld => ?_)
        focus ((try dsimp only); (first | with_reducible assumption | with_reducible exact HeldE.start _ _ _ | (refine HeldE.of ?_; with_reducible assumption) | ((repeat (first | with_reducible refine HeldE.set ?_ rfl | with_reducible refine HeldE.alloc ?_ _ | with_reducible refine HeldE.drew ?_)); (first | with_reducible assumption | with_reducible exact HeldE.refl _ _ _ | with_reducible exact HeldE.start _ _ _ | (refine HeldE.of ?_; with_reducible assumption)))))
        clear hK K
        try simp only [Act.put, List.getElem_toArray, List.getElem_cons_succ, List.getElem_cons_zero, List.setIfInBounds_toArray, List.set_cons_zero, List.set_cons_succ]
        refine wpAnyH_done (by kernel_rfl) ?_ _
        rw [HI.out] at hoD
        clear hk1 hk2
        go_wp2
        go_ret
        rw [He.out]
        exact ⟨_, _, _, _, _, _, _, _, _, _, _, _, _, _, _, _, rfl, MS.deals (HS.out.ex ext_) hoD hch5 hat5⟩
end
end Go.Proofs.Ytgceeggfdomdjaa

namespace Go.Proofs.Ytgceeggfdomdjaa
set_option maxRecDepth 100000
set_option linter.unusedSimpArgs false
set_option linter.unusedVariables false
open Go.RowKit Go
set_option maxHeartbeats 2000000

theorem sDrop_c (aL : Option Addr) (aLc aLn : Nat) (aP : Option Addr) (aPc aPn : Nat) (aD : Option Addr) (aDc aDn : Nat) (aN : Option Addr) (aNc aNn : Nat) (aS : Option Addr) (aSc aSn : Nat) (m : Sw.Mkt) (ru rn : Int) (t : Nat) (rh rp : Int) (rows : List Sw.Row) (lo : Nat) (τ : Nat → Nat) (w : World) (hM : OwM τ w lo aL aLc aLn aP aPc aPn aD aDc aDn aN aNc aNn aS aSc aSn m) (hok : Sw.MOk m rows) (ht : t < 8) (hlo : lo ≤ w.heap.size) : Calls Try.prog 188 #[.agg #[.slice aL aLn aLc, .slice aP aPn aPc, .slice aD aDn aDc, .int .i64 m.clock, .slice aN aNn aNc, .slice aS aSn aSc], .agg #[.int .i64 ru, .int .i64 rn, .int .i64 3, .int .i64 t, .int .i64 rh, .int .i64 rp]] w fun E w' => MktPost lo τ w w' E (Sw.dropIt m ⟨ru, rn, 3, t, rh, rp⟩ (Sw.rowAt rows t) (Sw.dealAt m.deals t)) := by
  have hML := hM.log
  have hMD := hM.deals
  have hd8 : m.deals.length ≤ 8 := hok.dlen
  have l3 := hM.deals.ow.1
  have HO := Lib.hid hok.fold
  have i0 : (0 : Int) ≤ (t : Int) := by omega
  have i1 : (t : Int) < 8 := by omega
  clear hok
  by_cases h1 : (Sw.rowAt rows t).who = ru
  case neg =>
    have g1 : ((Sw.rowAt rows t).who != ru) = true := by simpa using h1
    have e : Sw.dropIt m ⟨ru, rn, 3, t, rh, rp⟩ (Sw.rowAt rows t) (Sw.dealAt m.deals t) = (m, 2) := by unfold Sw.dropIt; rw [if_pos h1]
    rw [e]
    clear e h1 l3
    go_enter Try.func188, Try.ntmps188
    go_wp2_with fail
    (refine wp_name ?_; intro W0 hb0; have hst := xr hb0; (try simp only [zA, zC, zD, zN] at hst); obtain ⟨hc0, hf0, hz0⟩ := hst; go_region_held3 (fun w' => Held W0 w') ((first | with_reducible assumption | with_reducible exact Held.start _ | with_reducible exact Held.of (by assumption) | with_reducible exact Held.ex (by assumption) (by assumption) | ((repeat (first | with_reducible refine Held.set ?_ (by simp only [zA, zC, zD, zN]; omega) | with_reducible refine Held.alloc ?_ _ | with_reducible refine Held.drew ?_)); (first | with_reducible assumption | with_reducible exact Held.refl _ | with_reducible exact Held.of (by assumption) | with_reducible exact Held.ex (by assumption) (by assumption))) | exact Held.of (by exact ext_))) ((go_at_call 200; apply Calls.mono; apply (sRowsT_c (rows := rows) (t := t)); (apply OwT.rs0 hML; (exact kf_)); exact HO.out; exact ht; rintro E w1 ⟨gr, dr, rfl, ⟨hoR, hgR0, hgR, q0, q1, q2⟩, hb⟩; have hst := xr hb; (try simp only [zA, zC, zD, zN] at hst); obtain ⟨hc, hf, hz⟩ := hst)); all_goals (have hb := And.right (by assumption : Held W0 _); have hst := xr hb; (try simp only [zA, zC, zD, zN] at hst); obtain ⟨hc, hf, hz⟩ := hst))
    all_goals go_wp2_with (first | (go_at_call 208; apply Calls.mono; apply sFind_c; ((first | (apply Rs.at0; assumption) | (apply Ow.rs0; assumption) | (apply OwT.rs0; assumption)); exact kf_); rintro E w' ⟨rfl, rfl⟩))
    all_goals (refine bodyPost_ret (v := .tuple #[.agg #[.slice aL aLn aLc, .slice aP aPn aPc, .slice aD aDn aDc, .int .i64 m.clock, .slice aN aNn aNc, .slice aS aSn aSc], .int .i64 2]) (by simp [results, Try.results188, go_sem, *]) rfl ?_; exact ⟨_, _, _, _, _, _, _, _, _, _, _, _, _, _, _, τ, rfl, hM.keepF kf_, fun _ _ => rfl, ext_⟩)
  have g1 : ((Sw.rowAt rows t).who != ru) = false := by simpa using h1
  cases h3 : Sw.dealAt m.deals t
  case none =>
    have e : Sw.dropIt m ⟨ru, rn, 3, t, rh, rp⟩ (Sw.rowAt rows t) none = (m, 3) := by unfold Sw.dropIt; rw [if_neg (by simpa using h1)]
    rw [e]
    have HD := Lib.hid (dealIx_none h3)
    clear e h1 l3 h3
    go_enter Try.func188, Try.ntmps188
    go_wp2_with fail
    (refine wp_name ?_; intro W0 hb0; have hst := xr hb0; (try simp only [zA, zC, zD, zN] at hst); obtain ⟨hc0, hf0, hz0⟩ := hst; go_region_held3 (fun w' => Held W0 w') ((first | with_reducible assumption | with_reducible exact Held.start _ | with_reducible exact Held.of (by assumption) | with_reducible exact Held.ex (by assumption) (by assumption) | ((repeat (first | with_reducible refine Held.set ?_ (by simp only [zA, zC, zD, zN]; omega) | with_reducible refine Held.alloc ?_ _ | with_reducible refine Held.drew ?_)); (first | with_reducible assumption | with_reducible exact Held.refl _ | with_reducible exact Held.of (by assumption) | with_reducible exact Held.ex (by assumption) (by assumption))) | exact Held.of (by exact ext_))) ((go_at_call 200; apply Calls.mono; apply (sRowsT_c (rows := rows) (t := t)); (apply OwT.rs0 hML; (exact kf_)); exact HO.out; exact ht; rintro E w1 ⟨gr, dr, rfl, ⟨hoR, hgR0, hgR, q0, q1, q2⟩, hb⟩; have hst := xr hb; (try simp only [zA, zC, zD, zN] at hst); obtain ⟨hc, hf, hz⟩ := hst)); all_goals (have hb := And.right (by assumption : Held W0 _); have hst := xr hb; (try simp only [zA, zC, zD, zN] at hst); obtain ⟨hc, hf, hz⟩ := hst))
    all_goals go_wp2_with (go_at_call 208; apply Calls.mono; apply sFind_c; (apply OwT.rs0 hMD; (exact kf_)); rintro E w' ⟨rfl, rfl⟩; rw [HD.out])
    all_goals (refine bodyPost_ret (v := .tuple #[.agg #[.slice aL aLn aLc, .slice aP aPn aPc, .slice aD aDn aDc, .int .i64 m.clock, .slice aN aNn aNc, .slice aS aSn aSc], .int .i64 3]) (by simp [results, Try.results188, go_sem, *]) rfl ?_; exact ⟨_, _, _, _, _, _, _, _, _, _, _, _, _, _, _, τ, rfl, hM.keepF kf_, fun _ _ => rfl, ext_⟩)
  rename_i kd
  obtain ⟨d, hd, hdt⟩ := Sw.dealAt_some h3
  have hk : kd < aDn := by have := (List.getElem?_eq_some_iff.1 hd).1; omega
  have HD := Lib.hid (dealIx_some h3)
  have hgd := Sw.getD_of (z := Sw.dealZ) hd
  obtain ⟨gD, y, rfl, hloD, hltD, hy, d0, d1, d2, d3, d4, hfD⟩ := at_OD hM.deals.ow hk
  obtain rfl : y = d := Option.some.inj (hy.symm.trans hd)
  have k0 : (0 : Int) ≤ (kd : Int) := by omega
  have k1 : (kd : Int) < (aDn : Int) := by omega
  have k2 : ¬ (kd : Int) < 0 := by omega
  by_cases h4 : 0 < y.buyer
  · have e : Sw.dropIt m ⟨ru, rn, 3, t, rh, rp⟩ (Sw.rowAt rows t) (some kd) = (m, 3) := by unfold Sw.dropIt; rw [if_neg (by simpa using h1)]; dsimp only; rw [hgd, if_pos (by simp [Sw.held, h4])]
    rw [e]
    clear e h1 l3 h3 hd hdt hy hgd
    go_enter Try.func188, Try.ntmps188
    go_wp2_with fail
    (refine wp_name ?_; intro W0 hb0; have hst := xr hb0; (try simp only [zA, zC, zD, zN] at hst); obtain ⟨hc0, hf0, hz0⟩ := hst; go_region_held3 (fun w' => Held W0 w') ((first | with_reducible assumption | with_reducible exact Held.start _ | with_reducible exact Held.of (by assumption) | with_reducible exact Held.ex (by assumption) (by assumption) | ((repeat (first | with_reducible refine Held.set ?_ (by simp only [zA, zC, zD, zN]; omega) | with_reducible refine Held.alloc ?_ _ | with_reducible refine Held.drew ?_)); (first | with_reducible assumption | with_reducible exact Held.refl _ | with_reducible exact Held.of (by assumption) | with_reducible exact Held.ex (by assumption) (by assumption))) | exact Held.of (by exact ext_))) ((go_at_call 200; apply Calls.mono; apply (sRowsT_c (rows := rows) (t := t)); (apply OwT.rs0 hML; (exact kf_)); exact HO.out; exact ht; rintro E w1 ⟨gr, dr, rfl, ⟨hoR, hgR0, hgR, q0, q1, q2⟩, hb⟩; have hst := xr hb; (try simp only [zA, zC, zD, zN] at hst); obtain ⟨hc, hf, hz⟩ := hst)); all_goals (have hb := And.right (by assumption : Held W0 _); have hst := xr hb; (try simp only [zA, zC, zD, zN] at hst); obtain ⟨hc, hf, hz⟩ := hst))
    all_goals go_wp2_with (go_at_call 208; apply Calls.mono; apply sFind_c; (apply OwT.rs0 hMD; (exact kf_)); rintro E w' ⟨rfl, rfl⟩; rw [HD.out])
    all_goals (refine bodyPost_ret (v := .tuple #[(.agg #[.slice aL aLn aLc, .slice aP aPn aPc, .slice (some ⟨gD, 0, none⟩) aDn aDc, .int .i64 m.clock, .slice aN aNn aNc, .slice aS aSn aSc]), .int .i64 3]) (by simp [results, Try.results188, go_sem, *]) rfl ?_; exact ⟨_, _, _, _, _, _, _, _, _, _, _, _, _, _, _, τ, rfl, hM.keepF kf_, fun _ _ => rfl, ext_⟩)
  · have e : Sw.dropIt m ⟨ru, rn, 3, t, rh, rp⟩ (Sw.rowAt rows t) (some kd) = ({ m with deals := m.deals.eraseIdx kd }, 1) := by unfold Sw.dropIt; rw [if_neg (by simpa using h1)]; dsimp only; rw [hgd, if_neg (by simp [Sw.held]; omega)]
    rw [e]
    have hn8 : aDn ≤ 4194304 := by omega
    clear e h1 l3 h3 hd hdt hy hgd
    go_enter Try.func188, Try.ntmps188
    go_wp2_with fail
    (refine wp_name ?_; intro W0 hb0; have hst := xr hb0; (try simp only [zA, zC, zD, zN] at hst); obtain ⟨hc0, hf0, hz0⟩ := hst; go_region_held3 (fun w' => Held W0 w') ((first | with_reducible assumption | with_reducible exact Held.start _ | with_reducible exact Held.of (by assumption) | with_reducible exact Held.ex (by assumption) (by assumption) | ((repeat (first | with_reducible refine Held.set ?_ (by simp only [zA, zC, zD, zN]; omega) | with_reducible refine Held.alloc ?_ _ | with_reducible refine Held.drew ?_)); (first | with_reducible assumption | with_reducible exact Held.refl _ | with_reducible exact Held.of (by assumption) | with_reducible exact Held.ex (by assumption) (by assumption))) | exact Held.of (by exact ext_))) ((go_at_call 200; apply Calls.mono; apply (sRowsT_c (rows := rows) (t := t)); (apply OwT.rs0 hML; (exact kf_)); exact HO.out; exact ht; rintro E w1 ⟨gr, dr, rfl, ⟨hoR, hgR0, hgR, q0, q1, q2⟩, hb⟩; have hst := xr hb; (try simp only [zA, zC, zD, zN] at hst); obtain ⟨hc, hf, hz⟩ := hst)); all_goals (have hb := And.right (by assumption : Held W0 _); have hst := xr hb; (try simp only [zA, zC, zD, zN] at hst); obtain ⟨hc, hf, hz⟩ := hst))
    all_goals go_wp2_with (first | (go_at_call 208; apply Calls.mono; apply sFind_c; (apply OwT.rs0 hMD; (exact kf_)); rintro E w' ⟨rfl, rfl⟩; rw [HD.out]) | (go_at_call 209; apply Calls.mono; apply (sOut_c (k := kd)); (apply OwT.rs0 hMD; (exact kf_)); exact hk; omega; rintro E w3 ⟨A3, c3, rfl, ho3, hb3⟩; have hst := xr hb3; (try simp only [zA, zC, zD, zN] at hst); obtain ⟨hc3, hf3, hz3⟩ := hst))
    all_goals (refine bodyPost_ret (v := .tuple #[.agg #[.slice aL aLn aLc, .slice aP aPn aPc, .slice A3 (aDn - 1) c3, .int .i64 m.clock, .slice aN aNn aNc, .slice aS aSn aSc], .int .i64 1]) (by simp [results, Try.results188, go_sem, *]) rfl ?_; (have m1 := OwM.dealt ((hM.glueL (τ' := fun _ => 0) (Nat.le_refl _)).keepF kf_) ho3 (Nat.le_refl _) sz_ (kE hb3 (kR _ _))); exact ⟨_, _, _, _, _, _, _, _, _, _, _, _, _, _, _, _, rfl, m1.box (g0 := w.heap.size) (g1 := w.heap.size + 3) bx_ (tag1 tag0 sz_), fun b hb => (if_pos sz_).trans (if_pos hb), ext_⟩)
end Go.Proofs.Ytgceeggfdomdjaa

namespace Go.Proofs.Ytgceeggfdomdjaa
set_option maxRecDepth 100000
set_option linter.unusedSimpArgs false
set_option linter.unusedVariables false
open Go.RowKit Go
set_option maxHeartbeats 2000000

theorem sOffer_c (aL : Option Addr) (aLc aLn : Nat) (aP : Option Addr) (aPc aPn : Nat) (aD : Option Addr) (aDc aDn : Nat) (aN : Option Addr) (aNc aNn : Nat) (aS : Option Addr) (aSc aSn : Nat) (m : Sw.Mkt) (ru rn : Int) (t : Nat) (rh rp : Int) (rows : List Sw.Row) (lo : Nat) (τ : Nat → Nat) (w : World) (hM : OwM τ w lo aL aLc aLn aP aPc aPn aD aDc aDn aN aNc aNn aS aSc aSn m) (hok : Sw.MOk m rows) (ht : t < 8) (hlo : lo ≤ w.heap.size) : Calls Try.prog 188 #[.agg #[.slice aL aLn aLc, .slice aP aPn aPc, .slice aD aDn aDc, .int .i64 m.clock, .slice aN aNn aNc, .slice aS aSn aSc], .agg #[.int .i64 ru, .int .i64 rn, .int .i64 2, .int .i64 t, .int .i64 rh, .int .i64 rp]] w fun E w' => MktPost lo τ w w' E (Sw.offer m ⟨ru, rn, 2, t, rh, rp⟩ (Sw.rowAt rows t) (Sw.dealAt m.deals t)) := by
  have hML := hM.log
  have hMD := hM.deals
  have hd8 : m.deals.length ≤ 8 := hok.dlen
  have l3 := hM.deals.ow.1
  have HO := Lib.hid hok.fold
  have i0 : (0 : Int) ≤ (t : Int) := by omega
  have i1 : (t : Int) < 8 := by omega
  clear hok
  have hcap := Lib.hid (show True from trivial)
  by_cases h1 : (Sw.rowAt rows t).who = ru
  case neg =>
    have g1 : ((Sw.rowAt rows t).who != ru) = true := by simpa using h1
    have e : Sw.offer m ⟨ru, rn, 2, t, rh, rp⟩ (Sw.rowAt rows t) (Sw.dealAt m.deals t) = (m, 2) := by unfold Sw.offer; rw [if_pos h1]
    rw [e]
    clear e h1 l3
    go_enter Try.func188, Try.ntmps188
    go_wp2_with fail
    (refine wp_name ?_; intro W0 hb0; have hst := xr hb0; (try simp only [zA, zC, zD, zN] at hst); obtain ⟨hc0, hf0, hz0⟩ := hst; go_region_held3 (fun w' => Held W0 w') ((first | with_reducible assumption | with_reducible exact Held.start _ | with_reducible exact Held.of (by assumption) | with_reducible exact Held.ex (by assumption) (by assumption) | ((repeat (first | with_reducible refine Held.set ?_ (by simp only [zA, zC, zD, zN]; omega) | with_reducible refine Held.alloc ?_ _ | with_reducible refine Held.drew ?_)); (first | with_reducible assumption | with_reducible exact Held.refl _ | with_reducible exact Held.of (by assumption) | with_reducible exact Held.ex (by assumption) (by assumption))) | exact Held.of (by exact ext_))) ((go_at_call 200; apply Calls.mono; apply (sRowsT_c (rows := rows) (t := t)); (apply OwT.rs0 hML; (exact kf_)); exact HO.out; exact ht; rintro E w1 ⟨gr, dr, rfl, ⟨hoR, hgR0, hgR, q0, q1, q2⟩, hb⟩; have hst := xr hb; (try simp only [zA, zC, zD, zN] at hst); obtain ⟨hc, hf, hz⟩ := hst)); all_goals (have hb := And.right (by assumption : Held W0 _); have hst := xr hb; (try simp only [zA, zC, zD, zN] at hst); obtain ⟨hc, hf, hz⟩ := hst))
    all_goals go_wp2_with (first | (go_at_call 208; apply Calls.mono; apply sFind_c; ((first | (apply Rs.at0; assumption) | (apply Ow.rs0; assumption) | (apply OwT.rs0; assumption)); exact kf_); rintro E w' ⟨rfl, rfl⟩))
    all_goals (refine bodyPost_ret (v := .tuple #[.agg #[.slice aL aLn aLc, .slice aP aPn aPc, .slice aD aDn aDc, .int .i64 m.clock, .slice aN aNn aNc, .slice aS aSn aSc], .int .i64 2]) (by simp [results, Try.results188, go_sem, *]) rfl ?_; exact ⟨_, _, _, _, _, _, _, _, _, _, _, _, _, _, _, τ, rfl, hM.keepF kf_, fun _ _ => rfl, ext_⟩)
  have g1 : ((Sw.rowAt rows t).who != ru) = false := by simpa using h1
  cases h3 : Sw.dealAt m.deals t
  case some kd =>
    have e : Sw.offer m ⟨ru, rn, 2, t, rh, rp⟩ (Sw.rowAt rows t) (some kd) = (m, 3) := by unfold Sw.offer; rw [if_neg (by simpa using h1), if_pos (.inl rfl)]
    rw [e]
    have HD := Lib.hid (dealIx_some h3)
    have k0 : (0 : Int) ≤ (kd : Int) := by omega
    clear e h1 l3 h3
    go_enter Try.func188, Try.ntmps188
    go_wp2_with fail
    (refine wp_name ?_; intro W0 hb0; have hst := xr hb0; (try simp only [zA, zC, zD, zN] at hst); obtain ⟨hc0, hf0, hz0⟩ := hst; go_region_held3 (fun w' => Held W0 w') ((first | with_reducible assumption | with_reducible exact Held.start _ | with_reducible exact Held.of (by assumption) | with_reducible exact Held.ex (by assumption) (by assumption) | ((repeat (first | with_reducible refine Held.set ?_ (by simp only [zA, zC, zD, zN]; omega) | with_reducible refine Held.alloc ?_ _ | with_reducible refine Held.drew ?_)); (first | with_reducible assumption | with_reducible exact Held.refl _ | with_reducible exact Held.of (by assumption) | with_reducible exact Held.ex (by assumption) (by assumption))) | exact Held.of (by exact ext_))) ((go_at_call 200; apply Calls.mono; apply (sRowsT_c (rows := rows) (t := t)); (apply OwT.rs0 hML; (exact kf_)); exact HO.out; exact ht; rintro E w1 ⟨gr, dr, rfl, ⟨hoR, hgR0, hgR, q0, q1, q2⟩, hb⟩; have hst := xr hb; (try simp only [zA, zC, zD, zN] at hst); obtain ⟨hc, hf, hz⟩ := hst)); all_goals (have hb := And.right (by assumption : Held W0 _); have hst := xr hb; (try simp only [zA, zC, zD, zN] at hst); obtain ⟨hc, hf, hz⟩ := hst))
    all_goals go_wp2_with (go_at_call 208; apply Calls.mono; apply sFind_c; (apply OwT.rs0 hMD; (exact kf_)); rintro E w' ⟨rfl, rfl⟩; rw [HD.out])
    all_goals (refine bodyPost_ret (v := .tuple #[.agg #[.slice aL aLn aLc, .slice aP aPn aPc, .slice aD aDn aDc, .int .i64 m.clock, .slice aN aNn aNc, .slice aS aSn aSc], .int .i64 3]) (by simp [results, Try.results188, go_sem, *]) rfl ?_; exact ⟨_, _, _, _, _, _, _, _, _, _, _, _, _, _, _, τ, rfl, hM.keepF kf_, fun _ _ => rfl, ext_⟩)
  have HD := Lib.hid (dealIx_none h3)
  cases h2 : (Sw.rowAt rows t).used
  case true =>
    have e : Sw.offer m ⟨ru, rn, 2, t, rh, rp⟩ (Sw.rowAt rows t) none = (m, 3) := by unfold Sw.offer; rw [if_neg (by simpa using h1), if_pos (.inr h2)]
    rw [e]
    have H2 := Lib.hid h2
    clear e h1 l3 h3 h2
    go_enter Try.func188, Try.ntmps188
    go_wp2_with fail
    (refine wp_name ?_; intro W0 hb0; have hst := xr hb0; (try simp only [zA, zC, zD, zN] at hst); obtain ⟨hc0, hf0, hz0⟩ := hst; go_region_held3 (fun w' => Held W0 w') ((first | with_reducible assumption | with_reducible exact Held.start _ | with_reducible exact Held.of (by assumption) | with_reducible exact Held.ex (by assumption) (by assumption) | ((repeat (first | with_reducible refine Held.set ?_ (by simp only [zA, zC, zD, zN]; omega) | with_reducible refine Held.alloc ?_ _ | with_reducible refine Held.drew ?_)); (first | with_reducible assumption | with_reducible exact Held.refl _ | with_reducible exact Held.of (by assumption) | with_reducible exact Held.ex (by assumption) (by assumption))) | exact Held.of (by exact ext_))) ((go_at_call 200; apply Calls.mono; apply (sRowsT_c (rows := rows) (t := t)); (apply OwT.rs0 hML; (exact kf_)); exact HO.out; exact ht; rintro E w1 ⟨gr, dr, rfl, ⟨hoR, hgR0, hgR, q0, q1, q2⟩, hb⟩; rw [H2.out] at q2; have hst := xr hb; (try simp only [zA, zC, zD, zN] at hst); obtain ⟨hc, hf, hz⟩ := hst)); all_goals (have hb := And.right (by assumption : Held W0 _); have hst := xr hb; (try simp only [zA, zC, zD, zN] at hst); obtain ⟨hc, hf, hz⟩ := hst))
    all_goals go_wp2_with (go_at_call 208; apply Calls.mono; apply sFind_c; (apply OwT.rs0 hMD; (exact kf_)); rintro E w' ⟨rfl, rfl⟩; rw [HD.out])
    all_goals (refine bodyPost_ret (v := .tuple #[.agg #[.slice aL aLn aLc, .slice aP aPn aPc, .slice aD aDn aDc, .int .i64 m.clock, .slice aN aNn aNc, .slice aS aSn aSc], .int .i64 3]) (by simp [results, Try.results188, go_sem, *]) rfl ?_; exact ⟨_, _, _, _, _, _, _, _, _, _, _, _, _, _, _, τ, rfl, hM.keepF kf_, fun _ _ => rfl, ext_⟩)
  have H2 := Lib.hid h2
  by_cases h4 : Sw.entCap (Sw.rowAt rows t).face < rp
  · have e : Sw.offer m ⟨ru, rn, 2, t, rh, rp⟩ (Sw.rowAt rows t) none = (m, 4) := by unfold Sw.offer; rw [if_neg (by simpa using h1), if_neg (by simp [h2]), if_pos h4]
    rw [e]
    clear e h1 l3 h3 h2
    go_enter Try.func188, Try.ntmps188
    go_wp2_with fail
    (refine wp_name ?_; intro W0 hb0; have hst := xr hb0; (try simp only [zA, zC, zD, zN] at hst); obtain ⟨hc0, hf0, hz0⟩ := hst; go_region_held3 (fun w' => Held W0 w') ((first | with_reducible assumption | with_reducible exact Held.start _ | with_reducible exact Held.of (by assumption) | with_reducible exact Held.ex (by assumption) (by assumption) | ((repeat (first | with_reducible refine Held.set ?_ (by simp only [zA, zC, zD, zN]; omega) | with_reducible refine Held.alloc ?_ _ | with_reducible refine Held.drew ?_)); (first | with_reducible assumption | with_reducible exact Held.refl _ | with_reducible exact Held.of (by assumption) | with_reducible exact Held.ex (by assumption) (by assumption))) | exact Held.of (by exact ext_))) ((go_at_call 200; apply Calls.mono; apply (sRowsT_c (rows := rows) (t := t)); (apply OwT.rs0 hML; (exact kf_)); exact HO.out; exact ht; rintro E w1 ⟨gr, dr, rfl, ⟨hoR, hgR0, hgR, q0, q1, q2⟩, hb⟩; rw [H2.out] at q2; have hst := xr hb; (try simp only [zA, zC, zD, zN] at hst); obtain ⟨hc, hf, hz⟩ := hst)); all_goals (have hb := And.right (by assumption : Held W0 _); have hst := xr hb; (try simp only [zA, zC, zD, zN] at hst); obtain ⟨hc, hf, hz⟩ := hst))
    all_goals go_wp2_with (go_at_call 208; apply Calls.mono; apply sFind_c; (apply OwT.rs0 hMD; (exact kf_)); rintro E w' ⟨rfl, rfl⟩; rw [HD.out])
    all_goals (go_quiet ((first | (go_at_call 107; exact Calls.quiet_same (sEntCap_c _ _)))); all_goals (generalize hWq : World.drewN _ nq = W0; have hb0 := Ex.ofN hWq; clear hWq; have hst := xr hb0; (try simp only [zA, zC, zD, zN] at hst); obtain ⟨hc0, hf0, hz0⟩ := hst))
    all_goals go_wp2
    all_goals (refine bodyPost_ret (v := .tuple #[.agg #[.slice aL aLn aLc, .slice aP aPn aPc, .slice aD aDn aDc, .int .i64 m.clock, .slice aN aNn aNc, .slice aS aSn aSc], .int .i64 4]) (by simp [results, Try.results188, go_sem, *]) rfl ?_; exact ⟨_, _, _, _, _, _, _, _, _, _, _, _, _, _, _, τ, rfl, hM.keepF kf_, fun _ _ => rfl, ext_⟩)
  · have e : Sw.offer m ⟨ru, rn, 2, t, rh, rp⟩ (Sw.rowAt rows t) none = ({ m with deals := Sw.insertDeal ⟨t, ru, rp, 0, 0⟩ m.deals }, 1) := by unfold Sw.offer; rw [if_neg (by simpa using h1), if_neg (by simp [h2]), if_neg h4]
    rw [e]
    have hn8 : aDn ≤ 4194304 := by omega
    clear e h1 l3 h3 h2
    go_enter Try.func188, Try.ntmps188
    go_wp2_with fail
    (refine wp_name ?_; intro W0 hb0; have hst := xr hb0; (try simp only [zA, zC, zD, zN] at hst); obtain ⟨hc0, hf0, hz0⟩ := hst; go_region_held3 (fun w' => Held W0 w') ((first | with_reducible assumption | with_reducible exact Held.start _ | with_reducible exact Held.of (by assumption) | with_reducible exact Held.ex (by assumption) (by assumption) | ((repeat (first | with_reducible refine Held.set ?_ (by simp only [zA, zC, zD, zN]; omega) | with_reducible refine Held.alloc ?_ _ | with_reducible refine Held.drew ?_)); (first | with_reducible assumption | with_reducible exact Held.refl _ | with_reducible exact Held.of (by assumption) | with_reducible exact Held.ex (by assumption) (by assumption))) | exact Held.of (by exact ext_))) ((go_at_call 200; apply Calls.mono; apply (sRowsT_c (rows := rows) (t := t)); (apply OwT.rs0 hML; (exact kf_)); exact HO.out; exact ht; rintro E w1 ⟨gr, dr, rfl, ⟨hoR, hgR0, hgR, q0, q1, q2⟩, hb⟩; rw [H2.out] at q2; have hst := xr hb; (try simp only [zA, zC, zD, zN] at hst); obtain ⟨hc, hf, hz⟩ := hst)); all_goals (have hb := And.right (by assumption : Held W0 _); have hst := xr hb; (try simp only [zA, zC, zD, zN] at hst); obtain ⟨hc, hf, hz⟩ := hst))
    all_goals go_wp2_with (go_at_call 208; apply Calls.mono; apply sFind_c; (apply OwT.rs0 hMD; (exact kf_)); rintro E w' ⟨rfl, rfl⟩; rw [HD.out])
    all_goals (go_quiet ((first | (go_at_call 107; exact Calls.quiet_same (sEntCap_c _ _)))); all_goals (generalize hWq : World.drewN _ nq = W0; have hb0 := Ex.ofN hWq; clear hWq; have hst := xr hb0; (try simp only [zA, zC, zD, zN] at hst); obtain ⟨hc0, hf0, hz0⟩ := hst))
    all_goals go_wp2_with (go_at_call 210; apply Calls.mono; apply (sPut_c (d := ⟨t, ru, rp, 0, 0⟩)); (apply OwT.rs0 hMD; (exact kf_)); omega; rintro E w3 ⟨A3, c3, rfl, ho3, hb3⟩; have hst := xr hb3; (try simp only [zA, zC, zD, zN] at hst); obtain ⟨hc3, hf3, hz3⟩ := hst)
    all_goals (refine bodyPost_ret (v := .tuple #[.agg #[.slice aL aLn aLc, .slice aP aPn aPc, .slice A3 (aDn + 1) c3, .int .i64 m.clock, .slice aN aNn aNc, .slice aS aSn aSc], .int .i64 1]) (by simp [results, Try.results188, go_sem, *]) rfl ?_; (have m1 := OwM.dealt ((hM.glueL (τ' := fun _ => 0) (Nat.le_refl _)).keepF kf_) ho3 (Nat.le_refl _) sz_ (kE hb3 (kR _ _))); exact ⟨_, _, _, _, _, _, _, _, _, _, _, _, _, _, _, _, rfl, m1.box (g0 := w.heap.size) (g1 := w.heap.size + 3) bx_ (tag1 tag0 sz_), fun b hb => (if_pos sz_).trans (if_pos hb), ext_⟩)
end Go.Proofs.Ytgceeggfdomdjaa

namespace Go.Proofs.Ytgceeggfdomdjaa
set_option maxRecDepth 100000
set_option linter.unusedSimpArgs false
set_option linter.unusedVariables false
open Go.RowKit Go
set_option maxHeartbeats 2000000

theorem sSettle_c (aL : Option Addr) (aLc aLn : Nat) (aP : Option Addr) (aPc aPn : Nat) (aD : Option Addr) (aDc aDn : Nat) (aN : Option Addr) (aNc aNn : Nat) (aS : Option Addr) (aSc aSn : Nat) (m : Sw.Mkt) (ru rn rk : Int) (t : Nat) (rh rp : Int) (rows : List Sw.Row) (lo : Nat) (τ : Nat → Nat) (w : World) (hM : OwM τ w lo aL aLc aLn aP aPc aPn aD aDc aDn aN aNc aNn aS aSc aSn m) (hok : Sw.MOk m rows) (ht : t < 8) (hlo : lo ≤ w.heap.size) : Calls Try.prog 190 #[.agg #[.slice aL aLn aLc, .slice aP aPn aPc, .slice aD aDn aDc, .int .i64 m.clock, .slice aN aNn aNc, .slice aS aSn aSc], .agg #[.int .i64 ru, .int .i64 rn, .int .i64 rk, .int .i64 t, .int .i64 rh, .int .i64 rp]] w fun E w' => MktPost lo τ w w' E (Sw.settle m ⟨ru, rn, rk, t, rh, rp⟩ (Sw.dealAt m.deals t)) := by
  have hML := hM.log
  have hMD := hM.deals
  have hMP := hM.purses
  have hd8 : m.deals.length ≤ 8 := hok.dlen
  have hL40 : m.log.length ≤ 40 := (Sw.ownFold_some.1 hok.fold).1
  have l1 := hM.log.ow.1
  have l3 := hM.deals.ow.1
  have hp5 : aPn ≤ 4194304 := by have := hM.purses.ow.1; have := (Sw.monOk_iff.1 hok.mon).1; omega
  have i0 : (0 : Int) ≤ (t : Int) := by omega
  have i1 : (t : Int) < 8 := by omega
  cases h3 : Sw.dealAt m.deals t
  case none =>
    have e : Sw.settle m ⟨ru, rn, rk, t, rh, rp⟩ none = (m, 3) := rfl
    rw [e]
    have HD := Lib.hid (dealIx_none h3)
    clear e l3 h3 hok l1
    go_enter Try.func190, Try.ntmps190
    go_wp2_with (go_at_call 208; apply Calls.mono; apply sFind_c; (apply OwT.rs0 hMD; (exact kf_)); rintro E w' ⟨rfl, rfl⟩; rw [HD.out])
    refine bodyPost_ret (v := .tuple #[.agg #[.slice aL aLn aLc, .slice aP aPn aPc, .slice aD aDn aDc, .int .i64 m.clock, .slice aN aNn aNc, .slice aS aSn aSc], .int .i64 3]) (by simp [results, Try.results190, go_sem, *]) rfl ?_
    exact ⟨_, _, _, _, _, _, _, _, _, _, _, _, _, _, _, τ, rfl, hM.keepF kf_, fun _ _ => rfl, ext_⟩
  rename_i kd
  obtain ⟨d, hd, hdt⟩ := Sw.dealAt_some h3
  have hk : kd < aDn := by have := (List.getElem?_eq_some_iff.1 hd).1; omega
  have HD := Lib.hid (dealIx_some h3)
  have hgd := Sw.getD_of (z := Sw.dealZ) hd
  obtain ⟨gD, y, rfl, hloD, hltD, hy, d0, d1, d2, d3, d4, hfD⟩ := at_OD hM.deals.ow hk
  obtain rfl : y = d := Option.some.inj (hy.symm.trans hd)
  have hby := (Sw.dealOk_iff.1 (hok.deals.get hd)).2.2.2.2.2
  have hby0 : 0 ≤ y.buyer := by omega
  clear hok hby
  have k0 : (0 : Int) ≤ (kd : Int) := by omega
  have k1 : (kd : Int) < (aDn : Int) := by omega
  have k2 : ¬ (kd : Int) < 0 := by omega
  by_cases h4 : y.buyer = 0
  · have g4 : (y.buyer == 0) = true := by simpa using h4
    have e : Sw.settle m ⟨ru, rn, rk, t, rh, rp⟩ (some kd) = (m, 3) := by unfold Sw.settle; dsimp only; rw [hgd, if_pos (by simp [Sw.held, h4])]
    rw [e]
    clear e l3 h3 hd hdt hy hgd l1 h4
    go_enter Try.func190, Try.ntmps190
    go_wp2_with (go_at_call 208; apply Calls.mono; apply sFind_c; (apply OwT.rs0 hMD; (exact kf_)); rintro E w' ⟨rfl, rfl⟩; rw [HD.out])
    refine bodyPost_ret (v := .tuple #[.agg #[.slice aL aLn aLc, .slice aP aPn aPc, .slice (some ⟨gD, 0, none⟩) aDn aDc, .int .i64 m.clock, .slice aN aNn aNc, .slice aS aSn aSc], .int .i64 3]) (by simp [results, Try.results190, go_sem, *]) rfl ?_
    exact ⟨_, _, _, _, _, _, _, _, _, _, _, _, _, _, _, τ, rfl, hM.keepF kf_, fun _ _ => rfl, ext_⟩
  have g4 : (y.buyer == 0) = false := by simpa using h4
  have hh : ¬ Sw.held y = false := by simp [Sw.held]; omega
  by_cases h5 : y.seller = ru
  case neg =>
    have g5 : (y.seller != ru) = true := by simpa using h5
    have e : Sw.settle m ⟨ru, rn, rk, t, rh, rp⟩ (some kd) = (m, 2) := by unfold Sw.settle; dsimp only; rw [hgd, if_neg hh, if_pos h5]
    rw [e]
    clear e l3 h3 hd hdt hy hgd h5 hh l1
    go_enter Try.func190, Try.ntmps190
    go_wp2_with (go_at_call 208; apply Calls.mono; apply sFind_c; (apply OwT.rs0 hMD; (exact kf_)); rintro E w' ⟨rfl, rfl⟩; rw [HD.out])
    refine bodyPost_ret (v := .tuple #[.agg #[.slice aL aLn aLc, .slice aP aPn aPc, .slice (some ⟨gD, 0, none⟩) aDn aDc, .int .i64 m.clock, .slice aN aNn aNc, .slice aS aSn aSc], .int .i64 2]) (by simp [results, Try.results190, go_sem, *]) rfl ?_
    exact ⟨_, _, _, _, _, _, _, _, _, _, _, _, _, _, _, τ, rfl, hM.keepF kf_, fun _ _ => rfl, ext_⟩
  have g5 : (y.seller != ru) = false := by simpa using h5
  by_cases h6 : m.log.length = 40
  · have g6 : ((aLn : Int) == 40) = true := by simp; omega
    have e : Sw.settle m ⟨ru, rn, rk, t, rh, rp⟩ (some kd) = (m, 6) := by unfold Sw.settle; dsimp only; rw [hgd, if_neg hh, if_neg (by simpa using h5), if_pos h6]
    rw [e]
    clear e l3 h3 hd hdt hy hgd h5 hh l1 h6
    go_enter Try.func190, Try.ntmps190
    go_wp2_with (go_at_call 208; apply Calls.mono; apply sFind_c; (apply OwT.rs0 hMD; (exact kf_)); rintro E w' ⟨rfl, rfl⟩; rw [HD.out])
    refine bodyPost_ret (v := .tuple #[.agg #[.slice aL aLn aLc, .slice aP aPn aPc, .slice (some ⟨gD, 0, none⟩) aDn aDc, .int .i64 m.clock, .slice aN aNn aNc, .slice aS aSn aSc], .int .i64 6]) (by simp [results, Try.results190, go_sem, *]) rfl ?_
    exact ⟨_, _, _, _, _, _, _, _, _, _, _, _, _, _, _, τ, rfl, hM.keepF kf_, fun _ _ => rfl, ext_⟩
  have g6 : ((aLn : Int) == 40) = false := by simp; omega
  have e : Sw.settle m ⟨ru, rn, rk, t, rh, rp⟩ (some kd) = ({ m with purses := Sw.monTurn m.purses y.seller y.price, log := m.log ++ [⟨2, t, y.buyer, y.price⟩], deals := m.deals.eraseIdx kd }, 1) := by unfold Sw.settle; dsimp only; rw [hgd, if_neg hh, if_neg (by simpa using h5), if_neg h6]
  rw [e]
  have hl40 : aLn ≤ 40 := by omega
  have hn8 : aDn ≤ 4194304 := by omega
  have hT := Lib.hid hdt
  clear e l3 h3 hd hdt hy hgd h5 hh l1 h6
  go_enter Try.func190, Try.ntmps190
  go_wp2_with (first | (go_at_call 208; apply Calls.mono; apply sFind_c; (apply OwT.rs0 hMD; (exact kf_)); rintro E w' ⟨rfl, rfl⟩; rw [HD.out]) | (go_at_call 159; apply Calls.mono; apply sMonTurn_c; ((first | (apply Rs.at0; assumption) | (apply Ow.rs0; assumption) | (apply OwT.rs0; assumption)); exact kf_); (first | assumption | omega); rintro E w1 ⟨A', c', rfl, hoP, hb⟩; have hst := xr hb; (try simp only [zA, zC, zD, zN] at hst); obtain ⟨hc, hf, hz⟩ := hst) | (at_builtin; apply wpList_app (lo := lo) el_E one_E rfl rfl rfl rfl; (exact Ow.keep (hML.ow) kf_); (refine Rs.new [⟨2, y.ticket, y.buyer, y.price⟩] (by (first | rfl | (simp only [zA, zC, zD, zN]; done) | omega)) rfl rfl (fun _ => rfl) (by omega)); omega; (exact sz_); intro A1 c1 w2 ho1 hch1 hat1 hex1 hlow1; clear hex1; obtain ⟨hB0, hF0⟩ := Ch.atA_keep hch1 (g := w.heap.size) (by exact sz_) (Ow.apart (hML.ow) (by omega)); obtain ⟨hB1, hF1⟩ := Ch.atA_keep hch1 (g := w.heap.size + 1) (by exact sz_) (Ow.apart (hML.ow) (by omega)); obtain ⟨hB2, hF2⟩ := Ch.atA_keep hch1 (g := w.heap.size + 1 + 1) (by exact sz_) (Ow.apart (hML.ow) (by omega)); have hzA := hch1.size; (try simp only [zA, zC, zD, zN] at hzA)))
  rw [hT.out] at ho1
  have m1 := OwM.pursed ((hM.glueL (τ' := fun _ => 0) (Nat.le_refl _)).keepF kf_) hoP (Nat.le_refl _) sz_ (kE (by assumption) (kR _ _))
  have m2 := OwM.logged (m1.box (g0 := w.heap.size) (g1 := w.heap.size + 4) bx_ (tag1 tag0 sz_)) ho1 hch1 hat1
  have m3 := m2.box (w' := w2.setCell ⟨w.heap.size, 0, none⟩ (.slice A1 (aLn + 1) c1)) (g0 := w.heap.size) (g1 := w.heap.size + 4) bx_ (tag1 (tag1 tag0 sz_) sz_)
  have hS := Ch.trans' (show Ch (SM lo τ) w _ from ext_) hch1 (fun i _ h => hM.atL h)
  apply Calls.mono
  apply (sOut_c (k := kd))
  · exact m3.deals.rs0 (kR _ _)
  · exact hk
  · exact hn8
  rintro E w3 ⟨A3, c3, rfl, ho3, hb3⟩
  have hst := xr hb3
  (try simp only [zA, zC, zD, zN] at hst)
  obtain ⟨hc3, hf3, hz3⟩ := hst
  go_wp2_with fail
  refine bodyPost_ret (v := .tuple #[.agg #[.slice A1 (aLn + 1) c1, .slice A' aPn c', .slice A3 (aDn - 1) c3, .int .i64 m.clock, .slice aN aNn aNc, .slice aS aSn aSc], .int .i64 1]) (by simp [results, Try.results190, go_sem, *]) rfl ?_
  have m4 := OwM.dealt m3 ho3 (Nat.le_refl _) sz_ (kE hb3 (kR _ _))
  exact ⟨_, _, _, _, _, _, _, _, _, _, _, _, _, _, _, _, rfl, m4.box (g0 := w.heap.size) (g1 := w.heap.size + 4) bx_ (tag1 (tag1 (tag1 tag0 sz_) sz_) sz_), fun b hb => (if_pos sz_).trans ((if_pos sz_).trans ((if_pos sz_).trans (if_pos hb))), ext_⟩
end Go.Proofs.Ytgceeggfdomdjaa

