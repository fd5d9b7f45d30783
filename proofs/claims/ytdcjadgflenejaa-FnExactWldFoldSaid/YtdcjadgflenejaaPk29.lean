/-
  Texts joined: ImpN, PtrD.
-/
import Derived.Test.YtdcjadgflenejaaPk13
import Derived.Test.YtdcjadgflenejaaPk25
import Derived.Test.YtdcjadgflenejaaPk28
namespace Go.Proofs.Ytdcjadgflenejaa
set_option maxRecDepth 100000
set_option linter.unusedSimpArgs false
set_option linter.unusedVariables false
open Go.RowKit Go
set_option maxHeartbeats 2000000

theorem iAbout_c (gt : Nat) (t : Int) (d : Sw.Deal) (w : World) (hgt : w.cell? ⟨gt, 0, none⟩ = some (.int .i64 t)) : Calls Try.prog 87 #[.agg #[.int .i64 d.ticket, .int .i64 d.seller, .int .i64 d.price, .int .i64 d.buyer, .int .i64 d.due], .pointer (some ⟨gt, 0, none⟩)] w fun E w' => E = .returned (.bool (isAbout t d)) ∧ Ex w w' := by
  have hlt : gt < w.heap.size := by
    rcases Nat.lt_or_ge gt w.heap.size with h | h
    · exact h
    · simp [World.cell?, Array.getElem?_eq_none h] at hgt
  obtain ⟨p, q, r, s, u⟩ := d
  dsimp only
  go_enter Try.func87, Try.ntmps87
  go_wp2_with fail
  go_ret
  exact ⟨ret_b (by simp [isAbout, beqI]), ext_⟩
theorem iAboutAt_c (gt : Nat) (t : Int) (A : Option Addr) (c n : Nat) (xs : List Sw.Deal) (w : World) (hxs : RDl w 0 A c n xs) (hgt : w.cell? ⟨gt, 0, none⟩ = some (.int .i64 t)) (hlg : gt < w.heap.size) : Calls Try.prog 86 #[.slice A n c, .func (.func 87) #[] #[.pointer (some ⟨gt, 0, none⟩)]] w fun E w' => E = .returned (.int .i64 (hitAt (isAbout t) xs)) ∧ Ex w w' := by

  have hl := Lib.hid hxs.1
  have hbig := Rs.big hxs
  go_enter Try.func86, Try.ntmps86
  go_wp2_with fail
  go_loopw [8] (fun i wr => ∃ k : Nat, k ≤ n ∧ i = .int .i64 k ∧ Ex w wr ∧ ∀ j, j < k → ∀ z, xs[j]? = some z → isAbout t z = false) (fun i _ => n - (intOf i).toNat)
  case atStart => exact ⟨0, Nat.zero_le _, rfl, (by exact ext_), by omega⟩
  case round =>
    obtain ⟨k, hk, rfl, hb2, hrel⟩ := hrel
    have Hrel := Lib.hid hrel; clear hrel
    have hst := xr hb2
    (try simp only [zA, zC, zD, zN] at hst)
    obtain ⟨hc2, hf2, hz2⟩ := hst
    by_cases hlt : k < n
    · obtain ⟨g, off, y, rfl, hg0, hg, hd, hy, hca0, hca1, hca2, hca3, hca4⟩ := at_D hxs hlt
      have Hy := Lib.hid hy; clear hd hy
      cases hmx : isAbout t y
      case true =>
        go_wp2_with (go_at_call 87; apply Calls.mono; apply (iAbout_c (t := t)); (exact (hb2.cell (p := ⟨gt, 0, none⟩) hlg (fun h => h)).trans hgt); rintro E w1 ⟨rfl, hb⟩; have hst := xr hb; (try simp only [zA, zC, zD, zN] at hst); obtain ⟨hc, hf, hz⟩ := hst)
        go_ret
        exact ⟨ret_i (hitAt_here Hy.out Hrel.out hmx).symm, (by exact ext_)⟩
      case false =>
        go_wp2_with (go_at_call 87; apply Calls.mono; apply (iAbout_c (t := t)); (exact (hb2.cell (p := ⟨gt, 0, none⟩) hlg (fun h => h)).trans hgt); rintro E w1 ⟨rfl, hb⟩; have hst := xr hb; (try simp only [zA, zC, zD, zN] at hst); obtain ⟨hc, hf, hz⟩ := hst)
        go_roundw
        case rel => exact ⟨k + 1, by omega, by go_num, (by exact ext_), notHit_step Hy.out Hrel.out hmx⟩
        case measure => simp [intOf]; omega
    · go_wp2_with fail
      go_ret
      exact ⟨ret_i (hitAt_none (by have := hl.out; omega) Hrel.out).symm, (by exact ext_)⟩

theorem iDeal_c (aL : Option Addr) (aLc aLn : Nat) (aP : Option Addr) (aPc aPn : Nat) (aD : Option Addr) (aDc aDn : Nat) (aN : Option Addr) (aNc aNn : Nat) (aS : Option Addr) (aSc aSn : Nat) (m : Sw.Mkt) (t : Int) (w : World) (hD : RDl w 0 aD aDc aDn m.deals) : Calls Try.prog 68 #[.agg #[.slice aL aLn aLc, .slice aP aPn aPc, .slice aD aDn aDc, .int .i64 m.clock, .slice aN aNn aNc, .slice aS aSn aSc], .int .i64 t] w fun E w' => E = .returned (.int .i64 (Sw.dealIx m.deals t)) ∧ Ex w w' := by
  have He := Lib.hid (dealIx_hit m.deals t)
  go_enter Try.func68, Try.ntmps68
  go_wp2_with fail
  (go_at_call 86)
  (apply Calls.mono; apply (iAboutAt_c (t := t)); (apply Rs.at0 hD; (exact kf_)); (simp [go_sem]); exact sz_; rintro E w1 ⟨rfl, hb⟩; have hst := xr hb; (try simp only [zA, zC, zD, zN] at hst); obtain ⟨hc, hf, hz⟩ := hst)
  go_wp2
  go_ret
  exact ⟨ret_i He.out.symm, ext_⟩
theorem iRows_c (aL : Option Addr) (aLc aLn : Nat) (aP : Option Addr) (aPc aPn : Nat) (aD : Option Addr) (aDc aDn : Nat) (aN : Option Addr) (aNc aNn : Nat) (aS : Option Addr) (aSc aSn : Nat) (m : Sw.Mkt) (w : World) (hL : RE w 0 aL aLc aLn m.log) : Calls Try.prog 67 #[.agg #[.slice aL aLn aLc, .slice aP aPn aPc, .slice aD aDn aDc, .int .i64 m.clock, .slice aN aNn aNc, .slice aS aSn aSc]] w fun E w' => ∃ A' c' n', E = .returned (.slice A' n' c') ∧ OwR w' w.heap.size A' c' n' (Sw.mktRows m) ∧ Ex w w' := by
  go_enter Try.func67, Try.ntmps67
  go_wp2_with (go_at_call 85; apply Calls.mono; apply iOwnFold_c; ((first | (apply Rs.at0; assumption) | (apply Ow.rs0; assumption) | (apply OwT.rs0; assumption)); exact kf_); rintro E w1 ⟨A', c', n', rfl, ho, hb⟩; have hst := xr hb; (try simp only [zA, zC, zD, zN] at hst); obtain ⟨hc, hf, hz⟩ := hst)
  go_ret
  exact ⟨_, _, _, rfl, (ho.keep (by (exact kf_))).less (by exact sz_), ext_⟩
end Go.Proofs.Ytdcjadgflenejaa

namespace Go.Proofs.Ytdcjadgflenejaa
set_option maxRecDepth 100000
set_option linter.unusedSimpArgs false
set_option linter.unusedVariables false
open Go.RowKit Go
set_option maxHeartbeats 4000000

theorem lit1E {W : World} {gl : Nat} (p q r s : Int) (h : gl = W.heap.size) : RE (W.alloc (.cells #[.int .i64 p, .int .i64 q, .int .i64 r, .int .i64 s] 77)).drew 0 (some ⟨gl, 0, none⟩) 1 1 [⟨p, q, r, s⟩] :=
  Rs.keep (Rs.new (enc := Sw.Ent.enc) (sz := 4) [⟨p, q, r, s⟩] h rfl rfl (fun _ => rfl) (by decide)) (kD (kR _ _))
section
variable {g o n lo : Nat} {τ0 τ : Nat → Nat} {w0 w : World} {aL : Option Addr} {aLc aLn : Nat} {aP : Option Addr} {aPc aPn : Nat} {aD : Option Addr} {aDc aDn : Nat} {aN : Option Addr} {aNc aNn : Nat} {aS : Option Addr} {aSc aSn : Nat} {m : Sw.Mkt}
/-- A deal is taken out. -/
theorem iDropAt_c (hS : MS g o n lo τ0 w0 aL aLc aLn aP aPc aPn aD aDc aDn aN aNc aNn aS aSc aSn m τ w) {k : Nat} (hk : k < aDn) : Calls Try.prog 72 #[.pointer (some ⟨g, o, none⟩), .int .i64 k] w fun E w' =>
    ∃ τ', E = .returned (.tuple #[]) ∧ MS g o n lo τ0 w0 aL aLc aLn aP aPc aPn aD aDc (aDn - 1) aN aNc aNn aS aSc aSn { m with deals := m.deals.eraseIdx k } τ' w' := by
  obtain ⟨gD, x, rfl, hgD0, hgD, hx, d0, d1, d2, d3, d4, hfD⟩ := at_OD hS.ow.deals.ow hk
  have hcb := hS.ow.deals.ow.rs.2.cap
  have hle := hS.ow.deals.ow.rs.2.le
  unfold maxLen at hcb
  obtain ⟨k0, k1, k2, k3, k4, k5, k6, kf⟩ := hS.at_
  have wk : IntKind.i64.wrap ((k : Int) + 1) = (k : Int) + 1 := IntWalk.i64_in _ (by omega)
  have HS := Lib.hid hS
  have hne := hS.ne (hS.ow.deals.tag _ rfl) (by decide)
  clear hx d0 d1 d2 d3 d4 hfD hS
  go_enter Try.func72, Try.ntmps72
  go_wp2_with (go_at_call 91; apply Calls.mono; apply (iDelete_c (lo := lo)); (exact HS.out.ow.deals.ow); exact hk; rintro E w1 ⟨rfl, hoD, hb⟩; have hst := xc hb; (try simp only [zA, zC, zD, zN] at hst); obtain ⟨hc, hf, hz⟩ := hst)
  refine bodyPost_end (v := .tuple #[]) (by simp [results, Try.results72, go_sem]) rfl ⟨_, rfl, HS.out.deals hoD ?_ (fun b hb => .inl hb)⟩
  exact Ch.mono hb fun i _ hi => ⟨_, rfl, hi⟩
/-- An entry is written down, if there is room. -/
theorem iAppendN_c (hS : MS g o n lo τ0 w0 aL aLc aLn aP aPc aPn aD aDc aDn aN aNc aNn aS aSc aSn m τ w) (p q r s : Int) (h40 : aLn = 40) : Calls Try.prog 75 #[.pointer (some ⟨g, o, none⟩), .agg #[.int .i64 p, .int .i64 q, .int .i64 r, .int .i64 s]] w fun E w' => E = .returned (.int .i64 6) ∧ Ex w w' := by
  obtain ⟨k0, k1, k2, k3, k4, k5, k6, kf⟩ := hS.at_
  clear hS
  subst h40
  go_enter Try.func75, Try.ntmps75
  go_wp2_with fail
  go_ret
  exact ⟨rfl, ext_⟩
theorem iAppend_c (hS : MS g o n lo τ0 w0 aL aLc aLn aP aPc aPn aD aDc aDn aN aNc aNn aS aSc aSn m τ w) (p q r s : Int) (h40 : aLn < 40) : Calls Try.prog 75 #[.pointer (some ⟨g, o, none⟩), .agg #[.int .i64 p, .int .i64 q, .int .i64 r, .int .i64 s]] w fun E w' =>
    ∃ A c τ', E = .returned (.int .i64 1) ∧ MS g o n lo τ0 w0 A c (aLn + 1) aP aPc aPn aD aDc aDn aN aNc aNn aS aSc aSn { m with log := m.log ++ [⟨p, q, r, s⟩] } τ' w' := by
  obtain ⟨k0, k1, k2, k3, k4, k5, k6, kf⟩ := hS.at_
  have HS := Lib.hid hS
  have hlo := hS.lo_le
  have h41 : ((aLn : Int) == 40) = false := by simp; omega
  have hSg : ¬ atA aL g := fun ⟨a, ha, e⟩ => hS.ne (hS.ow.log.tag a ha) (by decide) e.symm
  have HG := Lib.hid hSg
  clear hS hSg
  go_enter Try.func75, Try.ntmps75
  go_wp2_with fail
  go_region_law (refine step_app (lo := lo) (A := aL) (B := some ⟨w.heap.size + 1, 0, none⟩) (n := aLn) (m := 1) (d := 1) (xs := m.log) (ys := [⟨p, q, r, s⟩]) el_E one_E rfl rfl (by simp [Act.eval, Act.put]; done) (by simp [Act.eval, Act.put]; done) (HS.out.ow.log.ow.keep (by (exact kf_))) (lit1E p q r s (by simp only [zA])) (by omega) (by exact sz_) (fun A1 c1 w2 ho1 hch1 hat1 hex1 hlow1 => ?_); have hk1 := (hch1.cell (p := ⟨g, o, none⟩) (by simp only [zA, zD]; omega) HG.out); have hk2 := (hch1.frozen (p := ⟨g, o, none⟩) (by simp only [zA, zD]; omega) HG.out))
  all_goals
    clear hk1 hk2 hex1 hlow1
    go_wp2
    go_ret
    exact ⟨A1, c1, _, rfl, MS.log (HS.out.ex ext_) ho1 hch1 hat1⟩
theorem iIssue_c (hS : MS g o n lo τ0 w0 aL aLc aLn aP aPc aPn aD aDc aDn aN aNc aNn aS aSc aSn m τ w) (ru rn : Int) (t : Nat) (rh rp : Int) (row : Sw.Row) (hl : m.log.length ≤ 40) (hpn : aPn ≤ 4194304) : Calls Try.prog 69 #[.pointer (some ⟨g, o, none⟩), .agg #[.int .i64 ru, .int .i64 rn, .int .i64 1, .int .i64 t, .int .i64 rh, .int .i64 rp], .agg #[.int .i64 row.who, .int .i64 row.face, .bool row.used]] w fun E w' =>
    ∃ (bL : Option Addr) (bLc bLn : Nat) (bP : Option Addr) (bPc bPn : Nat) (bD : Option Addr) (bDc bDn : Nat) (bN : Option Addr) (bNc bNn : Nat) (bS : Option Addr) (bSc bSn : Nat) (τ' : Nat → Nat), E = .returned (.int .i64 (Sw.issue m ⟨ru, rn, 1, t, rh, rp⟩ row).2) ∧ MS g o n lo τ0 w0 bL bLc bLn bP bPc bPn bD bDc bDn bN bNc bNn bS bSc bSn (Sw.issue m ⟨ru, rn, 1, t, rh, rp⟩ row).1 τ' w' := by
  obtain ⟨f1, f2, f3⟩ := row
  obtain ⟨k0, k1, k2, k3, k4, k5, k6, kf⟩ := hS.at_
  have HS := Lib.hid hS
  have hP := hS.ow.purses
  have l1 := hS.ow.log.ow.1
  dsimp only
  by_cases h1 : ru ≠ 1 ∨ rh = 1
  · have e : Sw.issue m ⟨ru, rn, 1, t, rh, rp⟩ ⟨f1, f2, f3⟩ = (m, 2) := by unfold Sw.issue; rw [if_pos h1]
    rw [e]
    clear e hS hP l1
    by_cases h2 : ru = 1
    · subst h2
      have h3 : rh = 1 := by rcases h1 with h | h; exact absurd rfl h; exact h
      subst h3
      clear h1
      go_enter Try.func69, Try.ntmps69
      go_wp2_with fail
      go_ret
      exact ⟨_, _, _, _, _, _, _, _, _, _, _, _, _, _, _, τ, rfl, HS.out.ex ext_⟩
    · have g2 : (ru != 1) = true := by simpa using h2
      clear h1
      go_enter Try.func69, Try.ntmps69
      go_wp2_with fail
      go_ret
      exact ⟨_, _, _, _, _, _, _, _, _, _, _, _, _, _, _, τ, rfl, HS.out.ex ext_⟩
  have h1' : ru = 1 ∧ rh ≠ 1 := ⟨Classical.byContradiction fun h => h1 (.inl h), fun h => h1 (.inr h)⟩
  obtain ⟨rfl, hrh⟩ := h1'
  have g2 : (rh == 1) = false := by simpa using hrh
  clear h1
  by_cases h3 : f1 = 0
  case neg =>
    have e : Sw.issue m ⟨1, rn, 1, t, rh, rp⟩ ⟨f1, f2, f3⟩ = (m, 3) := by unfold Sw.issue; rw [if_neg (by simp [hrh]), if_pos h3]
    rw [e]
    have g3 : (f1 != 0) = true := by simpa using h3
    clear e hS hP l1
    go_enter Try.func69, Try.ntmps69
    go_wp2_with fail
    go_ret
    exact ⟨_, _, _, _, _, _, _, _, _, _, _, _, _, _, _, τ, rfl, HS.out.ex ext_⟩
  subst h3
  by_cases h4 : m.log.length = 40
  · have e : Sw.issue m ⟨1, rn, 1, t, rh, rp⟩ ⟨0, f2, f3⟩ = (m, 6) := by unfold Sw.issue; rw [if_neg (by simp [hrh]), if_neg (by simp), if_pos h4]
    rw [e]
    have g4 : ((aLn : Int) == 40) = true := by simp; omega
    clear e hS hP l1
    go_enter Try.func69, Try.ntmps69
    go_wp2_with fail
    go_ret
    exact ⟨_, _, _, _, _, _, _, _, _, _, _, _, _, _, _, τ, rfl, HS.out.ex ext_⟩
  have g4 : ((aLn : Int) == 40) = false := by simp; omega
  have hp5 := hP.ow.rs
  have l2 := hP.ow.1
  have hn40 : aLn < 40 := by omega
  cases h5 : Sw.moveMay m.purses rh 1 rp
  case false =>
    have e : Sw.issue m ⟨1, rn, 1, t, rh, rp⟩ ⟨0, f2, f3⟩ = (m, 5) := by unfold Sw.issue; rw [if_neg (by simp [hrh]), if_neg (by simp), if_neg h4, if_neg (by simp [h5])]
    rw [e]
    clear e hS l1 l2 h4
    go_enter Try.func69, Try.ntmps69
    go_wp2_with fail
    (refine wp_name ?_; intro W0 hb0; have hst := xr hb0; (try simp only [zA, zC, zD, zN] at hst); obtain ⟨hc0, hf0, hz0⟩ := hst; refine wp_region_held_drew (S := fun w' => Held W0 w') (by kernel_rfl) ?_ (fun hHeld => ?_); (focus ((try dsimp only); (first | with_reducible assumption | with_reducible exact Held.start _ | with_reducible exact Held.of (by assumption) | with_reducible exact Held.ex (by assumption) (by assumption) | ((repeat (first | with_reducible refine Held.set ?_ (by simp only [zA, zC, zD, zN]; omega) | with_reducible refine Held.alloc ?_ _ | with_reducible refine Held.drew ?_)); (first | with_reducible assumption | with_reducible exact Held.refl _ | with_reducible exact Held.of (by assumption) | with_reducible exact Held.ex (by assumption) (by assumption))) | exact Held.of (by exact ext_)))); refine regT 0 30 (v := ?_) rfl rfl (by kernel_rfl) (by kernel_rfl) (by kernel_rfl) (fun _ _ _ h => h) (by rfl) ?_ (by assumption) ?_; rotate_left; (focus (intro w hSw; (try dsimp only at hSw); go_simp; (try with_reducible rfl))); (try simp only [Act.put, List.setIfInBounds_toArray, List.set_cons_zero, List.set_cons_succ]); refine regT 1 31 (v := ?_) rfl rfl (by kernel_rfl) (by kernel_rfl) (by kernel_rfl) (fun _ _ _ h => h) (by rfl) ?_ (by assumption) ?_; rotate_left; (focus (intro w hSw; (try dsimp only at hSw); go_simp; (try with_reducible rfl))); (try simp only [Act.put, List.setIfInBounds_toArray, List.set_cons_zero, List.set_cons_succ]); refine regT 2 32 (v := ?_) rfl rfl (by kernel_rfl) (by kernel_rfl) (by kernel_rfl) (fun _ _ _ h => h) (by rfl) ?_ (by assumption) ?_; rotate_left; (focus (intro w hSw; (try dsimp only at hSw); go_simp; (try with_reducible rfl))); (try simp only [Act.put, List.setIfInBounds_toArray, List.set_cons_zero, List.set_cons_succ]); refine regT 3 33 (v := ?_) rfl rfl (by kernel_rfl) (by kernel_rfl) (by kernel_rfl) (fun _ _ _ h => h) (by rfl) ?_ (by assumption) ?_; rotate_left; (focus (intro w hSw; (try dsimp only at hSw); go_simp; (try with_reducible rfl))); (try simp only [Act.put, List.setIfInBounds_toArray, List.set_cons_zero, List.set_cons_succ]); refine regT 4 34 (v := ?_) rfl rfl (by kernel_rfl) (by kernel_rfl) (by kernel_rfl) (fun _ _ _ h => h) (by rfl) ?_ (by assumption) ?_; rotate_left; (focus (intro w hSw; (try dsimp only at hSw); go_simp; (try with_reducible rfl))); (try simp only [Act.put, List.setIfInBounds_toArray, List.set_cons_zero, List.set_cons_succ]); refine regT 5 35 (v := ?_) rfl rfl (by kernel_rfl) (by kernel_rfl) (by kernel_rfl) (fun _ _ _ h => h) (by rfl) ?_ (by assumption) ?_; rotate_left; (focus (intro w hSw; (try dsimp only at hSw); go_simp; (try with_reducible rfl))); (try simp only [Act.put, List.setIfInBounds_toArray, List.set_cons_zero, List.set_cons_succ]); refine regT 6 36 (v := ?_) rfl rfl (by kernel_rfl) (by kernel_rfl) (by kernel_rfl) (fun _ _ _ h => h) (by rfl) ?_ (by assumption) ?_; rotate_left; (focus (intro w hSw; (try dsimp only at hSw); go_simp; (try with_reducible rfl))); (try simp only [Act.put, List.setIfInBounds_toArray, List.set_cons_zero, List.set_cons_succ]); refine regT 7 37 (v := ?_) rfl rfl (by kernel_rfl) (by kernel_rfl) (by kernel_rfl) (fun _ _ _ h => h) (by rfl) ?_ (by assumption) ?_; rotate_left; (focus (intro w hSw; (try dsimp only at hSw); go_simp; (try with_reducible rfl))); (try simp only [Act.put, List.setIfInBounds_toArray, List.set_cons_zero, List.set_cons_succ]); refine wpAnyH_ready (rs := [8]) (by kernel_rfl) (by simp) ?_; refine AllReadyH.cons rfl (fun K hK => ?_) ?_; rotate_left; (focus exact AllReadyH.nil); go_simp; (go_at_call 88; apply Calls.mono; apply iMonMove_c; (apply Rs.at0 hp5; (exact kf_)); omega; rintro E w1 ⟨A1, c1, rfl, hoP, hbM⟩; have hb := hbM; rw [h5]; have hst := xr hb; (try simp only [zA, zC, zD, zN] at hst); obtain ⟨hc, hf, hz⟩ := hst); (try go_wp2_with fail); refine hK.out _ _ ?_ (fun hHeld => ?_); (focus ((try dsimp only); (first | with_reducible assumption | with_reducible exact Held.start _ | with_reducible exact Held.of (by assumption) | with_reducible exact Held.ex (by assumption) (by assumption) | ((repeat (first | with_reducible refine Held.set ?_ (by simp only [zA, zC, zD, zN]; omega) | with_reducible refine Held.alloc ?_ _ | with_reducible refine Held.drew ?_)); (first | with_reducible assumption | with_reducible exact Held.refl _ | with_reducible exact Held.of (by assumption) | with_reducible exact Held.ex (by assumption) (by assumption))) | exact Held.of (by exact ext_)))); clear hK K; (try simp only [Act.put, List.setIfInBounds_toArray, List.set_cons_zero, List.set_cons_succ]); refine regT 9 29 (v := ?_) rfl rfl (by kernel_rfl) (by kernel_rfl) (by kernel_rfl) (fun _ _ _ h => h) (by rfl) ?_ (by assumption) ?_; rotate_left; (focus (intro w hSw; (try dsimp only at hSw); go_simp; (try with_reducible rfl))); (try simp only [Act.put, List.setIfInBounds_toArray, List.set_cons_zero, List.set_cons_succ]); refine regT 10 39 (v := ?_) rfl rfl (by kernel_rfl) (by kernel_rfl) (by kernel_rfl) (fun _ _ _ h => h) (by rfl) ?_ (by assumption) ?_; rotate_left; (focus (intro w hSw; (try dsimp only at hSw); go_simp; (try with_reducible rfl))); (try simp only [Act.put, List.setIfInBounds_toArray, List.set_cons_zero, List.set_cons_succ]); refine regT 11 40 (v := ?_) rfl rfl (by kernel_rfl) (by kernel_rfl) (by kernel_rfl) (fun _ _ _ h => h) (by rfl) ?_ (by assumption) ?_; rotate_left; (focus (intro w hSw; (try dsimp only at hSw); go_simp; (try with_reducible rfl))); (try simp only [Act.put, List.setIfInBounds_toArray, List.set_cons_zero, List.set_cons_succ]); refine regT 12 7 (v := ?_) rfl rfl (by kernel_rfl) (by kernel_rfl) (by kernel_rfl) (fun _ _ _ h => h) (by rfl) ?_ (by assumption) ?_; rotate_left; (focus (intro w hSw; (try dsimp only at hSw); go_simp; (try with_reducible rfl))); (try simp only [Act.put, List.setIfInBounds_toArray, List.set_cons_zero, List.set_cons_succ]); refine regT 13 8 (v := ?_) rfl rfl (by kernel_rfl) (by kernel_rfl) (by kernel_rfl) (fun _ _ _ h => h) (by rfl) ?_ (by assumption) ?_; rotate_left; (focus (intro w hSw; (try dsimp only at hSw); go_simp; (try with_reducible rfl))); (try simp only [Act.put, List.setIfInBounds_toArray, List.set_cons_zero, List.set_cons_succ]); refine wpAnyH_done (by kernel_rfl) ?_ _; all_goals (have hb := And.right (by assumption : Held W0 _); have hst := xr hb; (try simp only [zA, zC, zD, zN] at hst); obtain ⟨hc, hf, hz⟩ := hst))
    all_goals go_wp2
    all_goals go_ret
    all_goals exact ⟨_, _, _, _, _, _, _, _, _, _, _, _, _, _, _, τ, rfl, HS.out.ex ext_⟩
  have e : Sw.issue m ⟨1, rn, 1, t, rh, rp⟩ ⟨0, f2, f3⟩ = ({ m with purses := Sw.turned (Sw.turned m.purses rh (-rp)) 1 rp, log := m.log ++ [⟨1, t, rh, rp⟩] }, 1) := by unfold Sw.issue; rw [if_neg (by simp [hrh]), if_neg (by simp), if_neg h4, if_pos h5]
  rw [e]
  have HM := Lib.hid (show Sw.monMove m.purses rh 1 rp = Sw.turned (Sw.turned m.purses rh (-rp)) 1 rp from by unfold Sw.monMove; rw [if_pos h5])
  clear e hS l1 l2 h4
  go_enter Try.func69, Try.ntmps69
  go_wp2_with fail
  (refine wp_name ?_; intro W0 hb0; have hst := xr hb0; (try simp only [zA, zC, zD, zN] at hst); obtain ⟨hc0, hf0, hz0⟩ := hst; refine wp_region_held_drew (S := fun w' => Held W0 w') (by kernel_rfl) ?_ (fun hHeld => ?_); (focus ((try dsimp only); (first | with_reducible assumption | with_reducible exact Held.start _ | with_reducible exact Held.of (by assumption) | with_reducible exact Held.ex (by assumption) (by assumption) | ((repeat (first | with_reducible refine Held.set ?_ (by simp only [zA, zC, zD, zN]; omega) | with_reducible refine Held.alloc ?_ _ | with_reducible refine Held.drew ?_)); (first | with_reducible assumption | with_reducible exact Held.refl _ | with_reducible exact Held.of (by assumption) | with_reducible exact Held.ex (by assumption) (by assumption))) | exact Held.of (by exact ext_)))); refine regT 0 30 (v := ?_) rfl rfl (by kernel_rfl) (by kernel_rfl) (by kernel_rfl) (fun _ _ _ h => h) (by rfl) ?_ (by assumption) ?_; rotate_left; (focus (intro w hSw; (try dsimp only at hSw); go_simp; (try with_reducible rfl))); (try simp only [Act.put, List.setIfInBounds_toArray, List.set_cons_zero, List.set_cons_succ]); refine regT 1 31 (v := ?_) rfl rfl (by kernel_rfl) (by kernel_rfl) (by kernel_rfl) (fun _ _ _ h => h) (by rfl) ?_ (by assumption) ?_; rotate_left; (focus (intro w hSw; (try dsimp only at hSw); go_simp; (try with_reducible rfl))); (try simp only [Act.put, List.setIfInBounds_toArray, List.set_cons_zero, List.set_cons_succ]); refine regT 2 32 (v := ?_) rfl rfl (by kernel_rfl) (by kernel_rfl) (by kernel_rfl) (fun _ _ _ h => h) (by rfl) ?_ (by assumption) ?_; rotate_left; (focus (intro w hSw; (try dsimp only at hSw); go_simp; (try with_reducible rfl))); (try simp only [Act.put, List.setIfInBounds_toArray, List.set_cons_zero, List.set_cons_succ]); refine regT 3 33 (v := ?_) rfl rfl (by kernel_rfl) (by kernel_rfl) (by kernel_rfl) (fun _ _ _ h => h) (by rfl) ?_ (by assumption) ?_; rotate_left; (focus (intro w hSw; (try dsimp only at hSw); go_simp; (try with_reducible rfl))); (try simp only [Act.put, List.setIfInBounds_toArray, List.set_cons_zero, List.set_cons_succ]); refine regT 4 34 (v := ?_) rfl rfl (by kernel_rfl) (by kernel_rfl) (by kernel_rfl) (fun _ _ _ h => h) (by rfl) ?_ (by assumption) ?_; rotate_left; (focus (intro w hSw; (try dsimp only at hSw); go_simp; (try with_reducible rfl))); (try simp only [Act.put, List.setIfInBounds_toArray, List.set_cons_zero, List.set_cons_succ]); refine regT 5 35 (v := ?_) rfl rfl (by kernel_rfl) (by kernel_rfl) (by kernel_rfl) (fun _ _ _ h => h) (by rfl) ?_ (by assumption) ?_; rotate_left; (focus (intro w hSw; (try dsimp only at hSw); go_simp; (try with_reducible rfl))); (try simp only [Act.put, List.setIfInBounds_toArray, List.set_cons_zero, List.set_cons_succ]); refine regT 6 36 (v := ?_) rfl rfl (by kernel_rfl) (by kernel_rfl) (by kernel_rfl) (fun _ _ _ h => h) (by rfl) ?_ (by assumption) ?_; rotate_left; (focus (intro w hSw; (try dsimp only at hSw); go_simp; (try with_reducible rfl))); (try simp only [Act.put, List.setIfInBounds_toArray, List.set_cons_zero, List.set_cons_succ]); refine regT 7 37 (v := ?_) rfl rfl (by kernel_rfl) (by kernel_rfl) (by kernel_rfl) (fun _ _ _ h => h) (by rfl) ?_ (by assumption) ?_; rotate_left; (focus (intro w hSw; (try dsimp only at hSw); go_simp; (try with_reducible rfl))); (try simp only [Act.put, List.setIfInBounds_toArray, List.set_cons_zero, List.set_cons_succ]); refine wpAnyH_ready (rs := [8]) (by kernel_rfl) (by simp) ?_; refine AllReadyH.cons rfl (fun K hK => ?_) ?_; rotate_left; (focus exact AllReadyH.nil); go_simp; (go_at_call 88; apply Calls.mono; apply iMonMove_c; (apply Rs.at0 hp5; (exact kf_)); omega; rintro E w1 ⟨A1, c1, rfl, hoP, hbM⟩; have hb := hbM; rw [h5]; have hst := xr hb; (try simp only [zA, zC, zD, zN] at hst); obtain ⟨hc, hf, hz⟩ := hst); (try go_wp2_with fail); refine hK.out _ _ ?_ (fun hHeld => ?_); (focus ((try dsimp only); (first | with_reducible assumption | with_reducible exact Held.start _ | with_reducible exact Held.of (by assumption) | with_reducible exact Held.ex (by assumption) (by assumption) | ((repeat (first | with_reducible refine Held.set ?_ (by simp only [zA, zC, zD, zN]; omega) | with_reducible refine Held.alloc ?_ _ | with_reducible refine Held.drew ?_)); (first | with_reducible assumption | with_reducible exact Held.refl _ | with_reducible exact Held.of (by assumption) | with_reducible exact Held.ex (by assumption) (by assumption))) | exact Held.of (by exact ext_)))); clear hK K; (try simp only [Act.put, List.setIfInBounds_toArray, List.set_cons_zero, List.set_cons_succ]); refine regT 9 29 (v := ?_) rfl rfl (by kernel_rfl) (by kernel_rfl) (by kernel_rfl) (fun _ _ _ h => h) (by rfl) ?_ (by assumption) ?_; rotate_left; (focus (intro w hSw; (try dsimp only at hSw); go_simp; (try with_reducible rfl))); (try simp only [Act.put, List.setIfInBounds_toArray, List.set_cons_zero, List.set_cons_succ]); refine regT 10 39 (v := ?_) rfl rfl (by kernel_rfl) (by kernel_rfl) (by kernel_rfl) (fun _ _ _ h => h) (by rfl) ?_ (by assumption) ?_; rotate_left; (focus (intro w hSw; (try dsimp only at hSw); go_simp; (try with_reducible rfl))); (try simp only [Act.put, List.setIfInBounds_toArray, List.set_cons_zero, List.set_cons_succ]); refine regT 11 40 (v := ?_) rfl rfl (by kernel_rfl) (by kernel_rfl) (by kernel_rfl) (fun _ _ _ h => h) (by rfl) ?_ (by assumption) ?_; rotate_left; (focus (intro w hSw; (try dsimp only at hSw); go_simp; (try with_reducible rfl))); (try simp only [Act.put, List.setIfInBounds_toArray, List.set_cons_zero, List.set_cons_succ]); refine regT 12 7 (v := ?_) rfl rfl (by kernel_rfl) (by kernel_rfl) (by kernel_rfl) (fun _ _ _ h => h) (by rfl) ?_ (by assumption) ?_; rotate_left; (focus (intro w hSw; (try dsimp only at hSw); go_simp; (try with_reducible rfl))); (try simp only [Act.put, List.setIfInBounds_toArray, List.set_cons_zero, List.set_cons_succ]); refine regT 13 8 (v := ?_) rfl rfl (by kernel_rfl) (by kernel_rfl) (by kernel_rfl) (fun _ _ _ h => h) (by rfl) ?_ (by assumption) ?_; rotate_left; (focus (intro w hSw; (try dsimp only at hSw); go_simp; (try with_reducible rfl))); (try simp only [Act.put, List.setIfInBounds_toArray, List.set_cons_zero, List.set_cons_succ]); refine wpAnyH_done (by kernel_rfl) ?_ _; all_goals (have hb := And.right (by assumption : Held W0 _); have hst := xr hb; (try simp only [zA, zC, zD, zN] at hst); obtain ⟨hc, hf, hz⟩ := hst))
  all_goals go_wp2_with fail
  rw [HM.out] at hoP
  have m1 := MS.purses (w := W0.drew) (HS.out.ex ext_) hoP hbM
  apply Calls.mono
  apply (iAppend_c m1 1 t rh rp hn40)
  rintro E w3 ⟨A3, c3, τ3, rfl, hm3⟩
  go_wp2
  go_ret
  exact ⟨_, _, _, _, _, _, _, _, _, _, _, _, _, _, _, τ3, rfl, hm3⟩
end
end Go.Proofs.Ytdcjadgflenejaa

