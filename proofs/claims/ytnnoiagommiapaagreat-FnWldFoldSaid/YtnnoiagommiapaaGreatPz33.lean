/- Texts joined: PtrH. -/
import Derived.Test.YtnnoiagommiapaaGreatPz3
import Derived.Test.YtnnoiagommiapaaGreatPz32
set_option maxRecDepth 100000
set_option linter.unusedSimpArgs false
set_option linter.unusedVariables false
namespace Go.Proofs.YtnnoiagommiapaaGreat
open Go.RowKit Go
set_option maxHeartbeats 8000000
section
variable {g o n lo : Nat} {τ0 τ : Nat → Nat} {w0 w : World} {aL : Option Addr} {aLc aLn : Nat} {aP : Option Addr} {aPc aPn : Nat} {aD : Option Addr} {aDc aDn : Nat} {aN : Option Addr} {aNc aNn : Nat} {aS : Option Addr} {aSc aSn : Nat} {m : Sw.Mkt}
theorem iEffect3_c (hS : MS g o n lo τ0 w0 aL aLc aLn aP aPc aPn aD aDc aDn aN aNc aNn aS aSc aSn m τ w) (ru rn : Int) (t : Nat) (rh rp : Int) {rows : List Sw.Row} (hok : Sw.MOk m rows) (ht : t < 8) (hu1 : 1 ≤ ru) (hu5 : ru ≤ 5) : Calls Tryz.prog 183 #[.pointer (some ⟨g, o, none⟩), .agg #[.int .i64 ru, .int .i64 rn, .int .i64 3, .int .i64 t, .int .i64 rh, .int .i64 rp]] w fun E w' =>
   EffPost g o n lo τ0 w0 w' E (Sw.dropIt m ⟨ru, rn, 3, t, rh, rp⟩ (Sw.rowAt rows t) (Sw.dealAt m.deals t)) := by
 have hSw := hS
 obtain ⟨k0, k1, k2, k3, k4, k5, k6, kf⟩ := hS.at_
 have HS := Lib.hid hS
 have hLr := hS.ow.log.ow.rs
 have hDr := hS.ow.deals.ow.rs
 have hpn : aPn ≤ 4194304 := by have := hS.ow.purses.ow.1; have := (Sw.monOk_iff.1 hok.mon).1; omega
 have HL := Lib.hid (Sw.ownFold_some.1 hok.fold).1
 have HO := Lib.hid hok.fold
 have HK := Lib.hid hok
 have i0 : (0 : Int) ≤ (t : Int) := by omega
 have i1 : (t : Int) < 8 := by omega
 obtain ⟨ai, hat⟩ : ∃ z, z = Sw.dealIx m.deals t := ⟨_, rfl⟩
 have HA := Lib.hid hat
 clear hS hSw hok hat
 go_enter Tryz.func183, Tryz.ntmps183
 go_upto_region 1 with fail
 go_cut [5] (fun p wx => ∃ gb : Nat, p = .pointer (some ⟨gb, 0, none⟩) ∧ w.heap.size + 1 ≤ gb ∧ gb < wx.heap.size ∧ wx.cell? ⟨gb, 0, none⟩ = some (.int .i64 (Sw.rowAt rows t).who) ∧ wx.cell? ⟨gb, 1, none⟩ = some (.int .i64 (Sw.rowAt rows t).face) ∧ wx.cell? ⟨gb, 2, none⟩ = some (.bool (Sw.rowAt rows t).used) ∧ Ex (w.alloc (.cells #[.int .i64 ru, .int .i64 rn, .int .i64 3, .int .i64 t, .int .i64 rh, .int .i64 rp] 49)) wx)
 case first =>
   (focus (refine wn_ fun W0 hb0 hc0 hf0 hz0 => ?_; refine wp_regionX [] (S := fun w' => Held W0 w') hdH (fun hHeld => ?_); refine GoesX.take 0 8 [] hHeld (h := ?_); refine GoesX.take 1 9 [] hHeld (h := ?_); refine GoesX.take 2 10 [] hHeld (h := ?_); refine GoesX.take 4 12 [] hHeld (h := ?_); refine GoesX.take 5 13 [] hHeld (h := ?_); refine GoesX.ready (rs := [3, 8]) (by kernel_rfl) (by simp) ?_; refine EachX.cons rfl (fun K hK => ?_) ?_; rotate_left; refine EachX.cons rfl (fun K hK => ?_) EachX.nil; (focus (go_simp; refine outS hK hdH (h := ?_); clear hK K hHeld; intro hHeld; refine GoesX.one 3 (h := fun K hK => ?_); go_simp; (go_at_call 56; apply Calls.mono; apply (iRowsT_c (rows := rows) (t := t)); (apply Rs.at0 hLr; (exact kf_)); exact HO.out; exact ht; rintro E w1 ⟨gr, dr, rfl, ⟨hoR, hgR0, hgR, q0, q1, q2⟩, hb⟩; obtain ⟨hc, hf, hz⟩ := xy hb); (try go_wp2_with fail); refine outS hK hdH (h := ?_); clear hK K hHeld; intro hHeld; refine GoesX.take 6 14 [] hHeld (h := ?_); refine GoesX.one 7 (h := fun K hK => ?_); go_simp; refine outS hK hdH (h := ?_); clear hK K hHeld; intro hHeld; refine GoesX.one 9 (h := fun K hK => ?_); go_simp; refine outS hK hdH (h := ?_); clear hK K hHeld; intro hHeld; refine GoesX.done (by kernel_rfl) ?_ _; all_goals (obtain ⟨hb, hc, hf, hz⟩ := xh (by assumption : Held W0 _)))); rotate_right 1; (focus (go_simp; (go_at_call 56; apply Calls.mono; apply (iRowsT_c (rows := rows) (t := t)); (apply Rs.at0 hLr; (exact kf_)); exact HO.out; exact ht; rintro E w1 ⟨gr, dr, rfl, ⟨hoR, hgR0, hgR, q0, q1, q2⟩, hb⟩; obtain ⟨hc, hf, hz⟩ := xy hb); (try go_wp2_with fail); refine outS hK hdH (h := ?_); clear hK K hHeld; intro hHeld; refine GoesX.take 6 14 [] hHeld (h := ?_); refine GoesX.ready (rs := [7, 8]) (by kernel_rfl) (by simp) ?_; refine EachX.cons rfl (fun K hK => ?_) ?_; rotate_left; refine EachX.cons rfl (fun K hK => ?_) EachX.nil; (focus (go_simp; refine outS hK hdH (h := ?_); clear hK K hHeld; intro hHeld; refine GoesX.one 7 (h := fun K hK => ?_); go_simp; refine outS hK hdH (h := ?_); clear hK K hHeld; intro hHeld; refine GoesX.one 9 (h := fun K hK => ?_); go_simp; refine outS hK hdH (h := ?_); clear hK K hHeld; intro hHeld; refine GoesX.done (by kernel_rfl) ?_ _; all_goals (obtain ⟨hb, hc, hf, hz⟩ := xh (by assumption : Held W0 _)))); rotate_right 1; (focus (go_simp; refine outS hK hdH (h := ?_); clear hK K hHeld; intro hHeld; refine GoesX.one 8 (h := fun K hK => ?_); go_simp; refine outS hK hdH (h := ?_); clear hK K hHeld; intro hHeld; refine GoesX.one 9 (h := fun K hK => ?_); go_simp; refine outS hK hdH (h := ?_); clear hK K hHeld; intro hHeld; refine GoesX.done (by kernel_rfl) ?_ _; all_goals (obtain ⟨hb, hc, hf, hz⟩ := xh (by assumption : Held W0 _))))))))
   all_goals go_wp2_with fail
   all_goals go_meet
   all_goals exact ⟨_, rfl, sz_, sz_, co_, co_, co_, ext_⟩
 case rest =>
   obtain ⟨gb, rfl, hgb0, hgb1, q0, q1, q2, hb⟩ := hcut
   obtain ⟨hc, hf, hz⟩ := xy hb
   go_wp2_with fail
   (refine wn_ fun W0 hb0 hc0 hf0 hz0 => ?_; refine wp_region_held_drew (S := fun w' => Held W0 w') (by kernel_rfl) ?_ (fun hHeld => ?_); (focus ((try dsimp only); (exact hq_))); refine rT 0 16 (h := ?_); refine rT 1 17 (h := ?_); refine rT 2 18 (h := ?_); refine rT 3 19 (h := ?_); refine rT 4 20 (h := ?_); refine wpAnyH_ready (rs := [5]) (by kernel_rfl) (by simp) ?_; refine AllReadyH.cons rfl (fun K hK => ?_) ?_; rotate_left; (focus exact AllReadyH.nil); go_simp; (go_at_call 137; apply Calls.mono; apply iDeal_c; (apply Rs.at0 hDr; (exact kf_)); rintro E w2 ⟨rfl, hb⟩; rw [← HA.out]; obtain ⟨hc, hf, hz⟩ := xy hb); (try go_wp2_with fail); refine hK.out _ _ ?_ (fun hHeld => ?_); (focus ((try dsimp only); (exact hq_))); clear hK K; (try simp only [Act.put, pz_]); refine rT 6 6 (h := ?_); refine wpAnyH_done (by kernel_rfl) ?_ _; all_goals (obtain ⟨hb, hc, hf, hz⟩ := xh (by assumption : Held W0 _)))
   all_goals clear HK hpn HL HO hLr
   by_cases h1 : (Sw.rowAt rows t).who = ru
   case neg =>
     have g1 : ((Sw.rowAt rows t).who == ru) = false := by simpa using h1
     have e : Sw.dropIt m ⟨ru, rn, 3, t, rh, rp⟩ (Sw.rowAt rows t) (Sw.dealAt m.deals t) = (m, 2) := by unfold Sw.dropIt; rw [if_pos h1]
     have He := Lib.hid e; clear e h1
     go_wp2_with fail
     go_ret
     rw [He.out]
     exact ⟨_, _, _, _, _, _, _, _, _, _, _, _, _, _, _, τ, rfl, HS.out.ex ext_⟩
   have g1 : ((Sw.rowAt rows t).who == ru) = true := by simpa using h1
   cases h3 : Sw.dealAt m.deals t
   case none =>
     have e : Sw.dropIt m ⟨ru, rn, 3, t, rh, rp⟩ (Sw.rowAt rows t) (Sw.dealAt m.deals t) = (m, 3) := by rw [h3]; unfold Sw.dropIt; rw [if_neg (by simpa using h1)]
     have He := Lib.hid e
     obtain rfl : ai = -1 := HA.out.trans (dealIx_none h3)
     clear e h1 h3
     go_wp2_with fail
     go_ret
     rw [He.out]
     exact ⟨_, _, _, _, _, _, _, _, _, _, _, _, _, _, _, τ, rfl, HS.out.ex ext_⟩
   rename_i kd
   obtain ⟨d, hd, hdt⟩ := Sw.dealAt_some h3
   have hk : kd < aDn := by have := HS.out.ow.deals.ow.1; have := (List.getElem?_eq_some_iff.1 hd).1; omega
   obtain rfl : ai = (kd : Int) := HA.out.trans (dealIx_some h3)
   have hgd := Sw.getD_of (z := Sw.dealZ) hd
   obtain ⟨gD, y, rfl, hloD, hltD, hy, d0, d1, d2, d3, d4, hfD⟩ := at_OD HS.out.ow.deals.ow hk
   obtain rfl : y = d := Option.some.inj (hy.symm.trans hd)
   have j0 : (0 : Int) ≤ (kd : Int) := by omega
   have j1 : (kd : Int) < (aDn : Int) := by omega
   have j2 : ¬ (kd : Int) < 0 := by omega
   cases hh : Sw.held y
   case true =>
     have e : Sw.dropIt m ⟨ru, rn, 3, t, rh, rp⟩ (Sw.rowAt rows t) (Sw.dealAt m.deals t) = (m, 3) := by rw [h3]; unfold Sw.dropIt; rw [if_neg (by simpa using h1)]; dsimp only; rw [hgd, if_pos hh]
     have He := Lib.hid e
     clear e h1 h3 hd hdt hy hgd
     go_wp2_with (go_at_call 106; apply Calls.mono; apply (iHeld_c y); rintro E w4 ⟨rfl, hb⟩; rw [hh]; obtain ⟨hc, hf, hz⟩ := xy hb)
     go_ret
     rw [He.out]
     exact ⟨_, _, _, _, _, _, _, _, _, _, _, _, _, _, _, τ, rfl, HS.out.ex ext_⟩
   have e : Sw.dropIt m ⟨ru, rn, 3, t, rh, rp⟩ (Sw.rowAt rows t) (Sw.dealAt m.deals t) = ({ m with deals := m.deals.eraseIdx kd }, 1) := by rw [h3]; unfold Sw.dropIt; rw [if_neg (by simpa using h1)]; dsimp only; rw [hgd, if_neg (by simp [hh])]
   have He := Lib.hid e
   clear e h1 h3 hd hdt hy hgd
   go_wp2_with (go_at_call 106; apply Calls.mono; apply (iHeld_c y); rintro E w4 ⟨rfl, hb⟩; rw [hh]; obtain ⟨hc, hf, hz⟩ := xy hb)
   apply Calls.mono
   apply (iDropAt_c (HS.out.ex ext_) hk)
   rintro E w5 ⟨τ5, rfl, hm5⟩
   go_wp2
   go_ret
   rw [He.out]
   exact ⟨_, _, _, _, _, _, _, _, _, _, _, _, _, _, _, τ5, rfl, hm5⟩
theorem iEffect6_c (hS : MS g o n lo τ0 w0 aL aLc aLn aP aPc aPn aD aDc aDn aN aNc aNn aS aSc aSn m τ w) (ru rn : Int) (t : Nat) (rh rp : Int) {rows : List Sw.Row} (hok : Sw.MOk m rows) (ht : t < 8) (hu1 : 1 ≤ ru) (hu5 : ru ≤ 5) : Calls Tryz.prog 183 #[.pointer (some ⟨g, o, none⟩), .agg #[.int .i64 ru, .int .i64 rn, .int .i64 6, .int .i64 t, .int .i64 rh, .int .i64 rp]] w fun E w' =>
   EffPost g o n lo τ0 w0 w' E (Sw.enter m ⟨ru, rn, 6, t, rh, rp⟩ (Sw.rowAt rows t) (Sw.dealAt m.deals t)) := by
 have hSw := hS
 obtain ⟨k0, k1, k2, k3, k4, k5, k6, kf⟩ := hS.at_
 have HS := Lib.hid hS
 have hLr := hS.ow.log.ow.rs
 have hDr := hS.ow.deals.ow.rs
 have hpn : aPn ≤ 4194304 := by have := hS.ow.purses.ow.1; have := (Sw.monOk_iff.1 hok.mon).1; omega
 have HL := Lib.hid (Sw.ownFold_some.1 hok.fold).1
 have HO := Lib.hid hok.fold
 have HK := Lib.hid hok
 have i0 : (0 : Int) ≤ (t : Int) := by omega
 have i1 : (t : Int) < 8 := by omega
 obtain ⟨ai, hat⟩ : ∃ z, z = Sw.dealIx m.deals t := ⟨_, rfl⟩
 have HA := Lib.hid hat
 clear hS hSw hok hat
 go_enter Tryz.func183, Tryz.ntmps183
 go_upto_region 1 with fail
 go_cut [5] (fun p wx => ∃ gb : Nat, p = .pointer (some ⟨gb, 0, none⟩) ∧ w.heap.size + 1 ≤ gb ∧ gb < wx.heap.size ∧ wx.cell? ⟨gb, 0, none⟩ = some (.int .i64 (Sw.rowAt rows t).who) ∧ wx.cell? ⟨gb, 1, none⟩ = some (.int .i64 (Sw.rowAt rows t).face) ∧ wx.cell? ⟨gb, 2, none⟩ = some (.bool (Sw.rowAt rows t).used) ∧ Ex (w.alloc (.cells #[.int .i64 ru, .int .i64 rn, .int .i64 6, .int .i64 t, .int .i64 rh, .int .i64 rp] 49)) wx)
 case first =>
   (focus (refine wn_ fun W0 hb0 hc0 hf0 hz0 => ?_; refine wp_regionX [] (S := fun w' => Held W0 w') hdH (fun hHeld => ?_); refine GoesX.take 0 8 [] hHeld (h := ?_); refine GoesX.take 1 9 [] hHeld (h := ?_); refine GoesX.take 2 10 [] hHeld (h := ?_); refine GoesX.take 4 12 [] hHeld (h := ?_); refine GoesX.take 5 13 [] hHeld (h := ?_); refine GoesX.ready (rs := [3, 8]) (by kernel_rfl) (by simp) ?_; refine EachX.cons rfl (fun K hK => ?_) ?_; rotate_left; refine EachX.cons rfl (fun K hK => ?_) EachX.nil; (focus (go_simp; refine outS hK hdH (h := ?_); clear hK K hHeld; intro hHeld; refine GoesX.one 3 (h := fun K hK => ?_); go_simp; (go_at_call 56; apply Calls.mono; apply (iRowsT_c (rows := rows) (t := t)); (apply Rs.at0 hLr; (exact kf_)); exact HO.out; exact ht; rintro E w1 ⟨gr, dr, rfl, ⟨hoR, hgR0, hgR, q0, q1, q2⟩, hb⟩; obtain ⟨hc, hf, hz⟩ := xy hb); (try go_wp2_with fail); refine outS hK hdH (h := ?_); clear hK K hHeld; intro hHeld; refine GoesX.take 6 14 [] hHeld (h := ?_); refine GoesX.one 7 (h := fun K hK => ?_); go_simp; refine outS hK hdH (h := ?_); clear hK K hHeld; intro hHeld; refine GoesX.one 9 (h := fun K hK => ?_); go_simp; refine outS hK hdH (h := ?_); clear hK K hHeld; intro hHeld; refine GoesX.done (by kernel_rfl) ?_ _; all_goals (obtain ⟨hb, hc, hf, hz⟩ := xh (by assumption : Held W0 _)))); rotate_right 1; (focus (go_simp; (go_at_call 56; apply Calls.mono; apply (iRowsT_c (rows := rows) (t := t)); (apply Rs.at0 hLr; (exact kf_)); exact HO.out; exact ht; rintro E w1 ⟨gr, dr, rfl, ⟨hoR, hgR0, hgR, q0, q1, q2⟩, hb⟩; obtain ⟨hc, hf, hz⟩ := xy hb); (try go_wp2_with fail); refine outS hK hdH (h := ?_); clear hK K hHeld; intro hHeld; refine GoesX.take 6 14 [] hHeld (h := ?_); refine GoesX.ready (rs := [7, 8]) (by kernel_rfl) (by simp) ?_; refine EachX.cons rfl (fun K hK => ?_) ?_; rotate_left; refine EachX.cons rfl (fun K hK => ?_) EachX.nil; (focus (go_simp; refine outS hK hdH (h := ?_); clear hK K hHeld; intro hHeld; refine GoesX.one 7 (h := fun K hK => ?_); go_simp; refine outS hK hdH (h := ?_); clear hK K hHeld; intro hHeld; refine GoesX.one 9 (h := fun K hK => ?_); go_simp; refine outS hK hdH (h := ?_); clear hK K hHeld; intro hHeld; refine GoesX.done (by kernel_rfl) ?_ _; all_goals (obtain ⟨hb, hc, hf, hz⟩ := xh (by assumption : Held W0 _)))); rotate_right 1; (focus (go_simp; refine outS hK hdH (h := ?_); clear hK K hHeld; intro hHeld; refine GoesX.one 8 (h := fun K hK => ?_); go_simp; refine outS hK hdH (h := ?_); clear hK K hHeld; intro hHeld; refine GoesX.one 9 (h := fun K hK => ?_); go_simp; refine outS hK hdH (h := ?_); clear hK K hHeld; intro hHeld; refine GoesX.done (by kernel_rfl) ?_ _; all_goals (obtain ⟨hb, hc, hf, hz⟩ := xh (by assumption : Held W0 _))))))))
   all_goals go_wp2_with fail
   all_goals go_meet
   all_goals exact ⟨_, rfl, sz_, sz_, co_, co_, co_, ext_⟩
 case rest =>
   obtain ⟨gb, rfl, hgb0, hgb1, q0, q1, q2, hb⟩ := hcut
   obtain ⟨hc, hf, hz⟩ := xy hb
   go_wp2_with fail
   (refine wn_ fun W0 hb0 hc0 hf0 hz0 => ?_; refine wp_region_held_drew (S := fun w' => Held W0 w') (by kernel_rfl) ?_ (fun hHeld => ?_); (focus ((try dsimp only); (exact hq_))); refine rT 0 16 (h := ?_); refine rT 1 17 (h := ?_); refine rT 2 18 (h := ?_); refine rT 3 19 (h := ?_); refine rT 4 20 (h := ?_); refine wpAnyH_ready (rs := [5]) (by kernel_rfl) (by simp) ?_; refine AllReadyH.cons rfl (fun K hK => ?_) ?_; rotate_left; (focus exact AllReadyH.nil); go_simp; (go_at_call 137; apply Calls.mono; apply iDeal_c; (apply Rs.at0 hDr; (exact kf_)); rintro E w2 ⟨rfl, hb⟩; rw [← HA.out]; obtain ⟨hc, hf, hz⟩ := xy hb); (try go_wp2_with fail); refine hK.out _ _ ?_ (fun hHeld => ?_); (focus ((try dsimp only); (exact hq_))); clear hK K; (try simp only [Act.put, pz_]); refine rT 6 6 (h := ?_); refine wpAnyH_done (by kernel_rfl) ?_ _; all_goals (obtain ⟨hb, hc, hf, hz⟩ := xh (by assumption : Held W0 _)))
   all_goals clear HK hpn HO hLr
   have l1 := Lib.hid HS.out.ow.log.ow.1
   by_cases h1 : (Sw.rowAt rows t).who = ru
   case neg =>
     have g1 : ((Sw.rowAt rows t).who == ru) = false := by simpa using h1
     have e : Sw.enter m ⟨ru, rn, 6, t, rh, rp⟩ (Sw.rowAt rows t) (Sw.dealAt m.deals t) = (m, 2) := by unfold Sw.enter; rw [if_pos h1]
     have He := Lib.hid e; clear e h1
     go_wp2_with fail
     go_ret
     rw [He.out]
     exact ⟨_, _, _, _, _, _, _, _, _, _, _, _, _, _, _, τ, rfl, HS.out.ex ext_⟩
   have g1 : ((Sw.rowAt rows t).who == ru) = true := by simpa using h1
   cases h2 : (Sw.rowAt rows t).used
   case true =>
     have e : Sw.enter m ⟨ru, rn, 6, t, rh, rp⟩ (Sw.rowAt rows t) (Sw.dealAt m.deals t) = (m, 3) := by unfold Sw.enter; rw [if_neg (by simpa using h1), if_pos (.inl h2)]
     have He := Lib.hid e
     rw [h2] at q2
     clear e h1 h2
     go_wp2_with fail
     go_ret
     rw [He.out]
     exact ⟨_, _, _, _, _, _, _, _, _, _, _, _, _, _, _, τ, rfl, HS.out.ex ext_⟩
   have H2 := Lib.hid h2
   rw [h2] at q2
   cases h3 : Sw.dealAt m.deals t
   case some kd =>
     have e : Sw.enter m ⟨ru, rn, 6, t, rh, rp⟩ (Sw.rowAt rows t) (Sw.dealAt m.deals t) = (m, 3) := by rw [h3]; unfold Sw.enter; rw [if_neg (by simpa using h1), if_pos (.inr rfl)]
     have He := Lib.hid e
     obtain rfl : ai = (kd : Int) := HA.out.trans (dealIx_some h3)
     have j0 : (0 : Int) ≤ (kd : Int) := by omega
     clear e h1 h3 h2
     go_wp2_with fail
     go_ret
     rw [He.out]
     exact ⟨_, _, _, _, _, _, _, _, _, _, _, _, _, _, _, τ, rfl, HS.out.ex ext_⟩
   obtain rfl : ai = -1 := HA.out.trans (dealIx_none h3)
   by_cases h4 : m.log.length = 40
   · have e : Sw.enter m ⟨ru, rn, 6, t, rh, rp⟩ (Sw.rowAt rows t) (Sw.dealAt m.deals t) = (m, 6) := by rw [h3]; unfold Sw.enter; rw [if_neg (by simpa using h1), if_neg (by simp [h2]), if_pos h4]
     have He := Lib.hid e
     have h40 : aLn = 40 := by have := l1.out; omega
     clear e h1 h3 h2 h4
     go_wp2_with (go_at_call 228; apply Calls.mono; apply (iAppendN_c (HS.out.ex ext_) 3 t ru 0 h40); rintro E w4 ⟨rfl, hb⟩; obtain ⟨hc, hf, hz⟩ := xy hb)
     go_ret
     rw [He.out]
     exact ⟨_, _, _, _, _, _, _, _, _, _, _, _, _, _, _, τ, rfl, HS.out.ex ext_⟩
   have e : Sw.enter m ⟨ru, rn, 6, t, rh, rp⟩ (Sw.rowAt rows t) (Sw.dealAt m.deals t) = ({ m with log := m.log ++ [⟨3, t, ru, 0⟩] }, 1) := by rw [h3]; unfold Sw.enter; rw [if_neg (by simpa using h1), if_neg (by simp [h2]), if_neg h4]
   have He := Lib.hid e
   have hn40 : aLn < 40 := by have := l1.out; have := HL.out; omega
   clear e h1 h3 h2 h4
   go_wp2_with fail
   apply Calls.mono
   apply (iAppend_c (HS.out.ex ext_) 3 t ru 0 hn40)
   rintro E w5 ⟨A5, c5, τ5, rfl, hm5⟩
   go_wp2
   go_ret
   rw [He.out]
   exact ⟨_, _, _, _, _, _, _, _, _, _, _, _, _, _, _, τ5, rfl, hm5⟩
end
end Go.Proofs.YtnnoiagommiapaaGreat
