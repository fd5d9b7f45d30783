/- Texts joined: PtrG. -/
import Derived.Test.YtnnoiagommiapaaGreatPz3
import Derived.Test.YtnnoiagommiapaaGreatPz31
import Derived.Test.YtnnoiagommiapaaGreatPz25
import Derived.Deep.CutBlock
import Derived.Deep.DeepCutAuto
set_option maxRecDepth 100000
set_option linter.unusedSimpArgs false
set_option linter.unusedVariables false
namespace Go.Proofs.YtnnoiagommiapaaGreat
open Go.RowKit Go
set_option maxHeartbeats 8000000
theorem iRowsT_c (aL : Option Addr) (aLc aLn : Nat) (aP : Option Addr) (aPc aPn : Nat) (aD : Option Addr) (aDc aDn : Nat) (aN : Option Addr) (aNc aNn : Nat) (aS : Option Addr) (aSc aSn : Nat) (m : Sw.Mkt) (rows : List Sw.Row) (t : Nat) (w : World) (hL : RE w 0 aL aLc aLn m.log) (hf : Sw.ownFold m.log = some rows) (ht : t < 8) : Calls Tryz.prog 56 #[.agg #[.slice aL aLn aLc, .slice aP aPn aPc, .slice aD aDn aDc, .int .i64 m.clock, .slice aN aNn aNc, .slice aS aSn aSc]] w fun E w' => ∃ g c, E = .returned (.slice (some ⟨g, 0, none⟩) 8 c) ∧ (OwR w' w.heap.size (some ⟨g, 0, none⟩) c 8 rows ∧ w.heap.size ≤ g ∧ g < w'.heap.size ∧ w'.cell? ⟨g, t * 3, none⟩ = some (.int .i64 (Sw.rowAt rows t).who) ∧ w'.cell? ⟨g, t * 3 + 1, none⟩ = some (.int .i64 (Sw.rowAt rows t).face) ∧ w'.cell? ⟨g, t * 3 + 2, none⟩ = some (.bool (Sw.rowAt rows t).used)) ∧ Ex w w' := by
 refine (iRows_c aL aLc aLn aP aPc aPn aD aDc aDn aN aNc aNn aS aSc aSn m w hL).mono ?_
 rintro E w' ⟨A', c', n', rfl, ho, hb⟩
 rw [Sw.mktRows_of hf] at ho
 have h8 := Sw.ownOk_len (Sw.ownFold_ok hf)
 obtain rfl : n' = 8 := by rw [ho.1, h8]
 obtain ⟨g, x, rfl, hlo, hlt, hx, c0, c1, c2, hfz⟩ := at_OR ho ht
 have e : Sw.rowAt rows t = x := by unfold Sw.rowAt; rw [Int.toNat_natCast]; exact Sw.getD_of hx
 rw [e]
 exact ⟨g, c', rfl, ⟨ho, hlo, hlt, c0, c1, c2⟩, hb⟩
section
variable {g o n lo : Nat} {τ0 τ : Nat → Nat} {w0 w : World} {aL : Option Addr} {aLc aLn : Nat} {aP : Option Addr} {aPc aPn : Nat} {aD : Option Addr} {aDc aDn : Nat} {aN : Option Addr} {aNc aNn : Nat} {aS : Option Addr} {aSc aSn : Nat} {m : Sw.Mkt}
def EffPost (g o n lo : Nat) (τ0 : Nat → Nat) (w0 w' : World) (E : Ending) (x : Sw.Mkt × Int) : Prop := ∃ (bL : Option Addr) (bLc bLn : Nat) (bP : Option Addr) (bPc bPn : Nat) (bD : Option Addr) (bDc bDn : Nat) (bN : Option Addr) (bNc bNn : Nat) (bS : Option Addr) (bSc bSn : Nat) (τ' : Nat → Nat), E = .returned (.int .i64 x.2) ∧ MS g o n lo τ0 w0 bL bLc bLn bP bPc bPn bD bDc bDn bN bNc bNn bS bSc bSn x.1 τ' w'
theorem iEffect1_c (hS : MS g o n lo τ0 w0 aL aLc aLn aP aPc aPn aD aDc aDn aN aNc aNn aS aSc aSn m τ w) (ru rn : Int) (t : Nat) (rh rp : Int) {rows : List Sw.Row} (hok : Sw.MOk m rows) (ht : t < 8) (hu1 : 1 ≤ ru) (hu5 : ru ≤ 5) : Calls Tryz.prog 183 #[.pointer (some ⟨g, o, none⟩), .agg #[.int .i64 ru, .int .i64 rn, .int .i64 1, .int .i64 t, .int .i64 rh, .int .i64 rp]] w fun E w' =>
   EffPost g o n lo τ0 w0 w' E (Sw.issue m ⟨ru, rn, 1, t, rh, rp⟩ (Sw.rowAt rows t)) := by
 have hSw := hS
 obtain ⟨k0, k1, k2, k3, k4, k5, k6, kf⟩ := hS.at_
 have HS := Lib.hid hS
 have hLr := hS.ow.log.ow.rs
 have hDr := hS.ow.deals.ow.rs
 have hpn : aPn ≤ 4194304 := by have := hS.ow.purses.ow.1; have := (Sw.monOk_iff.1 hok.mon).1; omega
 have HL := Lib.hid (Sw.ownFold_some.1 hok.fold).1
 have HO := Lib.hid hok.fold
 have HK := Lib.hid hok
 have i0 : (0 : Int) ≤ (t : Int) := by omega
 have i1 : (t : Int) < 8 := by omega
 obtain ⟨ai, hat⟩ : ∃ z, z = Sw.dealIx m.deals t := ⟨_, rfl⟩
 have HA := Lib.hid hat
 clear hS hSw hok hat
 go_enter Tryz.func183, Tryz.ntmps183
 go_upto_region 1 with fail
 go_cut [5] (fun p wx => ∃ gb : Nat, p = .pointer (some ⟨gb, 0, none⟩) ∧ w.heap.size + 1 ≤ gb ∧ gb < wx.heap.size ∧ wx.cell? ⟨gb, 0, none⟩ = some (.int .i64 (Sw.rowAt rows t).who) ∧ wx.cell? ⟨gb, 1, none⟩ = some (.int .i64 (Sw.rowAt rows t).face) ∧ wx.cell? ⟨gb, 2, none⟩ = some (.bool (Sw.rowAt rows t).used) ∧ Ex (w.alloc (.cells #[.int .i64 ru, .int .i64 rn, .int .i64 1, .int .i64 t, .int .i64 rh, .int .i64 rp] 49)) wx)
 case first =>
   (focus (refine wn_ fun W0 hb0 hc0 hf0 hz0 => ?_; refine wp_regionX [] (S := fun w' => Held W0 w') hdH (fun hHeld => ?_); refine GoesX.take 0 8 [] hHeld (h := ?_); refine GoesX.take 1 9 [] hHeld (h := ?_); refine GoesX.take 2 10 [] hHeld (h := ?_); refine GoesX.take 4 12 [] hHeld (h := ?_); refine GoesX.take 5 13 [] hHeld (h := ?_); refine GoesX.ready (rs := [3, 8]) (by kernel_rfl) (by simp) ?_; refine EachX.cons rfl (fun K hK => ?_) ?_; rotate_left; refine EachX.cons rfl (fun K hK => ?_) EachX.nil; (focus (go_simp; refine outS hK hdH (h := ?_); clear hK K hHeld; intro hHeld; refine GoesX.one 3 (h := fun K hK => ?_); go_simp; (go_at_call 56; apply Calls.mono; apply (iRowsT_c (rows := rows) (t := t)); (apply Rs.at0 hLr; (exact kf_)); exact HO.out; exact ht; rintro E w1 ⟨gr, dr, rfl, ⟨hoR, hgR0, hgR, q0, q1, q2⟩, hb⟩; obtain ⟨hc, hf, hz⟩ := xy hb); (try go_wp2_with fail); refine outS hK hdH (h := ?_); clear hK K hHeld; intro hHeld; refine GoesX.take 6 14 [] hHeld (h := ?_); refine GoesX.one 7 (h := fun K hK => ?_); go_simp; refine outS hK hdH (h := ?_); clear hK K hHeld; intro hHeld; refine GoesX.one 9 (h := fun K hK => ?_); go_simp; refine outS hK hdH (h := ?_); clear hK K hHeld; intro hHeld; refine GoesX.done (by kernel_rfl) ?_ _; all_goals (obtain ⟨hb, hc, hf, hz⟩ := xh (by assumption : Held W0 _)))); rotate_right 1; (focus (go_simp; (go_at_call 56; apply Calls.mono; apply (iRowsT_c (rows := rows) (t := t)); (apply Rs.at0 hLr; (exact kf_)); exact HO.out; exact ht; rintro E w1 ⟨gr, dr, rfl, ⟨hoR, hgR0, hgR, q0, q1, q2⟩, hb⟩; obtain ⟨hc, hf, hz⟩ := xy hb); (try go_wp2_with fail); refine outS hK hdH (h := ?_); clear hK K hHeld; intro hHeld; refine GoesX.take 6 14 [] hHeld (h := ?_); refine GoesX.ready (rs := [7, 8]) (by kernel_rfl) (by simp) ?_; refine EachX.cons rfl (fun K hK => ?_) ?_; rotate_left; refine EachX.cons rfl (fun K hK => ?_) EachX.nil; (focus (go_simp; refine outS hK hdH (h := ?_); clear hK K hHeld; intro hHeld; refine GoesX.one 7 (h := fun K hK => ?_); go_simp; refine outS hK hdH (h := ?_); clear hK K hHeld; intro hHeld; refine GoesX.one 9 (h := fun K hK => ?_); go_simp; refine outS hK hdH (h := ?_); clear hK K hHeld; intro hHeld; refine GoesX.done (by kernel_rfl) ?_ _; all_goals (obtain ⟨hb, hc, hf, hz⟩ := xh (by assumption : Held W0 _)))); rotate_right 1; (focus (go_simp; refine outS hK hdH (h := ?_); clear hK K hHeld; intro hHeld; refine GoesX.one 8 (h := fun K hK => ?_); go_simp; refine outS hK hdH (h := ?_); clear hK K hHeld; intro hHeld; refine GoesX.one 9 (h := fun K hK => ?_); go_simp; refine outS hK hdH (h := ?_); clear hK K hHeld; intro hHeld; refine GoesX.done (by kernel_rfl) ?_ _; all_goals (obtain ⟨hb, hc, hf, hz⟩ := xh (by assumption : Held W0 _))))))))
   all_goals go_wp2_with fail
   all_goals go_meet
   all_goals exact ⟨_, rfl, sz_, sz_, co_, co_, co_, ext_⟩
 case rest =>
   obtain ⟨gb, rfl, hgb0, hgb1, q0, q1, q2, hb⟩ := hcut
   obtain ⟨hc, hf, hz⟩ := xy hb
   go_wp2_with fail
   (refine wn_ fun W0 hb0 hc0 hf0 hz0 => ?_; refine wp_region_held_drew (S := fun w' => Held W0 w') (by kernel_rfl) ?_ (fun hHeld => ?_); (focus ((try dsimp only); (exact hq_))); refine rT 0 16 (h := ?_); refine rT 1 17 (h := ?_); refine rT 2 18 (h := ?_); refine rT 3 19 (h := ?_); refine rT 4 20 (h := ?_); refine wpAnyH_ready (rs := [5]) (by kernel_rfl) (by simp) ?_; refine AllReadyH.cons rfl (fun K hK => ?_) ?_; rotate_left; (focus exact AllReadyH.nil); go_simp; (go_at_call 137; apply Calls.mono; apply iDeal_c; (apply Rs.at0 hDr; (exact kf_)); rintro E w2 ⟨rfl, hb⟩; rw [← HA.out]; obtain ⟨hc, hf, hz⟩ := xy hb); (try go_wp2_with fail); refine hK.out _ _ ?_ (fun hHeld => ?_); (focus ((try dsimp only); (exact hq_))); clear hK K; (try simp only [Act.put, pz_]); refine rT 6 6 (h := ?_); refine wpAnyH_done (by kernel_rfl) ?_ _; all_goals (obtain ⟨hb, hc, hf, hz⟩ := xh (by assumption : Held W0 _)))
   all_goals go_wp2_with fail
   apply Calls.mono
   apply (iIssue_c (HS.out.ex ext_) ru rn t rh rp (Sw.rowAt rows t) HL.out hpn)
   rintro E w5 ⟨bL, bLc, bLn, bP, bPc, bPn, bD, bDc, bDn, bN, bNc, bNn, bS, bSc, bSn, τ5, rfl, hm5⟩
   go_wp2
   go_ret
   exact ⟨_, _, _, _, _, _, _, _, _, _, _, _, _, _, _, τ5, rfl, hm5⟩
theorem iEffect4_c (hS : MS g o n lo τ0 w0 aL aLc aLn aP aPc aPn aD aDc aDn aN aNc aNn aS aSc aSn m τ w) (ru rn : Int) (t : Nat) (rh rp : Int) {rows : List Sw.Row} (hok : Sw.MOk m rows) (ht : t < 8) (hu1 : 1 ≤ ru) (hu5 : ru ≤ 5) : Calls Tryz.prog 183 #[.pointer (some ⟨g, o, none⟩), .agg #[.int .i64 ru, .int .i64 rn, .int .i64 4, .int .i64 t, .int .i64 rh, .int .i64 rp]] w fun E w' =>
   EffPost g o n lo τ0 w0 w' E (Sw.fund m ⟨ru, rn, 4, t, rh, rp⟩ (Sw.dealAt m.deals t)) := by
 have hSw := hS
 obtain ⟨k0, k1, k2, k3, k4, k5, k6, kf⟩ := hS.at_
 have HS := Lib.hid hS
 have hLr := hS.ow.log.ow.rs
 have hDr := hS.ow.deals.ow.rs
 have hpn : aPn ≤ 4194304 := by have := hS.ow.purses.ow.1; have := (Sw.monOk_iff.1 hok.mon).1; omega
 have HL := Lib.hid (Sw.ownFold_some.1 hok.fold).1
 have HO := Lib.hid hok.fold
 have HK := Lib.hid hok
 have i0 : (0 : Int) ≤ (t : Int) := by omega
 have i1 : (t : Int) < 8 := by omega
 obtain ⟨ai, hat⟩ : ∃ z, z = Sw.dealIx m.deals t := ⟨_, rfl⟩
 have HA := Lib.hid hat
 clear hS hSw hok hat
 go_enter Tryz.func183, Tryz.ntmps183
 go_upto_region 1 with fail
 go_cut [5] (fun p wx => ∃ gb : Nat, p = .pointer (some ⟨gb, 0, none⟩) ∧ w.heap.size + 1 ≤ gb ∧ gb < wx.heap.size ∧ wx.cell? ⟨gb, 0, none⟩ = some (.int .i64 (Sw.rowAt rows t).who) ∧ wx.cell? ⟨gb, 1, none⟩ = some (.int .i64 (Sw.rowAt rows t).face) ∧ wx.cell? ⟨gb, 2, none⟩ = some (.bool (Sw.rowAt rows t).used) ∧ Ex (w.alloc (.cells #[.int .i64 ru, .int .i64 rn, .int .i64 4, .int .i64 t, .int .i64 rh, .int .i64 rp] 49)) wx)
 case first =>
   (focus (refine wn_ fun W0 hb0 hc0 hf0 hz0 => ?_; refine wp_regionX [] (S := fun w' => Held W0 w') hdH (fun hHeld => ?_); refine GoesX.take 0 8 [] hHeld (h := ?_); refine GoesX.take 1 9 [] hHeld (h := ?_); refine GoesX.take 2 10 [] hHeld (h := ?_); refine GoesX.take 4 12 [] hHeld (h := ?_); refine GoesX.take 5 13 [] hHeld (h := ?_); refine GoesX.ready (rs := [3, 8]) (by kernel_rfl) (by simp) ?_; refine EachX.cons rfl (fun K hK => ?_) ?_; rotate_left; refine EachX.cons rfl (fun K hK => ?_) EachX.nil; (focus (go_simp; refine outS hK hdH (h := ?_); clear hK K hHeld; intro hHeld; refine GoesX.one 3 (h := fun K hK => ?_); go_simp; (go_at_call 56; apply Calls.mono; apply (iRowsT_c (rows := rows) (t := t)); (apply Rs.at0 hLr; (exact kf_)); exact HO.out; exact ht; rintro E w1 ⟨gr, dr, rfl, ⟨hoR, hgR0, hgR, q0, q1, q2⟩, hb⟩; obtain ⟨hc, hf, hz⟩ := xy hb); (try go_wp2_with fail); refine outS hK hdH (h := ?_); clear hK K hHeld; intro hHeld; refine GoesX.take 6 14 [] hHeld (h := ?_); refine GoesX.one 7 (h := fun K hK => ?_); go_simp; refine outS hK hdH (h := ?_); clear hK K hHeld; intro hHeld; refine GoesX.one 9 (h := fun K hK => ?_); go_simp; refine outS hK hdH (h := ?_); clear hK K hHeld; intro hHeld; refine GoesX.done (by kernel_rfl) ?_ _; all_goals (obtain ⟨hb, hc, hf, hz⟩ := xh (by assumption : Held W0 _)))); rotate_right 1; (focus (go_simp; (go_at_call 56; apply Calls.mono; apply (iRowsT_c (rows := rows) (t := t)); (apply Rs.at0 hLr; (exact kf_)); exact HO.out; exact ht; rintro E w1 ⟨gr, dr, rfl, ⟨hoR, hgR0, hgR, q0, q1, q2⟩, hb⟩; obtain ⟨hc, hf, hz⟩ := xy hb); (try go_wp2_with fail); refine outS hK hdH (h := ?_); clear hK K hHeld; intro hHeld; refine GoesX.take 6 14 [] hHeld (h := ?_); refine GoesX.ready (rs := [7, 8]) (by kernel_rfl) (by simp) ?_; refine EachX.cons rfl (fun K hK => ?_) ?_; rotate_left; refine EachX.cons rfl (fun K hK => ?_) EachX.nil; (focus (go_simp; refine outS hK hdH (h := ?_); clear hK K hHeld; intro hHeld; refine GoesX.one 7 (h := fun K hK => ?_); go_simp; refine outS hK hdH (h := ?_); clear hK K hHeld; intro hHeld; refine GoesX.one 9 (h := fun K hK => ?_); go_simp; refine outS hK hdH (h := ?_); clear hK K hHeld; intro hHeld; refine GoesX.done (by kernel_rfl) ?_ _; all_goals (obtain ⟨hb, hc, hf, hz⟩ := xh (by assumption : Held W0 _)))); rotate_right 1; (focus (go_simp; refine outS hK hdH (h := ?_); clear hK K hHeld; intro hHeld; refine GoesX.one 8 (h := fun K hK => ?_); go_simp; refine outS hK hdH (h := ?_); clear hK K hHeld; intro hHeld; refine GoesX.one 9 (h := fun K hK => ?_); go_simp; refine outS hK hdH (h := ?_); clear hK K hHeld; intro hHeld; refine GoesX.done (by kernel_rfl) ?_ _; all_goals (obtain ⟨hb, hc, hf, hz⟩ := xh (by assumption : Held W0 _))))))))
   all_goals go_wp2_with fail
   all_goals go_meet
   all_goals exact ⟨_, rfl, sz_, sz_, co_, co_, co_, ext_⟩
 case rest =>
   obtain ⟨gb, rfl, hgb0, hgb1, q0, q1, q2, hb⟩ := hcut
   obtain ⟨hc, hf, hz⟩ := xy hb
   go_wp2_with fail
   (refine wn_ fun W0 hb0 hc0 hf0 hz0 => ?_; refine wp_region_held_drew (S := fun w' => Held W0 w') (by kernel_rfl) ?_ (fun hHeld => ?_); (focus ((try dsimp only); (exact hq_))); refine rT 0 16 (h := ?_); refine rT 1 17 (h := ?_); refine rT 2 18 (h := ?_); refine rT 3 19 (h := ?_); refine rT 4 20 (h := ?_); refine wpAnyH_ready (rs := [5]) (by kernel_rfl) (by simp) ?_; refine AllReadyH.cons rfl (fun K hK => ?_) ?_; rotate_left; (focus exact AllReadyH.nil); go_simp; (go_at_call 137; apply Calls.mono; apply iDeal_c; (apply Rs.at0 hDr; (exact kf_)); rintro E w2 ⟨rfl, hb⟩; rw [← HA.out]; obtain ⟨hc, hf, hz⟩ := xy hb); (try go_wp2_with fail); refine hK.out _ _ ?_ (fun hHeld => ?_); (focus ((try dsimp only); (exact hq_))); clear hK K; (try simp only [Act.put, pz_]); refine rT 6 6 (h := ?_); refine wpAnyH_done (by kernel_rfl) ?_ _; all_goals (obtain ⟨hb, hc, hf, hz⟩ := xh (by assumption : Held W0 _)))
   all_goals go_wp2_with fail
   rw [HA.out]
   apply Calls.mono
   apply (iFund_c (HS.out.ex ext_) ru rn 4 t rh rp HK.out hu1 hu5)
   rintro E w5 ⟨bL, bLc, bLn, bP, bPc, bPn, bD, bDc, bDn, bN, bNc, bNn, bS, bSc, bSn, τ5, rfl, hm5⟩
   go_wp2
   go_ret
   exact ⟨_, _, _, _, _, _, _, _, _, _, _, _, _, _, _, τ5, rfl, hm5⟩
theorem iEffect5_c (hS : MS g o n lo τ0 w0 aL aLc aLn aP aPc aPn aD aDc aDn aN aNc aNn aS aSc aSn m τ w) (ru rn : Int) (t : Nat) (rh rp : Int) {rows : List Sw.Row} (hok : Sw.MOk m rows) (ht : t < 8) (hu1 : 1 ≤ ru) (hu5 : ru ≤ 5) : Calls Tryz.prog 183 #[.pointer (some ⟨g, o, none⟩), .agg #[.int .i64 ru, .int .i64 rn, .int .i64 5, .int .i64 t, .int .i64 rh, .int .i64 rp]] w fun E w' =>
   EffPost g o n lo τ0 w0 w' E (Sw.settle m ⟨ru, rn, 5, t, rh, rp⟩ (Sw.dealAt m.deals t)) := by
 have hSw := hS
 obtain ⟨k0, k1, k2, k3, k4, k5, k6, kf⟩ := hS.at_
 have HS := Lib.hid hS
 have hLr := hS.ow.log.ow.rs
 have hDr := hS.ow.deals.ow.rs
 have hpn : aPn ≤ 4194304 := by have := hS.ow.purses.ow.1; have := (Sw.monOk_iff.1 hok.mon).1; omega
 have HL := Lib.hid (Sw.ownFold_some.1 hok.fold).1
 have HO := Lib.hid hok.fold
 have HK := Lib.hid hok
 have i0 : (0 : Int) ≤ (t : Int) := by omega
 have i1 : (t : Int) < 8 := by omega
 obtain ⟨ai, hat⟩ : ∃ z, z = Sw.dealIx m.deals t := ⟨_, rfl⟩
 have HA := Lib.hid hat
 clear hS hSw hok hat
 go_enter Tryz.func183, Tryz.ntmps183
 go_upto_region 1 with fail
 go_cut [5] (fun p wx => ∃ gb : Nat, p = .pointer (some ⟨gb, 0, none⟩) ∧ w.heap.size + 1 ≤ gb ∧ gb < wx.heap.size ∧ wx.cell? ⟨gb, 0, none⟩ = some (.int .i64 (Sw.rowAt rows t).who) ∧ wx.cell? ⟨gb, 1, none⟩ = some (.int .i64 (Sw.rowAt rows t).face) ∧ wx.cell? ⟨gb, 2, none⟩ = some (.bool (Sw.rowAt rows t).used) ∧ Ex (w.alloc (.cells #[.int .i64 ru, .int .i64 rn, .int .i64 5, .int .i64 t, .int .i64 rh, .int .i64 rp] 49)) wx)
 case first =>
   (focus (refine wn_ fun W0 hb0 hc0 hf0 hz0 => ?_; refine wp_regionX [] (S := fun w' => Held W0 w') hdH (fun hHeld => ?_); refine GoesX.take 0 8 [] hHeld (h := ?_); refine GoesX.take 1 9 [] hHeld (h := ?_); refine GoesX.take 2 10 [] hHeld (h := ?_); refine GoesX.take 4 12 [] hHeld (h := ?_); refine GoesX.take 5 13 [] hHeld (h := ?_); refine GoesX.ready (rs := [3, 8]) (by kernel_rfl) (by simp) ?_; refine EachX.cons rfl (fun K hK => ?_) ?_; rotate_left; refine EachX.cons rfl (fun K hK => ?_) EachX.nil; (focus (go_simp; refine outS hK hdH (h := ?_); clear hK K hHeld; intro hHeld; refine GoesX.one 3 (h := fun K hK => ?_); go_simp; (go_at_call 56; apply Calls.mono; apply (iRowsT_c (rows := rows) (t := t)); (apply Rs.at0 hLr; (exact kf_)); exact HO.out; exact ht; rintro E w1 ⟨gr, dr, rfl, ⟨hoR, hgR0, hgR, q0, q1, q2⟩, hb⟩; obtain ⟨hc, hf, hz⟩ := xy hb); (try go_wp2_with fail); refine outS hK hdH (h := ?_); clear hK K hHeld; intro hHeld; refine GoesX.take 6 14 [] hHeld (h := ?_); refine GoesX.one 7 (h := fun K hK => ?_); go_simp; refine outS hK hdH (h := ?_); clear hK K hHeld; intro hHeld; refine GoesX.one 9 (h := fun K hK => ?_); go_simp; refine outS hK hdH (h := ?_); clear hK K hHeld; intro hHeld; refine GoesX.done (by kernel_rfl) ?_ _; all_goals (obtain ⟨hb, hc, hf, hz⟩ := xh (by assumption : Held W0 _)))); rotate_right 1; (focus (go_simp; (go_at_call 56; apply Calls.mono; apply (iRowsT_c (rows := rows) (t := t)); (apply Rs.at0 hLr; (exact kf_)); exact HO.out; exact ht; rintro E w1 ⟨gr, dr, rfl, ⟨hoR, hgR0, hgR, q0, q1, q2⟩, hb⟩; obtain ⟨hc, hf, hz⟩ := xy hb); (try go_wp2_with fail); refine outS hK hdH (h := ?_); clear hK K hHeld; intro hHeld; refine GoesX.take 6 14 [] hHeld (h := ?_); refine GoesX.ready (rs := [7, 8]) (by kernel_rfl) (by simp) ?_; refine EachX.cons rfl (fun K hK => ?_) ?_; rotate_left; refine EachX.cons rfl (fun K hK => ?_) EachX.nil; (focus (go_simp; refine outS hK hdH (h := ?_); clear hK K hHeld; intro hHeld; refine GoesX.one 7 (h := fun K hK => ?_); go_simp; refine outS hK hdH (h := ?_); clear hK K hHeld; intro hHeld; refine GoesX.one 9 (h := fun K hK => ?_); go_simp; refine outS hK hdH (h := ?_); clear hK K hHeld; intro hHeld; refine GoesX.done (by kernel_rfl) ?_ _; all_goals (obtain ⟨hb, hc, hf, hz⟩ := xh (by assumption : Held W0 _)))); rotate_right 1; (focus (go_simp; refine outS hK hdH (h := ?_); clear hK K hHeld; intro hHeld; refine GoesX.one 8 (h := fun K hK => ?_); go_simp; refine outS hK hdH (h := ?_); clear hK K hHeld; intro hHeld; refine GoesX.one 9 (h := fun K hK => ?_); go_simp; refine outS hK hdH (h := ?_); clear hK K hHeld; intro hHeld; refine GoesX.done (by kernel_rfl) ?_ _; all_goals (obtain ⟨hb, hc, hf, hz⟩ := xh (by assumption : Held W0 _))))))))
   all_goals go_wp2_with fail
   all_goals go_meet
   all_goals exact ⟨_, rfl, sz_, sz_, co_, co_, co_, ext_⟩
 case rest =>
   obtain ⟨gb, rfl, hgb0, hgb1, q0, q1, q2, hb⟩ := hcut
   obtain ⟨hc, hf, hz⟩ := xy hb
   go_wp2_with fail
   (refine wn_ fun W0 hb0 hc0 hf0 hz0 => ?_; refine wp_region_held_drew (S := fun w' => Held W0 w') (by kernel_rfl) ?_ (fun hHeld => ?_); (focus ((try dsimp only); (exact hq_))); refine rT 0 16 (h := ?_); refine rT 1 17 (h := ?_); refine rT 2 18 (h := ?_); refine rT 3 19 (h := ?_); refine rT 4 20 (h := ?_); refine wpAnyH_ready (rs := [5]) (by kernel_rfl) (by simp) ?_; refine AllReadyH.cons rfl (fun K hK => ?_) ?_; rotate_left; (focus exact AllReadyH.nil); go_simp; (go_at_call 137; apply Calls.mono; apply iDeal_c; (apply Rs.at0 hDr; (exact kf_)); rintro E w2 ⟨rfl, hb⟩; rw [← HA.out]; obtain ⟨hc, hf, hz⟩ := xy hb); (try go_wp2_with fail); refine hK.out _ _ ?_ (fun hHeld => ?_); (focus ((try dsimp only); (exact hq_))); clear hK K; (try simp only [Act.put, pz_]); refine rT 6 6 (h := ?_); refine wpAnyH_done (by kernel_rfl) ?_ _; all_goals (obtain ⟨hb, hc, hf, hz⟩ := xh (by assumption : Held W0 _)))
   all_goals go_wp2_with fail
   rw [HA.out]
   apply Calls.mono
   apply (iSettle_c (HS.out.ex ext_) ru rn 5 t rh rp HK.out)
   rintro E w5 ⟨bL, bLc, bLn, bP, bPc, bPn, bD, bDc, bDn, bN, bNc, bNn, bS, bSc, bSn, τ5, rfl, hm5⟩
   go_wp2
   go_ret
   exact ⟨_, _, _, _, _, _, _, _, _, _, _, _, _, _, _, τ5, rfl, hm5⟩
end
end Go.Proofs.YtnnoiagommiapaaGreat
