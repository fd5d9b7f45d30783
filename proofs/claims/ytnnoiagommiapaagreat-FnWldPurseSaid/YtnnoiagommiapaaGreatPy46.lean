/- Texts joined: WldH. -/
import Derived.Test.YtnnoiagommiapaaGreatPy42
import Derived.Test.YtnnoiagommiapaaGreatPy20
import Derived.Test.YtnnoiagommiapaaGreatPy13
set_option maxRecDepth 100000
set_option linter.unusedSimpArgs false
set_option linter.unusedVariables false
namespace Go.Proofs.YtnnoiagommiapaaGreat
open Go.RowKit Go
set_option maxHeartbeats 4000000
theorem sShow_c (aF : Option Addr) (aFc aFn : Nat) (aL : Option Addr) (aLc aLn : Nat) (aP : Option Addr) (aPc aPn : Nat) (aD : Option Addr) (aDc aDn : Nat) (aN : Option Addr) (aNc aNn : Nat) (aS : Option Addr) (aSc aSn : Nat) (aI : Option Addr) (aIc aIn : Nat) (aG : Option Addr) (aGc aGn : Nat) (aB : Option Addr) (aBc aBn : Nat) (x : Sw.World) (k t who : Int) (lo : Nat) (τ : Nat → Nat) (w : World) (hW : OwW fdS fpS τ w lo aF aFc aFn aL aLc aLn aP aPc aPn aD aDc aDn aN aNc aNn aS aSc aSn aI aIc aIn aG aGc aGn aB aBc aBn x) (hok : Sw.wldOk x = true) (hlo : lo ≤ w.heap.size) : Calls Tryz.prog 146 #[.agg #[.slice aF aFn aFc, .slice aL aLn aLc, .slice aP aPn aPc, .slice aD aDn aDc, .int .i64 x.market.clock, .slice aN aNn aNc, .slice aS aSn aSc, .slice aI aIn aIc, .slice aG aGn aGc, .slice aB aBn aBc], .int .i64 k, .int .i64 t, .int .i64 who] w fun E w' => WPost lo τ w w' (fun u => .tuple #[u, .int .i64 (Sw.showIt x k t who).2]) E (Sw.showIt x k t who).1 := by
 obtain ⟨-, -, hG2, -, -, hgok⟩ := wld_parts hok
 have hl4 := hW.gates.rg.len.1
 have L4 := Lib.hid (show aGn = 2 by omega)
 have hlog := Lib.hid hW.mkt.log.ow.1
 have hLc : aLn ≤ aLc := hW.mkt.log.ow.rs.2.le
 have hbL := Rs.big hW.mkt.log.ow.rs
 clear hl4 hG2
 cases g1 : Sw.inR k 0 1
 case false =>
   have e : Sw.showIt x k t who = (x, 0) := by simp [Sw.showIt, g1]
   rw [e]; clear e
   go_enter Tryz.func146, Tryz.ntmps146
   go_wp2_with fail
   (go_quiet ((first | (go_at_call 99; exact Calls.quiet_same (l1In_c _ _ _ _)))); all_goals (generalize hWq : World.drewN _ nq = W0; have hb0 := Ex.ofN hWq; clear hWq; obtain ⟨hc0, hf0, hz0⟩ := xy hb0))
   go_wp2_with fail
   refine bodyPost_ret (v := .tuple #[.agg #[.slice aF aFn aFc, .slice aL aLn aLc, .slice aP aPn aPc, .slice aD aDn aDc, .int .i64 x.market.clock, .slice aN aNn aNc, .slice aS aSn aSc, .slice aI aIn aIc, .slice aG aGn aGc, .slice aB aBn aBc], .int .i64 0]) (by simp [results, Tryz.results146, go_sem, *]) rfl ?_
   exact ⟨aF, aFc, aFn, aL, aLc, aLn, aP, aPc, aPn, aD, aDc, aDn, aN, aNc, aNn, aS, aSc, aSn, aI, aIc, aIn, aG, aGc, aGn, aB, aBc, aBn, rfl, fun w'' hz => ((hW.keepF kf_).zeros hz).rw_, ext_⟩
 cases g2 : Sw.inR t 0 7
 case false =>
   have e : Sw.showIt x k t who = (x, 0) := by simp [Sw.showIt, g2]
   rw [e]; clear e
   go_enter Tryz.func146, Tryz.ntmps146
   go_wp2_with fail
   (go_quiet ((first | (go_at_call 99; exact Calls.quiet_same (l1In_c _ _ _ _)))); all_goals (generalize hWq : World.drewN _ nq = W0; have hb0 := Ex.ofN hWq; clear hWq; obtain ⟨hc0, hf0, hz0⟩ := xy hb0))
   go_wp2_with fail
   refine bodyPost_ret (v := .tuple #[.agg #[.slice aF aFn aFc, .slice aL aLn aLc, .slice aP aPn aPc, .slice aD aDn aDc, .int .i64 x.market.clock, .slice aN aNn aNc, .slice aS aSn aSc, .slice aI aIn aIc, .slice aG aGn aGc, .slice aB aBn aBc], .int .i64 0]) (by simp [results, Tryz.results146, go_sem, *]) rfl ?_
   exact ⟨aF, aFc, aFn, aL, aLc, aLn, aP, aPc, aPn, aD, aDc, aDn, aN, aNc, aNn, aS, aSc, aSn, aI, aIc, aIn, aG, aGc, aGn, aB, aBc, aBn, rfl, fun w'' hz => ((hW.keepF kf_).zeros hz).rw_, ext_⟩
 have hk01 := Sw.inR_iff.1 g1
 have ht01 := Sw.inR_iff.1 g2
 obtain ⟨kk, rfl⟩ : ∃ kk : Nat, k = kk := ⟨k.toNat, by omega⟩
 obtain ⟨tt, rfl⟩ : ∃ tt : Nat, t = tt := ⟨t.toNat, by omega⟩
 obtain ⟨vg, hvg1, hvg2, hvg3⟩ := hW.gates.ex
 obtain ⟨gG, xg, rfl, hgG0, hgG1, hxg, c0, c1', c2', c3', hfG⟩ := at_OGV hvg1.ow (show kk < aGn by have := L4.out; omega)
 obtain ⟨y, hy2⟩ : ∃ y, x.gates[kk]? = some y := ⟨_, List.getElem?_eq_getElem (by have := L4.out; omega)⟩
 obtain ⟨e1, hdone⟩ := hvg3 kk xg y hxg hy2
 obtain ⟨xh, xA, xc, xn⟩ := xg
 dsimp only at e1 hdone c0 c1' c2' c3'
 subst e1
 have hyok := hgok y (List.mem_of_getElem? hy2)
 have hsz0 : 0 ≤ y.head.size := by
   have h1 := hyok
   simp only [Sw.gatOk, Sw.hedOk, Bool.and_eq_true] at h1
   exact (Sw.inR_iff.1 h1.1.1.1).1
 obtain ⟨ss, hss⟩ : ∃ ss : Nat, y.head.size = ss := ⟨y.head.size.toNat, by omega⟩
 rw [hss] at c0
 have hga : Sw.gateAt x kk = y := by unfold Sw.gateAt; rw [Int.toNat_natCast]; exact Sw.getD_of hy2
 have u1 : (0 : Int) ≤ (kk : Int) := by omega
 have u2 : (kk : Int) < (aGn : Int) := by have := L4.out; omega
 have HSS := Lib.hid hss
 have HGA := Lib.hid hga
 have HYK := Lib.hid hyok
 have HY2 := Lib.hid hy2
 have htt : tt < 8 := by omega
 have hkk : kk < 2 := by omega
 clear hss hga hyok hy2 hxg hgok hk01 ht01 hsz0 hvg1 hvg2 hvg3
 by_cases hgt : aLn < ss
 · have d1 : decide ((aLn : Int) < (ss : Int)) = true := by simp; omega
   have d2 : (aLn : Int) < (ss : Int) := by omega
   have e : Sw.showIt x kk tt who = (x, 0) := by
     unfold Sw.showIt
     rw [HGA.out, HSS.out, if_neg (by rw [g1, g2]; have := hlog.out; simp; omega)]
   rw [e]; clear e
   go_enter Tryz.func146, Tryz.ntmps146
   go_wp2_with fail
   (go_quiet ((first | (go_at_call 99; exact Calls.quiet_same (l1In_c _ _ _ _)))); all_goals (generalize hWq : World.drewN _ nq = W0; have hb0 := Ex.ofN hWq; clear hWq; obtain ⟨hc0, hf0, hz0⟩ := xy hb0))
   go_wp2_with fail
   refine bodyPost_ret (v := .tuple #[.agg #[.slice aF aFn aFc, .slice aL aLn aLc, .slice aP aPn aPc, .slice aD aDn aDc, .int .i64 x.market.clock, .slice aN aNn aNc, .slice aS aSn aSc, .slice aI aIn aIc, .slice (some ⟨gG, 0, none⟩) aGn aGc, .slice aB aBn aBc], .int .i64 0]) (by simp [results, Tryz.results146, go_sem, *]) rfl ?_
   exact ⟨aF, aFc, aFn, aL, aLc, aLn, aP, aPc, aPn, aD, aDc, aDn, aN, aNc, aNn, aS, aSc, aSn, aI, aIc, aIn, some ⟨gG, 0, none⟩, aGc, aGn, aB, aBc, aBn, rfl, fun w'' hz => ((hW.keepF kf_).zeros hz).rw_, ext_⟩
 have d1 : decide ((aLn : Int) < (ss : Int)) = false := by simp; omega
 have d2 : ¬ (aLn : Int) < (ss : Int) := by omega
 have z1 : (ss : Int) ≤ (aLc : Int) := by omega
 have z2 : (0 : Int) ≤ (ss : Int) := by omega
 have z3 : ss ≤ aLc := by omega
 have hT := Rs.take hW.mkt.log.rs (fun _ => rfl) (k := ss) (by omega)
 have hG := hW.glueL (τ' := fun _ => 0) (Nat.le_refl _)
 have hcond : (Sw.inR (kk : Int) 0 1 && Sw.inR (tt : Int) 0 7 && decide (y.head.size ≤ (x.market.log.length : Int))) = true := by
   rw [g1, g2, HSS.out]; have := hlog.out; simp; omega
 cases hf : Sw.ownFold (x.market.log.take ss) with
 | none =>
   have e : Sw.showIt x kk tt who = (x, 0) := by
     unfold Sw.showIt
     rw [HGA.out, if_pos hcond, HSS.out, Int.toNat_natCast, hf]
   rw [e]
   have HF := Lib.hid hf
   clear e hf hcond
   go_enter Tryz.func146, Tryz.ntmps146
   go_wp2_with fail
   (go_quiet ((first | (go_at_call 99; exact Calls.quiet_same (l1In_c _ _ _ _)))); all_goals (generalize hWq : World.drewN _ nq = W0; have hb0 := Ex.ofN hWq; clear hWq; obtain ⟨hc0, hf0, hz0⟩ := xy hb0))
   go_wp2_with fail
   (focus (refine wn_ fun W0 hb0 hc0 hf0 hz0 => ?_; refine wp_regionX [] (S := fun w' => Held W0 w') hdH (fun hHeld => ?_); refine GoesX.take 0 38 [] hHeld (h := ?_); refine GoesX.take 1 39 [] hHeld (h := ?_); refine GoesX.take 2 40 [] hHeld (h := ?_); refine GoesX.take 3 41 [] hHeld (h := ?_); refine GoesX.take 4 42 [] hHeld (h := ?_); refine GoesX.take 5 43 [] hHeld (h := ?_); refine GoesX.take 6 44 [] hHeld (h := ?_); refine GoesX.take 7 45 [] hHeld (h := ?_); refine GoesX.take 8 46 [] hHeld (h := ?_); refine GoesX.take 9 47 [] hHeld (h := ?_); refine GoesX.take 10 48 [] hHeld (h := ?_); refine GoesX.one 11 (h := fun K hK => ?_); go_simp; (go_at_call 177; apply Calls.mono; apply (sOwnFold_c (xs := x.market.log.take ss)); (apply Rs.at0 hT; (exact kf_)); rintro E w1 ⟨A1, c1, n1, rfl, hoR, hb⟩; rw [HF.out]; obtain ⟨hc, hf, hz⟩ := xy hb); (try go_wp2_with fail); refine outS hK hdH (h := ?_); clear hK K hHeld; intro hHeld; refine GoesX.take 12 37 [] hHeld (h := ?_); refine GoesX.take 13 50 [] hHeld (h := ?_); refine GoesX.take 14 51 [] hHeld (h := ?_); refine GoesX.take 15 10 [] hHeld (h := ?_); refine GoesX.take 16 11 [] hHeld (h := ?_); refine GoesX.done (by kernel_rfl) ?_ _; all_goals (obtain ⟨hb, hc, hf, hz⟩ := xh (by assumption : Held W0 _))))
   go_wp2_with fail
   refine bodyPost_ret (v := .tuple #[.agg #[.slice aF aFn aFc, .slice aL aLn aLc, .slice aP aPn aPc, .slice aD aDn aDc, .int .i64 x.market.clock, .slice aN aNn aNc, .slice aS aSn aSc, .slice aI aIn aIc, .slice (some ⟨gG, 0, none⟩) aGn aGc, .slice aB aBn aBc], .int .i64 0]) (by simp [results, Tryz.results146, go_sem, *]) rfl ?_
   exact ⟨aF, aFc, aFn, aL, aLc, aLn, aP, aPc, aPn, aD, aDc, aDn, aN, aNc, aNn, aS, aSc, aSn, aI, aIc, aIn, some ⟨gG, 0, none⟩, aGc, aGn, aB, aBc, aBn, rfl, fun w'' hz => ((hW.keepF kf_).zeros hz).rw_, ext_⟩
 | some rows =>
   have h8 := Sw.ownOk_len (Sw.ownFold_ok hf)
   obtain ⟨row, hrow⟩ : ∃ row, rows[tt]? = some row := ⟨_, List.getElem?_eq_getElem (by omega)⟩
   have hra : Sw.rowAt rows tt = row := by unfold Sw.rowAt; rw [Int.toNat_natCast]; exact Sw.getD_of hrow
   obtain ⟨z, hz0⟩ : ∃ z, z = Sw.gatShow ⟨y.head, y.done⟩ tt who row (Sw.ownProof rows tt) := ⟨_, rfl⟩
   have e : Sw.showIt x kk tt who = if z.2 = true then ({ x with gates := x.gates.set kk z.1 }, 1) else (x, 3) := by
     unfold Sw.showIt
     rw [HGA.out, if_pos hcond, HSS.out, Int.toNat_natCast, hf]
     dsimp only
     rw [hra, Int.toNat_natCast, hz0]
   have hzf : z.2 = false → x.gates.set kk z.1 = x.gates := fun h => by
     have hz1 : z.1 = y := by
       rw [hz0] at h ⊢
       unfold Sw.gatShow at h ⊢
       rw [if_pos HYK.out] at h ⊢
       split at h
       · cases h
       · rw [if_neg (by assumption)]
     rw [hz1]
     apply List.ext_getElem?
     intro i
     rw [List.getElem?_set]
     split
     · rename_i e
       subst e
       rw [if_pos (List.getElem?_eq_some_iff.1 HY2.out).1, HY2.out]
     · rfl
   have HE := Lib.hid e
   have HZ := Lib.hid hz0
   have HZF := Lib.hid hzf
   have HF := Lib.hid hf
   have H8 := Lib.hid h8
   have HROW := Lib.hid hrow
   clear e hf hcond hz0 hzf h8 hrow hra
   go_enter Tryz.func146, Tryz.ntmps146
   go_wp2_with fail
   (go_quiet ((first | (go_at_call 99; exact Calls.quiet_same (l1In_c _ _ _ _)))); all_goals (generalize hWq : World.drewN _ nq = W0; have hb0 := Ex.ofN hWq; clear hWq; obtain ⟨hc0, hf0, hz0⟩ := xy hb0))
   go_wp2_with fail
   (focus (refine wn_ fun W0 hb0 hc0 hf0 hz0 => ?_; refine wp_regionX [] (S := fun w' => Held W0 w') hdH (fun hHeld => ?_); refine GoesX.take 0 38 [] hHeld (h := ?_); refine GoesX.take 1 39 [] hHeld (h := ?_); refine GoesX.take 2 40 [] hHeld (h := ?_); refine GoesX.take 3 41 [] hHeld (h := ?_); refine GoesX.take 4 42 [] hHeld (h := ?_); refine GoesX.take 5 43 [] hHeld (h := ?_); refine GoesX.take 6 44 [] hHeld (h := ?_); refine GoesX.take 7 45 [] hHeld (h := ?_); refine GoesX.take 8 46 [] hHeld (h := ?_); refine GoesX.take 9 47 [] hHeld (h := ?_); refine GoesX.take 10 48 [] hHeld (h := ?_); refine GoesX.one 11 (h := fun K hK => ?_); go_simp; (go_at_call 177; apply Calls.mono; apply (sOwnFold_c (xs := x.market.log.take ss)); (apply Rs.at0 hT; (exact kf_)); rintro E w1 ⟨A1, c1, n1, rfl, hoR, hb⟩; rw [HF.out] at hoR; rw [HF.out]; obtain ⟨hc, hf, hz⟩ := xy hb); (try go_wp2_with fail); refine outS hK hdH (h := ?_); clear hK K hHeld; intro hHeld; refine GoesX.take 12 37 [] hHeld (h := ?_); refine GoesX.take 13 50 [] hHeld (h := ?_); refine GoesX.take 14 51 [] hHeld (h := ?_); refine GoesX.take 15 10 [] hHeld (h := ?_); refine GoesX.take 16 11 [] hHeld (h := ?_); refine GoesX.done (by kernel_rfl) ?_ _; all_goals (obtain ⟨hb, hc, hf, hz⟩ := xh (by assumption : Held W0 _))))
   obtain rfl : n1 = 8 := by have := hoR.1; have := H8.out; simp at *; omega
   obtain ⟨gR, row', rfl, hgR0, hgR1, hrow', dR0, dR1, dR2, hfR⟩ := at_OR hoR htt
   obtain rfl : row' = row := by have h := HROW.out; rw [Option.getD_some] at hrow'; rw [hrow'] at h; exact Option.some.inj h
   have hoR1 : OwR w1 _ (some ⟨gR, 0, none⟩) c1 8 rows := hoR
   have ut : (0 : Int) ≤ (tt : Int) := by omega
   have ut2 : (tt : Int) < 8 := by omega
   clear hrow' hoR
   go_upto_region 6 with fail
   (refine wn_ fun W0 hb0 hc0 hf0 hz0 => ?_)
   have p0 : W0.cell? ⟨w.heap.size, 0, none⟩ = some (.slice aF aFn aFc) := (co_); have p1 : W0.cell? ⟨w.heap.size, 1, none⟩ = some (.slice aL aLn aLc) := (co_); have p2 : W0.cell? ⟨w.heap.size, 2, none⟩ = some (.slice aP aPn aPc) := (co_); have p3 : W0.cell? ⟨w.heap.size, 3, none⟩ = some (.slice aD aDn aDc) := (co_); have p4 : W0.cell? ⟨w.heap.size, 4, none⟩ = some (.int .i64 x.market.clock) := (co_); have p5 : W0.cell? ⟨w.heap.size, 5, none⟩ = some (.slice aN aNn aNc) := (co_); have p6 : W0.cell? ⟨w.heap.size, 6, none⟩ = some (.slice aS aSn aSc) := (co_); have p7 : W0.cell? ⟨w.heap.size, 7, none⟩ = some (.slice aI aIn aIc) := (co_); have p8 : W0.cell? ⟨w.heap.size, 8, none⟩ = some (.slice (some ⟨gG, 0, none⟩) aGn aGc) := (co_); have p9 : W0.cell? ⟨w.heap.size, 9, none⟩ = some (.slice aB aBn aBc) := (co_)
   have pf : ∀ i : Nat, W0.frozen? ⟨w.heap.size, i, none⟩ = false := fun i => co_
   have s0 : W0.cell? ⟨gG, kk * 4, none⟩ = some (.int .i64 y.head.size) := by rw [HSS.out]; (go_simp; first | done | simp [*])
   have s1 : W0.cell? ⟨gG, kk * 4 + 1, none⟩ = some (.int .i64 y.head.log) := co_
   have s2 : W0.cell? ⟨gG, kk * 4 + 2, none⟩ = some (.int .i64 y.head.own) := co_
   have s3 : W0.cell? ⟨gG, kk * 4 + 3, none⟩ = some (.slice xA xn xc) := co_
   have sf : ∀ i : Nat, W0.frozen? ⟨gG, i, none⟩ = false := fun i => co_
   have t0 : W0.cell? ⟨gR, tt * 3, none⟩ = some (.int .i64 row'.who) := co_
   have t1 : W0.cell? ⟨gR, tt * 3 + 1, none⟩ = some (.int .i64 row'.face) := co_
   have t2 : W0.cell? ⟨gR, tt * 3 + 2, none⟩ = some (.bool row'.used) := co_
   have hLr : Lb W0 (w.heap.size + 1) 10 := lbc_
   have hRq : RR W0 0 (some ⟨gR, 0, none⟩) c1 8 rows := by apply Ow.rs0 hoR1; (exact kf_)
   have hGq := hG.keepF (show KF lo w W0 from kf_)
   have hdq : RI W0 0 xA xc xn y.done := hdone.rs.at0 kf_
   have hcq : Ex w W0 := ext_
   have hzq : w.heap.size + 2 ≤ W0.heap.size := sz_
   have hgRq : gR < W0.heap.size := sz_
   clear hb0 hc0 hf0
   obtain ⟨Wq, hWq⟩ : ∃ z, z = W0 := ⟨_, rfl⟩
   subst hWq
   obtain ⟨hcz, hfz⟩ := Lb.rules hLr
   (focus (refine wn_ fun W0 hb0 hc0 hf0 hz0 => ?_; refine wp_regionX [] (S := fun w' => Held W0 w') hdH (fun hHeld => ?_); refine GoesX.take 0 56 [] hHeld (h := ?_); refine GoesX.take 1 57 [] hHeld (h := ?_); refine GoesX.take 2 58 [] hHeld (h := ?_); refine GoesX.take 3 59 [] hHeld (h := ?_); refine GoesX.take 4 60 [] hHeld (h := ?_); refine GoesX.take 5 61 [] hHeld (h := ?_); refine GoesX.take 6 62 [] hHeld (h := ?_); refine GoesX.take 7 63 [] hHeld (h := ?_); refine GoesX.take 8 64 [] hHeld (h := ?_); refine GoesX.take 9 65 [] hHeld (h := ?_); refine GoesX.take 10 66 [] hHeld (h := ?_); refine GoesX.take 11 67 [] hHeld (h := ?_); refine GoesX.take 12 68 [] hHeld (h := ?_); refine GoesX.ready (rs := [13, 18]) (by kernel_rfl) (by simp) ?_; refine EachX.cons rfl (fun K hK => ?_) ?_; rotate_left; refine EachX.cons rfl (fun K hK => ?_) EachX.nil; (focus (go_simp; refine outS hK hdH (h := ?_); clear hK K hHeld; intro hHeld; refine GoesX.one 13 (h := fun K hK => ?_); go_simp; (go_at_call 208; apply Calls.mono; apply (sOwnProof_c (xs := rows) (t := tt)); (apply Rs.at0 hRq; (exact kf_)); omega; rintro E w3 ⟨A3, c3, n3, rfl, hoP, hb⟩; obtain ⟨hc, hf, hz⟩ := xy hb); (try go_wp2_with fail); refine outS hK hdH (h := ?_); clear hK K hHeld; intro hHeld; refine GoesX.one 14 (h := fun K hK => ?_); go_simp; (go_at_call 207; apply Calls.mono; apply (sGatShow_c (t := y.head) (xs := y.done) (k := tt) (who := who) (r := row') (ps := Sw.ownProof rows tt)); (apply Rs.at0 hdq; (exact kf_)); (apply Ow.rs0 hoP; (exact kf_)); rintro E w5 ⟨B3, d3, n5, rfl, hoD, hb⟩; rw [← HZ.out] at hoD; rw [← HZ.out]; obtain ⟨hc, hf, hz⟩ := xy hb); (try go_wp2_with fail); refine outS hK hdH (h := ?_); clear hK K hHeld; intro hHeld; refine GoesX.take 15 55 [] hHeld (h := ?_); refine GoesX.take 16 71 [] hHeld (h := ?_); refine GoesX.take 17 72 [] hHeld (h := ?_); refine GoesX.one 19 (h := fun K hK => ?_); go_simp; refine outS hK hdH (h := ?_); clear hK K hHeld; intro hHeld; refine GoesX.take 20 13 [] hHeld (h := ?_); refine GoesX.done (by kernel_rfl) ?_ _; all_goals (obtain ⟨hb, hc, hf, hz⟩ := xh (by assumption : Held W0 _)))); rotate_right 1; (focus (go_simp; (go_at_call 208; apply Calls.mono; apply (sOwnProof_c (xs := rows) (t := tt)); (apply Rs.at0 hRq; (exact kf_)); omega; rintro E w3 ⟨A3, c3, n3, rfl, hoP, hb⟩; obtain ⟨hc, hf, hz⟩ := xy hb); (try go_wp2_with fail); refine outS hK hdH (h := ?_); clear hK K hHeld; intro hHeld; refine GoesX.ready (rs := [14, 18]) (by kernel_rfl) (by simp) ?_; refine EachX.cons rfl (fun K hK => ?_) ?_; rotate_left; refine EachX.cons rfl (fun K hK => ?_) EachX.nil; (focus (go_simp; refine outS hK hdH (h := ?_); clear hK K hHeld; intro hHeld; refine GoesX.one 14 (h := fun K hK => ?_); go_simp; (go_at_call 207; apply Calls.mono; apply (sGatShow_c (t := y.head) (xs := y.done) (k := tt) (who := who) (r := row') (ps := Sw.ownProof rows tt)); (apply Rs.at0 hdq; (exact kf_)); (apply Ow.rs0 hoP; (exact kf_)); rintro E w5 ⟨B3, d3, n5, rfl, hoD, hb⟩; rw [← HZ.out] at hoD; rw [← HZ.out]; obtain ⟨hc, hf, hz⟩ := xy hb); (try go_wp2_with fail); refine outS hK hdH (h := ?_); clear hK K hHeld; intro hHeld; refine GoesX.take 15 55 [] hHeld (h := ?_); refine GoesX.take 16 71 [] hHeld (h := ?_); refine GoesX.take 17 72 [] hHeld (h := ?_); refine GoesX.one 19 (h := fun K hK => ?_); go_simp; refine outS hK hdH (h := ?_); clear hK K hHeld; intro hHeld; refine GoesX.take 20 13 [] hHeld (h := ?_); refine GoesX.done (by kernel_rfl) ?_ _; all_goals (obtain ⟨hb, hc, hf, hz⟩ := xh (by assumption : Held W0 _)))); rotate_right 1; (focus (go_simp; (go_at_call 207; apply Calls.mono; apply (sGatShow_c (t := y.head) (xs := y.done) (k := tt) (who := who) (r := row') (ps := Sw.ownProof rows tt)); (apply Rs.at0 hdq; (exact kf_)); (apply Ow.rs0 hoP; (exact kf_)); rintro E w5 ⟨B3, d3, n5, rfl, hoD, hb⟩; rw [← HZ.out] at hoD; rw [← HZ.out]; obtain ⟨hc, hf, hz⟩ := xy hb); (try go_wp2_with fail); refine outS hK hdH (h := ?_); clear hK K hHeld; intro hHeld; refine GoesX.take 15 55 [] hHeld (h := ?_); refine GoesX.take 16 71 [] hHeld (h := ?_); refine GoesX.take 17 72 [] hHeld (h := ?_); refine GoesX.one 18 (h := fun K hK => ?_); go_simp; refine outS hK hdH (h := ?_); clear hK K hHeld; intro hHeld; refine GoesX.one 19 (h := fun K hK => ?_); go_simp; refine outS hK hdH (h := ?_); clear hK K hHeld; intro hHeld; refine GoesX.take 20 13 [] hHeld (h := ?_); refine GoesX.done (by kernel_rfl) ?_ _; all_goals (obtain ⟨hb, hc, hf, hz⟩ := xh (by assumption : Held W0 _))))))))
   all_goals go_upto_region 7 with fail
   all_goals (refine wn_ fun W0 hb0 hc0 hf0 hz0 => ?_)
   all_goals have hoD0 : OwI W0 _ B3 d3 n5 z.1.done := hoD.keep kf_
   all_goals have hexr : Ex Wq W0 := ext_
   all_goals have hbx : Ch (BX w.heap.size (w.heap.size + 2)) (setCells W0 gG (kk * 4) (GV.enc ⟨z.1.head, B3, d3, n5⟩)) ((((W0.setCell ⟨gG, kk * 4, none⟩ (.int .i64 z.1.head.size)).setCell ⟨gG, kk * 4 + 1, none⟩ (.int .i64 z.1.head.log)).setCell ⟨gG, kk * 4 + 2, none⟩ (.int .i64 z.1.head.own)).setCell ⟨gG, kk * 4 + 3, none⟩ (.slice B3 n5 d3)) := Ch.refl _ _
   all_goals have hgup : UpT lo τ gG := hW.gates_up ⟨gG, 0, none⟩ rfl
   all_goals have hexU : Ch (UpT lo τ) w ((((W0.setCell ⟨gG, kk * 4, none⟩ (.int .i64 z.1.head.size)).setCell ⟨gG, kk * 4 + 1, none⟩ (.int .i64 z.1.head.log)).setCell ⟨gG, kk * 4 + 2, none⟩ (.int .i64 z.1.head.own)).setCell ⟨gG, kk * 4 + 3, none⟩ (.slice B3 n5 d3)) := cS (cS (cS (cS (Ex.ch (cE hexr hcq)) (.inl hgup) _) (.inl hgup) _) (.inl hgup) _) (.inl hgup) _
   all_goals (cases hz2 : z.2; (focus (go_wp2_with fail; refine bodyPost_ret (v := .tuple #[.agg #[.slice aF aFn aFc, .slice aL aLn aLc, .slice aP aPn aPc, .slice aD aDn aDc, .int .i64 x.market.clock, .slice aN aNn aNc, .slice aS aSn aSc, .slice aI aIn aIc, .slice (some ⟨gG, 0, none⟩) aGn aGc, .slice aB aBn aBc], .int .i64 3]) (by simp [results, Tryz.results146, go_sem, *]) rfl ?_; rw [HE.out, if_neg (by rw [hz2]; decide)]; refine ⟨aF, aFc, aFn, aL, aLc, aLn, aP, aPc, aPn, aD, aDc, aDn, aN, aNc, aNn, aS, aSc, aSn, aI, aIc, aIn, some ⟨gG, 0, none⟩, aGc, aGn, aB, aBc, aBn, rfl, fun w'' hz => ?_, ext_⟩; obtain ⟨v1, v2, v3, v4, v5⟩ := OwW.gated (w1 := W0) (y := z.1) (k0 := w.heap.size + 2) hGq rfl (by have := L4.out; omega) hexr (hoD0.less sz_) sz_ (by omega) (Zr.of (w := w) (g1 := w.heap.size + 2) (hbx.trans bx_) hz (Nat.le_refl _) (by omega)); rw [HZF.out hz2] at v4; exact ⟨v1, v2, v3, v4, v5⟩)); (focus (go_wp2_with fail; refine bodyPost_ret (v := .tuple #[.agg #[.slice aF aFn aFc, .slice aL aLn aLc, .slice aP aPn aPc, .slice aD aDn aDc, .int .i64 x.market.clock, .slice aN aNn aNc, .slice aS aSn aSc, .slice aI aIn aIc, .slice (some ⟨gG, 0, none⟩) aGn aGc, .slice aB aBn aBc], .int .i64 1]) (by simp [results, Tryz.results146, go_sem, *]) rfl ?_; rw [HE.out, if_pos hz2]; refine ⟨aF, aFc, aFn, aL, aLc, aLn, aP, aPc, aPn, aD, aDc, aDn, aN, aNc, aNn, aS, aSc, aSn, aI, aIc, aIn, some ⟨gG, 0, none⟩, aGc, aGn, aB, aBc, aBn, rfl, fun w'' hz => ?_, ext_⟩; obtain ⟨v1, v2, v3, v4, v5⟩ := OwW.gated (w1 := W0) (y := z.1) (k0 := w.heap.size + 2) hGq rfl (by have := L4.out; omega) hexr (hoD0.less sz_) sz_ (by omega) (Zr.of (w := w) (g1 := w.heap.size + 2) (hbx.trans bx_) hz (Nat.le_refl _) (by omega)); exact ⟨v1, v2, v3, v4, v5⟩)))
end Go.Proofs.YtnnoiagommiapaaGreat
