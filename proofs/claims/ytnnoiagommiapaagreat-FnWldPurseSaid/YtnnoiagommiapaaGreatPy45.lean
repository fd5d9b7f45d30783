/- Texts joined: WldG. -/
import Derived.Test.YtnnoiagommiapaaGreatPy42
import Derived.Test.YtnnoiagommiapaaGreatPy23
set_option maxRecDepth 100000
set_option linter.unusedSimpArgs false
set_option linter.unusedVariables false
namespace Go.Proofs.YtnnoiagommiapaaGreat
open Go.RowKit Go
set_option maxHeartbeats 4000000
def bagDo (x : Sw.World) (kind i : Int) : Sw.World := if Sw.inR i 0 (x.bag.length - 1) then (if kind = 7 then Sw.twice x i else if kind = 5 then Sw.hear x i else Sw.lose x i) else x
theorem sBag_c (aF : Option Addr) (aFc aFn : Nat) (aL : Option Addr) (aLc aLn : Nat) (aP : Option Addr) (aPc aPn : Nat) (aD : Option Addr) (aDc aDn : Nat) (aN : Option Addr) (aNc aNn : Nat) (aS : Option Addr) (aSc aSn : Nat) (aI : Option Addr) (aIc aIn : Nat) (aG : Option Addr) (aGc aGn : Nat) (aB : Option Addr) (aBc aBn : Nat) (x : Sw.World) (kind i : Int) (lo : Nat) (τ : Nat → Nat) (w : World) (hW : OwW fdS fpS τ w lo aF aFc aFn aL aLc aLn aP aPc aPn aD aDc aDn aN aNc aNn aS aSc aSn aI aIc aIn aG aGc aGn aB aBc aBn x) (hok : Sw.wldOk x = true) (hlo : lo ≤ w.heap.size) : Calls Tryz.prog 145 #[.agg #[.slice aF aFn aFc, .slice aL aLn aLc, .slice aP aPn aPc, .slice aD aDn aDc, .int .i64 x.market.clock, .slice aN aNn aNc, .slice aS aSn aSc, .slice aI aIn aIc, .slice aG aGn aGc, .slice aB aBn aBc], .int .i64 kind, .int .i64 i] w fun E w' => WPost lo τ w w' (fun u => u) E (bagDo x kind i) := by
 obtain ⟨-, -, hG2, hB6, hmsg, -⟩ := wld_parts hok
 have hl4 := hW.gates.rg.len.1
 have hl5 := hW.bag.rx.len.1
 have L5 := Lib.hid hl5
 have hB4 : aBn ≤ 6 := by omega
 have L4 := Lib.hid (show aGn = 2 by omega)
 have hBb := hW.bag_lt
 have wv : IntKind.i64.wrap ((aBn : Int) - 1) = (aBn : Int) - 1 := IntWalk.i64_in _ (by omega)
 rw [show bagDo x kind i = if Sw.inR i 0 ((aBn : Int) - 1) then (if kind = 7 then Sw.twice x i else if kind = 5 then Sw.hear x i else Sw.lose x i) else x from by unfold bagDo; rw [hl5]]
 clear hl4 hG2 hl5
 cases g1 : Sw.inR i 0 ((aBn : Int) - 1)
 case false =>
   simp only [Bool.false_eq_true, if_false]
   go_enter Tryz.func145, Tryz.ntmps145
   go_wp2_with (first | (go_at_call 99; refine (l1In_c _ _ _ _).mono ?_; rintro E w' ⟨rfl, rfl⟩))
   refine bodyPost_ret (v := .agg #[.slice aF aFn aFc, .slice aL aLn aLc, .slice aP aPn aPc, .slice aD aDn aDc, .int .i64 x.market.clock, .slice aN aNn aNc, .slice aS aSn aSc, .slice aI aIn aIc, .slice aG aGn aGc, .slice aB aBn aBc]) (by simp [results, Tryz.results145, go_sem, *]) rfl ?_
   exact ⟨aF, aFc, aFn, aL, aLc, aLn, aP, aPc, aPn, aD, aDc, aDn, aN, aNc, aNn, aS, aSc, aSn, aI, aIc, aIn, aG, aGc, aGn, aB, aBc, aBn, rfl, fun w'' hz => ((hW.keepF kf_).zeros hz).rw_, ext_⟩
 simp only [if_true]
 have hi01 := Sw.inR_iff.1 g1
 obtain ⟨ii, rfl⟩ : ∃ ii : Nat, i = ii := ⟨i.toNat, by omega⟩
 have hii : ii < aBn := by omega
 have hG := hW.glueL (τ' := fun _ => 0) (Nat.le_refl _)
 obtain ⟨vs0, hu1, hu2, hu3⟩ := hW.bag.ex
 obtain ⟨gg, xv, rfl, hg0, hg1, hxv, q0, q1, q2, q3, q4, hfB⟩ := at_OXV hu1.ow hii
 obtain ⟨m, hy⟩ : ∃ m, x.bag[ii]? = some m := ⟨_, List.getElem?_eq_getElem (by have := L5.out; omega)⟩
 obtain ⟨em1, em2, hprf⟩ := hu3 ii xv m hxv hy
 obtain ⟨xvg, xvh, B1, d1, m1⟩ := xv
 dsimp only at em1 em2 hprf q0 q1 q2 q3 q4
 subst em1 em2
 have hr := hprf.rs
 have hmo := hmsg m (List.mem_of_getElem? hy)
 have hma : Sw.msgAt x ii = m := by unfold Sw.msgAt; rw [Int.toNat_natCast]; exact Sw.getD_of hy
 have HMA := Lib.hid hma
 have HMO := Lib.hid hmo
 have HMG := Lib.hid (show ∃ mgk : Nat, m.gate = mgk ∧ mgk < 2 from by
   have h1 := hmo
   simp only [Sw.msgOk, Bool.and_eq_true] at h1
   have h2 := Sw.inR_iff.1 h1.1.1
   exact ⟨m.gate.toNat, by omega, by omega⟩)
 have HY := Lib.hid hy
 have t1 : (0 : Int) ≤ (ii : Int) := by omega
 have t2 : (ii : Int) < (aBn : Int) := by omega
 clear hy hma hmo hmsg hi01 hu1 hu2 hu3 hxv hfB
 by_cases k7 : kind = 7
 · subst k7
   simp only [if_true]
   by_cases g2 : aBn = 6
   · have g2' : ¬ (aBn : Int) < 6 := by omega
     have e : Sw.twice x ii = x := by unfold Sw.twice; rw [if_neg (by rw [← L5.out]; omega)]
     rw [e]; clear e g2
     go_enter Tryz.func145, Tryz.ntmps145
     go_wp2_with (first | (go_at_call 99; refine (l1In_c _ _ _ _).mono ?_; rintro E w' ⟨rfl, rfl⟩))
     refine bodyPost_ret (v := .agg #[.slice aF aFn aFc, .slice aL aLn aLc, .slice aP aPn aPc, .slice aD aDn aDc, .int .i64 x.market.clock, .slice aN aNn aNc, .slice aS aSn aSc, .slice aI aIn aIc, .slice aG aGn aGc, .slice (some ⟨gg, 0, none⟩) aBn aBc]) (by simp [results, Tryz.results145, go_sem, *]) rfl ?_
     exact ⟨aF, aFc, aFn, aL, aLc, aLn, aP, aPc, aPn, aD, aDc, aDn, aN, aNc, aNn, aS, aSc, aSn, aI, aIc, aIn, aG, aGc, aGn, some ⟨gg, 0, none⟩, aBc, aBn, rfl, fun w'' hz => ((hW.keepF kf_).zeros hz).rw_, ext_⟩
   have g2' : (aBn : Int) < 6 := by omega
   have e : Sw.twice x ii = { x with bag := x.bag ++ [m] } := by unfold Sw.twice; rw [if_pos (by rw [← L5.out]; omega), HMA.out]
   rw [e]; clear e g2
   have hm1 : m1 ≤ 4194304 := by
     have h1 := HMO.out
     have h2 := hr.1
     simp only [Sw.msgOk, Sw.treOk, Bool.and_eq_true, decide_eq_true_eq] at h1
     omega
   obtain ⟨mg, mh, mp⟩ := m
   dsimp only at q0 q1 q2 q3 q4 hr
   go_enter Tryz.func145, Tryz.ntmps145
   go_upto_region 6 with (first | (go_at_call 99; refine (l1In_c _ _ _ _).mono ?_; rintro E w' ⟨rfl, rfl⟩))
   (refine wn_ fun W0 hb0 hc0 hf0 hz0 => ?_)
   have p0 : W0.cell? ⟨w.heap.size, 0, none⟩ = some (.slice aF aFn aFc) := (co_); have p1 : W0.cell? ⟨w.heap.size, 1, none⟩ = some (.slice aL aLn aLc) := (co_); have p2 : W0.cell? ⟨w.heap.size, 2, none⟩ = some (.slice aP aPn aPc) := (co_); have p3 : W0.cell? ⟨w.heap.size, 3, none⟩ = some (.slice aD aDn aDc) := (co_); have p4 : W0.cell? ⟨w.heap.size, 4, none⟩ = some (.int .i64 x.market.clock) := (co_); have p5 : W0.cell? ⟨w.heap.size, 5, none⟩ = some (.slice aN aNn aNc) := (co_); have p6 : W0.cell? ⟨w.heap.size, 6, none⟩ = some (.slice aS aSn aSc) := (co_); have p7 : W0.cell? ⟨w.heap.size, 7, none⟩ = some (.slice aI aIn aIc) := (co_); have p8 : W0.cell? ⟨w.heap.size, 8, none⟩ = some (.slice aG aGn aGc) := (co_); have p9 : W0.cell? ⟨w.heap.size, 9, none⟩ = some (.slice (some ⟨gg, 0, none⟩) aBn aBc) := (co_)
   have pf : ∀ i : Nat, W0.frozen? ⟨w.heap.size, i, none⟩ = false := fun i => co_
   have hLr : Lb W0 (w.heap.size + 1) 10 := lbc_
   have r0 : W0.cell? ⟨w.heap.size + 1 + 1, 0, none⟩ = some (.int .i64 mg) := (co_); have r1 : W0.cell? ⟨w.heap.size + 1 + 1, 1, none⟩ = some (.int .i64 mh.size) := (co_); have r2 : W0.cell? ⟨w.heap.size + 1 + 1, 2, none⟩ = some (.int .i64 mh.log) := (co_); have r3 : W0.cell? ⟨w.heap.size + 1 + 1, 3, none⟩ = some (.int .i64 mh.own) := (co_); have r4 : W0.cell? ⟨w.heap.size + 1 + 1, 4, none⟩ = some (.slice B1 m1 d1) := (co_)
   have hGq := hG.keepF (show KF lo w W0 from kf_)
   have hrq : RI W0 0 B1 d1 m1 mp := hr.at0 kf_
   have hcq : Ex w W0 := ext_
   have hzq : w.heap.size + 3 ≤ W0.heap.size := sz_
   clear hb0 hc0 hf0
   obtain ⟨Wq, hWq⟩ : ∃ z, z = W0 := ⟨_, rfl⟩
   subst hWq
   obtain ⟨vs, hv1, hv2, hv3⟩ := hGq.bag.ex
   have HV3 := Lib.hid hv3
   have HV2 := Lib.hid hv2
   clear hv3 hv2
   obtain ⟨hcz, hfz⟩ := Lb.rules hLr
   (focus (refine wn_ fun W0 hb0 hc0 hf0 hz0 => ?_; refine wp_regionX [5, 6, 7] (S := fun w' => Held W0 w') hdH (fun hHeld => ?_); refine GoesX.take 0 29 [1, 5, 6, 7] hHeld (h := ?_); refine GoesX.take 1 30 [5, 6, 7] hHeld (h := ?_); refine GoesX.take 2 31 [3, 4, 5, 6, 7] hHeld (h := ?_); refine GoesX.one 3 (h := fun K hK => ?_); go_simp; (go_at_call 149; apply Calls.mono; apply (sMsg_c (q := mg) (t := mh) (xs := mp)); (apply Rs.at0 hrq; (exact kf_)); omega; rintro E w3 ⟨B2, d2, rfl, hoP, hb⟩; obtain ⟨hc, hf, hz⟩ := xy hb); (try go_wp2_with fail); refine outS hK hdH (h := ?_); clear hK K hHeld; intro hHeld; refine GoesX.one 4 (h := fun K hK => ?_); go_simp; refine outS hK hdH (h := ?_); clear hK K hHeld; intro hHeld; refine GoesX.oneX 5 (h := fun K hK => ?_); (apply step_app (lo := lo) el_X one_X rfl rfl rfl rfl; (exact Ow.keep hv1.ow kf_); (refine Rs.new [⟨mg, mh, B2, d2, m1⟩] (by (first | with_reducible rfl | (simp only [zq_]; done) | (simp only [zq_]; omega))) rfl rfl (fun _ => rfl) (by omega)); omega; (exact sz_); intro A1 c1 w4 ho1 hch1 hat1 hex1 hlow1; clear hex1 hlow1; obtain ⟨hC0, hG0⟩ := Ch.atA_keep hch1 (g := w.heap.size) (by exact sz_) (fun a ha => by have := hBb a ha; omega); obtain ⟨hC1, hG1⟩ := Ch.atA_keep hch1 (g := w.heap.size + 1) (by exact sz_) (fun a ha => by have := hBb a ha; omega); have hzA := hch1.size; (try simp only [zq_] at hzA)); refine outX hK (h := ?_); clear hK K; refine GoesX.takeX 6 35 (h := ?_); refine GoesX.oneX 7 (h := fun K hK => ?_); go_simp; refine outX hK (h := ?_); clear hK K; refine GoesX.done (by kernel_rfl) ?_ _))
   go_wp2_with fail
   refine bodyPost_ret (v := .agg #[.slice aF aFn aFc, .slice aL aLn aLc, .slice aP aPn aPc, .slice aD aDn aDc, .int .i64 x.market.clock, .slice aN aNn aNc, .slice aS aSn aSc, .slice aI aIn aIc, .slice aG aGn aGc, .slice A1 (aBn + 1) c1]) (by simp [results, Tryz.results145, go_sem, *]) rfl ?_
   have hbl := hW.bag_up
   have hS := Ch.trans' (show Ch (UpT lo τ) w _ from ext_) hch1 (fun i _ ⟨a, ha, e⟩ => by rw [e]; exact hbl a ha)
   exact ⟨aF, aFc, aFn, aL, aLc, aLn, aP, aPc, aPn, aD, aDc, aDn, aN, aNc, aNn, aS, aSc, aSn, aI, aIc, aIn, aG, aGc, aGn, A1, c1, aBn + 1, rfl, fun w'' hz => OwW.sent (m := ⟨mg, mh, mp⟩) hGq hv1 HV2.out HV3.out (by exact ext_) ((hoP.keep kf_).less sz_) sz_ ho1 hch1 hat1 (Zr.of (g1 := w.heap.size + 2) bx_ hz sz_ sz_), ext_⟩
 have k7' : (kind == 7) = false := by simp [k7]
 rw [if_neg k7]
 have hcap : aBn ≤ aBc := hW.bag.cap
 have hc4 : aBc ≤ 9223372036854775807 := hW.bag.capm
 have z1 : (ii : Int) ≤ (aBc : Int) := by omega
 have z2 : (ii : Int) + 1 ≤ (aBn : Int) := by omega
 have z3 : (aBn : Int) ≤ (aBc : Int) := by omega
 have z4 : (0 : Int) ≤ (ii : Int) + 1 := by omega
 have wv2 : IntKind.i64.wrap ((ii : Int) + 1) = (ii : Int) + 1 := IntWalk.i64_in _ (by omega)
 by_cases hcc : aBc = ii + 1
 · obtain rfl : aBn = ii + 1 := by omega
   subst hcc
   have z5 : (ii : Int) ≤ (ii : Int) + 1 := by omega
   have g1' : Sw.inR (ii : Int) 0 (ii : Int) = true := Sw.inR_iff.2 (by omega)
   go_enter Tryz.func145, Tryz.ntmps145
   go_upto_region 8 with (first | (go_at_call 99; refine (l1In_c _ _ _ _).mono ?_; rintro E w' ⟨rfl, rfl⟩))
   (refine wn_ fun W0 hb0 hc0 hf0 hz0 => ?_)
   have p0 : W0.cell? ⟨w.heap.size, 0, none⟩ = some (.slice aF aFn aFc) := (co_); have p1 : W0.cell? ⟨w.heap.size, 1, none⟩ = some (.slice aL aLn aLc) := (co_); have p2 : W0.cell? ⟨w.heap.size, 2, none⟩ = some (.slice aP aPn aPc) := (co_); have p3 : W0.cell? ⟨w.heap.size, 3, none⟩ = some (.slice aD aDn aDc) := (co_); have p4 : W0.cell? ⟨w.heap.size, 4, none⟩ = some (.int .i64 x.market.clock) := (co_); have p5 : W0.cell? ⟨w.heap.size, 5, none⟩ = some (.slice aN aNn aNc) := (co_); have p6 : W0.cell? ⟨w.heap.size, 6, none⟩ = some (.slice aS aSn aSc) := (co_); have p7 : W0.cell? ⟨w.heap.size, 7, none⟩ = some (.slice aI aIn aIc) := (co_); have p8 : W0.cell? ⟨w.heap.size, 8, none⟩ = some (.slice aG aGn aGc) := (co_); have p9 : W0.cell? ⟨w.heap.size, 9, none⟩ = some (.slice (some ⟨gg, 0, none⟩) (ii + 1) (ii + 1)) := (co_)
   have pf : ∀ i : Nat, W0.frozen? ⟨w.heap.size, i, none⟩ = false := fun i => co_
   have hLr : Lb W0 (w.heap.size + 1) 10 := lbc_
   have r0 : W0.cell? ⟨w.heap.size + 1 + 1, 0, none⟩ = some (.int .i64 m.gate) := (co_); have r1 : W0.cell? ⟨w.heap.size + 1 + 1, 1, none⟩ = some (.int .i64 m.head.size) := (co_); have r2 : W0.cell? ⟨w.heap.size + 1 + 1, 2, none⟩ = some (.int .i64 m.head.log) := (co_); have r3 : W0.cell? ⟨w.heap.size + 1 + 1, 3, none⟩ = some (.int .i64 m.head.own) := (co_); have r4 : W0.cell? ⟨w.heap.size + 1 + 1, 4, none⟩ = some (.slice B1 m1 d1) := (co_)
   have hGq := hG.keepF (show KF lo w W0 from kf_)
   have hrq : RI W0 0 B1 d1 m1 m.proof := hr.at0 kf_
   have hcq : Ex w W0 := ext_
   have hzq : w.heap.size + 3 ≤ W0.heap.size := sz_
   clear hb0 hc0 hf0
   obtain ⟨Wq, hWq⟩ : ∃ z, z = W0 := ⟨_, rfl⟩
   subst hWq
   obtain ⟨vs, hv1, hv2, hv3⟩ := hGq.bag.ex
   have HV3 := Lib.hid hv3
   have HV2 := Lib.hid hv2
   have hT := Rs.take hv1.ow.rs (fun _ => rfl) (k := ii) (by omega)
   have hD := Rs.drop hv1.ow.rs (fun _ => rfl) (k := ii + 1) (by omega)
   clear hv3 hv2
   obtain ⟨hcz, hfz⟩ := Lb.rules hLr
   rw [if_pos rfl] at hD
   simp only [Nat.sub_self] at hD
   go_wp2_with fail
   (focus (refine wn_ fun W0 hb0 hc0 hf0 hz0 => ?_; refine wp_regionX [13] (S := fun w' => Held W0 w') hdH (fun hHeld => ?_); refine GoesX.take 1 38 [2, 4, 5, 11, 12, 13] hHeld (h := ?_); refine GoesX.take 2 39 [4, 5, 11, 12, 13] hHeld (h := ?_); refine GoesX.take 3 40 [4, 5, 11, 12, 13] hHeld (h := ?_); refine GoesX.take 4 41 [5, 11, 12, 13] hHeld (h := ?_); refine GoesX.take 6 43 [7, 10, 11, 12, 13] hHeld (h := ?_); refine GoesX.take 7 44 [10, 11, 12, 13] hHeld (h := ?_); refine GoesX.take 8 45 [9, 10, 11, 12, 13] hHeld (h := ?_); refine GoesX.take 9 46 [10, 11, 12, 13] hHeld (h := ?_); refine GoesX.take 10 47 [11, 12, 13] hHeld (h := ?_); refine GoesX.one 0 (h := fun K hK => ?_); go_simp; refine outS hK hdH (h := ?_); clear hK K hHeld; intro hHeld; refine GoesX.one 5 (h := fun K hK => ?_); (first | (apply step_app (lo := W0.heap.size) el_X one_X rfl rfl rfl rfl; (exact Nw.ow nw_ sz_); (apply Rs.at0 hT; exact kf_); omega; (exact sz_); intro A1 c1 w3 ho1 hch1 hat1 hex1 hlow1; have hHeldX := Held.of (hex1 (fun _ => False) W0 (And.right (by assumption : Held W0 _)) (Nat.le_refl _)); have hgF := Ch.eqA hch1; obtain ⟨hcF, hfF, hzF⟩ := xd hgF; clear hex1 hlow1 hat1 hch1) | (apply step_app (lo := W0.heap.size) el_X one_X rfl rfl rfl rfl; (exact Ow.keep ho1 kf_); (apply Rs.at0 hD; exact kf_); omega; (exact sz_); intro A2 c2 w4 ho2 hch2 hat2 hex2 hlow2; have hexX := hex2 (fun _ => False) W0 (And.right (by assumption : Held W0 _)) (Nat.le_refl _); have hHeldX := Held.of hexX; obtain ⟨hcG, hfG, hzG⟩ := xy hexX; clear hex2 hlow2 hat2 hch2)); refine outS hK hdH (h := ?_); clear hK K hHeld; intro hHeld; refine GoesX.one 11 (h := fun K hK => ?_); (first | (apply step_app (lo := W0.heap.size) el_X one_X rfl rfl rfl rfl; (exact Nw.ow nw_ sz_); (apply Rs.at0 hT; exact kf_); omega; (exact sz_); intro A1 c1 w3 ho1 hch1 hat1 hex1 hlow1; have hHeldX := Held.of (hex1 (fun _ => False) W0 (And.right (by assumption : Held W0 _)) (Nat.le_refl _)); have hgF := Ch.eqA hch1; obtain ⟨hcF, hfF, hzF⟩ := xd hgF; clear hex1 hlow1 hat1 hch1) | (apply step_app (lo := W0.heap.size) el_X one_X rfl rfl rfl rfl; (exact Ow.keep ho1 kf_); (apply Rs.at0 hD; exact kf_); omega; (exact sz_); intro A2 c2 w4 ho2 hch2 hat2 hex2 hlow2; have hexX := hex2 (fun _ => False) W0 (And.right (by assumption : Held W0 _)) (Nat.le_refl _); have hHeldX := Held.of hexX; obtain ⟨hcG, hfG, hzG⟩ := xy hexX; clear hex2 hlow2 hat2 hch2)); refine outS hK hdH (h := ?_); clear hK K hHeld; intro hHeld; refine GoesX.take 12 49 [13] hHeld (h := ?_); refine GoesX.oneX 13 (h := fun K hK => ?_); go_simp; refine outX hK (h := ?_); clear hK K; refine GoesX.done (by kernel_rfl) ?_ _))
   by_cases k5 : kind = 5
   case neg =>
     have k5' : (kind == 5) = false := by simp [k5]
     go_wp2_with fail
     refine bodyPost_ret (v := .agg #[.slice aF aFn aFc, .slice aL aLn aLc, .slice aP aPn aPc, .slice aD aDn aDc, .int .i64 x.market.clock, .slice aN aNn aNc, .slice aS aSn aSc, .slice aI aIn aIc, .slice aG aGn aGc, .slice A2 (0 + ii + 0) c2]) (by simp [results, Tryz.results145, go_sem, *]) rfl ?_
     (try rw [if_neg k5])
     rw [show Sw.lose x (ii : Int) = { x with bag := x.bag.eraseIdx ii } from by unfold Sw.lose; rw [Int.toNat_natCast]]
     exact ⟨aF, aFc, aFn, aL, aLc, aLn, aP, aPc, aPn, aD, aDc, aDn, aN, aNc, aNn, aS, aSc, aSn, aI, aIc, aIn, aG, aGc, aGn, A2, c2, 0 + ii + 0, rfl, fun w'' hz => OwW.lost (w1 := w4) hGq hv1 HV2.out HV3.out (by exact ext_) (Zr.of (g1 := w.heap.size + 3) bx_ hz sz_ sz_) sz_ (by rw [List.nil_append] at ho2; exact ho2) sz_ (by omega) (by omega), ext_⟩
   case pos =>
     subst k5
     obtain ⟨mgk, hmgk, hmg2⟩ := HMG.out
     obtain ⟨vg, hvg1, hvg2, hvg3⟩ := hGq.gates.ex
     obtain ⟨gG, xg, rfl, hgG0, hgG1, hxg, c0, c1', c2', c3', hfG⟩ := at_OGV hvg1.ow (show mgk < aGn by have := L4.out; omega)
     obtain ⟨y, hy2⟩ : ∃ y, x.gates[mgk]? = some y := ⟨_, List.getElem?_eq_getElem (by have := L4.out; omega)⟩
     obtain ⟨e1, hdone⟩ := hvg3 mgk xg y hxg hy2
     obtain ⟨xh, xA, xc, xn⟩ := xg
     dsimp only at e1 hdone c0 c1' c2' c3'
     subst e1
     have hgx := hW.gates_lt _ rfl
     dsimp only at hgx
     obtain ⟨z, hz0⟩ : ∃ z, z = Sw.gatSync ⟨y.head, y.done⟩ m.head m.proof := ⟨_, rfl⟩
     have e : Sw.hear x ii = { x with gates := x.gates.set mgk z.1, bag := x.bag.eraseIdx ii } := by
       unfold Sw.hear Sw.heard Sw.lose
       rw [HMA.out, hmgk, Int.toNat_natCast, Int.toNat_natCast, hz0]
       have hga : Sw.gateAt { x with bag := x.bag.eraseIdx ii } mgk = y := by unfold Sw.gateAt; rw [Int.toNat_natCast]; exact Sw.getD_of hy2
       rw [hga]
     have HE := Lib.hid e
     have HZ := Lib.hid hz0
     have u1 : (0 : Int) ≤ (mgk : Int) := by omega
     have u2 : (mgk : Int) < (aGn : Int) := by have := L4.out; omega
     clear e hz0 hy2 hxg hvg1 hvg2 hvg3
     go_upto_region 10 with fail
     (refine wn_ fun W0 hb0 hc0 hf0 hz0 => ?_)
     have p0 : W0.cell? ⟨w.heap.size, 0, none⟩ = some (.slice aF aFn aFc) := (co_); have p1 : W0.cell? ⟨w.heap.size, 1, none⟩ = some (.slice aL aLn aLc) := (co_); have p2 : W0.cell? ⟨w.heap.size, 2, none⟩ = some (.slice aP aPn aPc) := (co_); have p3 : W0.cell? ⟨w.heap.size, 3, none⟩ = some (.slice aD aDn aDc) := (co_); have p4 : W0.cell? ⟨w.heap.size, 4, none⟩ = some (.int .i64 x.market.clock) := (co_); have p5 : W0.cell? ⟨w.heap.size, 5, none⟩ = some (.slice aN aNn aNc) := (co_); have p6 : W0.cell? ⟨w.heap.size, 6, none⟩ = some (.slice aS aSn aSc) := (co_); have p7 : W0.cell? ⟨w.heap.size, 7, none⟩ = some (.slice aI aIn aIc) := (co_); have p8 : W0.cell? ⟨w.heap.size, 8, none⟩ = some (.slice (some ⟨gG, 0, none⟩) aGn aGc) := (co_); have p9 : W0.cell? ⟨w.heap.size, 9, none⟩ = some (.slice A2 (0 + ii + 0) c2) := (co_)
     have pf : ∀ i : Nat, W0.frozen? ⟨w.heap.size, i, none⟩ = false := fun i => co_
     have r0 : W0.cell? ⟨w.heap.size + 1 + 1, 0, none⟩ = some (.int .i64 mgk) := by rw [← hmgk]; (go_simp; first | done | simp [*])
     have r1 : W0.cell? ⟨w.heap.size + 1 + 1, 1, none⟩ = some (.int .i64 m.head.size) := co_
     have r2 : W0.cell? ⟨w.heap.size + 1 + 1, 2, none⟩ = some (.int .i64 m.head.log) := co_
     have r3 : W0.cell? ⟨w.heap.size + 1 + 1, 3, none⟩ = some (.int .i64 m.head.own) := co_
     have r4 : W0.cell? ⟨w.heap.size + 1 + 1, 4, none⟩ = some (.slice B1 m1 d1) := co_
     have s0 : W0.cell? ⟨gG, mgk * 4, none⟩ = some (.int .i64 y.head.size) := co_
     have s1 : W0.cell? ⟨gG, mgk * 4 + 1, none⟩ = some (.int .i64 y.head.log) := co_
     have s2 : W0.cell? ⟨gG, mgk * 4 + 2, none⟩ = some (.int .i64 y.head.own) := co_
     have s3 : W0.cell? ⟨gG, mgk * 4 + 3, none⟩ = some (.slice xA xn xc) := co_
     have sf : ∀ i : Nat, W0.frozen? ⟨gG, i, none⟩ = false := fun i => co_
     have hexq : Ch (BX w.heap.size (w.heap.size + 3)) w4 W0 := bx_
     have hLr2 : Lb W0 (w.heap.size + 1) 10 := by
       refine Lb.ex ?_ hb0
       apply Lb.set
       exact Lb.ex hLr ext_
     have hZ : Ch (Zr (glue τ w.heap.size (fun _ => 0)) Wq.heap.size) w4 W0 := Zr.of (w := w) (g1 := w.heap.size + 3) hexq (Ch.refl _ _) sz_ sz_
     have hKr := hGq.still (show Ex Wq w4 from ext_) hZ
     have hGr := (hGq.keepF (show KF lo Wq w4 from kf_)).zeros hZ
     have hv1r := hv1.keep (hKr 9 (by decide))
     have HV3r := Lib.hid (msgs_keep HV3.out hKr)
     have hdr := (hdone.keep (hKr _ (by unfold fdS; omega))).rs
     have hpr := (((hprf.glueL (τ' := fun _ => 0) (Nat.le_refl _)).keepF (show KF lo w Wq from kE hcq (kR _ _))).keep (hKr _ (by unfold fpS; omega))).rs
     have ho2r := ho2.keep (show KF _ w4 W0 from kf_)
     have hzr : Wq.heap.size ≤ W0.heap.size := sz_
     have hcr : Ex w W0 := ext_
     clear hb0 hc0 hf0
     obtain ⟨Wr, hWr⟩ : ∃ z, z = W0 := ⟨_, rfl⟩
     subst hWr
     obtain ⟨hcz2, hfz2⟩ := Lb.rules hLr2
     (focus (refine wn_ fun W0 hb0 hc0 hf0 hz0 => ?_; refine wp_regionX [] (S := fun w' => Held W0 w') hdH (fun hHeld => ?_); refine GoesX.take 0 53 [] hHeld (h := ?_); refine GoesX.take 1 54 [] hHeld (h := ?_); refine GoesX.take 2 55 [] hHeld (h := ?_); refine GoesX.take 3 56 [] hHeld (h := ?_); refine GoesX.take 4 57 [] hHeld (h := ?_); refine GoesX.take 5 58 [] hHeld (h := ?_); refine GoesX.take 6 59 [] hHeld (h := ?_); refine GoesX.take 7 60 [] hHeld (h := ?_); refine GoesX.take 8 61 [] hHeld (h := ?_); refine GoesX.take 9 62 [] hHeld (h := ?_); refine GoesX.ready (rs := [10, 14]) (by kernel_rfl) (by simp) ?_; refine EachX.cons rfl (fun K hK => ?_) ?_; rotate_left; refine EachX.cons rfl (fun K hK => ?_) EachX.nil; (focus (go_simp; refine outS hK hdH (h := ?_); clear hK K hHeld; intro hHeld; refine GoesX.one 10 (h := fun K hK => ?_); go_simp; (go_at_call 206; apply Calls.mono; apply (sGatSync_c (t := y.head) (u := m.head) (xs := y.done) (ps := m.proof)); (apply Rs.at0 hdr; (exact kf_)); (apply Rs.at0 hpr; (exact kf_)); rintro E w5 ⟨B3, d3, n3, rfl, hoD, hb⟩; rw [← HZ.out] at hoD; rw [← HZ.out]; obtain ⟨hc, hf, hz⟩ := xy hb); (try go_wp2_with fail); refine outS hK hdH (h := ?_); clear hK K hHeld; intro hHeld; refine GoesX.take 11 52 [] hHeld (h := ?_); refine GoesX.take 12 64 [] hHeld (h := ?_); refine GoesX.take 13 65 [] hHeld (h := ?_); refine GoesX.one 15 (h := fun K hK => ?_); go_simp; refine outS hK hdH (h := ?_); clear hK K hHeld; intro hHeld; refine GoesX.take 16 9 [] hHeld (h := ?_); refine GoesX.done (by kernel_rfl) ?_ _; all_goals (obtain ⟨hb, hc, hf, hz⟩ := xh (by assumption : Held W0 _)))); rotate_right 1; (focus (go_simp; (go_at_call 206; apply Calls.mono; apply (sGatSync_c (t := y.head) (u := m.head) (xs := y.done) (ps := m.proof)); (apply Rs.at0 hdr; (exact kf_)); (apply Rs.at0 hpr; (exact kf_)); rintro E w5 ⟨B3, d3, n3, rfl, hoD, hb⟩; rw [← HZ.out] at hoD; rw [← HZ.out]; obtain ⟨hc, hf, hz⟩ := xy hb); (try go_wp2_with fail); refine outS hK hdH (h := ?_); clear hK K hHeld; intro hHeld; refine GoesX.take 11 52 [] hHeld (h := ?_); refine GoesX.take 12 64 [] hHeld (h := ?_); refine GoesX.take 13 65 [] hHeld (h := ?_); refine GoesX.one 14 (h := fun K hK => ?_); go_simp; refine outS hK hdH (h := ?_); clear hK K hHeld; intro hHeld; refine GoesX.one 15 (h := fun K hK => ?_); go_simp; refine outS hK hdH (h := ?_); clear hK K hHeld; intro hHeld; refine GoesX.take 16 9 [] hHeld (h := ?_); refine GoesX.done (by kernel_rfl) ?_ _; all_goals (obtain ⟨hb, hc, hf, hz⟩ := xh (by assumption : Held W0 _))))))
     all_goals go_upto_region 11 with fail
     all_goals (refine wn_ fun W0 hb0 hc0 hf0 hz0 => ?_)
     all_goals go_wp2_with fail
     all_goals refine bodyPost_ret (v := .agg #[.slice aF aFn aFc, .slice aL aLn aLc, .slice aP aPn aPc, .slice aD aDn aDc, .int .i64 x.market.clock, .slice aN aNn aNc, .slice aS aSn aSc, .slice aI aIn aIc, .slice (some ⟨gG, 0, none⟩) aGn aGc, .slice A2 (0 + ii + 0) c2]) (by simp [results, Tryz.results145, go_sem, *]) rfl ?_
     all_goals rw [HE.out]
     all_goals have hoD0 : OwI W0 _ B3 d3 n3 z.1.done := hoD.keep kf_
     all_goals have hexr : Ex Wr W0 := ext_
     all_goals have hbx : Ch (BX w.heap.size (w.heap.size + 3)) (setCells W0 gG (mgk * 4) (GV.enc ⟨z.1.head, B3, d3, n3⟩)) ((((W0.setCell ⟨gG, mgk * 4, none⟩ (.int .i64 z.1.head.size)).setCell ⟨gG, mgk * 4 + 1, none⟩ (.int .i64 z.1.head.log)).setCell ⟨gG, mgk * 4 + 2, none⟩ (.int .i64 z.1.head.own)).setCell ⟨gG, mgk * 4 + 3, none⟩ (.slice B3 n3 d3)) := Ch.refl _ _
     all_goals have hgup : UpT lo τ gG := hW.gates_up ⟨gG, 0, none⟩ rfl
     all_goals have hexU : Ch (UpT lo τ) w ((((W0.setCell ⟨gG, mgk * 4, none⟩ (.int .i64 z.1.head.size)).setCell ⟨gG, mgk * 4 + 1, none⟩ (.int .i64 z.1.head.log)).setCell ⟨gG, mgk * 4 + 2, none⟩ (.int .i64 z.1.head.own)).setCell ⟨gG, mgk * 4 + 3, none⟩ (.slice B3 n3 d3)) := cS (cS (cS (cS (Ex.ch (cE hexr hcr)) (.inl hgup) _) (.inl hgup) _) (.inl hgup) _) (.inl hgup) _
     all_goals exact ⟨aF, aFc, aFn, aL, aLc, aLn, aP, aPc, aPn, aD, aDc, aDn, aN, aNc, aNn, aS, aSc, aSn, aI, aIc, aIn, some ⟨gG, 0, none⟩, aGc, aGn, A2, c2, 0 + ii + 0, rfl, fun w'' hz => OwW.heard (w1 := W0) (wz := Wr) (y := z.1) (k0 := w.heap.size + 3) hGr hv1r HV2.out HV3r.out rfl (by have := L4.out; omega) hexr (hoD0.less sz_) (Zr.of (w := w) (g1 := w.heap.size + 3) (hbx.trans bx_) hz (Nat.le_refl _) (by omega)) sz_ (by rw [List.nil_append] at ho2r; exact ho2r) hexr sz_ sz_ sz_ sz_ (by omega) (by omega), ext_⟩
 · have z6 : ii ≤ aBc := by omega
   go_enter Tryz.func145, Tryz.ntmps145
   go_upto_region 8 with (first | (go_at_call 99; refine (l1In_c _ _ _ _).mono ?_; rintro E w' ⟨rfl, rfl⟩))
   (refine wn_ fun W0 hb0 hc0 hf0 hz0 => ?_)
   have p0 : W0.cell? ⟨w.heap.size, 0, none⟩ = some (.slice aF aFn aFc) := (co_); have p1 : W0.cell? ⟨w.heap.size, 1, none⟩ = some (.slice aL aLn aLc) := (co_); have p2 : W0.cell? ⟨w.heap.size, 2, none⟩ = some (.slice aP aPn aPc) := (co_); have p3 : W0.cell? ⟨w.heap.size, 3, none⟩ = some (.slice aD aDn aDc) := (co_); have p4 : W0.cell? ⟨w.heap.size, 4, none⟩ = some (.int .i64 x.market.clock) := (co_); have p5 : W0.cell? ⟨w.heap.size, 5, none⟩ = some (.slice aN aNn aNc) := (co_); have p6 : W0.cell? ⟨w.heap.size, 6, none⟩ = some (.slice aS aSn aSc) := (co_); have p7 : W0.cell? ⟨w.heap.size, 7, none⟩ = some (.slice aI aIn aIc) := (co_); have p8 : W0.cell? ⟨w.heap.size, 8, none⟩ = some (.slice aG aGn aGc) := (co_); have p9 : W0.cell? ⟨w.heap.size, 9, none⟩ = some (.slice (some ⟨gg, 0, none⟩) aBn aBc) := (co_)
   have pf : ∀ i : Nat, W0.frozen? ⟨w.heap.size, i, none⟩ = false := fun i => co_
   have hLr : Lb W0 (w.heap.size + 1) 10 := lbc_
   have r0 : W0.cell? ⟨w.heap.size + 1 + 1, 0, none⟩ = some (.int .i64 m.gate) := (co_); have r1 : W0.cell? ⟨w.heap.size + 1 + 1, 1, none⟩ = some (.int .i64 m.head.size) := (co_); have r2 : W0.cell? ⟨w.heap.size + 1 + 1, 2, none⟩ = some (.int .i64 m.head.log) := (co_); have r3 : W0.cell? ⟨w.heap.size + 1 + 1, 3, none⟩ = some (.int .i64 m.head.own) := (co_); have r4 : W0.cell? ⟨w.heap.size + 1 + 1, 4, none⟩ = some (.slice B1 m1 d1) := (co_)
   have hGq := hG.keepF (show KF lo w W0 from kf_)
   have hrq : RI W0 0 B1 d1 m1 m.proof := hr.at0 kf_
   have hcq : Ex w W0 := ext_
   have hzq : w.heap.size + 3 ≤ W0.heap.size := sz_
   clear hb0 hc0 hf0
   obtain ⟨Wq, hWq⟩ : ∃ z, z = W0 := ⟨_, rfl⟩
   subst hWq
   obtain ⟨vs, hv1, hv2, hv3⟩ := hGq.bag.ex
   have HV3 := Lib.hid hv3
   have HV2 := Lib.hid hv2
   have hT := Rs.take hv1.ow.rs (fun _ => rfl) (k := ii) (by omega)
   have hD := Rs.drop hv1.ow.rs (fun _ => rfl) (k := ii + 1) (by omega)
   clear hv3 hv2
   obtain ⟨hcz, hfz⟩ := Lb.rules hLr
   rw [if_neg hcc] at hD
   simp only [Option.map_some, Addr.add_lit, Nat.zero_add] at hD
   go_wp2_with fail
   (focus (refine wn_ fun W0 hb0 hc0 hf0 hz0 => ?_; refine wp_regionX [13] (S := fun w' => Held W0 w') hdH (fun hHeld => ?_); refine GoesX.take 1 38 [2, 4, 5, 11, 12, 13] hHeld (h := ?_); refine GoesX.take 2 39 [4, 5, 11, 12, 13] hHeld (h := ?_); refine GoesX.take 3 40 [4, 5, 11, 12, 13] hHeld (h := ?_); refine GoesX.take 4 41 [5, 11, 12, 13] hHeld (h := ?_); refine GoesX.take 6 43 [7, 10, 11, 12, 13] hHeld (h := ?_); refine GoesX.take 7 44 [10, 11, 12, 13] hHeld (h := ?_); refine GoesX.take 8 45 [9, 10, 11, 12, 13] hHeld (h := ?_); refine GoesX.take 9 46 [10, 11, 12, 13] hHeld (h := ?_); refine GoesX.take 10 47 [11, 12, 13] hHeld (h := ?_); refine GoesX.one 0 (h := fun K hK => ?_); go_simp; refine outS hK hdH (h := ?_); clear hK K hHeld; intro hHeld; refine GoesX.one 5 (h := fun K hK => ?_); (first | (apply step_app (lo := W0.heap.size) el_X one_X rfl rfl rfl rfl; (exact Nw.ow nw_ sz_); (apply Rs.at0 hT; exact kf_); omega; (exact sz_); intro A1 c1 w3 ho1 hch1 hat1 hex1 hlow1; have hHeldX := Held.of (hex1 (fun _ => False) W0 (And.right (by assumption : Held W0 _)) (Nat.le_refl _)); have hgF := Ch.eqA hch1; obtain ⟨hcF, hfF, hzF⟩ := xd hgF; clear hex1 hlow1 hat1 hch1) | (apply step_app (lo := W0.heap.size) el_X one_X rfl rfl rfl rfl; (exact Ow.keep ho1 kf_); (apply Rs.at0 hD; exact kf_); omega; (exact sz_); intro A2 c2 w4 ho2 hch2 hat2 hex2 hlow2; have hexX := hex2 (fun _ => False) W0 (And.right (by assumption : Held W0 _)) (Nat.le_refl _); have hHeldX := Held.of hexX; obtain ⟨hcG, hfG, hzG⟩ := xy hexX; clear hex2 hlow2 hat2 hch2)); refine outS hK hdH (h := ?_); clear hK K hHeld; intro hHeld; refine GoesX.one 11 (h := fun K hK => ?_); (first | (apply step_app (lo := W0.heap.size) el_X one_X rfl rfl rfl rfl; (exact Nw.ow nw_ sz_); (apply Rs.at0 hT; exact kf_); omega; (exact sz_); intro A1 c1 w3 ho1 hch1 hat1 hex1 hlow1; have hHeldX := Held.of (hex1 (fun _ => False) W0 (And.right (by assumption : Held W0 _)) (Nat.le_refl _)); have hgF := Ch.eqA hch1; obtain ⟨hcF, hfF, hzF⟩ := xd hgF; clear hex1 hlow1 hat1 hch1) | (apply step_app (lo := W0.heap.size) el_X one_X rfl rfl rfl rfl; (exact Ow.keep ho1 kf_); (apply Rs.at0 hD; exact kf_); omega; (exact sz_); intro A2 c2 w4 ho2 hch2 hat2 hex2 hlow2; have hexX := hex2 (fun _ => False) W0 (And.right (by assumption : Held W0 _)) (Nat.le_refl _); have hHeldX := Held.of hexX; obtain ⟨hcG, hfG, hzG⟩ := xy hexX; clear hex2 hlow2 hat2 hch2)); refine outS hK hdH (h := ?_); clear hK K hHeld; intro hHeld; refine GoesX.take 12 49 [13] hHeld (h := ?_); refine GoesX.oneX 13 (h := fun K hK => ?_); go_simp; refine outX hK (h := ?_); clear hK K; refine GoesX.done (by kernel_rfl) ?_ _))
   by_cases k5 : kind = 5
   case neg =>
     have k5' : (kind == 5) = false := by simp [k5]
     go_wp2_with fail
     refine bodyPost_ret (v := .agg #[.slice aF aFn aFc, .slice aL aLn aLc, .slice aP aPn aPc, .slice aD aDn aDc, .int .i64 x.market.clock, .slice aN aNn aNc, .slice aS aSn aSc, .slice aI aIn aIc, .slice aG aGn aGc, .slice A2 (0 + ii + (aBn - (ii + 1))) c2]) (by simp [results, Tryz.results145, go_sem, *]) rfl ?_
     (try rw [if_neg k5])
     rw [show Sw.lose x (ii : Int) = { x with bag := x.bag.eraseIdx ii } from by unfold Sw.lose; rw [Int.toNat_natCast]]
     exact ⟨aF, aFc, aFn, aL, aLc, aLn, aP, aPc, aPn, aD, aDc, aDn, aN, aNc, aNn, aS, aSc, aSn, aI, aIc, aIn, aG, aGc, aGn, A2, c2, 0 + ii + (aBn - (ii + 1)), rfl, fun w'' hz => OwW.lost (w1 := w4) hGq hv1 HV2.out HV3.out (by exact ext_) (Zr.of (g1 := w.heap.size + 3) bx_ hz sz_ sz_) sz_ (by rw [List.nil_append] at ho2; exact ho2) sz_ (by omega) (by omega), ext_⟩
   case pos =>
     subst k5
     obtain ⟨mgk, hmgk, hmg2⟩ := HMG.out
     obtain ⟨vg, hvg1, hvg2, hvg3⟩ := hGq.gates.ex
     obtain ⟨gG, xg, rfl, hgG0, hgG1, hxg, c0, c1', c2', c3', hfG⟩ := at_OGV hvg1.ow (show mgk < aGn by have := L4.out; omega)
     obtain ⟨y, hy2⟩ : ∃ y, x.gates[mgk]? = some y := ⟨_, List.getElem?_eq_getElem (by have := L4.out; omega)⟩
     obtain ⟨e1, hdone⟩ := hvg3 mgk xg y hxg hy2
     obtain ⟨xh, xA, xc, xn⟩ := xg
     dsimp only at e1 hdone c0 c1' c2' c3'
     subst e1
     have hgx := hW.gates_lt _ rfl
     dsimp only at hgx
     obtain ⟨z, hz0⟩ : ∃ z, z = Sw.gatSync ⟨y.head, y.done⟩ m.head m.proof := ⟨_, rfl⟩
     have e : Sw.hear x ii = { x with gates := x.gates.set mgk z.1, bag := x.bag.eraseIdx ii } := by
       unfold Sw.hear Sw.heard Sw.lose
       rw [HMA.out, hmgk, Int.toNat_natCast, Int.toNat_natCast, hz0]
       have hga : Sw.gateAt { x with bag := x.bag.eraseIdx ii } mgk = y := by unfold Sw.gateAt; rw [Int.toNat_natCast]; exact Sw.getD_of hy2
       rw [hga]
     have HE := Lib.hid e
     have HZ := Lib.hid hz0
     have u1 : (0 : Int) ≤ (mgk : Int) := by omega
     have u2 : (mgk : Int) < (aGn : Int) := by have := L4.out; omega
     clear e hz0 hy2 hxg hvg1 hvg2 hvg3
     go_upto_region 10 with fail
     (refine wn_ fun W0 hb0 hc0 hf0 hz0 => ?_)
     have p0 : W0.cell? ⟨w.heap.size, 0, none⟩ = some (.slice aF aFn aFc) := (co_); have p1 : W0.cell? ⟨w.heap.size, 1, none⟩ = some (.slice aL aLn aLc) := (co_); have p2 : W0.cell? ⟨w.heap.size, 2, none⟩ = some (.slice aP aPn aPc) := (co_); have p3 : W0.cell? ⟨w.heap.size, 3, none⟩ = some (.slice aD aDn aDc) := (co_); have p4 : W0.cell? ⟨w.heap.size, 4, none⟩ = some (.int .i64 x.market.clock) := (co_); have p5 : W0.cell? ⟨w.heap.size, 5, none⟩ = some (.slice aN aNn aNc) := (co_); have p6 : W0.cell? ⟨w.heap.size, 6, none⟩ = some (.slice aS aSn aSc) := (co_); have p7 : W0.cell? ⟨w.heap.size, 7, none⟩ = some (.slice aI aIn aIc) := (co_); have p8 : W0.cell? ⟨w.heap.size, 8, none⟩ = some (.slice (some ⟨gG, 0, none⟩) aGn aGc) := (co_); have p9 : W0.cell? ⟨w.heap.size, 9, none⟩ = some (.slice A2 (0 + ii + (aBn - (ii + 1))) c2) := (co_)
     have pf : ∀ i : Nat, W0.frozen? ⟨w.heap.size, i, none⟩ = false := fun i => co_
     have r0 : W0.cell? ⟨w.heap.size + 1 + 1, 0, none⟩ = some (.int .i64 mgk) := by rw [← hmgk]; (go_simp; first | done | simp [*])
     have r1 : W0.cell? ⟨w.heap.size + 1 + 1, 1, none⟩ = some (.int .i64 m.head.size) := co_
     have r2 : W0.cell? ⟨w.heap.size + 1 + 1, 2, none⟩ = some (.int .i64 m.head.log) := co_
     have r3 : W0.cell? ⟨w.heap.size + 1 + 1, 3, none⟩ = some (.int .i64 m.head.own) := co_
     have r4 : W0.cell? ⟨w.heap.size + 1 + 1, 4, none⟩ = some (.slice B1 m1 d1) := co_
     have s0 : W0.cell? ⟨gG, mgk * 4, none⟩ = some (.int .i64 y.head.size) := co_
     have s1 : W0.cell? ⟨gG, mgk * 4 + 1, none⟩ = some (.int .i64 y.head.log) := co_
     have s2 : W0.cell? ⟨gG, mgk * 4 + 2, none⟩ = some (.int .i64 y.head.own) := co_
     have s3 : W0.cell? ⟨gG, mgk * 4 + 3, none⟩ = some (.slice xA xn xc) := co_
     have sf : ∀ i : Nat, W0.frozen? ⟨gG, i, none⟩ = false := fun i => co_
     have hexq : Ch (BX w.heap.size (w.heap.size + 3)) w4 W0 := bx_
     have hLr2 : Lb W0 (w.heap.size + 1) 10 := by
       refine Lb.ex ?_ hb0
       apply Lb.set
       exact Lb.ex hLr ext_
     have hZ : Ch (Zr (glue τ w.heap.size (fun _ => 0)) Wq.heap.size) w4 W0 := Zr.of (w := w) (g1 := w.heap.size + 3) hexq (Ch.refl _ _) sz_ sz_
     have hKr := hGq.still (show Ex Wq w4 from ext_) hZ
     have hGr := (hGq.keepF (show KF lo Wq w4 from kf_)).zeros hZ
     have hv1r := hv1.keep (hKr 9 (by decide))
     have HV3r := Lib.hid (msgs_keep HV3.out hKr)
     have hdr := (hdone.keep (hKr _ (by unfold fdS; omega))).rs
     have hpr := (((hprf.glueL (τ' := fun _ => 0) (Nat.le_refl _)).keepF (show KF lo w Wq from kE hcq (kR _ _))).keep (hKr _ (by unfold fpS; omega))).rs
     have ho2r := ho2.keep (show KF _ w4 W0 from kf_)
     have hzr : Wq.heap.size ≤ W0.heap.size := sz_
     have hcr : Ex w W0 := ext_
     clear hb0 hc0 hf0
     obtain ⟨Wr, hWr⟩ : ∃ z, z = W0 := ⟨_, rfl⟩
     subst hWr
     obtain ⟨hcz2, hfz2⟩ := Lb.rules hLr2
     (focus (refine wn_ fun W0 hb0 hc0 hf0 hz0 => ?_; refine wp_regionX [] (S := fun w' => Held W0 w') hdH (fun hHeld => ?_); refine GoesX.take 0 53 [] hHeld (h := ?_); refine GoesX.take 1 54 [] hHeld (h := ?_); refine GoesX.take 2 55 [] hHeld (h := ?_); refine GoesX.take 3 56 [] hHeld (h := ?_); refine GoesX.take 4 57 [] hHeld (h := ?_); refine GoesX.take 5 58 [] hHeld (h := ?_); refine GoesX.take 6 59 [] hHeld (h := ?_); refine GoesX.take 7 60 [] hHeld (h := ?_); refine GoesX.take 8 61 [] hHeld (h := ?_); refine GoesX.take 9 62 [] hHeld (h := ?_); refine GoesX.ready (rs := [10, 14]) (by kernel_rfl) (by simp) ?_; refine EachX.cons rfl (fun K hK => ?_) ?_; rotate_left; refine EachX.cons rfl (fun K hK => ?_) EachX.nil; (focus (go_simp; refine outS hK hdH (h := ?_); clear hK K hHeld; intro hHeld; refine GoesX.one 10 (h := fun K hK => ?_); go_simp; (go_at_call 206; apply Calls.mono; apply (sGatSync_c (t := y.head) (u := m.head) (xs := y.done) (ps := m.proof)); (apply Rs.at0 hdr; (exact kf_)); (apply Rs.at0 hpr; (exact kf_)); rintro E w5 ⟨B3, d3, n3, rfl, hoD, hb⟩; rw [← HZ.out] at hoD; rw [← HZ.out]; obtain ⟨hc, hf, hz⟩ := xy hb); (try go_wp2_with fail); refine outS hK hdH (h := ?_); clear hK K hHeld; intro hHeld; refine GoesX.take 11 52 [] hHeld (h := ?_); refine GoesX.take 12 64 [] hHeld (h := ?_); refine GoesX.take 13 65 [] hHeld (h := ?_); refine GoesX.one 15 (h := fun K hK => ?_); go_simp; refine outS hK hdH (h := ?_); clear hK K hHeld; intro hHeld; refine GoesX.take 16 9 [] hHeld (h := ?_); refine GoesX.done (by kernel_rfl) ?_ _; all_goals (obtain ⟨hb, hc, hf, hz⟩ := xh (by assumption : Held W0 _)))); rotate_right 1; (focus (go_simp; (go_at_call 206; apply Calls.mono; apply (sGatSync_c (t := y.head) (u := m.head) (xs := y.done) (ps := m.proof)); (apply Rs.at0 hdr; (exact kf_)); (apply Rs.at0 hpr; (exact kf_)); rintro E w5 ⟨B3, d3, n3, rfl, hoD, hb⟩; rw [← HZ.out] at hoD; rw [← HZ.out]; obtain ⟨hc, hf, hz⟩ := xy hb); (try go_wp2_with fail); refine outS hK hdH (h := ?_); clear hK K hHeld; intro hHeld; refine GoesX.take 11 52 [] hHeld (h := ?_); refine GoesX.take 12 64 [] hHeld (h := ?_); refine GoesX.take 13 65 [] hHeld (h := ?_); refine GoesX.one 14 (h := fun K hK => ?_); go_simp; refine outS hK hdH (h := ?_); clear hK K hHeld; intro hHeld; refine GoesX.one 15 (h := fun K hK => ?_); go_simp; refine outS hK hdH (h := ?_); clear hK K hHeld; intro hHeld; refine GoesX.take 16 9 [] hHeld (h := ?_); refine GoesX.done (by kernel_rfl) ?_ _; all_goals (obtain ⟨hb, hc, hf, hz⟩ := xh (by assumption : Held W0 _))))))
     all_goals go_upto_region 11 with fail
     all_goals (refine wn_ fun W0 hb0 hc0 hf0 hz0 => ?_)
     all_goals go_wp2_with fail
     all_goals refine bodyPost_ret (v := .agg #[.slice aF aFn aFc, .slice aL aLn aLc, .slice aP aPn aPc, .slice aD aDn aDc, .int .i64 x.market.clock, .slice aN aNn aNc, .slice aS aSn aSc, .slice aI aIn aIc, .slice (some ⟨gG, 0, none⟩) aGn aGc, .slice A2 (0 + ii + (aBn - (ii + 1))) c2]) (by simp [results, Tryz.results145, go_sem, *]) rfl ?_
     all_goals rw [HE.out]
     all_goals have hoD0 : OwI W0 _ B3 d3 n3 z.1.done := hoD.keep kf_
     all_goals have hexr : Ex Wr W0 := ext_
     all_goals have hbx : Ch (BX w.heap.size (w.heap.size + 3)) (setCells W0 gG (mgk * 4) (GV.enc ⟨z.1.head, B3, d3, n3⟩)) ((((W0.setCell ⟨gG, mgk * 4, none⟩ (.int .i64 z.1.head.size)).setCell ⟨gG, mgk * 4 + 1, none⟩ (.int .i64 z.1.head.log)).setCell ⟨gG, mgk * 4 + 2, none⟩ (.int .i64 z.1.head.own)).setCell ⟨gG, mgk * 4 + 3, none⟩ (.slice B3 n3 d3)) := Ch.refl _ _
     all_goals have hgup : UpT lo τ gG := hW.gates_up ⟨gG, 0, none⟩ rfl
     all_goals have hexU : Ch (UpT lo τ) w ((((W0.setCell ⟨gG, mgk * 4, none⟩ (.int .i64 z.1.head.size)).setCell ⟨gG, mgk * 4 + 1, none⟩ (.int .i64 z.1.head.log)).setCell ⟨gG, mgk * 4 + 2, none⟩ (.int .i64 z.1.head.own)).setCell ⟨gG, mgk * 4 + 3, none⟩ (.slice B3 n3 d3)) := cS (cS (cS (cS (Ex.ch (cE hexr hcr)) (.inl hgup) _) (.inl hgup) _) (.inl hgup) _) (.inl hgup) _
     all_goals exact ⟨aF, aFc, aFn, aL, aLc, aLn, aP, aPc, aPn, aD, aDc, aDn, aN, aNc, aNn, aS, aSc, aSn, aI, aIc, aIn, some ⟨gG, 0, none⟩, aGc, aGn, A2, c2, 0 + ii + (aBn - (ii + 1)), rfl, fun w'' hz => OwW.heard (w1 := W0) (wz := Wr) (y := z.1) (k0 := w.heap.size + 3) hGr hv1r HV2.out HV3r.out rfl (by have := L4.out; omega) hexr (hoD0.less sz_) (Zr.of (w := w) (g1 := w.heap.size + 3) (hbx.trans bx_) hz (Nat.le_refl _) (by omega)) sz_ (by rw [List.nil_append] at ho2r; exact ho2r) hexr sz_ sz_ sz_ sz_ (by omega) (by omega), ext_⟩
end Go.Proofs.YtnnoiagommiapaaGreat
