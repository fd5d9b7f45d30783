/- Texts joined: WldF, GShow, PtrY. -/
import Derived.Test.YtnnoiagommiapaaGreatPy41
import Derived.Test.YtnnoiagommiapaaGreatPy14
import Derived.Test.YtnnoiagommiapaaGreatPy23
import Derived.Test.YtnnoiagommiapaaGreatPy25
import Derived.Test.YtnnoiagommiapaaGreatPy39
import Derived.Test.YtnnoiagommiapaaGreatPy28
import Derived.Test.YtnnoiagommiapaaGreatPy20
set_option maxRecDepth 100000
set_option linter.unusedSimpArgs false
set_option linter.unusedVariables false
namespace Go.Proofs.YtnnoiagommiapaaGreat
open Go.RowKit Go
set_option maxHeartbeats 4000000
theorem wld_parts {x : Sw.World} (h : Sw.wldOk x = true) : (∃ rows, Sw.MOk x.market rows) ∧ x.lines.length ≤ 300 ∧ x.gates.length = 2 ∧ x.bag.length ≤ 6 ∧ (∀ m ∈ x.bag, Sw.msgOk m = true) ∧ (∀ g ∈ x.gates, Sw.gatOk g = true) := by
 simp only [Sw.wldOk, Bool.and_eq_true, decide_eq_true_eq, List.all_eq_true] at h
 obtain ⟨⟨⟨⟨⟨⟨⟨h1, h2⟩, h3⟩, h4⟩, h5⟩, h6⟩, h7⟩, h8⟩ := h
 exact ⟨Sw.mktOk_iff.1 h1, h3, h4, h5, h8, h7⟩
theorem sSend_c (aF : Option Addr) (aFc aFn : Nat) (aL : Option Addr) (aLc aLn : Nat) (aP : Option Addr) (aPc aPn : Nat) (aD : Option Addr) (aDc aDn : Nat) (aN : Option Addr) (aNc aNn : Nat) (aS : Option Addr) (aSc aSn : Nat) (aI : Option Addr) (aIc aIn : Nat) (aG : Option Addr) (aGc aGn : Nat) (aB : Option Addr) (aBc aBn : Nat) (x : Sw.World) (k : Int) (lo : Nat) (τ : Nat → Nat) (w : World) (hW : OwW fdS fpS τ w lo aF aFc aFn aL aLc aLn aP aPc aPn aD aDc aDn aN aNc aNn aS aSc aSn aI aIc aIn aG aGc aGn aB aBc aBn x) (hok : Sw.wldOk x = true) (hlo : lo ≤ w.heap.size) : Calls Tryz.prog 144 #[.agg #[.slice aF aFn aFc, .slice aL aLn aLc, .slice aP aPn aPc, .slice aD aDn aDc, .int .i64 x.market.clock, .slice aN aNn aNc, .slice aS aSn aSc, .slice aI aIn aIc, .slice aG aGn aGc, .slice aB aBn aBc], .int .i64 k] w fun E w' => WPost lo τ w w' (fun u => u) E (Sw.send x k) := by
 obtain ⟨-, -, hG2, hB6, -, -⟩ := wld_parts hok
 have hl4 := hW.gates.rg.len.1
 have hl5 := hW.bag.rx.len.1
 have L5 := Lib.hid hl5
 have hB4 : aBn ≤ 6 := by omega
 have L4 := Lib.hid (show aGn = 2 by omega)
 clear hl4 hG2
 have hBb := hW.bag_lt
 cases g1 : Sw.inR k 0 1
 case false =>
   have e : Sw.send x k = x := by simp [Sw.send, g1]
   rw [e]; clear e
   go_enter Tryz.func144, Tryz.ntmps144
   go_wp2_with (first | (go_at_call 99; refine (l1In_c _ _ _ _).mono ?_; rintro E w' ⟨rfl, rfl⟩))
   refine bodyPost_ret (v := .agg #[.slice aF aFn aFc, .slice aL aLn aLc, .slice aP aPn aPc, .slice aD aDn aDc, .int .i64 x.market.clock, .slice aN aNn aNc, .slice aS aSn aSc, .slice aI aIn aIc, .slice aG aGn aGc, .slice aB aBn aBc]) (by simp [results, Tryz.results144, go_sem, *]) rfl ?_
   exact ⟨aF, aFc, aFn, aL, aLc, aLn, aP, aPc, aPn, aD, aDc, aDn, aN, aNc, aNn, aS, aSc, aSn, aI, aIc, aIn, aG, aGc, aGn, aB, aBc, aBn, rfl, fun w'' hz => ((hW.keepF kf_).zeros hz).rw_, ext_⟩
 by_cases g2 : aBn = 6
 · have g2' : ((aBn : Int) == 6) = true := by simp; omega
   have e : Sw.send x k = x := by simp [Sw.send, ← hl5, g2]
   rw [e]; clear e g2
   go_enter Tryz.func144, Tryz.ntmps144
   go_wp2_with (first | (go_at_call 99; refine (l1In_c _ _ _ _).mono ?_; rintro E w' ⟨rfl, rfl⟩))
   refine bodyPost_ret (v := .agg #[.slice aF aFn aFc, .slice aL aLn aLc, .slice aP aPn aPc, .slice aD aDn aDc, .int .i64 x.market.clock, .slice aN aNn aNc, .slice aS aSn aSc, .slice aI aIn aIc, .slice aG aGn aGc, .slice aB aBn aBc]) (by simp [results, Tryz.results144, go_sem, *]) rfl ?_
   exact ⟨aF, aFc, aFn, aL, aLc, aLn, aP, aPc, aPn, aD, aDc, aDn, aN, aNc, aNn, aS, aSc, aSn, aI, aIc, aIn, aG, aGc, aGn, aB, aBc, aBn, rfl, fun w'' hz => ((hW.keepF kf_).zeros hz).rw_, ext_⟩
 have g2' : ((aBn : Int) == 6) = false := by simp; omega
 obtain rfl := L4.out
 have hk01 := Sw.inR_iff.1 g1
 obtain ⟨kk, rfl⟩ : ∃ kk : Nat, k = kk := ⟨k.toNat, by omega⟩
 have hkk : kk < 2 := by omega
 have hG := hW.glueL (τ' := fun _ => 0) (Nat.le_refl _)
 obtain ⟨gg, off, y, B1, d1, m1, rfl, hg0, hg1, hd, hy, q0, q1, q2, q3, hr⟩ := at_G hW.gates.rg hkk
 have e : Sw.send x kk = { x with bag := x.bag ++ [⟨kk, (Sw.hedOf x.market.log).getD Sw.headZ, Sw.hedProof x.market.log y.head.size⟩] } := by
   have h6 : x.bag.length < 6 := by omega
   have hgt : Sw.gateAt x kk = y := by unfold Sw.gateAt; rw [Int.toNat_natCast]; exact Sw.getD_of hy
   simp [Sw.send, g1, h6, hgt]
 rw [e]
 clear e hd hy q1 q2 q3 hr hk01 hl5
 obtain ⟨hh, hhe⟩ : ∃ hh, hh = (Sw.hedOf x.market.log).getD Sw.headZ := ⟨_, rfl⟩
 rw [← hhe]
 have HH := Lib.hid hhe
 clear hhe
 have t1 : (0 : Int) ≤ (kk : Int) := by omega
 have t2 : (kk : Int) < 2 := by omega
 go_enter Tryz.func144, Tryz.ntmps144
 go_wp2_with (first | (go_at_call 99; refine (l1In_c _ _ _ _).mono ?_; rintro E w' ⟨rfl, rfl⟩) | (go_at_call 204; apply Calls.mono; apply (sHedOf_c (xs := x.market.log)); (apply Rs.at0 hW.mkt.log.rs; (exact kf_)); rintro E w1 ⟨rfl, hb⟩; rw [← HH.out]; obtain ⟨hc, hf, hz⟩ := xy hb))
 (refine wn_ fun W0 hb0 hc0 hf0 hz0 => ?_)
 have p0 : W0.cell? ⟨w.heap.size, 0, none⟩ = some (.slice aF aFn aFc) := (co_); have p1 : W0.cell? ⟨w.heap.size, 1, none⟩ = some (.slice aL aLn aLc) := (co_); have p2 : W0.cell? ⟨w.heap.size, 2, none⟩ = some (.slice aP aPn aPc) := (co_); have p3 : W0.cell? ⟨w.heap.size, 3, none⟩ = some (.slice aD aDn aDc) := (co_); have p4 : W0.cell? ⟨w.heap.size, 4, none⟩ = some (.int .i64 x.market.clock) := (co_); have p5 : W0.cell? ⟨w.heap.size, 5, none⟩ = some (.slice aN aNn aNc) := (co_); have p6 : W0.cell? ⟨w.heap.size, 6, none⟩ = some (.slice aS aSn aSc) := (co_); have p7 : W0.cell? ⟨w.heap.size, 7, none⟩ = some (.slice aI aIn aIc) := (co_); have p8 : W0.cell? ⟨w.heap.size, 8, none⟩ = some (.slice (some ⟨gg, off, none⟩) 2 aGc) := (co_); have p9 : W0.cell? ⟨w.heap.size, 9, none⟩ = some (.slice aB aBn aBc) := (co_)
 have pf : ∀ i : Nat, W0.frozen? ⟨w.heap.size, i, none⟩ = false := fun i => co_
 have q0' : W0.cell? ⟨gg, off + kk * 4, none⟩ = some (.int .i64 y.head.size) := co_
 have hLr : Lb W0 (w.heap.size + 1) 10 := lbc_
 have r0 : W0.cell? ⟨w1.heap.size, 0, none⟩ = some (.int .i64 hh.size) := (co_); have r1 : W0.cell? ⟨w1.heap.size, 1, none⟩ = some (.int .i64 hh.log) := (co_); have r2 : W0.cell? ⟨w1.heap.size, 2, none⟩ = some (.int .i64 hh.own) := (co_)
 have hGq := hG.keepF (show KF lo w W0 from kf_)
 have hcq : Ex w W0 := ext_
 have hzq : w.heap.size + 2 ≤ w1.heap.size := sz_
 have hzq1 : w1.heap.size + 1 ≤ W0.heap.size := sz_
 clear hb hc hf hb0 hc0 hf0
 obtain ⟨Wq, hWq⟩ : ∃ z, z = W0 := ⟨_, rfl⟩
 subst hWq
 obtain ⟨vs, hv1, hv2, hv3⟩ := hGq.bag.ex
 have HV3 := Lib.hid hv3
 have HV2 := Lib.hid hv2
 clear hv3 hv2
 obtain ⟨hcz, hfz⟩ := Lb.rules hLr
 (focus (refine wn_ fun W0 hb0 hc0 hf0 hz0 => ?_; refine wp_regionX [17, 18, 19] (S := fun w' => Held W0 w') hdH (fun hHeld => ?_); refine GoesX.take 0 24 [1, 17, 18, 19] hHeld (h := ?_); refine GoesX.take 1 25 [17, 18, 19] hHeld (h := ?_); refine GoesX.take 2 26 [15, 16, 17, 18, 19] hHeld (h := ?_); refine GoesX.take 3 27 [15, 16, 17, 18, 19] hHeld (h := ?_); refine GoesX.take 4 28 [5, 6, 14, 15, 16, 17, 18, 19] hHeld (h := ?_); refine GoesX.take 5 29 [6, 14, 15, 16, 17, 18, 19] hHeld (h := ?_); refine GoesX.take 6 30 [14, 15, 16, 17, 18, 19] hHeld (h := ?_); refine GoesX.take 7 31 [8, 10, 11, 12, 13, 14, 15, 16, 17, 18, 19] hHeld (h := ?_); refine GoesX.take 8 32 [10, 11, 12, 13, 14, 15, 16, 17, 18, 19] hHeld (h := ?_); refine GoesX.take 9 33 [10, 11, 12, 13, 14, 15, 16, 17, 18, 19] hHeld (h := ?_); refine GoesX.take 10 34 [11, 12, 13, 14, 15, 16, 17, 18, 19] hHeld (h := ?_); refine GoesX.take 11 35 [12, 13, 14, 15, 16, 17, 18, 19] hHeld (h := ?_); refine GoesX.take 12 36 [13, 14, 15, 16, 17, 18, 19] hHeld (h := ?_); refine GoesX.take 13 37 [14, 15, 16, 17, 18, 19] hHeld (h := ?_); refine GoesX.one 14 (h := fun K hK => ?_); go_simp; (go_at_call 205; apply Calls.mono; apply (sHedProof_c (xs := x.market.log)); (apply Rs.at0 hGq.mkt.log.rs; (exact kf_)); rintro E w3 ⟨B2, d2, n2, rfl, hoP, hb⟩; obtain ⟨hc, hf, hz⟩ := xy hb); (try go_wp2_with fail); refine outS hK hdH (h := ?_); clear hK K hHeld; intro hHeld; refine GoesX.take 15 39 [16, 17, 18, 19] hHeld (h := ?_); refine GoesX.one 16 (h := fun K hK => ?_); go_simp; refine outS hK hdH (h := ?_); clear hK K hHeld; intro hHeld; refine GoesX.oneX 17 (h := fun K hK => ?_); (apply step_app (lo := lo) el_X one_X rfl rfl rfl rfl; (exact Ow.keep hv1.ow kf_); (refine Rs.new [⟨kk, hh, B2, d2, n2⟩] (by (first | with_reducible rfl | (simp only [zq_]; done) | (simp only [zq_]; omega))) rfl rfl (fun _ => rfl) (by omega)); omega; (exact sz_); intro A1 c1 w4 ho1 hch1 hat1 hex1 hlow1; clear hex1 hlow1; obtain ⟨hC0, hG0⟩ := Ch.atA_keep hch1 (g := w.heap.size) (by exact sz_) (fun a ha => by have := hBb a ha; omega); obtain ⟨hC1, hG1⟩ := Ch.atA_keep hch1 (g := w.heap.size + 1) (by exact sz_) (fun a ha => by have := hBb a ha; omega); have hzA := hch1.size; (try simp only [zq_] at hzA)); refine outX hK (h := ?_); clear hK K; refine GoesX.takeX 18 42 (h := ?_); refine GoesX.oneX 19 (h := fun K hK => ?_); go_simp; refine outX hK (h := ?_); clear hK K; refine GoesX.done (by kernel_rfl) ?_ _))
 go_wp2_with fail
 refine bodyPost_ret (v := .agg #[.slice aF aFn aFc, .slice aL aLn aLc, .slice aP aPn aPc, .slice aD aDn aDc, .int .i64 x.market.clock, .slice aN aNn aNc, .slice aS aSn aSc, .slice aI aIn aIc, .slice (some ⟨gg, off, none⟩) 2 aGc, .slice A1 (aBn + 1) c1]) (by simp [results, Tryz.results144, go_sem, *]) rfl ?_
 have hbl := hW.bag_up
 have hS := Ch.trans' (show Ch (UpT lo τ) w _ from ext_) hch1 (fun i _ ⟨a, ha, e⟩ => by rw [e]; exact hbl a ha)
 exact ⟨aF, aFc, aFn, aL, aLc, aLn, aP, aPc, aPn, aD, aDc, aDn, aN, aNc, aNn, aS, aSc, aSn, aI, aIc, aIn, some ⟨gg, off, none⟩, aGc, 2, A1, c1, aBn + 1, rfl, fun w'' hz => OwW.sent (m := ⟨kk, hh, Sw.hedProof x.market.log y.head.size⟩) hGq hv1 HV2.out HV3.out (by exact ext_) ((hoP.keep kf_).less sz_) sz_ ho1 hch1 hat1 (Zr.of (g1 := w.heap.size + 2) bx_ hz sz_ sz_), ext_⟩
set_option maxHeartbeats 2000000
theorem gatOk_done {h : Sw.Head} {xs : List Int} (k : Sw.gatOk ⟨h, xs⟩ = true) : xs.Pairwise (· < ·) := by
 simp only [Sw.gatOk, Bool.and_eq_true] at k
 exact ((Sw.rises_iff xs (-1)).1 k.2).2
theorem sGatShow_c (t : Sw.Head) (A : Option Addr) (c n : Nat) (xs : List Int) (k who : Int) (r : Sw.Row) (B : Option Addr) (d m : Nat) (ps : List Int) (w : World) (hxs : RI w 0 A c n xs) (hps : RI w 0 B d m ps) : Calls Tryz.prog 207 #[.agg #[.int .i64 t.size, .int .i64 t.log, .int .i64 t.own, .slice A n c], .int .i64 k, .int .i64 who, .agg #[.int .i64 r.who, .int .i64 r.face, .bool r.used], .slice B m d] w fun E w' => ∃ A' c' n', E = .returned (.tuple #[.agg #[.int .i64 (Sw.gatShow ⟨t, xs⟩ k who r ps).1.head.size, .int .i64 (Sw.gatShow ⟨t, xs⟩ k who r ps).1.head.log, .int .i64 (Sw.gatShow ⟨t, xs⟩ k who r ps).1.head.own, .slice A' n' c'], .bool (Sw.gatShow ⟨t, xs⟩ k who r ps).2]) ∧ OwI w' w.heap.size A' c' n' (Sw.gatShow ⟨t, xs⟩ k who r ps).1.done ∧ Ex w w' := by
 obtain ⟨rh, rf, ru⟩ := r
 have hl := Lib.hid hxs.1
 cases g1 : Sw.gatOk ⟨t, xs⟩
 case false =>
   have e : Sw.gatShow ⟨t, xs⟩ k who ⟨rh, rf, ru⟩ ps = (Sw.gateZ, false) := by simp [Sw.gatShow, g1]
   have He := Lib.hid e; clear e
   go_enter Tryz.func207, Tryz.ntmps207
   go_wp2_with (first | (go_at_call 98; apply Calls.mono; apply sGatOk_c; (exact rdw_); rintro E w1 ⟨rfl, hb⟩; obtain ⟨hc, hf, hz⟩ := xy hb))
   refine bodyPost_ret (v := .tuple #[.agg #[.int .i64 0, .int .i64 0, .int .i64 0, .slice none 0 0], .bool false]) (by simp [results, Tryz.results207, go_sem, *]) rfl ?_
   exact ⟨none, 0, 0, by rw [He.out]; rfl, by rw [He.out]; exact Ow.nil _ _, ext_⟩
 have h8 : n ≤ 8 := by have := gatOk_len g1; have := hl.out; simp at *; omega
 cases g2 : Sw.inR who 1 5
 case false =>
   have e : Sw.gatShow ⟨t, xs⟩ k who ⟨rh, rf, ru⟩ ps = (⟨t, xs⟩, false) := by unfold Sw.gatShow; rw [if_pos g1, if_neg (by simp [Sw.gatMay, g2])]
   have He := Lib.hid e; clear e
   go_enter Tryz.func207, Tryz.ntmps207
   go_wp2_with (first | (go_at_call 98; apply Calls.mono; apply sGatOk_c; (exact rdw_); rintro E w1 ⟨rfl, hb⟩; obtain ⟨hc, hf, hz⟩ := xy hb) | (go_at_call 148; apply Calls.mono; apply sCopy_c; (exact rdw_); (first | assumption | omega); rintro E w1 ⟨A', c', rfl, hr, hb⟩; obtain ⟨hc, hf, hz⟩ := xy hb) | (go_at_call 99; refine (l1In_c _ _ _ _).mono ?_; rintro E w' ⟨rfl, rfl⟩) | (go_at_call 249; apply Calls.mono; apply sHas_c; (apply Rs.at0 hxs; (exact kf_)); rintro E w' ⟨rfl, rfl⟩) | (go_at_call 250; apply Calls.mono; apply sOwnCheckA_c; (apply Rs.at0 hps; (exact kf_)); rintro E wq ⟨rfl, hbq⟩; obtain ⟨hcq, hfq, hzq⟩ := xy hbq))
   refine bodyPost_ret (v := .tuple #[.agg #[.int .i64 t.size, .int .i64 t.log, .int .i64 t.own, .slice A' n c'], .bool false]) (by simp [results, Tryz.results207, go_sem, *]) rfl ?_
   exact ⟨A', c', n, by rw [He.out], by rw [He.out]; exact (hr.keep (by (exact kf_))).less (by exact sz_), ext_⟩
 by_cases h3 : who = rh
 case neg =>
   have g3 : (rh != who) = true := by rw [bne_iff_ne]; exact Ne.symm h3
   have H3 := Lib.hid h3; clear h3
   have e : Sw.gatShow ⟨t, xs⟩ k who ⟨rh, rf, ru⟩ ps = (⟨t, xs⟩, false) := by unfold Sw.gatShow; rw [if_pos g1, if_neg (by simp [Sw.gatMay, H3.out])]
   have He := Lib.hid e; clear e
   go_enter Tryz.func207, Tryz.ntmps207
   go_wp2_with (first | (go_at_call 98; apply Calls.mono; apply sGatOk_c; (exact rdw_); rintro E w1 ⟨rfl, hb⟩; obtain ⟨hc, hf, hz⟩ := xy hb) | (go_at_call 148; apply Calls.mono; apply sCopy_c; (exact rdw_); (first | assumption | omega); rintro E w1 ⟨A', c', rfl, hr, hb⟩; obtain ⟨hc, hf, hz⟩ := xy hb) | (go_at_call 99; refine (l1In_c _ _ _ _).mono ?_; rintro E w' ⟨rfl, rfl⟩) | (go_at_call 249; apply Calls.mono; apply sHas_c; (apply Rs.at0 hxs; (exact kf_)); rintro E w' ⟨rfl, rfl⟩) | (go_at_call 250; apply Calls.mono; apply sOwnCheckA_c; (apply Rs.at0 hps; (exact kf_)); rintro E wq ⟨rfl, hbq⟩; obtain ⟨hcq, hfq, hzq⟩ := xy hbq))
   refine bodyPost_ret (v := .tuple #[.agg #[.int .i64 t.size, .int .i64 t.log, .int .i64 t.own, .slice A' n c'], .bool false]) (by simp [results, Tryz.results207, go_sem, *]) rfl ?_
   exact ⟨A', c', n, by rw [He.out], by rw [He.out]; exact (hr.keep (by (exact kf_))).less (by exact sz_), ext_⟩
 subst h3
 cases ru
 case true =>
   have e : Sw.gatShow ⟨t, xs⟩ k who ⟨who, rf, true⟩ ps = (⟨t, xs⟩, false) := by unfold Sw.gatShow; rw [if_pos g1, if_neg (by simp [Sw.gatMay])]
   have He := Lib.hid e; clear e
   go_enter Tryz.func207, Tryz.ntmps207
   go_wp2_with (first | (go_at_call 98; apply Calls.mono; apply sGatOk_c; (exact rdw_); rintro E w1 ⟨rfl, hb⟩; obtain ⟨hc, hf, hz⟩ := xy hb) | (go_at_call 148; apply Calls.mono; apply sCopy_c; (exact rdw_); (first | assumption | omega); rintro E w1 ⟨A', c', rfl, hr, hb⟩; obtain ⟨hc, hf, hz⟩ := xy hb) | (go_at_call 99; refine (l1In_c _ _ _ _).mono ?_; rintro E w' ⟨rfl, rfl⟩) | (go_at_call 249; apply Calls.mono; apply sHas_c; (apply Rs.at0 hxs; (exact kf_)); rintro E w' ⟨rfl, rfl⟩) | (go_at_call 250; apply Calls.mono; apply sOwnCheckA_c; (apply Rs.at0 hps; (exact kf_)); rintro E wq ⟨rfl, hbq⟩; obtain ⟨hcq, hfq, hzq⟩ := xy hbq))
   refine bodyPost_ret (v := .tuple #[.agg #[.int .i64 t.size, .int .i64 t.log, .int .i64 t.own, .slice A' n c'], .bool false]) (by simp [results, Tryz.results207, go_sem, *]) rfl ?_
   exact ⟨A', c', n, by rw [He.out], by rw [He.out]; exact (hr.keep (by (exact kf_))).less (by exact sz_), ext_⟩
 cases g5 : hasI xs k
 case true =>
   have H5 := Lib.hid (show k ∈ xs by simpa [hasI] using g5)
   have e : Sw.gatShow ⟨t, xs⟩ k who ⟨who, rf, false⟩ ps = (⟨t, xs⟩, false) := by unfold Sw.gatShow; rw [if_pos g1, if_neg (by simp [Sw.gatMay, H5.out])]
   have He := Lib.hid e; clear e
   go_enter Tryz.func207, Tryz.ntmps207
   go_wp2_with (first | (go_at_call 98; apply Calls.mono; apply sGatOk_c; (exact rdw_); rintro E w1 ⟨rfl, hb⟩; obtain ⟨hc, hf, hz⟩ := xy hb) | (go_at_call 148; apply Calls.mono; apply sCopy_c; (exact rdw_); (first | assumption | omega); rintro E w1 ⟨A', c', rfl, hr, hb⟩; obtain ⟨hc, hf, hz⟩ := xy hb) | (go_at_call 99; refine (l1In_c _ _ _ _).mono ?_; rintro E w' ⟨rfl, rfl⟩) | (go_at_call 249; apply Calls.mono; apply sHas_c; (apply Rs.at0 hxs; (exact kf_)); rintro E w' ⟨rfl, rfl⟩) | (go_at_call 250; apply Calls.mono; apply sOwnCheckA_c; (apply Rs.at0 hps; (exact kf_)); rintro E wq ⟨rfl, hbq⟩; obtain ⟨hcq, hfq, hzq⟩ := xy hbq))
   refine bodyPost_ret (v := .tuple #[.agg #[.int .i64 t.size, .int .i64 t.log, .int .i64 t.own, .slice A' n c'], .bool false]) (by simp [results, Tryz.results207, go_sem, *]) rfl ?_
   exact ⟨A', c', n, by rw [He.out], by rw [He.out]; exact (hr.keep (by (exact kf_))).less (by exact sz_), ext_⟩
 have H5 := Lib.hid (show k ∉ xs by simpa [hasI] using g5)
 cases g6 : Sw.ownCheck t.own k ⟨who, rf, false⟩ ps
 case false =>
   have e : Sw.gatShow ⟨t, xs⟩ k who ⟨who, rf, false⟩ ps = (⟨t, xs⟩, false) := by unfold Sw.gatShow; rw [if_pos g1, if_neg (by simp [Sw.gatMay, g6])]
   have He := Lib.hid e; clear e
   go_enter Tryz.func207, Tryz.ntmps207
   go_wp2_with (first | (go_at_call 98; apply Calls.mono; apply sGatOk_c; (exact rdw_); rintro E w1 ⟨rfl, hb⟩; obtain ⟨hc, hf, hz⟩ := xy hb) | (go_at_call 148; apply Calls.mono; apply sCopy_c; (exact rdw_); (first | assumption | omega); rintro E w1 ⟨A', c', rfl, hr, hb⟩; obtain ⟨hc, hf, hz⟩ := xy hb) | (go_at_call 99; refine (l1In_c _ _ _ _).mono ?_; rintro E w' ⟨rfl, rfl⟩) | (go_at_call 249; apply Calls.mono; apply sHas_c; (apply Rs.at0 hxs; (exact kf_)); rintro E w' ⟨rfl, rfl⟩) | (go_at_call 250; apply Calls.mono; apply sOwnCheckA_c; (apply Rs.at0 hps; (exact kf_)); rintro E wq ⟨rfl, hbq⟩; obtain ⟨hcq, hfq, hzq⟩ := xy hbq))
   refine bodyPost_ret (v := .tuple #[.agg #[.int .i64 t.size, .int .i64 t.log, .int .i64 t.own, .slice A' n c'], .bool false]) (by simp [results, Tryz.results207, go_sem, *]) rfl ?_
   exact ⟨A', c', n, by rw [He.out], by rw [He.out]; exact (hr.keep (by (exact kf_))).less (by exact sz_), ext_⟩
 have e : Sw.gatShow ⟨t, xs⟩ k who ⟨who, rf, false⟩ ps = (⟨t, Sw.insert k xs⟩, true) := by unfold Sw.gatShow; rw [if_pos g1, if_pos (by simp [Sw.gatMay, g2, H5.out, g6])]
 have He := Lib.hid e; clear e
 have HS := Lib.hid (gatOk_done g1)
 go_enter Tryz.func207, Tryz.ntmps207
 go_wp2_with (first | (go_at_call 251; apply Calls.mono; apply sPut9_c; (exact rdw_); (first | assumption | omega); rintro E w1 ⟨A', c', rfl, hoP, hb⟩; obtain ⟨hc, hf, hz⟩ := xy hb) | (go_at_call 98; apply Calls.mono; apply sGatOk_c; (exact rdw_); rintro E w1 ⟨rfl, hb⟩; obtain ⟨hc, hf, hz⟩ := xy hb) | (go_at_call 148; apply Calls.mono; apply sCopy_c; (exact rdw_); (first | assumption | omega); rintro E w1 ⟨A', c', rfl, hr, hb⟩; obtain ⟨hc, hf, hz⟩ := xy hb) | (go_at_call 99; refine (l1In_c _ _ _ _).mono ?_; rintro E w' ⟨rfl, rfl⟩) | (go_at_call 249; apply Calls.mono; apply sHas_c; (apply Rs.at0 hxs; (exact kf_)); rintro E w' ⟨rfl, rfl⟩) | (go_at_call 250; apply Calls.mono; apply sOwnCheckA_c; (apply Rs.at0 hps; (exact kf_)); rintro E wq ⟨rfl, hbq⟩; obtain ⟨hcq, hfq, hzq⟩ := xy hbq))
 refine bodyPost_ret (v := .tuple #[.agg #[.int .i64 t.size, .int .i64 t.log, .int .i64 t.own, .slice A' (n + 1) c'], .bool true]) (by simp [results, Tryz.results207, go_sem, *]) rfl ?_
 exact ⟨A', c', n + 1, by rw [He.out], by rw [He.out]; exact (hoP.keep kf_).less sz_, ext_⟩
end Go.Proofs.YtnnoiagommiapaaGreat
namespace Go.Proofs.YtnnoiagommiapaaGreat
open Go.RowKit Go
set_option maxHeartbeats 4000000
section
variable {g lo : Nat} {τ0 τ : Nat → Nat} {w0 w : World} {aF : Option Addr} {aFc aFn : Nat} {aL : Option Addr} {aLc aLn : Nat} {aP : Option Addr} {aPc aPn : Nat} {aD : Option Addr} {aDc aDn : Nat} {aN : Option Addr} {aNc aNn : Nat} {aS : Option Addr} {aSc aSn : Nat} {aI : Option Addr} {aIc aIn : Nat} {aG : Option Addr} {aGc aGn : Nat} {aB : Option Addr} {aBc aBn : Nat} {x : Sw.World}
end
end Go.Proofs.YtnnoiagommiapaaGreat
