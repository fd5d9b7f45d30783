/- Texts joined: DrV. -/
import Derived.Test.YtnnoiagommiapaaGreatPy37
import Derived.Test.YtnnoiagommiapaaGreatPy41
set_option maxRecDepth 100000
set_option linter.unusedSimpArgs false
set_option linter.unusedVariables false
namespace Go.Proofs.YtnnoiagommiapaaGreat
open Go.RowKit Go
set_option maxHeartbeats 4000000
def sele4 (v : Nat) (a b c d : Int) : Int := if v = 0 then a else if v = 1 then b else if v = 2 then c else d
theorem sele4_cell {v : Nat} (h : v < 4) (W : World) (a b c d : Int) (T : TypeId) : (W.alloc (.cells #[.int .i64 a, .int .i64 b, .int .i64 c, .int .i64 d] T)).cell? ⟨W.heap.size, v, none⟩ = some (.int .i64 (sele4 v a b c d)) := by
 rcases (show v = 0 ∨ v = 1 ∨ v = 2 ∨ v = 3 by omega) with rfl | rfl | rfl | rfl <;> simp [go_sem, sele4]
theorem l21Event_c (rb P : Nat) (aF : Option Addr) (aFc aFn : Nat) (aL : Option Addr) (aLc aLn : Nat) (aP : Option Addr) (aPc aPn : Nat) (aD : Option Addr) (aDc aDn : Nat) (aN : Option Addr) (aNc aNn : Nat) (aS : Option Addr) (aSc aSn : Nat) (aI : Option Addr) (aIc aIn : Nat) (aG : Option Addr) (aGc aGn : Nat) (aB : Option Addr) (aBc aBn : Nat) (x : Sw.World) (w : World) (hr : Rdp w rb P) (hok : Sw.WOk x) (hW : RW w (rb + 1) aF aFc aFn aL aLc aLn aP aPc aPn aD aDc aDn aN aNc aNn aS aSc aSn aI aIc aIn aG aGc aGn aB aBc aBn x) (hP : P ≤ 700000) : Calls Tryz.prog 131 #[.pointer (some ⟨rb, 0, none⟩), .agg #[.slice aF aFn aFc, .slice aL aLn aLc, .slice aP aPn aPc, .slice aD aDn aDc, .int .i64 x.market.clock, .slice aN aNn aNc, .slice aS aSn aSc, .slice aI aIn aIc, .slice aG aGn aGc, .slice aB aBn aBc]] w fun E w' => ∃ (e : Sw.Ev), E = .returned (.agg #[.int .i64 e.kind, .int .i64 e.req.user, .int .i64 e.req.n, .int .i64 e.req.kind, .int .i64 e.req.ticket, .int .i64 e.req.who, .int .i64 e.req.price, .int .i64 e.at_, .int .i64 e.ticket, .int .i64 e.who]) ∧ Rdp w' rb (P + 100) ∧ Ch (· = rb) w w' := by
 have hlt := hr.lt
 obtain ⟨rows, hmo⟩ := Sw.mktOk_iff.1 hok.mkt
 have hB6 : aBn ≤ 6 := by have h1 := hok.blen; have h2 := hW.bag.len.1; omega
 have HO := Lib.hid hmo
 have e1 : Sw.mktRows x.market = rows := Sw.mktRows_of hmo.fold
 have e2 := Sw.ownOk_len (Sw.ownFold_ok hmo.fold)
 have E1 := Lib.hid e1
 have E2 := Lib.hid e2
 have hM := hW.mkt
 have wv : IntKind.i64.wrap ((aBn : Int) + 1) = (aBn : Int) + 1 := IntWalk.i64_in _ (by omega)
 clear hok hmo e1 e2
 go_enter Tryz.func131, Tryz.ntmps131
 go_upto_region 2 with (go_at_call 92; apply Calls.mono; apply pick_c; (apply Rdp.keep; assumption; (exact kb_)); (first | assumption | omega); (first | assumption | omega); rintro E w1 ⟨v, rfl, ⟨hv0, hv1⟩, hrd, hb⟩; obtain ⟨hc, hf, hz⟩ := xd hb)
 obtain ⟨vk, rfl⟩ := Int.eq_ofNat_of_zero_le hv0
 clear hv0 hv1
 go_upto_region 3 with (go_at_call 92; apply Calls.mono; apply pick_c; (apply Rdp.keep; assumption; (exact kb_)); (first | assumption | omega); (first | assumption | omega); rintro E w1 ⟨v, rfl, ⟨hv0, hv1⟩, hrd, hb⟩; obtain ⟨hc, hf, hz⟩ := xd hb)
 rcases (show v = 0 ∨ v = 1 ∨ v = 8 ∨ (v = 2 ∨ v = 3) ∨ v = 4 ∨ (v = 5 ∨ v = 6 ∨ v = 7) ∨ 9 ≤ v by omega) with rfl | rfl | rfl | hv | rfl | hv | hv
 · go_wp2_with fail
   refine bodyPost_ret (v := .agg #[.int .i64 2, .int .i64 0, .int .i64 0, .int .i64 0, .int .i64 0, .int .i64 0, .int .i64 0, .int .i64 0, .int .i64 0, .int .i64 0]) (by simp [results, Tryz.results131, go_sem, *]) rfl ?_
   exact ⟨⟨2, ⟨0, 0, 0, 0, 0, 0⟩, 0, 0, 0⟩, rfl, (Rdp.keep hrd kb_).more (by omega), ext_⟩
 · go_wp2_with fail
   refine bodyPost_ret (v := .agg #[.int .i64 4, .int .i64 0, .int .i64 0, .int .i64 0, .int .i64 0, .int .i64 0, .int .i64 0, .int .i64 vk, .int .i64 0, .int .i64 0]) (by simp [results, Tryz.results131, go_sem, *]) rfl ?_
   exact ⟨⟨4, ⟨0, 0, 0, 0, 0, 0⟩, vk, 0, 0⟩, rfl, (Rdp.keep hrd kb_).more (by omega), ext_⟩
 · go_wp2_with fail
   refine bodyPost_ret (v := .agg #[.int .i64 4, .int .i64 0, .int .i64 0, .int .i64 0, .int .i64 0, .int .i64 0, .int .i64 0, .int .i64 vk, .int .i64 0, .int .i64 0]) (by simp [results, Tryz.results131, go_sem, *]) rfl ?_
   exact ⟨⟨4, ⟨0, 0, 0, 0, 0, 0⟩, vk, 0, 0⟩, rfl, (Rdp.keep hrd kb_).more (by omega), ext_⟩
 · rcases hv with rfl | rfl
   all_goals
     clear hv0 hv1
     go_wp2_with (go_at_call 92; apply Calls.mono; apply pick_c; (apply Rdp.keep; assumption; (exact kb_)); (first | assumption | omega); (first | assumption | omega); rintro E w1 ⟨v, rfl, ⟨hv0, hv1⟩, hrd, hb⟩; obtain ⟨hc, hf, hz⟩ := xd hb)
     refine bodyPost_ret (v := .agg #[.int .i64 5, .int .i64 0, .int .i64 0, .int .i64 0, .int .i64 0, .int .i64 0, .int .i64 0, .int .i64 v, .int .i64 0, .int .i64 0]) (by simp [results, Tryz.results131, go_sem, *]) rfl ?_
     exact ⟨⟨5, ⟨0, 0, 0, 0, 0, 0⟩, v, 0, 0⟩, rfl, (Rdp.keep hrd kb_).more (by omega), ext_⟩
 · go_wp2_with fail
   (focus (refine wn_ fun W0 hb0 hc0 hf0 hz0 => ?_; refine wp_regionX [12] (S := fun w' => HeldR rb W0 w') hdR (fun hHeld => ?_); refine GoesX.take 1 34 [2, 3, 4, 10, 11, 12] hHeld (h := ?_); refine GoesX.take 5 38 [10, 11, 12] hHeld (h := ?_); refine GoesX.take 6 39 [7, 8, 9, 10, 11, 12] hHeld (h := ?_); refine GoesX.take 7 40 [8, 9, 10, 11, 12] hHeld (h := ?_); refine GoesX.take 8 41 [9, 10, 11, 12] hHeld (h := ?_); refine GoesX.take 9 42 [10, 11, 12] hHeld (h := ?_); refine GoesX.ready (rs := [0, 2]) (by kernel_rfl) (by simp) ?_; refine EachX.cons rfl (fun K hK => ?_) ?_; rotate_left; refine EachX.cons rfl (fun K hK => ?_) EachX.nil; (focus (go_simp; (first | (go_at_call 92; apply Calls.mono; apply (pickN_c (N := 4)); (apply Rdp.keep; assumption; (exact kb_)); omega; rfl; decide; rintro E w5 ⟨v5, rfl, hv5, hrd, hb⟩; have hsel := sele4_cell hv5; have hv5i : (v5 : Int) < 4 := (by omega); (obtain ⟨hc, hf, hz⟩ := xd hb)) | (go_at_call 92; apply Calls.mono; apply pick_c; (apply Rdp.keep; assumption; (exact kb_)); (first | assumption | omega); (first | assumption | omega); rintro E w1 ⟨v, rfl, ⟨hv0, hv1⟩, hrd, hb⟩; obtain ⟨hc, hf, hz⟩ := xd hb)); (try go_wp2_with fail); refine outS hK hdR (h := ?_); clear hK K hHeld; intro hHeld; refine GoesX.ready (rs := [0, 10]) (by kernel_rfl) (by simp) ?_; refine EachX.cons rfl (fun K hK => ?_) ?_; rotate_left; refine EachX.cons rfl (fun K hK => ?_) EachX.nil; (focus (go_simp; (first | (go_at_call 92; apply Calls.mono; apply (pickN_c (N := 4)); (apply Rdp.keep; assumption; (exact kb_)); omega; rfl; decide; rintro E w5 ⟨v5, rfl, hv5, hrd, hb⟩; have hsel := sele4_cell hv5; have hv5i : (v5 : Int) < 4 := (by omega); (obtain ⟨hc, hf, hz⟩ := xd hb)) | (go_at_call 92; apply Calls.mono; apply pick_c; (apply Rdp.keep; assumption; (exact kb_)); (first | assumption | omega); (first | assumption | omega); rintro E w1 ⟨v, rfl, ⟨hv0, hv1⟩, hrd, hb⟩; obtain ⟨hc, hf, hz⟩ := xd hb)); (try go_wp2_with fail); refine outS hK hdR (h := ?_); clear hK K hHeld; intro hHeld; refine GoesX.one 0 (h := fun K hK => ?_); go_simp; refine outS hK hdR (h := ?_); clear hK K hHeld; intro hHeld; refine GoesX.take 3 36 [4, 11, 12] hHeld (h := ?_); refine GoesX.one 4 (h := fun K hK => ?_); go_simp; refine outS hK hdR (h := ?_); clear hK K hHeld; intro hHeld; refine GoesX.take 11 44 [12] hHeld (h := ?_); refine GoesX.oneX 12 (h := fun K hK => ?_); go_simp; refine outX hK (h := ?_); clear hK K; refine GoesX.done (by kernel_rfl) ?_ _)); rotate_right 1; (focus (go_simp; refine outS hK hdR (h := ?_); clear hK K hHeld; intro hHeld; refine GoesX.take 3 36 [4, 11, 12] hHeld (h := ?_); refine GoesX.ready (rs := [4, 10]) (by kernel_rfl) (by simp) ?_; refine EachX.cons rfl (fun K hK => ?_) ?_; rotate_left; refine EachX.cons rfl (fun K hK => ?_) EachX.nil; (focus (go_simp; (first | (go_at_call 92; apply Calls.mono; apply (pickN_c (N := 4)); (apply Rdp.keep; assumption; (exact kb_)); omega; rfl; decide; rintro E w5 ⟨v5, rfl, hv5, hrd, hb⟩; have hsel := sele4_cell hv5; have hv5i : (v5 : Int) < 4 := (by omega); (obtain ⟨hc, hf, hz⟩ := xd hb)) | (go_at_call 92; apply Calls.mono; apply pick_c; (apply Rdp.keep; assumption; (exact kb_)); (first | assumption | omega); (first | assumption | omega); rintro E w1 ⟨v, rfl, ⟨hv0, hv1⟩, hrd, hb⟩; obtain ⟨hc, hf, hz⟩ := xd hb)); (try go_wp2_with fail); refine outS hK hdR (h := ?_); clear hK K hHeld; intro hHeld; refine GoesX.one 4 (h := fun K hK => ?_); go_simp; refine outS hK hdR (h := ?_); clear hK K hHeld; intro hHeld; refine GoesX.take 11 44 [12] hHeld (h := ?_); refine GoesX.oneX 12 (h := fun K hK => ?_); go_simp; refine outX hK (h := ?_); clear hK K; refine GoesX.done (by kernel_rfl) ?_ _)); rotate_right 1; (focus (go_simp; refine outS hK hdR (h := ?_); clear hK K hHeld; intro hHeld; refine GoesX.one 10 (h := fun K hK => ?_); go_simp; (first | (go_at_call 92; apply Calls.mono; apply (pickN_c (N := 4)); (apply Rdp.keep; assumption; (exact kb_)); omega; rfl; decide; rintro E w5 ⟨v5, rfl, hv5, hrd, hb⟩; have hsel := sele4_cell hv5; have hv5i : (v5 : Int) < 4 := (by omega); (obtain ⟨hc, hf, hz⟩ := xd hb)) | (go_at_call 92; apply Calls.mono; apply pick_c; (apply Rdp.keep; assumption; (exact kb_)); (first | assumption | omega); (first | assumption | omega); rintro E w1 ⟨v, rfl, ⟨hv0, hv1⟩, hrd, hb⟩; obtain ⟨hc, hf, hz⟩ := xd hb)); (try go_wp2_with fail); refine outS hK hdR (h := ?_); clear hK K hHeld; intro hHeld; refine GoesX.take 11 44 [12] hHeld (h := ?_); refine GoesX.oneX 12 (h := fun K hK => ?_); go_simp; refine outX hK (h := ?_); clear hK K; refine GoesX.done (by kernel_rfl) ?_ _)))))); rotate_right 1; (focus (go_simp; refine outS hK hdR (h := ?_); clear hK K hHeld; intro hHeld; refine GoesX.one 2 (h := fun K hK => ?_); go_simp; (first | (go_at_call 92; apply Calls.mono; apply (pickN_c (N := 4)); (apply Rdp.keep; assumption; (exact kb_)); omega; rfl; decide; rintro E w5 ⟨v5, rfl, hv5, hrd, hb⟩; have hsel := sele4_cell hv5; have hv5i : (v5 : Int) < 4 := (by omega); (obtain ⟨hc, hf, hz⟩ := xd hb)) | (go_at_call 92; apply Calls.mono; apply pick_c; (apply Rdp.keep; assumption; (exact kb_)); (first | assumption | omega); (first | assumption | omega); rintro E w1 ⟨v, rfl, ⟨hv0, hv1⟩, hrd, hb⟩; obtain ⟨hc, hf, hz⟩ := xd hb)); (try go_wp2_with fail); refine outS hK hdR (h := ?_); clear hK K hHeld; intro hHeld; refine GoesX.take 3 36 [4, 11, 12] hHeld (h := ?_); refine GoesX.ready (rs := [4, 10]) (by kernel_rfl) (by simp) ?_; refine EachX.cons rfl (fun K hK => ?_) ?_; rotate_left; refine EachX.cons rfl (fun K hK => ?_) EachX.nil; (focus (go_simp; (first | (go_at_call 92; apply Calls.mono; apply (pickN_c (N := 4)); (apply Rdp.keep; assumption; (exact kb_)); omega; rfl; decide; rintro E w5 ⟨v5, rfl, hv5, hrd, hb⟩; have hsel := sele4_cell hv5; have hv5i : (v5 : Int) < 4 := (by omega); (obtain ⟨hc, hf, hz⟩ := xd hb)) | (go_at_call 92; apply Calls.mono; apply pick_c; (apply Rdp.keep; assumption; (exact kb_)); (first | assumption | omega); (first | assumption | omega); rintro E w1 ⟨v, rfl, ⟨hv0, hv1⟩, hrd, hb⟩; obtain ⟨hc, hf, hz⟩ := xd hb)); (try go_wp2_with fail); refine outS hK hdR (h := ?_); clear hK K hHeld; intro hHeld; refine GoesX.one 4 (h := fun K hK => ?_); go_simp; refine outS hK hdR (h := ?_); clear hK K hHeld; intro hHeld; refine GoesX.take 11 44 [12] hHeld (h := ?_); refine GoesX.oneX 12 (h := fun K hK => ?_); go_simp; refine outX hK (h := ?_); clear hK K; refine GoesX.done (by kernel_rfl) ?_ _)); rotate_right 1; (focus (go_simp; refine outS hK hdR (h := ?_); clear hK K hHeld; intro hHeld; refine GoesX.one 10 (h := fun K hK => ?_); go_simp; (first | (go_at_call 92; apply Calls.mono; apply (pickN_c (N := 4)); (apply Rdp.keep; assumption; (exact kb_)); omega; rfl; decide; rintro E w5 ⟨v5, rfl, hv5, hrd, hb⟩; have hsel := sele4_cell hv5; have hv5i : (v5 : Int) < 4 := (by omega); (obtain ⟨hc, hf, hz⟩ := xd hb)) | (go_at_call 92; apply Calls.mono; apply pick_c; (apply Rdp.keep; assumption; (exact kb_)); (first | assumption | omega); (first | assumption | omega); rintro E w1 ⟨v, rfl, ⟨hv0, hv1⟩, hrd, hb⟩; obtain ⟨hc, hf, hz⟩ := xd hb)); (try go_wp2_with fail); refine outS hK hdR (h := ?_); clear hK K hHeld; intro hHeld; refine GoesX.take 11 44 [12] hHeld (h := ?_); refine GoesX.oneX 12 (h := fun K hK => ?_); go_simp; refine outX hK (h := ?_); clear hK K; refine GoesX.done (by kernel_rfl) ?_ _))))))
   all_goals go_wp2_with fail
   all_goals refine bodyPost_ret (v := .agg #[.int .i64 (sele4 v5 6 7 3 9), .int .i64 0, .int .i64 0, .int .i64 0, .int .i64 0, .int .i64 0, .int .i64 0, .int .i64 v, .int .i64 0, .int .i64 0]) (by simp [results, Tryz.results131, go_sem, *]) rfl ?_
   all_goals exact ⟨⟨sele4 v5 6 7 3 9, ⟨0, 0, 0, 0, 0, 0⟩, v, 0, 0⟩, rfl, (Rdp.keep hrd kb_).more (by omega), ext_⟩
 · have hV := Lib.hid hv
   have hv' : RowKit.Hid ((v == 5) = true ∨ ((v == 5) = false ∧ (v == 6) = true) ∨ ((v == 5) = false ∧ (v == 6) = false ∧ (v == 7) = true)) := Lib.hid (by rcases hv with rfl | rfl | rfl <;> decide)
   have q0 : (v == 0) = false := by simp; omega
   have q1 : (v == 1) = false := by simp; omega
   have q2 : (v == 2) = false := by simp; omega
   have q3 : (v == 3) = false := by simp; omega
   have q4 : (v == 4) = false := by simp; omega
   clear hv hv0 hv1
   rcases hv'.out with q5 | ⟨q5, q6⟩ | ⟨q5, q6, q7⟩
   all_goals
     go_upto_region 16 with (go_at_call 92; apply Calls.mono; apply pick_c; (apply Rdp.keep; assumption; (exact kb_)); (first | assumption | omega); (first | assumption | omega); rintro E w1 ⟨v, rfl, ⟨hv0, hv1⟩, hrd, hb⟩; obtain ⟨hc, hf, hz⟩ := xd hb)
     obtain ⟨t0, rfl⟩ := Int.eq_ofNat_of_zero_le hv0
     have ht0 : t0 < 8 := by omega
     clear hv0 hv1
     go_upto_region 18 with (first | (go_at_call 92; apply Calls.mono; apply pick_c; (apply Rdp.keep; assumption; (exact kb_)); (first | assumption | omega); (first | assumption | omega); rintro E w1 ⟨v, rfl, ⟨hv0, hv1⟩, hrd, hb⟩; obtain ⟨hc, hf, hz⟩ := xd hb) | (go_at_call 195; apply Calls.mono; apply (sRows_c (m := x.market)); (apply Rs.at0 hM.log; (exact kf_)); rintro E w1 ⟨A1, c1, n1, rfl, hrow, hb⟩; obtain ⟨hc, hf, hz⟩ := xy hb))
     rw [E1.out] at hrow
     obtain rfl : n1 = 8 := hrow.1.trans E2.out
     have hrow1 : OwR w1 w.heap.size A1 c1 8 rows := (hrow.keep kf_).less sz_
     have hHC : RdCh w w1 rb (P + 5) := ⟨(Rdp.keep hrd kb_).more (by omega), ext_⟩
     have hsz1 : w.heap.size + 2 ≤ w1.heap.size := sz_
     have hR1 : Lb w1 (w.heap.size + 1) 10 := by (repeat (first | with_reducible assumption | with_reducible exact Lb.new (by first | rfl | (simp only [zq_]; done)) (by with_unfolding_all rfl) | with_reducible apply Lb.alloc | with_reducible apply Lb.set | with_reducible apply Lb.drew | (with_reducible refine Lb.ex ?_ (by assumption)) | (refine Lb.chk (S := fun k => k = rb) (by with_reducible assumption) ?_ (by show ¬ _ = rb; omega))))
     clear hrow hv0 hv1 hrd hb hc hf hz
     ((repeat (rename Ch _ _ _ => zz; clear zz)); (repeat (rename Rdp _ _ _ => zz; clear zz)); (repeat (rename (∀ (b o : Nat), ¬ ((⟨b, 0, none⟩ : Addr) = ⟨b - _ + _, 0, none⟩) → _) => zz; clear zz)))
     obtain ⟨hrd1, hb1⟩ := hHC
     obtain ⟨who, hwho⟩ : ∃ z, z = 1 + v := ⟨_, rfl⟩
     rw [← hwho]
     clear hwho
     go_wp2_with fail
     go_loopw [6, 9] (fun t k wr => ∃ (tt kk : Nat), t = .int .i64 tt ∧ tt < 8 ∧ k = .int .i64 kk ∧ kk ≤ 3 ∧ Ch (· = rb) w1 wr ∧ Rdp wr rb (P + 5 + kk)) (fun _ k _ => 3 - (intOf k).toNat)
     case atStart => exact ⟨t0, 0, rfl, ht0, rfl, by omega, Ch.refl _ _, hrd1⟩
     case round =>
       obtain ⟨tt, kk, rfl, htt, rfl, hkk, hb2, hrd2⟩ := hrel
       have hst := xc hb2
       obtain ⟨hc2, hf2, hz2⟩ := hst
       have hrw : OwR wr w.heap.size A1 c1 8 rows := hrow1.keep kf_
       obtain ⟨gR, y, hA, hloR, hltR, hy, p0, p1, p2, hfz⟩ := at_OR hrw htt
       subst hA
       clear hy p2 hfz
       have i0 : (0 : Int) ≤ (tt : Int) := by omega
       have i1 : (tt : Int) < 8 := by omega
       have hlen8 : ((8 : Int) == 8) = true := rfl
       by_cases hgo : kk < 3 ∧ y.who = 0
       · obtain ⟨hk5, hw0⟩ := hgo
         have hg1 : (kk : Int) < 3 := by omega
         have hg2 : (y.who == 0) = true := by simp [hw0]
         go_wp2_with (go_at_call 92; apply Calls.mono; apply pick_c; (apply Rdp.keep; assumption; (exact kb_)); (first | assumption | omega); (first | assumption | omega); rintro E w1 ⟨v, rfl, ⟨hv0, hv1⟩, hrd, hb⟩; obtain ⟨hc, hf, hz⟩ := xd hb)
         obtain ⟨t1, rfl⟩ := Int.eq_ofNat_of_zero_le hv0
         go_roundw
         case rel => exact ⟨t1, kk + 1, rfl, by omega, by go_num, by omega, ext_, hrd.more (by omega)⟩
         case measure => simp [intOf]; omega
       · rcases (show ¬ (kk : Int) < 3 ∨ ((kk : Int) < 3 ∧ (y.who == 0) = false) by by_cases h5 : kk < 3; exact .inr ⟨by omega, by simp; exact fun h => hgo ⟨h5, h⟩⟩; exact .inl (by omega)) with hk5 | ⟨hk5, hg2⟩
         all_goals
           have hLr : Lb wr (w.heap.size + 1) 10 := by (repeat (first | with_reducible assumption | with_reducible exact Lb.new (by first | rfl | (simp only [zq_]; done)) (by with_unfolding_all rfl) | with_reducible apply Lb.alloc | with_reducible apply Lb.set | with_reducible apply Lb.drew | (with_reducible refine Lb.ex ?_ (by assumption)) | (refine Lb.chk (S := fun k => k = rb) (by with_reducible assumption) ?_ (by show ¬ _ = rb; omega))))
           obtain ⟨hcz, hfz⟩ := Lb.rules hLr
           obtain ⟨hcz1, hfz1⟩ := Lb.rules hR1
           by_cases hy0 : 0 < y.who
           case neg =>
             have hy0' : ¬ 0 < y.who := hy0
             have hy0d : decide (0 < y.who) = false := decide_eq_false hy0
             go_wp2_with fail
             refine bodyPost_ret (v := .agg #[.int .i64 8, .int .i64 0, .int .i64 0, .int .i64 0, .int .i64 0, .int .i64 0, .int .i64 0, .int .i64 vk, .int .i64 tt, .int .i64 who]) (by simp [results, Tryz.results131, go_sem, *]) rfl ?_; (first | refine ⟨⟨8, ⟨0, 0, 0, 0, 0, 0⟩, vk, tt, who⟩, rfl, ?_, ?_⟩ | refine ⟨⟨⟨8, ⟨0, 0, 0, 0, 0, 0⟩, vk, tt, who⟩, rfl⟩, ?_, ?_⟩); (focus (exact Rdp.more (Rdp.keep (by assumption) kb_) (by omega))); exact ext_
           case pos =>
             have hy0d : decide (0 < y.who) = true := decide_eq_true hy0
             go_upto_if 91 with (go_at_call 92; apply Calls.mono; apply pick_c; (apply Rdp.keep; assumption; (exact kb_)); (first | assumption | omega); (first | assumption | omega); rintro E w1 ⟨v, rfl, ⟨hv0, hv1⟩, hrd, hb⟩; obtain ⟨hc, hf, hz⟩ := xd hb)
             by_cases hv9 : 0 < v
             case pos =>
               have hv9d : decide (0 < v) = true := decide_eq_true hv9
               go_wp2_with fail
               refine bodyPost_ret (v := .agg #[.int .i64 8, .int .i64 0, .int .i64 0, .int .i64 0, .int .i64 0, .int .i64 0, .int .i64 0, .int .i64 vk, .int .i64 tt, .int .i64 y.who]) (by simp [results, Tryz.results131, go_sem, *]) rfl ?_; (first | refine ⟨⟨8, ⟨0, 0, 0, 0, 0, 0⟩, vk, tt, y.who⟩, rfl, ?_, ?_⟩ | refine ⟨⟨⟨8, ⟨0, 0, 0, 0, 0, 0⟩, vk, tt, y.who⟩, rfl⟩, ?_, ?_⟩); (focus (exact Rdp.more (Rdp.keep (by assumption) kb_) (by omega))); exact ext_
             case neg =>
               have hv9' : ¬ 0 < v := hv9
               have hv9d : decide (0 < v) = false := decide_eq_false hv9
               go_wp2_with fail
               refine bodyPost_ret (v := .agg #[.int .i64 8, .int .i64 0, .int .i64 0, .int .i64 0, .int .i64 0, .int .i64 0, .int .i64 0, .int .i64 vk, .int .i64 tt, .int .i64 who]) (by simp [results, Tryz.results131, go_sem, *]) rfl ?_; (first | refine ⟨⟨8, ⟨0, 0, 0, 0, 0, 0⟩, vk, tt, who⟩, rfl, ?_, ?_⟩ | refine ⟨⟨⟨8, ⟨0, 0, 0, 0, 0, 0⟩, vk, tt, who⟩, rfl⟩, ?_, ?_⟩); (focus (exact Rdp.more (Rdp.keep (by assumption) kb_) (by omega))); exact ext_
 · have q0 : (v == 0) = false := by simp; omega
   have q1 : (v == 1) = false := by simp; omega
   have q2 : (v == 2) = false := by simp; omega
   have q3 : (v == 3) = false := by simp; omega
   have q4 : (v == 4) = false := by simp; omega
   have q5 : (v == 5) = false := by simp; omega
   have q6 : (v == 6) = false := by simp; omega
   have q7 : (v == 7) = false := by simp; omega
   have q8 : (v == 8) = false := by simp; omega
   clear hv hv0 hv1
   go_wp2_with (go_at_call 196; apply Calls.mono; apply (l21AnyReq_c (m := x.market) (rows := rows)); (apply Rdp.keep; assumption; (exact kb_)); exact HO.out; exact (hM.keep kf_).less (by omega); omega; omega; omega; rintro E w3 ⟨p, q, r, s, t, u, rfl, hrd, hb⟩; (obtain ⟨hc, hf, hz⟩ := xd hb))
   refine bodyPost_ret (v := .agg #[.int .i64 1, .int .i64 p, .int .i64 q, .int .i64 r, .int .i64 s, .int .i64 t, .int .i64 u, .int .i64 0, .int .i64 0, .int .i64 0]) (by simp [results, Tryz.results131, go_sem, *]) rfl ?_
   exact ⟨⟨1, ⟨p, q, r, s, t, u⟩, 0, 0, 0⟩, rfl, (Rdp.keep hrd kb_).more (by omega), ext_⟩
end Go.Proofs.YtnnoiagommiapaaGreat
