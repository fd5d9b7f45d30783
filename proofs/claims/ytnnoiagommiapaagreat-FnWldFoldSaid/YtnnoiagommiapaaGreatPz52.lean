/- Texts joined: DrF. -/
import Derived.Test.YtnnoiagommiapaaGreatPz51
set_option maxRecDepth 100000
set_option linter.unusedSimpArgs false
set_option linter.unusedVariables false
namespace Go.Proofs.YtnnoiagommiapaaGreat
open Go.RowKit Go
set_option maxHeartbeats 4000000
theorem drawWldFold_c (A0 : Option Addr) (c0 n0 : Nat) (bs : List Int) (w : World) (hxs : RB w 0 A0 c0 n0 bs) (hq : ∀ x ∈ bs, 0 ≤ x ∧ x ≤ 255) : Calls Tryz.prog 39 #[.slice A0 n0 c0] w fun E w' => ∃ F Fc Fn fs I Ic In ls, E = .returned (.tuple #[.slice F Fn Fc, .slice I In Ic]) ∧ (RI w' 0 F Fc Fn fs ∧ RQ w' 0 I Ic In ls) ∧ Ex w w' := by
 go_enter Tryz.func39, Tryz.ntmps39
 go_wp2_with fail
 apply Calls.mono
 apply l20Open_c
 · apply Rs.at0 hxs; (exact kf_)
 · exact hq
 rintro E w1 ⟨rb, rfl, hrd, hrb, hb⟩
 obtain ⟨hc, hf, hz⟩ := xy hb
 have hlt := hrd.lt
 have hrb0 : w.heap.size ≤ rb := sz_
 go_upto_region 4 with (go_at_call 90; apply Calls.mono; apply l21World_c; (apply Rdp.keep; assumption; (exact kb_)); omega; rintro E w2 ⟨bF, bFc, bFn, bL, bLc, bLn, bP, bPc, bPn, bD, bDc, bDn, bN, bNc, bNn, bS, bSc, bSn, bI, bIc, bIn, bG, bGc, bGn, bB, bBc, bBn, z, rfl, hz1, hzok, hrd, hb⟩; (obtain ⟨hc, hf, hz⟩ := xd hb))
 (refine wn_ fun W0 hb0 hc0 hf0 hz0 => ?_)
 obtain ⟨gg, hgg⟩ : ∃ g, g = w2.heap.size := ⟨_, rfl⟩
 have hgg0 : rb < gg := by rw [hgg]; exact hrd.lt
 have hG0 : W0.cell? ⟨gg, 0, none⟩ = some (.slice bF bFn bFc) := by rw [hgg]; (go_simp; first | done | simp [*])
 have hGf : ∀ i : Nat, W0.frozen? ⟨gg, i, none⟩ = false := fun i => by rw [hgg]; (go_simp; first | done | simp [*])
 have hGz : gg < W0.heap.size := by rw [hgg]; exact sz_
 have hI : RQ W0 (rb + 1) bI bIc bIn z.lines := (hz1.lines.keep kf_).less sz_
 have hF : RI W0 (rb + 1) bF bFc bFn z.first := (hz1.first.keep kf_).less sz_
 have hln : bIn ≤ 300 := by have h1 := hI.1; have h2 := hzok.lines; omega
 clear hzok
 have HK : RdCh w W0 rb 13000 := ⟨Rdp.more (Rdp.keep hrd kb_) (by omega), ext_⟩
 rw [← hgg]
 clear hgg hrd hb hc hf hz hb0 hc0 hf0 hz0 hz1
 ((repeat (rename Ch _ _ _ => zz; clear zz)); (repeat (rename Rdp _ _ _ => zz; clear zz)); (repeat (rename (∀ (b o : Nat), ¬ ((⟨b, 0, none⟩ : Addr) = ⟨b - _ + _, 0, none⟩) → _) => zz; clear zz)))
 obtain ⟨hrd, hb⟩ := HK
 obtain ⟨Wq, hWq⟩ : ∃ z, z = W0 := ⟨_, rfl⟩
 subst hWq
 go_upto_if 20 with (go_at_call 93; apply Calls.mono; apply odd_c; (apply Rdp.keep; assumption; (exact kb_)); (first | assumption | omega); (first | assumption | omega); (first | assumption | omega); rintro E w1 ⟨b, rfl, hrd, hb⟩; obtain ⟨hc, hf, hz⟩ := xd hb)
 · by_cases hn : 0 < bIn
   case neg =>
     obtain rfl : bIn = 0 := by omega
     go_upto_region 7 with fail
     (refine wn_ fun W0 hb0 hc0 hf0 hz0 => ?_)
     have hrd6 := hrd.keep (show KB rb w1 W0 from kb_)
     have hI6 : RQ W0 (rb + 1) bI bIc 0 z.lines := hI.keep kf_
     have hF6 : RI W0 (rb + 1) bF bFc bFn z.first := hF.keep kf_
     have hcq : Ch (· = rb) w W0 := ext_
     have hG6 : W0.cell? ⟨gg, 0, none⟩ = some (.slice bF bFn bFc) := co_
     have hf6 : ∀ i : Nat, W0.frozen? ⟨gg, i, none⟩ = false := fun i => co_
     have hz6 : gg < W0.heap.size := sz_
     clear hrd hI hF hG0 hGf hGz hb hc hf hz hb0 hc0 hf0
     have HQ := Lib.hid hcq
     clear hcq
     go_wp2_with (first | (go_at_call 93; apply Calls.mono; apply odd_c; (apply Rdp.keep; assumption; (exact kb_)); (first | assumption | omega); (first | assumption | omega); (first | assumption | omega); rintro E w1 ⟨b, rfl, hrd, hb⟩; obtain ⟨hc, hf, hz⟩ := xd hb) | (go_at_call 107; apply Calls.mono; apply l20Purses_c; (apply Rdp.keep; assumption; (exact kb_)); (first | assumption | omega); (first | assumption | omega); (first | assumption | omega); rintro E w1 ⟨A, c, m, xs, rfl, hps, hpl, hrd, hb⟩; obtain ⟨hc, hf, hz⟩ := xd hb) | ((at_builtin; apply wpList_app (lo := W0.heap.size) el_Q one_Q rfl rfl rfl rfl; (first | assumption | exact Ow.nil _ _ | (apply Ow.keep; assumption; exact kf_) | (refine own_)); (first | (exact rd_)); omega; exact sz_; intro A1 c1 w2 ho1 hch1 hat1 hex1 hlow1; have hb := hex1 (· = rb) W0 (by exact ext_) (by omega); have hrd := Rdp.low (Rdp.keep (by assumption) (by exact kb_)) hch1.size hlow1 (by omega); have hz := hch1.size; (try simp only [zq_] at hz); obtain ⟨hc, hf⟩ := low_rules hlow1; clear hex1); (try simp only [Nat.zero_add] at ho1)) | (at_builtin; apply wpList_app (lo := W0.heap.size) el_Q one_Q rfl rfl rfl rfl; (first | assumption | exact Ow.nil _ _ | (apply Ow.keep; assumption; exact kf_) | (refine own_)); (first | (refine Rs.new [⟨9, 0, 0, 0, 0, 0⟩] (by (first | rfl | (simp only [zq_]; done) | omega)) rfl rfl (fun _ => rfl) (by omega))); omega; exact sz_; intro A1 c1 w2 ho1 hch1 hat1 hex1 hlow1; have hb := hex1 (· = rb) W0 (by exact ext_) (by omega); have hrd := Rdp.low (Rdp.keep (by assumption) (by exact kb_)) hch1.size hlow1 (by omega); have hz := hch1.size; (try simp only [zq_] at hz); obtain ⟨hc, hf⟩ := low_rules hlow1; clear hex1) | fail)
     · (refine bodyPost_ret (v := .tuple #[.slice A m c, .slice bI 0 bIc]) (by simp [results, Tryz.results39, go_sem, *]) rfl ?_; refine ⟨_, _, _, _, _, _, _, _, rfl, ⟨(hps.keep kf_).less (Nat.zero_le _), hI6.at0 kf_⟩, ?_⟩; (have hcq := HQ.out; exact ext_))
     · (refine bodyPost_ret (v := .tuple #[.slice bF bFn bFc, .slice A1 (0 + 1) c1]) (by simp [results, Tryz.results39, go_sem, *]) rfl ?_; refine ⟨_, _, _, _, _, _, _, _, rfl, ⟨hF6.at0 kf_, (ho1.rs.keep kf_).less (Nat.zero_le _)⟩, ?_⟩; (have hcq := HQ.out; exact ext_))
     · (refine bodyPost_ret (v := .tuple #[.slice bF bFn bFc, .slice bI 0 bIc]) (by simp [results, Tryz.results39, go_sem, *]) rfl ?_; refine ⟨_, _, _, _, _, _, _, _, rfl, ⟨hF6.at0 kf_, hI6.at0 kf_⟩, ?_⟩; (have hcq := HQ.out; exact ext_))
   case pos =>
     have hn' : (0 : Int) < (bIn : Int) := by omega
     go_upto_region 6 with (go_at_call 92; apply Calls.mono; apply (pickN_c (N := bIn)); (apply Rdp.keep; assumption; (exact kb_)); omega; rfl; omega; rintro E w5 ⟨ii, rfl, hv5, hrd, hb⟩; (obtain ⟨hc, hf, hz⟩ := xd hb))
     (refine wn_ fun W0 hb0 hc0 hf0 hz0 => ?_)
     have hrd6 := hrd.keep (show KB rb w5 W0 from kb_)
     have hI6 : RQ W0 (rb + 1) bI bIc bIn z.lines := hI.keep kf_
     have hF6 : RI W0 (rb + 1) bF bFc bFn z.first := hF.keep kf_
     have hcq : Ch (· = rb) w W0 := ext_
     have hG6 : W0.cell? ⟨gg, 0, none⟩ = some (.slice bF bFn bFc) := co_
     have hf6 : ∀ i : Nat, W0.frozen? ⟨gg, i, none⟩ = false := fun i => co_
     have hz6 : gg < W0.heap.size := sz_
     have hT := Rs.take hI6 (fun _ => rfl) (k := ii) (by omega)
     have hD := Rs.drop hI6 (fun _ => rfl) (k := ii + 1) (by omega)
     have hcap := hI6.2.le
     have u1 : (0 : Int) ≤ (ii : Int) := by omega
     have u2 : (ii : Int) ≤ (bIn : Int) := by omega
     have u3 : (ii : Int) + 1 ≤ (bIn : Int) := by omega
     have u4 : (ii : Int) ≤ (bIc : Int) := by omega
     have hbg := Rs.big hI6
     have u5 : (ii : Int) ≤ (ii : Int) + 1 := by omega
     have u6 : IntKind.i64.wrap ((ii : Int) + 1) = (ii : Int) + 1 := IntWalk.i64_in _ (by omega)
     have u7 : (0 : Int) ≤ (ii : Int) + 1 := by omega
     have u8 : ((ii : Int) + 1).toNat = ii + 1 := by omega
     clear hrd hI hF hG0 hGf hGz hb hc hf hz hb0 hc0 hf0
     obtain ⟨g, off, -, rfl, hg0, hg1, -⟩ := at_Q hI6 hn
     obtain ⟨Wr, hWr⟩ : ∃ z, z = W0 := ⟨_, rfl⟩
     subst hWr
     by_cases hcc : bIc = ii + 1
     · subst hcc
       obtain rfl : bIn = ii + 1 := by omega
       rw [if_pos rfl] at hD
       simp only [Nat.sub_self] at hD
       (focus (refine wn_ fun W0 hb0 hc0 hf0 hz0 => ?_; refine wp_regionX [] (S := fun w' => Held W0 w') hdH (fun hHeld => ?_); refine GoesX.take 1 26 [] hHeld (h := ?_); refine GoesX.take 2 27 [] hHeld (h := ?_); refine GoesX.take 3 28 [] hHeld (h := ?_); refine GoesX.take 5 30 [] hHeld (h := ?_); refine GoesX.take 6 31 [] hHeld (h := ?_); refine GoesX.take 7 32 [] hHeld (h := ?_); refine GoesX.take 8 33 [] hHeld (h := ?_); refine GoesX.one 0 (h := fun K hK => ?_); go_simp; refine outS hK hdH (h := ?_); clear hK K hHeld; intro hHeld; refine GoesX.one 4 (h := fun K hK => ?_); (first | (apply step_app (lo := W0.heap.size) el_Q one_Q rfl rfl rfl rfl; (exact Nw.ow nw_ sz_); (apply Rs.at0 hT; exact kf_); omega; (exact sz_); intro A1 c1 w3 ho1 hch1 hat1 hex1 hlow1; have hHeldX := Held.of (hex1 (fun _ => False) W0 (And.right (by assumption : Held W0 _)) (Nat.le_refl _)); have hgF := Ch.eqA hch1; obtain ⟨hcF, hfF, hzF⟩ := xd hgF; clear hex1 hlow1 hat1 hch1) | (apply step_app (lo := W0.heap.size) el_Q one_Q rfl rfl rfl rfl; (exact Ow.keep ho1 kf_); (apply Rs.at0 hD; exact kf_); omega; (exact sz_); intro A2 c2 w4 ho2 hch2 hat2 hex2 hlow2; have hexX := hex2 (fun _ => False) W0 (And.right (by assumption : Held W0 _)) (Nat.le_refl _); have hHeldX := Held.of hexX; obtain ⟨hcG, hfG, hzG⟩ := xy hexX; clear hex2 hlow2 hat2 hch2)); refine outS hK hdH (h := ?_); clear hK K hHeld; intro hHeld; refine GoesX.one 9 (h := fun K hK => ?_); (first | (apply step_app (lo := W0.heap.size) el_Q one_Q rfl rfl rfl rfl; (exact Nw.ow nw_ sz_); (apply Rs.at0 hT; exact kf_); omega; (exact sz_); intro A1 c1 w3 ho1 hch1 hat1 hex1 hlow1; have hHeldX := Held.of (hex1 (fun _ => False) W0 (And.right (by assumption : Held W0 _)) (Nat.le_refl _)); have hgF := Ch.eqA hch1; obtain ⟨hcF, hfF, hzF⟩ := xd hgF; clear hex1 hlow1 hat1 hch1) | (apply step_app (lo := W0.heap.size) el_Q one_Q rfl rfl rfl rfl; (exact Ow.keep ho1 kf_); (apply Rs.at0 hD; exact kf_); omega; (exact sz_); intro A2 c2 w4 ho2 hch2 hat2 hex2 hlow2; have hexX := hex2 (fun _ => False) W0 (And.right (by assumption : Held W0 _)) (Nat.le_refl _); have hHeldX := Held.of hexX; obtain ⟨hcG, hfG, hzG⟩ := xy hexX; clear hex2 hlow2 hat2 hch2)); refine outS hK hdH (h := ?_); clear hK K hHeld; intro hHeld; refine GoesX.take 10 6 [] hHeld (h := ?_); refine GoesX.done (by kernel_rfl) ?_ _; all_goals (obtain ⟨hb, hc, hf, hz⟩ := xh (by assumption : Held W0 _))))
       go_upto_region 7 with fail
       (refine wn_ fun W0 hb0 hc0 hf0 hz0 => ?_)
       have hrd7 := hrd6.keep (show KB rb Wr W0 from kb_)
       simp only [Nat.zero_add, Nat.add_zero] at ho2
       have hI7 : RQ W0 (rb + 1) A2 c2 _ _ := (ho2.rs.keep kf_).less (by have := hrd6.lt; omega)
       have hF7 := hF6.keep (show KF (rb + 1) Wr W0 from kf_)
       have hcq2 : Ch (· = rb) Wr W0 := ext_
       replace hcq := Ch.trans hcq hcq2
       clear hcq2
       have hG7 : W0.cell? ⟨gg, 0, none⟩ = some (.slice bF bFn bFc) := co_
       have hf7 : ∀ i : Nat, W0.frozen? ⟨gg, i, none⟩ = false := fun i => co_
       have hz7 : gg < W0.heap.size := sz_
       clear hb0 hc0 hf0
       have HQ := Lib.hid hcq
       clear hcq
       go_wp2_with (first | (go_at_call 93; apply Calls.mono; apply odd_c; (apply Rdp.keep; assumption; (exact kb_)); (first | assumption | omega); (first | assumption | omega); (first | assumption | omega); rintro E w1 ⟨b, rfl, hrd, hb⟩; obtain ⟨hc, hf, hz⟩ := xd hb) | (go_at_call 107; apply Calls.mono; apply l20Purses_c; (apply Rdp.keep; assumption; (exact kb_)); (first | assumption | omega); (first | assumption | omega); (first | assumption | omega); rintro E w1 ⟨A, c, m, xs, rfl, hps, hpl, hrd, hb⟩; obtain ⟨hc, hf, hz⟩ := xd hb) | ((at_builtin; apply wpList_app (lo := W0.heap.size) el_Q one_Q rfl rfl rfl rfl; (first | assumption | exact Ow.nil _ _ | (apply Ow.keep; assumption; exact kf_) | (refine own_)); (first | (exact rd_)); omega; exact sz_; intro A1 c1 w2 ho1 hch1 hat1 hex1 hlow1; have hb := hex1 (· = rb) W0 (by exact ext_) (by omega); have hrd := Rdp.low (Rdp.keep (by assumption) (by exact kb_)) hch1.size hlow1 (by omega); have hz := hch1.size; (try simp only [zq_] at hz); obtain ⟨hc, hf⟩ := low_rules hlow1; clear hex1); (try simp only [Nat.zero_add] at ho1)) | (at_builtin; apply wpList_app (lo := W0.heap.size) el_Q one_Q rfl rfl rfl rfl; (first | assumption | exact Ow.nil _ _ | (apply Ow.keep; assumption; exact kf_) | (refine own_)); (first | (refine Rs.new [⟨9, 0, 0, 0, 0, 0⟩] (by (first | rfl | (simp only [zq_]; done) | omega)) rfl rfl (fun _ => rfl) (by omega))); omega; exact sz_; intro A1 c1 w2 ho1 hch1 hat1 hex1 hlow1; have hb := hex1 (· = rb) W0 (by exact ext_) (by omega); have hrd := Rdp.low (Rdp.keep (by assumption) (by exact kb_)) hch1.size hlow1 (by omega); have hz := hch1.size; (try simp only [zq_] at hz); obtain ⟨hc, hf⟩ := low_rules hlow1; clear hex1) | fail)
       · (refine bodyPost_ret (v := .tuple #[.slice A m c, .slice A2 ii c2]) (by simp [results, Tryz.results39, go_sem, *]) rfl ?_; refine ⟨_, _, _, _, _, _, _, _, rfl, ⟨(hps.keep kf_).less (Nat.zero_le _), hI7.at0 kf_⟩, ?_⟩; (have hcq := HQ.out; exact ext_))
       · (refine bodyPost_ret (v := .tuple #[.slice bF bFn bFc, .slice A1 (ii + 1) c1]) (by simp [results, Tryz.results39, go_sem, *]) rfl ?_; refine ⟨_, _, _, _, _, _, _, _, rfl, ⟨hF7.at0 kf_, (ho1.rs.keep kf_).less (Nat.zero_le _)⟩, ?_⟩; (have hcq := HQ.out; exact ext_))
       · (refine bodyPost_ret (v := .tuple #[.slice bF bFn bFc, .slice A2 ii c2]) (by simp [results, Tryz.results39, go_sem, *]) rfl ?_; refine ⟨_, _, _, _, _, _, _, _, rfl, ⟨hF7.at0 kf_, hI7.at0 kf_⟩, ?_⟩; (have hcq := HQ.out; exact ext_))
     · rw [if_neg hcc] at hD
       simp only [Option.map_some, Addr.add_lit, Nat.zero_add] at hD
       (focus (refine wn_ fun W0 hb0 hc0 hf0 hz0 => ?_; refine wp_regionX [] (S := fun w' => Held W0 w') hdH (fun hHeld => ?_); refine GoesX.take 1 26 [] hHeld (h := ?_); refine GoesX.take 2 27 [] hHeld (h := ?_); refine GoesX.take 3 28 [] hHeld (h := ?_); refine GoesX.take 5 30 [] hHeld (h := ?_); refine GoesX.take 6 31 [] hHeld (h := ?_); refine GoesX.take 7 32 [] hHeld (h := ?_); refine GoesX.take 8 33 [] hHeld (h := ?_); refine GoesX.one 0 (h := fun K hK => ?_); go_simp; refine outS hK hdH (h := ?_); clear hK K hHeld; intro hHeld; refine GoesX.one 4 (h := fun K hK => ?_); (first | (apply step_app (lo := W0.heap.size) el_Q one_Q rfl rfl rfl rfl; (exact Nw.ow nw_ sz_); (apply Rs.at0 hT; exact kf_); omega; (exact sz_); intro A1 c1 w3 ho1 hch1 hat1 hex1 hlow1; have hHeldX := Held.of (hex1 (fun _ => False) W0 (And.right (by assumption : Held W0 _)) (Nat.le_refl _)); have hgF := Ch.eqA hch1; obtain ⟨hcF, hfF, hzF⟩ := xd hgF; clear hex1 hlow1 hat1 hch1) | (apply step_app (lo := W0.heap.size) el_Q one_Q rfl rfl rfl rfl; (exact Ow.keep ho1 kf_); (apply Rs.at0 hD; exact kf_); omega; (exact sz_); intro A2 c2 w4 ho2 hch2 hat2 hex2 hlow2; have hexX := hex2 (fun _ => False) W0 (And.right (by assumption : Held W0 _)) (Nat.le_refl _); have hHeldX := Held.of hexX; obtain ⟨hcG, hfG, hzG⟩ := xy hexX; clear hex2 hlow2 hat2 hch2)); refine outS hK hdH (h := ?_); clear hK K hHeld; intro hHeld; refine GoesX.one 9 (h := fun K hK => ?_); (first | (apply step_app (lo := W0.heap.size) el_Q one_Q rfl rfl rfl rfl; (exact Nw.ow nw_ sz_); (apply Rs.at0 hT; exact kf_); omega; (exact sz_); intro A1 c1 w3 ho1 hch1 hat1 hex1 hlow1; have hHeldX := Held.of (hex1 (fun _ => False) W0 (And.right (by assumption : Held W0 _)) (Nat.le_refl _)); have hgF := Ch.eqA hch1; obtain ⟨hcF, hfF, hzF⟩ := xd hgF; clear hex1 hlow1 hat1 hch1) | (apply step_app (lo := W0.heap.size) el_Q one_Q rfl rfl rfl rfl; (exact Ow.keep ho1 kf_); (apply Rs.at0 hD; exact kf_); omega; (exact sz_); intro A2 c2 w4 ho2 hch2 hat2 hex2 hlow2; have hexX := hex2 (fun _ => False) W0 (And.right (by assumption : Held W0 _)) (Nat.le_refl _); have hHeldX := Held.of hexX; obtain ⟨hcG, hfG, hzG⟩ := xy hexX; clear hex2 hlow2 hat2 hch2)); refine outS hK hdH (h := ?_); clear hK K hHeld; intro hHeld; refine GoesX.take 10 6 [] hHeld (h := ?_); refine GoesX.done (by kernel_rfl) ?_ _; all_goals (obtain ⟨hb, hc, hf, hz⟩ := xh (by assumption : Held W0 _))))
       go_upto_region 7 with fail
       (refine wn_ fun W0 hb0 hc0 hf0 hz0 => ?_)
       have hrd7 := hrd6.keep (show KB rb Wr W0 from kb_)
       simp only [Nat.zero_add, Nat.add_zero] at ho2
       have hI7 : RQ W0 (rb + 1) A2 c2 _ _ := (ho2.rs.keep kf_).less (by have := hrd6.lt; omega)
       have hF7 := hF6.keep (show KF (rb + 1) Wr W0 from kf_)
       have hcq2 : Ch (· = rb) Wr W0 := ext_
       replace hcq := Ch.trans hcq hcq2
       clear hcq2
       have hG7 : W0.cell? ⟨gg, 0, none⟩ = some (.slice bF bFn bFc) := co_
       have hf7 : ∀ i : Nat, W0.frozen? ⟨gg, i, none⟩ = false := fun i => co_
       have hz7 : gg < W0.heap.size := sz_
       clear hb0 hc0 hf0
       have HQ := Lib.hid hcq
       clear hcq
       go_wp2_with (first | (go_at_call 93; apply Calls.mono; apply odd_c; (apply Rdp.keep; assumption; (exact kb_)); (first | assumption | omega); (first | assumption | omega); (first | assumption | omega); rintro E w1 ⟨b, rfl, hrd, hb⟩; obtain ⟨hc, hf, hz⟩ := xd hb) | (go_at_call 107; apply Calls.mono; apply l20Purses_c; (apply Rdp.keep; assumption; (exact kb_)); (first | assumption | omega); (first | assumption | omega); (first | assumption | omega); rintro E w1 ⟨A, c, m, xs, rfl, hps, hpl, hrd, hb⟩; obtain ⟨hc, hf, hz⟩ := xd hb) | ((at_builtin; apply wpList_app (lo := W0.heap.size) el_Q one_Q rfl rfl rfl rfl; (first | assumption | exact Ow.nil _ _ | (apply Ow.keep; assumption; exact kf_) | (refine own_)); (first | (exact rd_)); omega; exact sz_; intro A1 c1 w2 ho1 hch1 hat1 hex1 hlow1; have hb := hex1 (· = rb) W0 (by exact ext_) (by omega); have hrd := Rdp.low (Rdp.keep (by assumption) (by exact kb_)) hch1.size hlow1 (by omega); have hz := hch1.size; (try simp only [zq_] at hz); obtain ⟨hc, hf⟩ := low_rules hlow1; clear hex1); (try simp only [Nat.zero_add] at ho1)) | (at_builtin; apply wpList_app (lo := W0.heap.size) el_Q one_Q rfl rfl rfl rfl; (first | assumption | exact Ow.nil _ _ | (apply Ow.keep; assumption; exact kf_) | (refine own_)); (first | (refine Rs.new [⟨9, 0, 0, 0, 0, 0⟩] (by (first | rfl | (simp only [zq_]; done) | omega)) rfl rfl (fun _ => rfl) (by omega))); omega; exact sz_; intro A1 c1 w2 ho1 hch1 hat1 hex1 hlow1; have hb := hex1 (· = rb) W0 (by exact ext_) (by omega); have hrd := Rdp.low (Rdp.keep (by assumption) (by exact kb_)) hch1.size hlow1 (by omega); have hz := hch1.size; (try simp only [zq_] at hz); obtain ⟨hc, hf⟩ := low_rules hlow1; clear hex1) | fail)
       · (refine bodyPost_ret (v := .tuple #[.slice A m c, .slice A2 (ii + (bIn - (ii + 1))) c2]) (by simp [results, Tryz.results39, go_sem, *]) rfl ?_; refine ⟨_, _, _, _, _, _, _, _, rfl, ⟨(hps.keep kf_).less (Nat.zero_le _), hI7.at0 kf_⟩, ?_⟩; (have hcq := HQ.out; exact ext_))
       · (refine bodyPost_ret (v := .tuple #[.slice bF bFn bFc, .slice A1 ((ii + (bIn - (ii + 1))) + 1) c1]) (by simp [results, Tryz.results39, go_sem, *]) rfl ?_; refine ⟨_, _, _, _, _, _, _, _, rfl, ⟨hF7.at0 kf_, (ho1.rs.keep kf_).less (Nat.zero_le _)⟩, ?_⟩; (have hcq := HQ.out; exact ext_))
       · (refine bodyPost_ret (v := .tuple #[.slice bF bFn bFc, .slice A2 (ii + (bIn - (ii + 1))) c2]) (by simp [results, Tryz.results39, go_sem, *]) rfl ?_; refine ⟨_, _, _, _, _, _, _, _, rfl, ⟨hF7.at0 kf_, hI7.at0 kf_⟩, ?_⟩; (have hcq := HQ.out; exact ext_))
 · go_upto_region 7 with fail
   (refine wn_ fun W0 hb0 hc0 hf0 hz0 => ?_)
   have hrd6 := hrd.keep (show KB rb w1 W0 from kb_)
   have hI6 : RQ W0 (rb + 1) bI bIc bIn z.lines := hI.keep kf_
   have hF6 : RI W0 (rb + 1) bF bFc bFn z.first := hF.keep kf_
   have hcq : Ch (· = rb) w W0 := ext_
   have hG6 : W0.cell? ⟨gg, 0, none⟩ = some (.slice bF bFn bFc) := co_
   have hf6 : ∀ i : Nat, W0.frozen? ⟨gg, i, none⟩ = false := fun i => co_
   have hz6 : gg < W0.heap.size := sz_
   clear hrd hI hF hG0 hGf hGz hb hc hf hz hb0 hc0 hf0
   have HQ := Lib.hid hcq
   clear hcq
   go_wp2_with (first | (go_at_call 93; apply Calls.mono; apply odd_c; (apply Rdp.keep; assumption; (exact kb_)); (first | assumption | omega); (first | assumption | omega); (first | assumption | omega); rintro E w1 ⟨b, rfl, hrd, hb⟩; obtain ⟨hc, hf, hz⟩ := xd hb) | (go_at_call 107; apply Calls.mono; apply l20Purses_c; (apply Rdp.keep; assumption; (exact kb_)); (first | assumption | omega); (first | assumption | omega); (first | assumption | omega); rintro E w1 ⟨A, c, m, xs, rfl, hps, hpl, hrd, hb⟩; obtain ⟨hc, hf, hz⟩ := xd hb) | ((at_builtin; apply wpList_app (lo := W0.heap.size) el_Q one_Q rfl rfl rfl rfl; (first | assumption | exact Ow.nil _ _ | (apply Ow.keep; assumption; exact kf_) | (refine own_)); (first | (exact rd_)); omega; exact sz_; intro A1 c1 w2 ho1 hch1 hat1 hex1 hlow1; have hb := hex1 (· = rb) W0 (by exact ext_) (by omega); have hrd := Rdp.low (Rdp.keep (by assumption) (by exact kb_)) hch1.size hlow1 (by omega); have hz := hch1.size; (try simp only [zq_] at hz); obtain ⟨hc, hf⟩ := low_rules hlow1; clear hex1); (try simp only [Nat.zero_add] at ho1)) | (at_builtin; apply wpList_app (lo := W0.heap.size) el_Q one_Q rfl rfl rfl rfl; (first | assumption | exact Ow.nil _ _ | (apply Ow.keep; assumption; exact kf_) | (refine own_)); (first | (refine Rs.new [⟨9, 0, 0, 0, 0, 0⟩] (by (first | rfl | (simp only [zq_]; done) | omega)) rfl rfl (fun _ => rfl) (by omega))); omega; exact sz_; intro A1 c1 w2 ho1 hch1 hat1 hex1 hlow1; have hb := hex1 (· = rb) W0 (by exact ext_) (by omega); have hrd := Rdp.low (Rdp.keep (by assumption) (by exact kb_)) hch1.size hlow1 (by omega); have hz := hch1.size; (try simp only [zq_] at hz); obtain ⟨hc, hf⟩ := low_rules hlow1; clear hex1) | fail)
   · (refine bodyPost_ret (v := .tuple #[.slice A m c, .slice bI bIn bIc]) (by simp [results, Tryz.results39, go_sem, *]) rfl ?_; refine ⟨_, _, _, _, _, _, _, _, rfl, ⟨(hps.keep kf_).less (Nat.zero_le _), hI6.at0 kf_⟩, ?_⟩; (have hcq := HQ.out; exact ext_))
   · (refine bodyPost_ret (v := .tuple #[.slice bF bFn bFc, .slice A1 (bIn + 1) c1]) (by simp [results, Tryz.results39, go_sem, *]) rfl ?_; refine ⟨_, _, _, _, _, _, _, _, rfl, ⟨hF6.at0 kf_, (ho1.rs.keep kf_).less (Nat.zero_le _)⟩, ?_⟩; (have hcq := HQ.out; exact ext_))
   · (refine bodyPost_ret (v := .tuple #[.slice bF bFn bFc, .slice bI bIn bIc]) (by simp [results, Tryz.results39, go_sem, *]) rfl ?_; refine ⟨_, _, _, _, _, _, _, _, rfl, ⟨hF6.at0 kf_, hI6.at0 kf_⟩, ?_⟩; (have hcq := HQ.out; exact ext_))
end Go.Proofs.YtnnoiagommiapaaGreat
