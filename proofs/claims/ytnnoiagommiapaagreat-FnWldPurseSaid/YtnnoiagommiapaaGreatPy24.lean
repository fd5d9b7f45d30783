/- Texts joined: Draw3. -/
import Derived.Test.YtnnoiagommiapaaGreatPy17
import Derived.Test.YtnnoiagommiapaaGreatPy23
import Derived.Test.YtnnoiagommiapaaGreatPy3
import Derived.Test.YtnnoiagommiapaaGreatPy14
set_option maxRecDepth 100000
set_option linter.unusedSimpArgs false
set_option linter.unusedVariables false
namespace Go.Proofs.YtnnoiagommiapaaGreat
open Go.RowKit Go
set_option maxHeartbeats 4000000
theorem sHedAtA_c (A : Option Addr) (c n : Nat) (s : Int) (xs : List Sw.Ent) (w : World) (hxs : RE w 0 A c n xs) : Calls Tryz.prog 219 #[.slice A n c, .int .i64 s] w fun E w' => ∃ p q r b, E = .returned (.tuple #[.agg #[.int .i64 p, .int .i64 q, .int .i64 r], .bool b]) ∧ True ∧ Ex w w' := by
 refine (sHedAt_c A c n s xs w hxs).mono ?_
 rintro E w' ⟨rfl, hb⟩
 exact ⟨_, _, _, _, rfl, trivial, hb⟩
def sel3 (v : Nat) (a b c : Int) : Int := if v = 0 then a else if v = 1 then b else c
theorem sel3_cell {v : Nat} (h : v < 3) (W : World) (a b c : Int) (T : TypeId) : (W.alloc (.cells #[.int .i64 a, .int .i64 b, .int .i64 c] T)).cell? ⟨W.heap.size, v, none⟩ = some (.int .i64 (sel3 v a b c)) := by
 rcases (show v = 0 ∨ v = 1 ∨ v = 2 by omega) with rfl | rfl | rfl <;> simp [go_sem, sel3]
theorem l21Head_c (rb P : Nat) (A : Option Addr) (c m : Nat) (es : List Sw.Ent) (n : Int) (w : World) (hr : Rdp w rb P) (hes : RE w (rb + 1) A c m es) (hP : P ≤ 900000) (hm : m ≤ 900000) (h1 : 1 ≤ n) (h2 : n ≤ 1000000) : Calls Tryz.prog 176 #[.pointer (some ⟨rb, 0, none⟩), .slice A m c, .int .i64 n] w fun E w' => ∃ a b d, E = .returned (.agg #[.int .i64 a, .int .i64 b, .int .i64 d]) ∧ Rdp w' rb (P + 10) ∧ Ch (· = rb) w w' := by
 have hlt := hr.lt
 go_enter Tryz.func176, Tryz.ntmps176
 go_upto_region 2 with (first | (go_at_call 92; apply Calls.mono; apply pick_c; (apply Rdp.keep; assumption; (exact kb_)); (first | assumption | omega); (first | assumption | omega); rintro E w1 ⟨v, rfl, ⟨hv0, hv1⟩, hrd, hb⟩; obtain ⟨hc, hf, hz⟩ := xd hb) | (go_at_call 219; apply Calls.mono; apply sHedAtA_c; (exact rdw_); rintro E w1 ⟨p, q, r, b, rfl, -, hb⟩; obtain ⟨hc, hf, hz⟩ := xy hb))
 (refine wn_ fun W0 hb0 hc0 hf0 hz0 => ?_)
 obtain ⟨g, hgg⟩ : ∃ g, g = w1.heap.size := ⟨_, rfl⟩
 have hI : Ints W0 g 3 := Ints.ch hb0 (fun h => h) (by rw [hgg]; exact Ints.new (zs := [_, _, _]) rfl rfl rfl)
 have hR : Ints W0 w.heap.size 3 := (by (repeat (first | with_reducible assumption | exact Ints.new (zs := [_, _, _, _, _, _]) (by first | with_reducible rfl | omega | (simp only [zq_]; done) | (simp only [zq_]; omega)) rfl rfl | exact Ints.new (zs := [_, _, _]) (by first | with_reducible rfl | omega | (simp only [zq_]; done) | (simp only [zq_]; omega)) rfl rfl | exact Ints.new (zs := [_, _, _, _]) (by first | with_reducible rfl | omega | (simp only [zq_]; done) | (simp only [zq_]; omega)) rfl rfl | with_reducible apply Ints.alloc | with_reducible apply Ints.drew | (with_reducible refine Ints.set ?_ rfl) | (with_reducible refine Ints.ch (by assumption) (by first | exact (fun h => h) | omega | (simp only [zq_]; omega)) ?_))))
 have HK : RdCh w W0 rb (P + 1) := ⟨Rdp.keep hrd (by (exact kb_)), ext_⟩
 have hg0 : w.heap.size + 1 ≤ g := by rw [hgg]; exact sz_
 rw [← hgg]
 clear hgg hrd hb hc hf hz hb0 hc0 hf0 hz0 hes
 ((repeat (rename Ch _ _ _ => zz; clear zz)); (repeat (rename Rdp _ _ _ => zz; clear zz)); (repeat (rename (∀ (b o : Nat), ¬ ((⟨b, 0, none⟩ : Addr) = ⟨b - _ + _, 0, none⟩) → _) => zz; clear zz)))
 have hrd := HK.rd
 have hb := HK.ch
 have hgS := hI.lt
 have hgr : g ≠ rb := by omega
 have hLg := hI.lb
 have hLr := hrd.lb
 obtain ⟨ci0, hci0⟩ := hI.at_ (i := 0) (by omega); obtain ⟨ci1, hci1⟩ := hI.at_ (i := 1) (by omega); obtain ⟨ci2, hci2⟩ := hI.at_ (i := 2) (by omega); have hcif := hI.free
 go_upto_if 21 with (go_at_call 93; apply Calls.mono; apply odd_c; (apply Rdp.keep; assumption; (exact kb_)); (first | assumption | omega); (first | assumption | omega); (first | assumption | omega); rintro E w1 ⟨b, rfl, hrd, hb⟩; obtain ⟨hc, hf, hz⟩ := xd hb)
 go_cut [] (fun wx => DrawAt w wx rb w.heap.size g 3 (P + 9))
 case first =>
   go_wp2_with (first | (go_at_call 92; apply Calls.mono; apply pick_c; (apply Rdp.keep; assumption; (exact kb_)); (first | assumption | omega); (first | assumption | omega); rintro E w1 ⟨v, rfl, ⟨hv0, hv1⟩, hrd, hb⟩; obtain ⟨hc, hf, hz⟩ := xd hb) | (go_at_call 220; apply Calls.mono; apply l20Mix_c; (apply Rdp.keep; assumption; (exact kb_)); (first | assumption | omega); (first | assumption | omega); (first | assumption | omega); rintro E w1 ⟨m, rfl, hrd, hb⟩; obtain ⟨hc, hf, hz⟩ := xd hb))
   · (focus (refine wn_ fun W0 hb0 hc0 hf0 hz0 => ?_; refine wp_regionX [9] (S := fun w' => HeldR rb W0 w') hdR (fun hHeld => ?_); refine GoesX.take 0 29 [1, 2, 3, 6, 7, 8, 9] hHeld (h := ?_); refine GoesX.take 1 30 [2, 3, 6, 7, 8, 9] hHeld (h := ?_); refine GoesX.take 2 31 [3, 6, 7, 8, 9] hHeld (h := ?_); refine GoesX.take 4 33 [5, 6, 7, 8, 9] hHeld (h := ?_); refine GoesX.ready (rs := [3, 5]) (by kernel_rfl) (by simp) ?_; refine EachX.cons rfl (fun K hK => ?_) ?_; rotate_left; refine EachX.cons rfl (fun K hK => ?_) EachX.nil; (focus (go_simp; (go_at_call 92; apply Calls.mono; apply (pickN_c (N := 3)); (apply Rdp.keep; assumption; (exact kb_)); omega; rfl; decide; rintro E w5 ⟨v5, rfl, hv5, hrd, hb⟩; have hsel := sel3_cell hv5; have hv5i : (v5 : Int) < 3 := (by omega); (obtain ⟨hc, hf, hz⟩ := xd hb)); (try go_wp2_with fail); refine outS hK hdR (h := ?_); clear hK K hHeld; intro hHeld; refine GoesX.one 3 (h := fun K hK => ?_); go_simp; refine outS hK hdR (h := ?_); clear hK K hHeld; intro hHeld; refine GoesX.take 6 35 [7, 8, 9] hHeld (h := ?_); refine GoesX.one 7 (h := fun K hK => ?_); go_simp; refine outS hK hdR (h := ?_); clear hK K hHeld; intro hHeld; refine GoesX.take 8 37 [9] hHeld (h := ?_); refine GoesX.oneX 9 (h := fun K hK => ?_); go_simp; refine outX hK (h := ?_); clear hK K; refine GoesX.done (by kernel_rfl) ?_ _)); rotate_right 1; (focus (go_simp; refine outS hK hdR (h := ?_); clear hK K hHeld; intro hHeld; refine GoesX.one 5 (h := fun K hK => ?_); go_simp; (go_at_call 92; apply Calls.mono; apply (pickN_c (N := 3)); (apply Rdp.keep; assumption; (exact kb_)); omega; rfl; decide; rintro E w5 ⟨v5, rfl, hv5, hrd, hb⟩; have hsel := sel3_cell hv5; have hv5i : (v5 : Int) < 3 := (by omega); (obtain ⟨hc, hf, hz⟩ := xd hb)); (try go_wp2_with fail); refine outS hK hdR (h := ?_); clear hK K hHeld; intro hHeld; refine GoesX.take 6 35 [7, 8, 9] hHeld (h := ?_); refine GoesX.one 7 (h := fun K hK => ?_); go_simp; refine outS hK hdR (h := ?_); clear hK K hHeld; intro hHeld; refine GoesX.take 8 37 [9] hHeld (h := ?_); refine GoesX.oneX 9 (h := fun K hK => ?_); go_simp; refine outX hK (h := ?_); clear hK K; refine GoesX.done (by kernel_rfl) ?_ _))))
     all_goals go_wp2_with fail
     all_goals go_meet
     all_goals exact ⟨by (repeat (first | with_reducible assumption | exact Ints.new (zs := [_, _, _, _, _, _]) (by first | with_reducible rfl | omega | (simp only [zq_]; done) | (simp only [zq_]; omega)) rfl rfl | exact Ints.new (zs := [_, _, _]) (by first | with_reducible rfl | omega | (simp only [zq_]; done) | (simp only [zq_]; omega)) rfl rfl | exact Ints.new (zs := [_, _, _, _]) (by first | with_reducible rfl | omega | (simp only [zq_]; done) | (simp only [zq_]; omega)) rfl rfl | with_reducible apply Ints.alloc | with_reducible apply Ints.drew | (with_reducible refine Ints.set ?_ rfl) | (with_reducible refine Ints.ch (by assumption) (by first | exact (fun h => h) | omega | (simp only [zq_]; omega)) ?_))), by (repeat (first | with_reducible assumption | exact Ints.new (zs := [_, _, _, _, _, _]) (by first | with_reducible rfl | omega | (simp only [zq_]; done) | (simp only [zq_]; omega)) rfl rfl | exact Ints.new (zs := [_, _, _]) (by first | with_reducible rfl | omega | (simp only [zq_]; done) | (simp only [zq_]; omega)) rfl rfl | exact Ints.new (zs := [_, _, _, _]) (by first | with_reducible rfl | omega | (simp only [zq_]; done) | (simp only [zq_]; omega)) rfl rfl | with_reducible apply Ints.alloc | with_reducible apply Ints.drew | (with_reducible refine Ints.set ?_ rfl) | (with_reducible refine Ints.ch (by assumption) (by first | exact (fun h => h) | omega | (simp only [zq_]; omega)) ?_))), Rdp.more (Rdp.keep (by assumption) (by (exact kb_))) (by omega), ext_⟩
   all_goals go_meet
   all_goals exact ⟨by (repeat (first | with_reducible assumption | exact Ints.new (zs := [_, _, _, _, _, _]) (by first | with_reducible rfl | omega | (simp only [zq_]; done) | (simp only [zq_]; omega)) rfl rfl | exact Ints.new (zs := [_, _, _]) (by first | with_reducible rfl | omega | (simp only [zq_]; done) | (simp only [zq_]; omega)) rfl rfl | exact Ints.new (zs := [_, _, _, _]) (by first | with_reducible rfl | omega | (simp only [zq_]; done) | (simp only [zq_]; omega)) rfl rfl | with_reducible apply Ints.alloc | with_reducible apply Ints.drew | (with_reducible refine Ints.set ?_ rfl) | (with_reducible refine Ints.ch (by assumption) (by first | exact (fun h => h) | omega | (simp only [zq_]; omega)) ?_))), by (repeat (first | with_reducible assumption | exact Ints.new (zs := [_, _, _, _, _, _]) (by first | with_reducible rfl | omega | (simp only [zq_]; done) | (simp only [zq_]; omega)) rfl rfl | exact Ints.new (zs := [_, _, _]) (by first | with_reducible rfl | omega | (simp only [zq_]; done) | (simp only [zq_]; omega)) rfl rfl | exact Ints.new (zs := [_, _, _, _]) (by first | with_reducible rfl | omega | (simp only [zq_]; done) | (simp only [zq_]; omega)) rfl rfl | with_reducible apply Ints.alloc | with_reducible apply Ints.drew | (with_reducible refine Ints.set ?_ rfl) | (with_reducible refine Ints.ch (by assumption) (by first | exact (fun h => h) | omega | (simp only [zq_]; omega)) ?_))), Rdp.more (Rdp.keep (by assumption) (by (exact kb_))) (by omega), ext_⟩
 case rest =>
   ((repeat (rename Ch _ _ _ => zz; clear zz)); (repeat (rename Rdp _ _ _ => zz; clear zz)); (repeat (rename (∀ (b o : Nat), ¬ ((⟨b, 0, none⟩ : Addr) = ⟨b - _ + _, 0, none⟩) → _) => zz; clear zz)))
   obtain ⟨own, res, rd, hbx⟩ := hcut
   obtain ⟨o0, ho0⟩ := own.at_ (i := 0) (by omega); obtain ⟨o1, ho1⟩ := own.at_ (i := 1) (by omega); obtain ⟨o2, ho2⟩ := own.at_ (i := 2) (by omega); have hof := own.free
   obtain ⟨r0, hr0⟩ := res.at_ (i := 0) (by omega); obtain ⟨r1, hr1⟩ := res.at_ (i := 1) (by omega); obtain ⟨r2, hr2⟩ := res.at_ (i := 2) (by omega); have hrf := res.free
   go_wp2_with fail
   refine bodyPost_ret (v := .agg #[.int .i64 o0, .int .i64 o1, .int .i64 o2]) (by simp [results, Tryz.results176, go_sem, *]) rfl ?_
   exact ⟨o0, o1, o2, rfl, rd.keep (by (exact kb_)) |>.more (by omega), ext_⟩
theorem Lb.at_ {w : World} {g n : Nat} (h : Lb w g n) {i : Nat} (hi : i < n) : ∃ v, w.cell? ⟨g, i, none⟩ = some v := by
 obtain ⟨cs, T, h1, h2⟩ := h
 exact ⟨cs[i], by simp [World.cell?, h1, h2, hi]⟩
structure GAt (w : World) (g : Nat) (a b d : Int) (B : Option Addr) (k e : Nat) : Prop where
 lt : g < w.heap.size
 c0 : w.cell? ⟨g, 0, none⟩ = some (.int .i64 a)
 c1 : w.cell? ⟨g, 1, none⟩ = some (.int .i64 b)
 c2 : w.cell? ⟨g, 2, none⟩ = some (.int .i64 d)
 c3 : w.cell? ⟨g, 3, none⟩ = some (.slice B k e)
 free : ∀ i, w.frozen? ⟨g, i, none⟩ = false
theorem l21Gate_c (rb P : Nat) (A : Option Addr) (c m : Nat) (es : List Sw.Ent) (n : Int) (w : World) (hr : Rdp w rb P) (hes : RE w (rb + 1) A c m es) (hP : P ≤ 800000) (hm : m ≤ 900000) (h1 : 1 ≤ n) (h2 : n ≤ 1000000) : Calls Tryz.prog 175 #[.pointer (some ⟨rb, 0, none⟩), .slice A m c, .int .i64 n] w fun E w' => ∃ a b d B e k ys, E = .returned (.agg #[.int .i64 a, .int .i64 b, .int .i64 d, .slice B k e]) ∧ RI w' w.heap.size B e k ys ∧ k ≤ 9 ∧ Rdp w' rb (P + 40) ∧ Ch (· = rb) w w' := by
 have hlt := hr.lt
 go_enter Tryz.func175, Tryz.ntmps175
 go_upto_region 2 with (go_at_call 174; refine (sGatNew_c _).mono ?_; rintro E w1 ⟨rfl, hb⟩; obtain ⟨hc, hf, hz⟩ := xy hb)
 (refine wn_ fun W0 hb0 hc0 hf0 hz0 => ?_)
 obtain ⟨g, hgg⟩ : ∃ g, g = w1.heap.size := ⟨_, rfl⟩
 have hG : ∃ a b d, GAt W0 g a b d none 0 0 := ⟨((Sw.hedOf []).getD Sw.headZ).size, ((Sw.hedOf []).getD Sw.headZ).log, ((Sw.hedOf []).getD Sw.headZ).own, by rw [hgg]; exact ⟨sz_, co_, co_, co_, co_, fun i => co_⟩⟩
 have hR : Lb W0 w.heap.size 4 := (by exact lbc_)
 have HK : RdCh w W0 rb P := ⟨Rdp.keep hr (by (exact kb_)), ext_⟩
 have hg0 : w.heap.size + 1 ≤ g := by rw [hgg]; exact sz_
 rw [← hgg]
 clear hgg hb hc hf hz hb0 hc0 hf0 hz0 hr
 obtain ⟨a0, b0, d0, hG⟩ := hG
 obtain ⟨hr, hb⟩ := HK
 have hgS := hG.lt
 obtain ⟨-, k0, k1, k2, k3, kf⟩ := hG
 go_upto_if 22 with (first | (go_at_call 92; apply Calls.mono; apply pick_c; (apply Rdp.keep; assumption; (exact kb_)); (first | assumption | omega); (first | assumption | omega); rintro E w1 ⟨v, rfl, ⟨hv0, hv1⟩, hrd, hb⟩; obtain ⟨hc, hf, hz⟩ := xd hb) | (go_at_call 219; apply Calls.mono; apply sHedAtA_c; (exact rdw_); rintro E w1 ⟨p, q, r, b, rfl, -, hb⟩; obtain ⟨hc, hf, hz⟩ := xy hb))
 go_cut [] (fun wx => ∃ a b d, GAt wx g a b d none 0 0 ∧ Lb wx w.heap.size 4 ∧ Rdp wx rb (P + 1) ∧ Ch (· = rb) w wx)
 case first =>
   go_wp2_with fail
   all_goals go_meet
   all_goals refine ⟨(if b then p else a0), (if b then q else b0), (if b then r else d0), ⟨sz_, co_, co_, co_, co_, fun i => co_⟩, (by (repeat (first | with_reducible assumption | with_reducible exact Lb.new (by first | rfl | (simp only [zq_]; done)) (by with_unfolding_all rfl) | with_reducible apply Lb.alloc | with_reducible apply Lb.set | with_reducible apply Lb.drew | (with_reducible refine Lb.ex ?_ (by assumption)) | (refine Lb.chk (S := fun k => k = rb) (by with_reducible assumption) ?_ (by show ¬ _ = rb; omega))))), Rdp.keep (by assumption) (by (exact kb_)), ext_⟩
 case rest =>
   ((repeat (rename Ch _ _ _ => zz; clear zz)); (repeat (rename Rdp _ _ _ => zz; clear zz)); (repeat (rename (∀ (b o : Nat), ¬ ((⟨b, 0, none⟩ : Addr) = ⟨b - _ + _, 0, none⟩) → _) => zz; clear zz)))
   clear k0 k1 k2 k3 kf hR a0 b0 d0
   obtain ⟨a0, b0, d0, hG, hR, hr, hb⟩ := hcut
   have hzc := hb.size
   go_wp2_with fail
   go_loopw [10] (fun t wr => ∃ (t0 k e : Nat) (a b d : Int) (B : Option Addr) (ys : List Int), t = .int .i64 t0 ∧ t0 ≤ 8 ∧ k ≤ t0 ∧ GAt wr g a b d B k e ∧ OwI wr (g + 1) B e k ys ∧ Lb wr w.heap.size 4 ∧ Rdp wr rb (P + 1 + t0) ∧ Ch (· = rb) w wr) (fun t _ => 8 - (intOf t).toNat)
   case atStart => exact ⟨0, 0, 0, a0, b0, d0, none, [], rfl, by omega, by omega, hG, Ow.nil _ _, hR, hr, hb⟩
   case round =>
     obtain ⟨t0, k, e, a0, b0, d0, B, ys, rfl, ht0, hk, hG, ho, hR, hr, hb⟩ := hrel
     have hst := xc hb
     obtain ⟨hc, hf, hz⟩ := hst
     obtain ⟨hgS, k0, k1, k2, k3, kf⟩ := hG
     have hgr : ¬ g = rb := by omega
     by_cases hlt8 : t0 < 8
     · go_wp2_with (first | (go_at_call 92; apply Calls.mono; apply pick_c; (apply Rdp.keep; assumption; (exact kb_)); (first | assumption | omega); (first | assumption | omega); rintro E w1 ⟨v, rfl, ⟨hv0, hv1⟩, hrd, hb⟩; obtain ⟨hc, hf, hz⟩ := xd hb) | (at_builtin; apply wpList_app (lo := g + 1) el_I one_I rfl rfl rfl rfl; (first | assumption | exact Ow.nil _ _ | (apply Ow.keep; assumption; exact kf_) | (refine own_)); (first | (refine Rs.new [_] (by (first | rfl | (simp only [zq_]; done) | omega)) rfl rfl (fun _ => rfl) (by omega))); omega; exact sz_; intro A1 c1 w2 ho1 hch1 hat1 hex1 hlow1; have hb := hex1 (· = rb) w (by exact ext_) (by omega); have hrd := Rdp.low (Rdp.keep (by assumption) (by exact kb_)) hch1.size hlow1 (by omega); have hz := hch1.size; (try simp only [zq_] at hz); obtain ⟨hc, hf⟩ := low_rules hlow1; clear hex1))
       · go_roundw
         case rel => exact ⟨t0 + 1, k + 1, c1, a0, b0, d0, A1, _, by go_num, by omega, by omega, ⟨sz_, co_, co_, co_, co_, fun i => co_⟩, ho1.keep kf_, Lb.set (Lb.low hlow1 (show w.heap.size < g + 1 by omega) (by (repeat (first | with_reducible assumption | with_reducible exact Lb.new (by first | rfl | (simp only [zq_]; done)) (by with_unfolding_all rfl) | with_reducible apply Lb.alloc | with_reducible apply Lb.set | with_reducible apply Lb.drew | (with_reducible refine Lb.ex ?_ (by assumption)) | (refine Lb.chk (S := fun k => k = rb) (by with_reducible assumption) ?_ (by show ¬ _ = rb; omega)))))), (Rdp.keep hrd (by (exact kb_))).more (by omega), ext_⟩
         case measure => simp [intOf]; omega
       · go_roundw
         case rel => exact ⟨t0 + 1, k, e, a0, b0, d0, B, ys, by go_num, by omega, by omega, ⟨sz_, co_, co_, co_, co_, fun i => co_⟩, ho.keep kf_, by (repeat (first | with_reducible assumption | with_reducible exact Lb.new (by first | rfl | (simp only [zq_]; done)) (by with_unfolding_all rfl) | with_reducible apply Lb.alloc | with_reducible apply Lb.set | with_reducible apply Lb.drew | (with_reducible refine Lb.ex ?_ (by assumption)) | (refine Lb.chk (S := fun k => k = rb) (by with_reducible assumption) ?_ (by show ¬ _ = rb; omega)))), (Rdp.keep hrd (by (exact kb_))).more (by omega), ext_⟩
         case measure => simp [intOf]; omega
     · obtain ⟨r0, hr0⟩ := hR.at_ (i := 0) (by omega)
       obtain ⟨r1, hr1⟩ := hR.at_ (i := 1) (by omega)
       obtain ⟨r2, hr2⟩ := hR.at_ (i := 2) (by omega)
       obtain ⟨r3, hr3⟩ := hR.at_ (i := 3) (by omega)
       have hrf := hR.rules.2
       go_upto_if 40 with (go_at_call 93; apply Calls.mono; apply odd_c; (apply Rdp.keep; assumption; (exact kb_)); (first | assumption | omega); (first | assumption | omega); (first | assumption | omega); rintro E w1 ⟨b, rfl, hrd, hb⟩; obtain ⟨hc, hf, hz⟩ := xd hb)
       cases b
       case false =>
         go_wp2_with fail
         refine bodyPost_ret (v := .agg #[.int .i64 a0, .int .i64 b0, .int .i64 d0, .slice B k e]) (by simp [results, Tryz.results175, go_sem, *]) rfl ?_
         exact ⟨_, _, _, _, _, _, ys, rfl, ((ho.keep kf_).less (by omega)).rs, by omega, (Rdp.keep hrd (by (exact kb_))).more (by omega), ext_⟩
       case true =>
         go_wp2_with (first | (go_at_call 92; apply Calls.mono; apply pick_c; (apply Rdp.keep; assumption; (exact kb_)); (first | assumption | omega); (first | assumption | omega); rintro E w1 ⟨v, rfl, ⟨hv0, hv1⟩, hrd, hb⟩; obtain ⟨hc, hf, hz⟩ := xd hb) | (go_at_call 176; apply Calls.mono; apply l21Head_c; (apply Rdp.keep; assumption; (exact kb_)); (apply Rs.less; (first | (apply Rs.keep; assumption; (exact kf_)) | (apply Rs.keep; apply Ow.rs; assumption; (exact kf_))); (first | omega | (simp only [zq_]; omega))); (first | assumption | omega); (first | assumption | omega); (first | assumption | omega); (first | assumption | omega); rintro E w1 ⟨a, b, d, rfl, hrd, hb⟩; obtain ⟨hc, hf, hz⟩ := xd hb))
         · refine bodyPost_ret (v := .agg #[.int .i64 a, .int .i64 b, .int .i64 d, .slice B k e]) (by simp [results, Tryz.results175, go_sem, *]) rfl ?_
           exact ⟨_, _, _, _, _, _, ys, rfl, ((ho.keep kf_).less (by omega)).rs, by omega, (Rdp.keep hrd (by (exact kb_))).more (by omega), ext_⟩
         · (focus (refine wn_ fun W0 hb0 hc0 hf0 hz0 => ?_; refine wp_regionX [8, 9, 10] (S := fun w' => HeldR rb W0 w') hdR (fun hHeld => ?_); refine GoesX.take 0 48 [1, 8, 9, 10] hHeld (h := ?_); refine GoesX.take 1 49 [8, 9, 10] hHeld (h := ?_); refine GoesX.take 3 51 [4, 5, 6, 7, 8, 9, 10] hHeld (h := ?_); refine GoesX.ready (rs := [2, 4]) (by kernel_rfl) (by simp) ?_; refine EachX.cons rfl (fun K hK => ?_) ?_; rotate_left; refine EachX.cons rfl (fun K hK => ?_) EachX.nil; (focus (go_simp; (go_at_call 92; apply Calls.mono; apply (pickN_c (N := 3)); (apply Rdp.keep; assumption; (exact kb_)); omega; rfl; decide; rintro E w5 ⟨v5, rfl, hv5, hrd, hb⟩; have hsel := sel3_cell hv5; have hv5i : (v5 : Int) < 3 := (by omega); (obtain ⟨hc, hf, hz⟩ := xd hb)); (try go_wp2_with fail); refine outS hK hdR (h := ?_); clear hK K hHeld; intro hHeld; refine GoesX.one 2 (h := fun K hK => ?_); go_simp; refine outS hK hdR (h := ?_); clear hK K hHeld; intro hHeld; refine GoesX.take 5 53 [6, 7, 8, 9, 10] hHeld (h := ?_); refine GoesX.one 6 (h := fun K hK => ?_); go_simp; refine outS hK hdR (h := ?_); clear hK K hHeld; intro hHeld; refine GoesX.one 7 (h := fun K hK => ?_); go_simp; refine outS hK hdR (h := ?_); clear hK K hHeld; intro hHeld; refine GoesX.oneX 8 (h := fun K hK => ?_); (apply step_app (lo := g + 1) el_I one_I rfl rfl rfl rfl; (first | assumption | exact Ow.nil _ _ | (apply Ow.keep; assumption; exact kf_) | (refine own_)); (first | (refine Rs.new [_] (by (first | rfl | (simp only [zq_]; done) | omega)) rfl rfl (fun _ => rfl) (by omega))); omega; exact sz_; intro A1 c1 w2 ho1 hch1 hat1 hex1 hlow1; have hb := hex1 (· = rb) w (by exact ext_) (by omega); have hrd := Rdp.low (Rdp.keep (by assumption) (by exact kb_)) hch1.size hlow1 (by omega); have hz := hch1.size; (try simp only [zq_] at hz); obtain ⟨hc, hf⟩ := low_rules hlow1; clear hex1); refine outX hK (h := ?_); clear hK K; refine GoesX.takeX 9 57 (h := ?_); refine GoesX.oneX 10 (h := fun K hK => ?_); go_simp; refine outX hK (h := ?_); clear hK K; refine GoesX.done (by kernel_rfl) ?_ _)); rotate_right 1; (focus (go_simp; refine outS hK hdR (h := ?_); clear hK K hHeld; intro hHeld; refine GoesX.one 4 (h := fun K hK => ?_); go_simp; (go_at_call 92; apply Calls.mono; apply (pickN_c (N := 3)); (apply Rdp.keep; assumption; (exact kb_)); omega; rfl; decide; rintro E w5 ⟨v5, rfl, hv5, hrd, hb⟩; have hsel := sel3_cell hv5; have hv5i : (v5 : Int) < 3 := (by omega); (obtain ⟨hc, hf, hz⟩ := xd hb)); (try go_wp2_with fail); refine outS hK hdR (h := ?_); clear hK K hHeld; intro hHeld; refine GoesX.take 5 53 [6, 7, 8, 9, 10] hHeld (h := ?_); refine GoesX.one 6 (h := fun K hK => ?_); go_simp; refine outS hK hdR (h := ?_); clear hK K hHeld; intro hHeld; refine GoesX.one 7 (h := fun K hK => ?_); go_simp; refine outS hK hdR (h := ?_); clear hK K hHeld; intro hHeld; refine GoesX.oneX 8 (h := fun K hK => ?_); (apply step_app (lo := g + 1) el_I one_I rfl rfl rfl rfl; (first | assumption | exact Ow.nil _ _ | (apply Ow.keep; assumption; exact kf_) | (refine own_)); (first | (refine Rs.new [_] (by (first | rfl | (simp only [zq_]; done) | omega)) rfl rfl (fun _ => rfl) (by omega))); omega; exact sz_; intro A1 c1 w2 ho1 hch1 hat1 hex1 hlow1; have hb := hex1 (· = rb) w (by exact ext_) (by omega); have hrd := Rdp.low (Rdp.keep (by assumption) (by exact kb_)) hch1.size hlow1 (by omega); have hz := hch1.size; (try simp only [zq_] at hz); obtain ⟨hc, hf⟩ := low_rules hlow1; clear hex1); refine outX hK (h := ?_); clear hK K; refine GoesX.takeX 9 57 (h := ?_); refine GoesX.oneX 10 (h := fun K hK => ?_); go_simp; refine outX hK (h := ?_); clear hK K; refine GoesX.done (by kernel_rfl) ?_ _))))
           all_goals go_wp2_with fail
           all_goals refine bodyPost_ret (v := .agg #[.int .i64 a0, .int .i64 b0, .int .i64 d0, .slice A1 (k + 1) c1]) (by simp [results, Tryz.results175, go_sem, *]) rfl ?_
           all_goals exact ⟨_, _, _, _, _, _, _, rfl, ((ho1.keep kf_).less (by omega)).rs, by omega, (Rdp.keep hrd (by (exact kb_))).more (by omega), ext_⟩
end Go.Proofs.YtnnoiagommiapaaGreat
