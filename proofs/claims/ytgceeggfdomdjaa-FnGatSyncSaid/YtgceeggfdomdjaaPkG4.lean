/-
  Texts joined: Draw3, Draw5, Law2, Law3, Law4, Impl1, Impl2, Impl3, Impl4, Impl5, Gate4, Plain4, Plain5, Plain8, FnGatSync.
-/
import Derived.Test.YtgceeggfdomdjaaPkG3
import Derived.Test.YtgceeggfdomdjaaPkG2
import Derived.Test.YtgceeggfdomdjaaPkG1
namespace Go.Proofs.Ytgceeggfdomdjaa
set_option maxRecDepth 100000
set_option linter.unusedSimpArgs false
set_option linter.unusedVariables false
open Go.RowKit Go
set_option maxHeartbeats 4000000

theorem sHedAtA_c (A : Option Addr) (c n : Nat) (s : Int) (xs : List Sw.Ent) (w : World) (hxs : RE w 0 A c n xs) : Calls Try.prog 140 #[.slice A n c, .int .i64 s] w fun E w' => ∃ p q r b, E = .returned (.tuple #[.agg #[.int .i64 p, .int .i64 q, .int .i64 r], .bool b]) ∧ True ∧ Ex w w' := by
  refine (sHedAt_c A c n s xs w hxs).mono ?_
  rintro E w' ⟨rfl, hb⟩
  exact ⟨_, _, _, _, rfl, trivial, hb⟩
/-- What is picked out of three numbers that were written out. -/
def sel3 (v : Nat) (a b c : Int) : Int := if v = 0 then a else if v = 1 then b else c
theorem sel3_cell {v : Nat} (h : v < 3) (W : World) (a b c : Int) (T : TypeId) : (W.alloc (.cells #[.int .i64 a, .int .i64 b, .int .i64 c] T)).cell? ⟨W.heap.size, v, none⟩ = some (.int .i64 (sel3 v a b c)) := by
  rcases (show v = 0 ∨ v = 1 ∨ v = 2 by omega) with rfl | rfl | rfl <;> simp [go_sem, sel3]
theorem l21Head_c (rb P : Nat) (A : Option Addr) (c m : Nat) (es : List Sw.Ent) (n : Int) (w : World) (hr : Rdp w rb P) (hes : RE w (rb + 1) A c m es) (hP : P ≤ 900000) (hm : m ≤ 900000) (h1 : 1 ≤ n) (h2 : n ≤ 1000000) : Calls Try.prog 71 #[.pointer (some ⟨rb, 0, none⟩), .slice A m c, .int .i64 n] w fun E w' => ∃ a b d, E = .returned (.agg #[.int .i64 a, .int .i64 b, .int .i64 d]) ∧ Rdp w' rb (P + 10) ∧ Ch (· = rb) w w' := by
  have hlt := hr.lt
  go_enter Try.func71, Try.ntmps71
  go_upto_region 2 with (first | (go_at_call 137; apply Calls.mono; apply pick_c; (apply Rdp.keep; assumption; (exact kb_)); (first | assumption | omega); (first | assumption | omega); rintro E w1 ⟨v, rfl, ⟨hv0, hv1⟩, hrd, hb⟩; have hst := xc hb; (try simp only [zA, zC, zD, zN] at hst); obtain ⟨hc, hf, hz⟩ := hst) | (go_at_call 140; apply Calls.mono; apply sHedAtA_c; ((first | (apply Rs.at0; assumption) | (apply Ow.rs0; assumption) | (apply OwT.rs0; assumption)); exact kf_); rintro E w1 ⟨p, q, r, b, rfl, -, hb⟩; have hst := xr hb; (try simp only [zA, zC, zD, zN] at hst); obtain ⟨hc, hf, hz⟩ := hst))
  (refine wp_name ?_; intro W0 hb0; have hst := xr hb0; (try simp only [zA, zC, zD, zN] at hst); obtain ⟨hc0, hf0, hz0⟩ := hst)
  obtain ⟨g, hgg⟩ : ∃ g, g = w1.heap.size := ⟨_, rfl⟩
  have hI : Ints W0 g 3 := Ints.ch hb0 (fun h => h) (by rw [hgg]; exact Ints.new (zs := [_, _, _]) rfl rfl rfl)
  have hR : Ints W0 w.heap.size 3 := (by (repeat (first | with_reducible assumption | exact Ints.new (zs := [_, _, _, _, _, _]) (by first | with_reducible rfl | omega | (simp only [zA, zC, zD, zN]; done) | (simp only [zA, zC, zD, zN]; omega)) rfl rfl | exact Ints.new (zs := [_, _, _]) (by first | with_reducible rfl | omega | (simp only [zA, zC, zD, zN]; done) | (simp only [zA, zC, zD, zN]; omega)) rfl rfl | exact Ints.new (zs := [_, _, _, _]) (by first | with_reducible rfl | omega | (simp only [zA, zC, zD, zN]; done) | (simp only [zA, zC, zD, zN]; omega)) rfl rfl | with_reducible apply Ints.alloc | with_reducible apply Ints.drew | (with_reducible refine Ints.set ?_ rfl) | (with_reducible refine Ints.ch (by assumption) (by first | exact (fun h => h) | omega | (simp only [zA, zC, zD, zN]; omega)) ?_))))
  have HK : RdCh w W0 rb (P + 1) := ⟨Rdp.keep hrd (by (exact kb_)), ext_⟩
  have hg0 : w.heap.size + 1 ≤ g := by rw [hgg]; exact sz_
  rw [← hgg]
  clear hgg hrd hb hc hf hz hb0 hc0 hf0 hz0 hes
  ((repeat (rename Ch _ _ _ => zz; clear zz)); (repeat (rename Rdp _ _ _ => zz; clear zz)); (repeat (rename (∀ (b o : Nat), ¬ ((⟨b, 0, none⟩ : Addr) = ⟨b - _ + _, 0, none⟩) → _) => zz; clear zz)))
  have hrd := HK.rd
  have hb := HK.ch
  have hgS := hI.lt
  have hgr : g ≠ rb := by omega
  have hLg := hI.lb
  have hLr := hrd.lb
  obtain ⟨ci0, hci0⟩ := hI.at_ (i := 0) (by omega); obtain ⟨ci1, hci1⟩ := hI.at_ (i := 1) (by omega); obtain ⟨ci2, hci2⟩ := hI.at_ (i := 2) (by omega); have hcif := hI.free
  go_upto_if 21 with (go_at_call 70; apply Calls.mono; apply odd_c; (apply Rdp.keep; assumption; (exact kb_)); (first | assumption | omega); (first | assumption | omega); (first | assumption | omega); rintro E w1 ⟨b, rfl, hrd, hb⟩; have hst := xc hb; (try simp only [zA, zC, zD, zN] at hst); obtain ⟨hc, hf, hz⟩ := hst)
  go_cut [] (fun wx => DrawAt w wx rb w.heap.size g 3 (P + 9))
  case first =>
    go_wp2_with (first | (go_at_call 137; apply Calls.mono; apply pick_c; (apply Rdp.keep; assumption; (exact kb_)); (first | assumption | omega); (first | assumption | omega); rintro E w1 ⟨v, rfl, ⟨hv0, hv1⟩, hrd, hb⟩; have hst := xc hb; (try simp only [zA, zC, zD, zN] at hst); obtain ⟨hc, hf, hz⟩ := hst) | (go_at_call 145; apply Calls.mono; apply l20Mix_c; (apply Rdp.keep; assumption; (exact kb_)); (first | assumption | omega); (first | assumption | omega); (first | assumption | omega); rintro E w1 ⟨m, rfl, hrd, hb⟩; have hst := xc hb; (try simp only [zA, zC, zD, zN] at hst); obtain ⟨hc, hf, hz⟩ := hst))
    · (focus (refine wp_name ?_; intro W0 hb0; have hst := xr hb0; (try simp only [zA, zC, zD, zN] at hst); obtain ⟨hc0, hf0, hz0⟩ := hst; refine wp_regionX [9] (S := fun w' => HeldR rb W0 w') hdR (fun hHeld => ?_); refine GoesX.take 0 29 [1, 2, 3, 6, 7, 8, 9] hHeld (h := ?_); refine GoesX.take 1 30 [2, 3, 6, 7, 8, 9] hHeld (h := ?_); refine GoesX.take 2 31 [3, 6, 7, 8, 9] hHeld (h := ?_); refine GoesX.take 4 33 [5, 6, 7, 8, 9] hHeld (h := ?_); refine GoesX.ready (rs := [3, 5]) (by kernel_rfl) (by simp) ?_; refine EachX.cons rfl (fun K hK => ?_) ?_; rotate_left; refine EachX.cons rfl (fun K hK => ?_) EachX.nil; (focus (go_simp; (go_at_call 137; apply Calls.mono; apply (pickN_c (N := 3)); (apply Rdp.keep; assumption; (exact kb_)); omega; rfl; decide; rintro E w5 ⟨v5, rfl, hv5, hrd, hb⟩; have hsel := sel3_cell hv5; have hv5i : (v5 : Int) < 3 := (by omega); (have hst := xc hb; (try simp only [zA, zC, zD, zN] at hst); obtain ⟨hc, hf, hz⟩ := hst)); (try go_wp2_with fail); refine outS hK hdR (h := fun hH2 => ?_); clear hK K hHeld; have hHeld := hH2; clear hH2; refine GoesX.one 3 (h := fun K hK => ?_); go_simp; refine outS hK hdR (h := fun hH2 => ?_); clear hK K hHeld; have hHeld := hH2; clear hH2; refine GoesX.take 6 35 [7, 8, 9] hHeld (h := ?_); refine GoesX.one 7 (h := fun K hK => ?_); go_simp; refine outS hK hdR (h := fun hH2 => ?_); clear hK K hHeld; have hHeld := hH2; clear hH2; refine GoesX.take 8 37 [9] hHeld (h := ?_); refine GoesX.oneX 9 (h := fun K hK => ?_); go_simp; refine outX hK (h := ?_); clear hK K; refine GoesX.done (by kernel_rfl) ?_ _)); rotate_right 1; (focus (go_simp; refine outS hK hdR (h := fun hH2 => ?_); clear hK K hHeld; have hHeld := hH2; clear hH2; refine GoesX.one 5 (h := fun K hK => ?_); go_simp; (go_at_call 137; apply Calls.mono; apply (pickN_c (N := 3)); (apply Rdp.keep; assumption; (exact kb_)); omega; rfl; decide; rintro E w5 ⟨v5, rfl, hv5, hrd, hb⟩; have hsel := sel3_cell hv5; have hv5i : (v5 : Int) < 3 := (by omega); (have hst := xc hb; (try simp only [zA, zC, zD, zN] at hst); obtain ⟨hc, hf, hz⟩ := hst)); (try go_wp2_with fail); refine outS hK hdR (h := fun hH2 => ?_); clear hK K hHeld; have hHeld := hH2; clear hH2; refine GoesX.take 6 35 [7, 8, 9] hHeld (h := ?_); refine GoesX.one 7 (h := fun K hK => ?_); go_simp; refine outS hK hdR (h := fun hH2 => ?_); clear hK K hHeld; have hHeld := hH2; clear hH2; refine GoesX.take 8 37 [9] hHeld (h := ?_); refine GoesX.oneX 9 (h := fun K hK => ?_); go_simp; refine outX hK (h := ?_); clear hK K; refine GoesX.done (by kernel_rfl) ?_ _))))
      all_goals go_wp2_with fail
      all_goals go_meet
      all_goals exact ⟨by (repeat (first | with_reducible assumption | exact Ints.new (zs := [_, _, _, _, _, _]) (by first | with_reducible rfl | omega | (simp only [zA, zC, zD, zN]; done) | (simp only [zA, zC, zD, zN]; omega)) rfl rfl | exact Ints.new (zs := [_, _, _]) (by first | with_reducible rfl | omega | (simp only [zA, zC, zD, zN]; done) | (simp only [zA, zC, zD, zN]; omega)) rfl rfl | exact Ints.new (zs := [_, _, _, _]) (by first | with_reducible rfl | omega | (simp only [zA, zC, zD, zN]; done) | (simp only [zA, zC, zD, zN]; omega)) rfl rfl | with_reducible apply Ints.alloc | with_reducible apply Ints.drew | (with_reducible refine Ints.set ?_ rfl) | (with_reducible refine Ints.ch (by assumption) (by first | exact (fun h => h) | omega | (simp only [zA, zC, zD, zN]; omega)) ?_))), by (repeat (first | with_reducible assumption | exact Ints.new (zs := [_, _, _, _, _, _]) (by first | with_reducible rfl | omega | (simp only [zA, zC, zD, zN]; done) | (simp only [zA, zC, zD, zN]; omega)) rfl rfl | exact Ints.new (zs := [_, _, _]) (by first | with_reducible rfl | omega | (simp only [zA, zC, zD, zN]; done) | (simp only [zA, zC, zD, zN]; omega)) rfl rfl | exact Ints.new (zs := [_, _, _, _]) (by first | with_reducible rfl | omega | (simp only [zA, zC, zD, zN]; done) | (simp only [zA, zC, zD, zN]; omega)) rfl rfl | with_reducible apply Ints.alloc | with_reducible apply Ints.drew | (with_reducible refine Ints.set ?_ rfl) | (with_reducible refine Ints.ch (by assumption) (by first | exact (fun h => h) | omega | (simp only [zA, zC, zD, zN]; omega)) ?_))), Rdp.more (Rdp.keep (by assumption) (by (exact kb_))) (by omega), ext_⟩
    all_goals go_meet
    all_goals exact ⟨by (repeat (first | with_reducible assumption | exact Ints.new (zs := [_, _, _, _, _, _]) (by first | with_reducible rfl | omega | (simp only [zA, zC, zD, zN]; done) | (simp only [zA, zC, zD, zN]; omega)) rfl rfl | exact Ints.new (zs := [_, _, _]) (by first | with_reducible rfl | omega | (simp only [zA, zC, zD, zN]; done) | (simp only [zA, zC, zD, zN]; omega)) rfl rfl | exact Ints.new (zs := [_, _, _, _]) (by first | with_reducible rfl | omega | (simp only [zA, zC, zD, zN]; done) | (simp only [zA, zC, zD, zN]; omega)) rfl rfl | with_reducible apply Ints.alloc | with_reducible apply Ints.drew | (with_reducible refine Ints.set ?_ rfl) | (with_reducible refine Ints.ch (by assumption) (by first | exact (fun h => h) | omega | (simp only [zA, zC, zD, zN]; omega)) ?_))), by (repeat (first | with_reducible assumption | exact Ints.new (zs := [_, _, _, _, _, _]) (by first | with_reducible rfl | omega | (simp only [zA, zC, zD, zN]; done) | (simp only [zA, zC, zD, zN]; omega)) rfl rfl | exact Ints.new (zs := [_, _, _]) (by first | with_reducible rfl | omega | (simp only [zA, zC, zD, zN]; done) | (simp only [zA, zC, zD, zN]; omega)) rfl rfl | exact Ints.new (zs := [_, _, _, _]) (by first | with_reducible rfl | omega | (simp only [zA, zC, zD, zN]; done) | (simp only [zA, zC, zD, zN]; omega)) rfl rfl | with_reducible apply Ints.alloc | with_reducible apply Ints.drew | (with_reducible refine Ints.set ?_ rfl) | (with_reducible refine Ints.ch (by assumption) (by first | exact (fun h => h) | omega | (simp only [zA, zC, zD, zN]; omega)) ?_))), Rdp.more (Rdp.keep (by assumption) (by (exact kb_))) (by omega), ext_⟩
  case rest =>
    ((repeat (rename Ch _ _ _ => zz; clear zz)); (repeat (rename Rdp _ _ _ => zz; clear zz)); (repeat (rename (∀ (b o : Nat), ¬ ((⟨b, 0, none⟩ : Addr) = ⟨b - _ + _, 0, none⟩) → _) => zz; clear zz)))
    obtain ⟨own, res, rd, hbx⟩ := hcut
    obtain ⟨o0, ho0⟩ := own.at_ (i := 0) (by omega); obtain ⟨o1, ho1⟩ := own.at_ (i := 1) (by omega); obtain ⟨o2, ho2⟩ := own.at_ (i := 2) (by omega); have hof := own.free
    obtain ⟨r0, hr0⟩ := res.at_ (i := 0) (by omega); obtain ⟨r1, hr1⟩ := res.at_ (i := 1) (by omega); obtain ⟨r2, hr2⟩ := res.at_ (i := 2) (by omega); have hrf := res.free
    go_wp2_with fail
    refine bodyPost_ret (v := .agg #[.int .i64 o0, .int .i64 o1, .int .i64 o2]) (by simp [results, Try.results71, go_sem, *]) rfl ?_
    exact ⟨o0, o1, o2, rfl, rd.keep (by (exact kb_)) |>.more (by omega), ext_⟩
theorem Lb.at_ {w : World} {g n : Nat} (h : Lb w g n) {i : Nat} (hi : i < n) : ∃ v, w.cell? ⟨g, i, none⟩ = some v := by
  obtain ⟨cs, T, h1, h2⟩ := h
  exact ⟨cs[i], by simp [World.cell?, h1, h2, hi]⟩
/-- A gate in block g: its head's numbers, and who is done. -/
structure GAt (w : World) (g : Nat) (a b d : Int) (B : Option Addr) (k e : Nat) : Prop where
  lt : g < w.heap.size
  c0 : w.cell? ⟨g, 0, none⟩ = some (.int .i64 a)
  c1 : w.cell? ⟨g, 1, none⟩ = some (.int .i64 b)
  c2 : w.cell? ⟨g, 2, none⟩ = some (.int .i64 d)
  c3 : w.cell? ⟨g, 3, none⟩ = some (.slice B k e)
  free : ∀ i, w.frozen? ⟨g, i, none⟩ = false
theorem l21Gate_c (rb P : Nat) (A : Option Addr) (c m : Nat) (es : List Sw.Ent) (n : Int) (w : World) (hr : Rdp w rb P) (hes : RE w (rb + 1) A c m es) (hP : P ≤ 800000) (hm : m ≤ 900000) (h1 : 1 ≤ n) (h2 : n ≤ 1000000) : Calls Try.prog 67 #[.pointer (some ⟨rb, 0, none⟩), .slice A m c, .int .i64 n] w fun E w' => ∃ a b d B e k ys, E = .returned (.agg #[.int .i64 a, .int .i64 b, .int .i64 d, .slice B k e]) ∧ RI w' w.heap.size B e k ys ∧ k ≤ 9 ∧ Rdp w' rb (P + 40) ∧ Ch (· = rb) w w' := by
  have hlt := hr.lt
  go_enter Try.func67, Try.ntmps67
  go_upto_region 2 with (go_at_call 88; refine (sGatNew_c _).mono ?_; rintro E w1 ⟨rfl, hb⟩; have hst := xr hb; (try simp only [zA, zC, zD, zN] at hst); obtain ⟨hc, hf, hz⟩ := hst)
  (refine wp_name ?_; intro W0 hb0; have hst := xr hb0; (try simp only [zA, zC, zD, zN] at hst); obtain ⟨hc0, hf0, hz0⟩ := hst)
  obtain ⟨g, hgg⟩ : ∃ g, g = w1.heap.size := ⟨_, rfl⟩
  have hG : ∃ a b d, GAt W0 g a b d none 0 0 := ⟨((Sw.hedOf []).getD Sw.headZ).size, ((Sw.hedOf []).getD Sw.headZ).log, ((Sw.hedOf []).getD Sw.headZ).own, by rw [hgg]; exact ⟨sz_, by (go_simp; first | done | simp [*]), by (go_simp; first | done | simp [*]), by (go_simp; first | done | simp [*]), by (go_simp; first | done | simp [*]), fun i => by (go_simp; first | done | simp [*])⟩⟩
  have hR : Lb W0 w.heap.size 4 := (by exact lbc_)
  have HK : RdCh w W0 rb P := ⟨Rdp.keep hr (by (exact kb_)), ext_⟩
  have hg0 : w.heap.size + 1 ≤ g := by rw [hgg]; exact sz_
  rw [← hgg]
  clear hgg hb hc hf hz hb0 hc0 hf0 hz0 hr
  obtain ⟨a0, b0, d0, hG⟩ := hG
  obtain ⟨hr, hb⟩ := HK
  have hgS := hG.lt
  obtain ⟨-, k0, k1, k2, k3, kf⟩ := hG
  go_upto_if 22 with (first | (go_at_call 137; apply Calls.mono; apply pick_c; (apply Rdp.keep; assumption; (exact kb_)); (first | assumption | omega); (first | assumption | omega); rintro E w1 ⟨v, rfl, ⟨hv0, hv1⟩, hrd, hb⟩; have hst := xc hb; (try simp only [zA, zC, zD, zN] at hst); obtain ⟨hc, hf, hz⟩ := hst) | (go_at_call 140; apply Calls.mono; apply sHedAtA_c; ((first | (apply Rs.at0; assumption) | (apply Ow.rs0; assumption) | (apply OwT.rs0; assumption)); exact kf_); rintro E w1 ⟨p, q, r, b, rfl, -, hb⟩; have hst := xr hb; (try simp only [zA, zC, zD, zN] at hst); obtain ⟨hc, hf, hz⟩ := hst))
  go_cut [] (fun wx => ∃ a b d, GAt wx g a b d none 0 0 ∧ Lb wx w.heap.size 4 ∧ Rdp wx rb (P + 1) ∧ Ch (· = rb) w wx)
  case first =>
    go_wp2_with fail
    all_goals go_meet
    all_goals refine ⟨(if b then p else a0), (if b then q else b0), (if b then r else d0), ⟨sz_, by (go_simp; first | done | simp [*]), by (go_simp; first | done | simp [*]), by (go_simp; first | done | simp [*]), by (go_simp; first | done | simp [*]), fun i => by (go_simp; first | done | simp [*])⟩, (by (repeat (first | with_reducible assumption | with_reducible exact Lb.new (by first | rfl | (simp only [zA, zC, zD, zN]; done)) (by with_unfolding_all rfl) | with_reducible apply Lb.alloc | with_reducible apply Lb.set | with_reducible apply Lb.drew | (with_reducible refine Lb.ex ?_ (by assumption)) | (refine Lb.chk (S := fun k => k = rb) (by with_reducible assumption) ?_ (by show ¬ _ = rb; omega))))), Rdp.keep (by assumption) (by (exact kb_)), ext_⟩
  case rest =>
    ((repeat (rename Ch _ _ _ => zz; clear zz)); (repeat (rename Rdp _ _ _ => zz; clear zz)); (repeat (rename (∀ (b o : Nat), ¬ ((⟨b, 0, none⟩ : Addr) = ⟨b - _ + _, 0, none⟩) → _) => zz; clear zz)))
    clear k0 k1 k2 k3 kf hR a0 b0 d0
    obtain ⟨a0, b0, d0, hG, hR, hr, hb⟩ := hcut
    have hzc := hb.size
    go_wp2_with fail
    go_loopw [10] (fun t wr => ∃ (t0 k e : Nat) (a b d : Int) (B : Option Addr) (ys : List Int), t = .int .i64 t0 ∧ t0 ≤ 8 ∧ k ≤ t0 ∧ GAt wr g a b d B k e ∧ OwI wr (g + 1) B e k ys ∧ Lb wr w.heap.size 4 ∧ Rdp wr rb (P + 1 + t0) ∧ Ch (· = rb) w wr) (fun t _ => 8 - (intOf t).toNat)
    case atStart => exact ⟨0, 0, 0, a0, b0, d0, none, [], rfl, by omega, by omega, hG, Ow.nil _ _, hR, hr, hb⟩
    case round =>
      obtain ⟨t0, k, e, a0, b0, d0, B, ys, rfl, ht0, hk, hG, ho, hR, hr, hb⟩ := hrel
      have hst := xc hb
      obtain ⟨hc, hf, hz⟩ := hst
      obtain ⟨hgS, k0, k1, k2, k3, kf⟩ := hG
      have hgr : ¬ g = rb := by omega
      by_cases hlt8 : t0 < 8
      · go_wp2_with (first | (go_at_call 137; apply Calls.mono; apply pick_c; (apply Rdp.keep; assumption; (exact kb_)); (first | assumption | omega); (first | assumption | omega); rintro E w1 ⟨v, rfl, ⟨hv0, hv1⟩, hrd, hb⟩; have hst := xc hb; (try simp only [zA, zC, zD, zN] at hst); obtain ⟨hc, hf, hz⟩ := hst) | (at_builtin; apply wpList_app (lo := g + 1) el_I one_I rfl rfl rfl rfl; (first | assumption | exact Ow.nil _ _ | (apply Ow.keep; assumption; exact kf_) | (refine Ow.new [] (by (first | rfl | (simp only [zA, zC, zD, zN]; done) | omega)) rfl rfl (fun _ => rfl) (by exact sz_) (by omega))); (first | (refine Rs.new [_] (by (first | rfl | (simp only [zA, zC, zD, zN]; done) | omega)) rfl rfl (fun _ => rfl) (by omega))); omega; exact sz_; intro A1 c1 w2 ho1 hch1 hat1 hex1 hlow1; have hb := hex1 (· = rb) w (by exact ext_) (by omega); have hrd := Rdp.low (Rdp.keep (by assumption) (by exact kb_)) hch1.size hlow1 (by omega); have hz := hch1.size; (try simp only [zA, zC, zD, zN] at hz); obtain ⟨hc, hf⟩ := low_rules hlow1; clear hex1))
        · go_roundw
          case rel => exact ⟨t0 + 1, k + 1, c1, a0, b0, d0, A1, _, by go_num, by omega, by omega, ⟨sz_, by (go_simp; first | done | simp [*]), by (go_simp; first | done | simp [*]), by (go_simp; first | done | simp [*]), by (go_simp; first | done | simp [*]), fun i => by (go_simp; first | done | simp [*])⟩, ho1.keep kf_, Lb.set (Lb.low hlow1 (show w.heap.size < g + 1 by omega) (by (repeat (first | with_reducible assumption | with_reducible exact Lb.new (by first | rfl | (simp only [zA, zC, zD, zN]; done)) (by with_unfolding_all rfl) | with_reducible apply Lb.alloc | with_reducible apply Lb.set | with_reducible apply Lb.drew | (with_reducible refine Lb.ex ?_ (by assumption)) | (refine Lb.chk (S := fun k => k = rb) (by with_reducible assumption) ?_ (by show ¬ _ = rb; omega)))))), (Rdp.keep hrd (by (exact kb_))).more (by omega), ext_⟩
          case measure => simp [intOf]; omega
        · go_roundw
          case rel => exact ⟨t0 + 1, k, e, a0, b0, d0, B, ys, by go_num, by omega, by omega, ⟨sz_, by (go_simp; first | done | simp [*]), by (go_simp; first | done | simp [*]), by (go_simp; first | done | simp [*]), by (go_simp; first | done | simp [*]), fun i => by (go_simp; first | done | simp [*])⟩, ho.keep kf_, by (repeat (first | with_reducible assumption | with_reducible exact Lb.new (by first | rfl | (simp only [zA, zC, zD, zN]; done)) (by with_unfolding_all rfl) | with_reducible apply Lb.alloc | with_reducible apply Lb.set | with_reducible apply Lb.drew | (with_reducible refine Lb.ex ?_ (by assumption)) | (refine Lb.chk (S := fun k => k = rb) (by with_reducible assumption) ?_ (by show ¬ _ = rb; omega)))), (Rdp.keep hrd (by (exact kb_))).more (by omega), ext_⟩
          case measure => simp [intOf]; omega
      · obtain ⟨r0, hr0⟩ := hR.at_ (i := 0) (by omega)
        obtain ⟨r1, hr1⟩ := hR.at_ (i := 1) (by omega)
        obtain ⟨r2, hr2⟩ := hR.at_ (i := 2) (by omega)
        obtain ⟨r3, hr3⟩ := hR.at_ (i := 3) (by omega)
        have hrf := hR.rules.2
        go_upto_if 40 with (go_at_call 70; apply Calls.mono; apply odd_c; (apply Rdp.keep; assumption; (exact kb_)); (first | assumption | omega); (first | assumption | omega); (first | assumption | omega); rintro E w1 ⟨b, rfl, hrd, hb⟩; have hst := xc hb; (try simp only [zA, zC, zD, zN] at hst); obtain ⟨hc, hf, hz⟩ := hst)
        cases b
        case false =>
          go_wp2_with fail
          refine bodyPost_ret (v := .agg #[.int .i64 a0, .int .i64 b0, .int .i64 d0, .slice B k e]) (by simp [results, Try.results67, go_sem, *]) rfl ?_
          exact ⟨_, _, _, _, _, _, ys, rfl, ((ho.keep kf_).less (by omega)).rs, by omega, (Rdp.keep hrd (by (exact kb_))).more (by omega), ext_⟩
        case true =>
          go_wp2_with (first | (go_at_call 137; apply Calls.mono; apply pick_c; (apply Rdp.keep; assumption; (exact kb_)); (first | assumption | omega); (first | assumption | omega); rintro E w1 ⟨v, rfl, ⟨hv0, hv1⟩, hrd, hb⟩; have hst := xc hb; (try simp only [zA, zC, zD, zN] at hst); obtain ⟨hc, hf, hz⟩ := hst) | (go_at_call 71; apply Calls.mono; apply l21Head_c; (apply Rdp.keep; assumption; (exact kb_)); (apply Rs.less; (first | (apply Rs.keep; assumption; (exact kf_)) | (apply Rs.keep; apply Ow.rs; assumption; (exact kf_))); (first | omega | (simp only [zA, zC, zD, zN]; omega))); (first | assumption | omega); (first | assumption | omega); (first | assumption | omega); (first | assumption | omega); rintro E w1 ⟨a, b, d, rfl, hrd, hb⟩; have hst := xc hb; (try simp only [zA, zC, zD, zN] at hst); obtain ⟨hc, hf, hz⟩ := hst))
          · refine bodyPost_ret (v := .agg #[.int .i64 a, .int .i64 b, .int .i64 d, .slice B k e]) (by simp [results, Try.results67, go_sem, *]) rfl ?_
            exact ⟨_, _, _, _, _, _, ys, rfl, ((ho.keep kf_).less (by omega)).rs, by omega, (Rdp.keep hrd (by (exact kb_))).more (by omega), ext_⟩
          · (focus (refine wp_name ?_; intro W0 hb0; have hst := xr hb0; (try simp only [zA, zC, zD, zN] at hst); obtain ⟨hc0, hf0, hz0⟩ := hst; refine wp_regionX [8, 9, 10] (S := fun w' => HeldR rb W0 w') hdR (fun hHeld => ?_); refine GoesX.take 0 48 [1, 8, 9, 10] hHeld (h := ?_); refine GoesX.take 1 49 [8, 9, 10] hHeld (h := ?_); refine GoesX.take 3 51 [4, 5, 6, 7, 8, 9, 10] hHeld (h := ?_); refine GoesX.ready (rs := [2, 4]) (by kernel_rfl) (by simp) ?_; refine EachX.cons rfl (fun K hK => ?_) ?_; rotate_left; refine EachX.cons rfl (fun K hK => ?_) EachX.nil; (focus (go_simp; (first | (go_at_call 137; apply Calls.mono; apply (pickN_c (N := 3)); (apply Rdp.keep; assumption; (exact kb_)); omega; rfl; decide; rintro E w5 ⟨v5, rfl, hv5, hrd, hb⟩; have hsel := sel3_cell hv5; have hv5i : (v5 : Int) < 3 := (by omega); (have hst := xc hb; (try simp only [zA, zC, zD, zN] at hst); obtain ⟨hc, hf, hz⟩ := hst)) | (apply step_app (lo := g + 1) el_I one_I rfl rfl rfl rfl; (first | assumption | exact Ow.nil _ _ | (apply Ow.keep; assumption; exact kf_) | (refine Ow.new [] (by (first | rfl | (simp only [zA, zC, zD, zN]; done) | omega)) rfl rfl (fun _ => rfl) (by exact sz_) (by omega))); (first | (refine Rs.new [_] (by (first | rfl | (simp only [zA, zC, zD, zN]; done) | omega)) rfl rfl (fun _ => rfl) (by omega))); omega; exact sz_; intro A1 c1 w2 ho1 hch1 hat1 hex1 hlow1; have hb := hex1 (· = rb) w (by exact ext_) (by omega); have hrd := Rdp.low (Rdp.keep (by assumption) (by exact kb_)) hch1.size hlow1 (by omega); have hz := hch1.size; (try simp only [zA, zC, zD, zN] at hz); obtain ⟨hc, hf⟩ := low_rules hlow1; clear hex1)); (try go_wp2_with fail); refine outS hK hdR (h := fun hH2 => ?_); clear hK K hHeld; have hHeld := hH2; clear hH2; refine GoesX.one 2 (h := fun K hK => ?_); go_simp; refine outS hK hdR (h := fun hH2 => ?_); clear hK K hHeld; have hHeld := hH2; clear hH2; refine GoesX.take 5 53 [6, 7, 8, 9, 10] hHeld (h := ?_); refine GoesX.one 6 (h := fun K hK => ?_); go_simp; refine outS hK hdR (h := fun hH2 => ?_); clear hK K hHeld; have hHeld := hH2; clear hH2; refine GoesX.one 7 (h := fun K hK => ?_); go_simp; refine outS hK hdR (h := fun hH2 => ?_); clear hK K hHeld; have hHeld := hH2; clear hH2; refine GoesX.oneX 8 (h := fun K hK => ?_); (first | (go_at_call 137; apply Calls.mono; apply (pickN_c (N := 3)); (apply Rdp.keep; assumption; (exact kb_)); omega; rfl; decide; rintro E w5 ⟨v5, rfl, hv5, hrd, hb⟩; have hsel := sel3_cell hv5; have hv5i : (v5 : Int) < 3 := (by omega); (have hst := xc hb; (try simp only [zA, zC, zD, zN] at hst); obtain ⟨hc, hf, hz⟩ := hst)) | (apply step_app (lo := g + 1) el_I one_I rfl rfl rfl rfl; (first | assumption | exact Ow.nil _ _ | (apply Ow.keep; assumption; exact kf_) | (refine Ow.new [] (by (first | rfl | (simp only [zA, zC, zD, zN]; done) | omega)) rfl rfl (fun _ => rfl) (by exact sz_) (by omega))); (first | (refine Rs.new [_] (by (first | rfl | (simp only [zA, zC, zD, zN]; done) | omega)) rfl rfl (fun _ => rfl) (by omega))); omega; exact sz_; intro A1 c1 w2 ho1 hch1 hat1 hex1 hlow1; have hb := hex1 (· = rb) w (by exact ext_) (by omega); have hrd := Rdp.low (Rdp.keep (by assumption) (by exact kb_)) hch1.size hlow1 (by omega); have hz := hch1.size; (try simp only [zA, zC, zD, zN] at hz); obtain ⟨hc, hf⟩ := low_rules hlow1; clear hex1)); refine outX hK (h := ?_); clear hK K; refine GoesX.takeX 9 57 (h := ?_); refine GoesX.oneX 10 (h := fun K hK => ?_); go_simp; refine outX hK (h := ?_); clear hK K; refine GoesX.done (by kernel_rfl) ?_ _)); rotate_right 1; (focus (go_simp; refine outS hK hdR (h := fun hH2 => ?_); clear hK K hHeld; have hHeld := hH2; clear hH2; refine GoesX.one 4 (h := fun K hK => ?_); go_simp; (first | (go_at_call 137; apply Calls.mono; apply (pickN_c (N := 3)); (apply Rdp.keep; assumption; (exact kb_)); omega; rfl; decide; rintro E w5 ⟨v5, rfl, hv5, hrd, hb⟩; have hsel := sel3_cell hv5; have hv5i : (v5 : Int) < 3 := (by omega); (have hst := xc hb; (try simp only [zA, zC, zD, zN] at hst); obtain ⟨hc, hf, hz⟩ := hst)) | (apply step_app (lo := g + 1) el_I one_I rfl rfl rfl rfl; (first | assumption | exact Ow.nil _ _ | (apply Ow.keep; assumption; exact kf_) | (refine Ow.new [] (by (first | rfl | (simp only [zA, zC, zD, zN]; done) | omega)) rfl rfl (fun _ => rfl) (by exact sz_) (by omega))); (first | (refine Rs.new [_] (by (first | rfl | (simp only [zA, zC, zD, zN]; done) | omega)) rfl rfl (fun _ => rfl) (by omega))); omega; exact sz_; intro A1 c1 w2 ho1 hch1 hat1 hex1 hlow1; have hb := hex1 (· = rb) w (by exact ext_) (by omega); have hrd := Rdp.low (Rdp.keep (by assumption) (by exact kb_)) hch1.size hlow1 (by omega); have hz := hch1.size; (try simp only [zA, zC, zD, zN] at hz); obtain ⟨hc, hf⟩ := low_rules hlow1; clear hex1)); (try go_wp2_with fail); refine outS hK hdR (h := fun hH2 => ?_); clear hK K hHeld; have hHeld := hH2; clear hH2; refine GoesX.take 5 53 [6, 7, 8, 9, 10] hHeld (h := ?_); refine GoesX.one 6 (h := fun K hK => ?_); go_simp; refine outS hK hdR (h := fun hH2 => ?_); clear hK K hHeld; have hHeld := hH2; clear hH2; refine GoesX.one 7 (h := fun K hK => ?_); go_simp; refine outS hK hdR (h := fun hH2 => ?_); clear hK K hHeld; have hHeld := hH2; clear hH2; refine GoesX.oneX 8 (h := fun K hK => ?_); (first | (go_at_call 137; apply Calls.mono; apply (pickN_c (N := 3)); (apply Rdp.keep; assumption; (exact kb_)); omega; rfl; decide; rintro E w5 ⟨v5, rfl, hv5, hrd, hb⟩; have hsel := sel3_cell hv5; have hv5i : (v5 : Int) < 3 := (by omega); (have hst := xc hb; (try simp only [zA, zC, zD, zN] at hst); obtain ⟨hc, hf, hz⟩ := hst)) | (apply step_app (lo := g + 1) el_I one_I rfl rfl rfl rfl; (first | assumption | exact Ow.nil _ _ | (apply Ow.keep; assumption; exact kf_) | (refine Ow.new [] (by (first | rfl | (simp only [zA, zC, zD, zN]; done) | omega)) rfl rfl (fun _ => rfl) (by exact sz_) (by omega))); (first | (refine Rs.new [_] (by (first | rfl | (simp only [zA, zC, zD, zN]; done) | omega)) rfl rfl (fun _ => rfl) (by omega))); omega; exact sz_; intro A1 c1 w2 ho1 hch1 hat1 hex1 hlow1; have hb := hex1 (· = rb) w (by exact ext_) (by omega); have hrd := Rdp.low (Rdp.keep (by assumption) (by exact kb_)) hch1.size hlow1 (by omega); have hz := hch1.size; (try simp only [zA, zC, zD, zN] at hz); obtain ⟨hc, hf⟩ := low_rules hlow1; clear hex1)); refine outX hK (h := ?_); clear hK K; refine GoesX.takeX 9 57 (h := ?_); refine GoesX.oneX 10 (h := fun K hK => ?_); go_simp; refine outX hK (h := ?_); clear hK K; refine GoesX.done (by kernel_rfl) ?_ _))))
            all_goals go_wp2_with fail
            all_goals refine bodyPost_ret (v := .agg #[.int .i64 a0, .int .i64 b0, .int .i64 d0, .slice A1 (k + 1) c1]) (by simp [results, Try.results67, go_sem, *]) rfl ?_
            all_goals exact ⟨_, _, _, _, _, _, _, rfl, ((ho1.keep kf_).less (by omega)).rs, by omega, (Rdp.keep hrd (by (exact kb_))).more (by omega), ext_⟩
end Go.Proofs.Ytgceeggfdomdjaa

namespace Go.Proofs.Ytgceeggfdomdjaa
set_option maxRecDepth 100000
set_option linter.unusedSimpArgs false
set_option linter.unusedVariables false
open Go.RowKit Go
set_option maxHeartbeats 4000000

theorem sHedOfA_c (A : Option Addr) (c n : Nat) (xs : List Sw.Ent) (w : World) (hxs : RE w 0 A c n xs) : Calls Try.prog 68 #[.slice A n c] w fun E w' => ∃ p q r b, E = .returned (.tuple #[.agg #[.int .i64 p, .int .i64 q, .int .i64 r], .bool b]) ∧ True ∧ Ex w w' := by
  refine (sHedOf_c A c n xs w hxs).mono ?_
  rintro E w' ⟨rfl, hb⟩
  exact ⟨_, _, _, _, rfl, trivial, hb⟩
/-- A head in block g. -/
structure HAt (w : World) (g : Nat) (a b d : Int) : Prop where
  lt : g < w.heap.size
  c0 : w.cell? ⟨g, 0, none⟩ = some (.int .i64 a)
  c1 : w.cell? ⟨g, 1, none⟩ = some (.int .i64 b)
  c2 : w.cell? ⟨g, 2, none⟩ = some (.int .i64 d)
  free : ∀ i, w.frozen? ⟨g, i, none⟩ = false
theorem drawGatSync_c (A0 : Option Addr) (c0 n0 : Nat) (bs : List Int) (w : World) (hxs : RB w 0 A0 c0 n0 bs) (hq : ∀ x ∈ bs, 0 ≤ x ∧ x ≤ 255) : Calls Try.prog 15 #[.slice A0 n0 c0] w fun E w' => ∃ t1 t2 t3 u1 u2 u3 B d m xs D e k ps, E = .returned (.tuple #[.agg #[.int .i64 t1, .int .i64 t2, .int .i64 t3, .slice B m d], .agg #[.int .i64 u1, .int .i64 u2, .int .i64 u3], .slice D k e]) ∧ (RI w' 0 B d m xs ∧ RI w' 0 D e k ps) ∧ Ex w w' := by
  go_enter Try.func15, Try.ntmps15
  go_wp2_with fail
  apply Calls.mono
  apply l20Open_c
  · apply Rs.at0 hxs; (exact kf_)
  · exact hq
  rintro E w1 ⟨rb, rfl, hrd, hrb, hb⟩
  have hst := xr hb; (try simp only [zA, zC, zD, zN] at hst); obtain ⟨hc, hf, hz⟩ := hst
  have hlt := hrd.lt
  have hrb0 : w.heap.size + 2 ≤ rb := sz_
  go_upto_region 4 with (first | (go_at_call 66; apply Calls.mono; apply l20Log_c; (apply Rdp.keep; assumption; (exact kb_)); (first | assumption | omega); (first | assumption | omega); (first | assumption | omega); rintro E w1 ⟨A, c, m, xs, rfl, hes, hm, hrd, hb⟩; have hst := xc hb; (try simp only [zA, zC, zD, zN] at hst); obtain ⟨hc, hf, hz⟩ := hst) | (go_at_call 67; apply Calls.mono; apply l21Gate_c; (apply Rdp.keep; assumption; (exact kb_)); (apply Rs.less; (first | (apply Rs.keep; assumption; (exact kf_)) | (apply Rs.keep; apply Ow.rs; assumption; (exact kf_))); (first | omega | (simp only [zA, zC, zD, zN]; omega))); (first | assumption | omega); (first | assumption | omega); (first | assumption | omega); (first | assumption | omega); rintro E w1 ⟨a, b, d, B, e, k, ys, rfl, hys, hk, hrd, hb⟩; have hst := xc hb; (try simp only [zA, zC, zD, zN] at hst); obtain ⟨hc, hf, hz⟩ := hst))
  obtain ⟨t1, rfl⟩ : ∃ x, x = a := ⟨_, rfl⟩
  obtain ⟨t2, rfl⟩ : ∃ x, x = b := ⟨_, rfl⟩
  obtain ⟨t3, rfl⟩ : ∃ x, x = d := ⟨_, rfl⟩
  (refine wp_name ?_; intro W0 hb0; have hst := xr hb0; (try simp only [zA, zC, zD, zN] at hst); obtain ⟨hc0, hf0, hz0⟩ := hst)
  obtain ⟨gg, hgg⟩ : ∃ g, g = w1.heap.size := ⟨_, rfl⟩
  have hgg0 : rb < gg := by rw [hgg]; exact hrd.lt
  have hG : GAt W0 gg t1 t2 t3 B k e := (by rw [hgg]; exact ⟨sz_, by (go_simp; first | done | simp [*]), by (go_simp; first | done | simp [*]), by (go_simp; first | done | simp [*]), by (go_simp; first | done | simp [*]), fun i => by (go_simp; first | done | simp [*])⟩)
  have hys1 : RI W0 (rb + 1) B e k ys := (hys.keep kf_).less sz_
  have hes1 : RE W0 (rb + 1) A c m xs := (hes.keep kf_).less sz_
  have hR4 : Lb W0 w.heap.size 4 := (by (repeat (first | with_reducible assumption | with_reducible exact Lb.new (by first | rfl | (simp only [zA, zC, zD, zN]; done)) (by with_unfolding_all rfl) | with_reducible apply Lb.alloc | with_reducible apply Lb.set | with_reducible apply Lb.drew | (with_reducible refine Lb.ex ?_ (by assumption)) | (refine Lb.chk (S := fun k => k = rb) (by with_reducible assumption) ?_ (by show ¬ _ = rb; omega)))))
  have hR3 : Lb W0 (w.heap.size + 1) 3 := (by (repeat (first | with_reducible assumption | with_reducible exact Lb.new (by first | rfl | (simp only [zA, zC, zD, zN]; done)) (by with_unfolding_all rfl) | with_reducible apply Lb.alloc | with_reducible apply Lb.set | with_reducible apply Lb.drew | (with_reducible refine Lb.ex ?_ (by assumption)) | (refine Lb.chk (S := fun k => k = rb) (by with_reducible assumption) ?_ (by show ¬ _ = rb; omega)))))
  have HK : RdCh w W0 rb 1000 := ⟨Rdp.more (Rdp.keep hrd kb_) (by omega), ext_⟩
  rw [← hgg]
  clear hgg hrd hb hc hf hz hb0 hc0 hf0 hz0 hes hys
  ((repeat (rename Ch _ _ _ => zz; clear zz)); (repeat (rename Rdp _ _ _ => zz; clear zz)); (repeat (rename (∀ (b o : Nat), ¬ ((⟨b, 0, none⟩ : Addr) = ⟨b - _ + _, 0, none⟩) → _) => zz; clear zz)))
  obtain ⟨hrd, hb⟩ := HK
  obtain ⟨l0, k0, k1, k2, k3, kf⟩ := hG
  go_upto_region 5 with (go_at_call 68; apply Calls.mono; apply sHedOfA_c; ((first | (apply Rs.at0; assumption) | (apply Ow.rs0; assumption) | (apply OwT.rs0; assumption)); exact kf_); rintro E w1 ⟨p, q, r, b, rfl, -, hb⟩; have hst := xr hb; (try simp only [zA, zC, zD, zN] at hst); obtain ⟨hc, hf, hz⟩ := hst)
  have hgz : W0.heap.size ≤ w1.heap.size := sz_
  (refine wp_name ?_; intro W0 hb0; have hst := xr hb0; (try simp only [zA, zC, zD, zN] at hst); obtain ⟨hc0, hf0, hz0⟩ := hst)
  obtain ⟨gh, hgh⟩ : ∃ g, g = w1.heap.size := ⟨_, rfl⟩
  have hgh0 : gg < gh := by rw [hgh]; exact sz_
  have hH : HAt W0 gh p q r := (by rw [hgh]; exact ⟨sz_, by (go_simp; first | done | simp [*]), by (go_simp; first | done | simp [*]), by (go_simp; first | done | simp [*]), fun i => by (go_simp; first | done | simp [*])⟩)
  rw [← hgh] at hgz ⊢
  clear hgh
  obtain ⟨m0, j0, j1, j2, jf⟩ := hH
  go_upto_if 29 with (first | (go_at_call 69; apply Calls.mono; apply sHedProof_c; ((first | (apply Rs.at0; assumption) | (apply Ow.rs0; assumption) | (apply OwT.rs0; assumption)); exact kf_); rintro E w1 ⟨A', c', n', rfl, hop, hb⟩; have hst := xr hb; (try simp only [zA, zC, zD, zN] at hst); obtain ⟨hc, hf, hz⟩ := hst) | (go_at_call 70; apply Calls.mono; apply odd_c; (apply Rdp.keep; assumption; (exact kb_)); (first | assumption | omega); (first | assumption | omega); (first | assumption | omega); rintro E w1 ⟨b, rfl, hrd, hb⟩; have hst := xc hb; (try simp only [zA, zC, zD, zN] at hst); obtain ⟨hc, hf, hz⟩ := hst))
  go_cut [] (fun wx => ∃ u1 u2 u3, HAt wx gh u1 u2 u3 ∧ GAt wx gg t1 t2 t3 B k e ∧ RI wx (rb + 1) B e k ys ∧ OwI wx (rb + 1) A' c' n' (Sw.hedProof xs t1) ∧ Lb wx w.heap.size 4 ∧ Lb wx (w.heap.size + 1) 3 ∧ Rdp wx rb 1100 ∧ Ch (· = rb) w wx)
  case first =>
    go_wp2_with (go_at_call 71; apply Calls.mono; apply l21Head_c; (apply Rdp.keep; assumption; (exact kb_)); (apply Rs.less; (first | (apply Rs.keep; assumption; (exact kf_)) | (apply Rs.keep; apply Ow.rs; assumption; (exact kf_))); (first | omega | (simp only [zA, zC, zD, zN]; omega))); (first | assumption | omega); (first | assumption | omega); (first | assumption | omega); (first | assumption | omega); rintro E w1 ⟨a, b, d, rfl, hrd, hb⟩; have hst := xc hb; (try simp only [zA, zC, zD, zN] at hst); obtain ⟨hc, hf, hz⟩ := hst)
    all_goals go_meet
    · exact ⟨a, b, d, ⟨sz_, by (go_simp; first | done | simp [*]), by (go_simp; first | done | simp [*]), by (go_simp; first | done | simp [*]), fun i => by (go_simp; first | done | simp [*])⟩, ⟨sz_, by (go_simp; first | done | simp [*]), by (go_simp; first | done | simp [*]), by (go_simp; first | done | simp [*]), by (go_simp; first | done | simp [*]), fun i => by (go_simp; first | done | simp [*])⟩, hys1.keep kf_, (hop.keep kf_).less sz_, by (repeat (first | with_reducible assumption | with_reducible exact Lb.new (by first | rfl | (simp only [zA, zC, zD, zN]; done)) (by with_unfolding_all rfl) | with_reducible apply Lb.alloc | with_reducible apply Lb.set | with_reducible apply Lb.drew | (with_reducible refine Lb.ex ?_ (by assumption)) | (refine Lb.chk (S := fun k => k = rb) (by with_reducible assumption) ?_ (by show ¬ _ = rb; omega)))), by (repeat (first | with_reducible assumption | with_reducible exact Lb.new (by first | rfl | (simp only [zA, zC, zD, zN]; done)) (by with_unfolding_all rfl) | with_reducible apply Lb.alloc | with_reducible apply Lb.set | with_reducible apply Lb.drew | (with_reducible refine Lb.ex ?_ (by assumption)) | (refine Lb.chk (S := fun k => k = rb) (by with_reducible assumption) ?_ (by show ¬ _ = rb; omega)))), (Rdp.keep hrd (by (exact kb_))).more (by omega), ext_⟩
    · exact ⟨p, q, r, ⟨sz_, by (go_simp; first | done | simp [*]), by (go_simp; first | done | simp [*]), by (go_simp; first | done | simp [*]), fun i => by (go_simp; first | done | simp [*])⟩, ⟨sz_, by (go_simp; first | done | simp [*]), by (go_simp; first | done | simp [*]), by (go_simp; first | done | simp [*]), by (go_simp; first | done | simp [*]), fun i => by (go_simp; first | done | simp [*])⟩, hys1.keep kf_, (hop.keep kf_).less sz_, by (repeat (first | with_reducible assumption | with_reducible exact Lb.new (by first | rfl | (simp only [zA, zC, zD, zN]; done)) (by with_unfolding_all rfl) | with_reducible apply Lb.alloc | with_reducible apply Lb.set | with_reducible apply Lb.drew | (with_reducible refine Lb.ex ?_ (by assumption)) | (refine Lb.chk (S := fun k => k = rb) (by with_reducible assumption) ?_ (by show ¬ _ = rb; omega)))), by (repeat (first | with_reducible assumption | with_reducible exact Lb.new (by first | rfl | (simp only [zA, zC, zD, zN]; done)) (by with_unfolding_all rfl) | with_reducible apply Lb.alloc | with_reducible apply Lb.set | with_reducible apply Lb.drew | (with_reducible refine Lb.ex ?_ (by assumption)) | (refine Lb.chk (S := fun k => k = rb) (by with_reducible assumption) ?_ (by show ¬ _ = rb; omega)))), (Rdp.keep hrd (by (exact kb_))).more (by omega), ext_⟩
  case rest =>
    clear k0 k1 k2 k3 kf j0 j1 j2 jf hys1 hes1 hR4 hR3 hop
    ((repeat (rename Ch _ _ _ => zz; clear zz)); (repeat (rename Rdp _ _ _ => zz; clear zz)); (repeat (rename (∀ (b o : Nat), ¬ ((⟨b, 0, none⟩ : Addr) = ⟨b - _ + _, 0, none⟩) → _) => zz; clear zz)))
    obtain ⟨u1, u2, u3, ⟨m0, j0, j1, j2, jf⟩, ⟨l0, k0, k1, k2, k3, kf⟩, hys, hop, hR4, hR3, hrd, hb⟩ := hcut
    obtain ⟨r0, hr0⟩ := hR4.at_ (i := 0) (by omega)
    obtain ⟨r1, hr1⟩ := hR4.at_ (i := 1) (by omega)
    obtain ⟨r2, hr2⟩ := hR4.at_ (i := 2) (by omega)
    obtain ⟨r3, hr3⟩ := hR4.at_ (i := 3) (by omega)
    have hrf := hR4.rules.2
    obtain ⟨s0, hs0⟩ := hR3.at_ (i := 0) (by omega)
    obtain ⟨s1, hs1⟩ := hR3.at_ (i := 1) (by omega)
    obtain ⟨s2, hs2⟩ := hR3.at_ (i := 2) (by omega)
    have hsf := hR3.rules.2
    have hpf := hop.rs
    have n1 : ¬ w.heap.size = gg := by omega
    have n2 : ¬ w.heap.size = gh := by omega
    have n3 : ¬ w.heap.size + 1 = gg := by omega
    have n4 : ¬ w.heap.size + 1 = gh := by omega
    have hpd := hop.rs.drop (fun _ => rfl) (k := 1)
    rcases hop.form with ⟨rfl, h0, h00⟩ | ⟨gp, cur, rfl, hlo, hltg, -⟩
    · subst h0 h00
      go_wp2_with (go_at_call 70; apply Calls.mono; apply odd_c; (apply Rdp.keep; assumption; (exact kb_)); (first | assumption | omega); (first | assumption | omega); (first | assumption | omega); rintro E w1 ⟨b, rfl, hrd, hb⟩; have hst := xc hb; (try simp only [zA, zC, zD, zN] at hst); obtain ⟨hc, hf, hz⟩ := hst)
      all_goals (refine wp_name ?_; intro W0 hb0; have hst := xr hb0; (try simp only [zA, zC, zD, zN] at hst); obtain ⟨hc0, hf0, hz0⟩ := hst)
      all_goals go_region_held3 (fun w' => w'.cell? ⟨gg, 0, none⟩ = some (.int .i64 t1) ∧ w'.cell? ⟨gg, 1, none⟩ = some (.int .i64 t2) ∧ w'.cell? ⟨gg, 2, none⟩ = some (.int .i64 t3) ∧ w'.cell? ⟨gg, 3, none⟩ = some (.slice B k e) ∧ w'.cell? ⟨gh, 0, none⟩ = some (.int .i64 u1) ∧ w'.cell? ⟨gh, 1, none⟩ = some (.int .i64 u2) ∧ w'.cell? ⟨gh, 2, none⟩ = some (.int .i64 u3)) (go_keep) (fail)
      all_goals go_wp2_with fail
      all_goals refine bodyPost_ret (v := .tuple #[.agg #[.int .i64 t1, .int .i64 t2, .int .i64 t3, .slice B k e], .agg #[.int .i64 u1, .int .i64 u2, .int .i64 u3], .slice none 0 0]) (by simp [results, Try.results15, go_sem, *]) rfl ?_
      all_goals exact ⟨_, _, _, _, _, _, _, _, _, ys, _, _, _, _, rfl, ⟨(hys.keep kf_).less (Nat.zero_le _), (Rs.keep hpf kf_).less (Nat.zero_le _)⟩, ext_⟩
    · have hpd0 : c' = 1 → n' = 1 → RI wc (rb + 1) (some ⟨gp, 0, none⟩) 0 0 [] := fun h1 h2 => by
        subst h1 h2
        have := Rs.drop hpf (fun _ => rfl) (k := 1) (by omega)
        rw [if_pos rfl, List.drop_of_length_le (by have := hpf.1; omega)] at this
        exact this
      have hpd1 : c' ≠ 1 → 1 ≤ n' → RI wc (rb + 1) (some ⟨gp, 1, none⟩) (c' - 1) (n' - 1) ((Sw.hedProof xs t1).drop 1) := fun h1 h2 => by
        have := Rs.drop hpf (fun _ => rfl) (k := 1) h2
        rw [if_neg h1] at this
        simpa [Addr.add_lit] using this
      have hnc := hpf.2.le
      clear hpd
      go_wp2_with (go_at_call 70; apply Calls.mono; apply odd_c; (apply Rdp.keep; assumption; (exact kb_)); (first | assumption | omega); (first | assumption | omega); (first | assumption | omega); rintro E w1 ⟨b, rfl, hrd, hb⟩; have hst := xc hb; (try simp only [zA, zC, zD, zN] at hst); obtain ⟨hc, hf, hz⟩ := hst)
      all_goals (refine wp_name ?_; intro W0 hb0; have hst := xr hb0; (try simp only [zA, zC, zD, zN] at hst); obtain ⟨hc0, hf0, hz0⟩ := hst)
      all_goals go_region_held3 (fun w' => w'.cell? ⟨gg, 0, none⟩ = some (.int .i64 t1) ∧ w'.cell? ⟨gg, 1, none⟩ = some (.int .i64 t2) ∧ w'.cell? ⟨gg, 2, none⟩ = some (.int .i64 t3) ∧ w'.cell? ⟨gg, 3, none⟩ = some (.slice B k e) ∧ w'.cell? ⟨gh, 0, none⟩ = some (.int .i64 u1) ∧ w'.cell? ⟨gh, 1, none⟩ = some (.int .i64 u2) ∧ w'.cell? ⟨gh, 2, none⟩ = some (.int .i64 u3)) (go_keep) (fail)
      all_goals go_wp2_with fail
      · refine bodyPost_ret (v := .tuple #[.agg #[.int .i64 t1, .int .i64 t2, .int .i64 t3, .slice B k e], .agg #[.int .i64 u1, .int .i64 u2, .int .i64 u3], .slice (some ⟨gp, 0, none⟩) (n' - 1) 0]) (by simp [results, Try.results15, go_sem, *]) rfl ?_
        (obtain rfl : n' = 1 := by omega)
        exact ⟨_, _, _, _, _, _, _, _, _, ys, _, _, _, _, rfl, ⟨(hys.keep kf_).less (Nat.zero_le _), (Rs.keep (hpd0 (by omega) rfl) kf_).less (Nat.zero_le _)⟩, ext_⟩
      · refine bodyPost_ret (v := .tuple #[.agg #[.int .i64 t1, .int .i64 t2, .int .i64 t3, .slice B k e], .agg #[.int .i64 u1, .int .i64 u2, .int .i64 u3], .slice (some ⟨gp, 1, none⟩) (n' - 1) (c' - 1)]) (by simp [results, Try.results15, go_sem, *]) rfl ?_
        exact ⟨_, _, _, _, _, _, _, _, _, ys, _, _, _, _, rfl, ⟨(hys.keep kf_).less (Nat.zero_le _), (Rs.keep (hpd1 (by omega) (by omega)) kf_).less (Nat.zero_le _)⟩, ext_⟩
      · refine bodyPost_ret (v := .tuple #[.agg #[.int .i64 t1, .int .i64 t2, .int .i64 t3, .slice B k e], .agg #[.int .i64 u1, .int .i64 u2, .int .i64 u3], .slice (some ⟨gp, 0, none⟩) n' c']) (by simp [results, Try.results15, go_sem, *]) rfl ?_
        exact ⟨_, _, _, _, _, _, _, _, _, ys, _, _, _, _, rfl, ⟨(hys.keep kf_).less (Nat.zero_le _), (Rs.keep hpf kf_).less (Nat.zero_le _)⟩, ext_⟩
      · refine bodyPost_ret (v := .tuple #[.agg #[.int .i64 t1, .int .i64 t2, .int .i64 t3, .slice B k e], .agg #[.int .i64 u1, .int .i64 u2, .int .i64 u3], .slice (some ⟨gp, 0, none⟩) n' c']) (by simp [results, Try.results15, go_sem, *]) rfl ?_
        exact ⟨_, _, _, _, _, _, _, _, _, ys, _, _, _, _, rfl, ⟨(hys.keep kf_).less (Nat.zero_le _), (Rs.keep hpf kf_).less (Nat.zero_le _)⟩, ext_⟩
end Go.Proofs.Ytgceeggfdomdjaa

namespace Go.Proofs.Ytgceeggfdomdjaa
set_option maxRecDepth 100000
set_option linter.unusedSimpArgs false
set_option linter.unusedVariables false
open Go.RowKit Go
set_option maxHeartbeats 400000

theorem eqIntS_c (A : Option Addr) (c n : Nat) (xs : List Int) (B : Option Addr) (d m : Nat) (ys : List Int) (w : World) (hxs : RI w 0 A c n xs) (hys : RI w 0 B d m ys) : Calls Try.prog 120 #[.slice A n c, .slice B m d] w fun E w' => E = .returned (.bool (decide (xs = ys))) ∧ Ex w w' := by
  have hl := Lib.hid hxs.1
  have hl' := Lib.hid hys.1
  have hbig : n ≤ 9223372036854775807 := by have := hxs.2.le; have := hxs.2.cap; unfold maxLen at this; omega
  by_cases hnm : n = m
  case neg =>
    have hb : ((n : Int) == m) = false := by simp; omega
    have e : decide (xs = ys) = false := by
      rw [decide_eq_false_iff_not]; rintro rfl
      have := hl.out; have := hl'.out; omega
    rw [e]; clear e
    go_enter Try.func120, Try.ntmps120
    go_wp2_with fail
    go_ret
    exact ⟨rfl, ext_⟩
  subst hnm
  go_enter Try.func120, Try.ntmps120
  go_wp2_with fail
  go_loopw [5] (fun i wr => ∃ k : Nat, k ≤ n ∧ i = .int .i64 k ∧ Ex w wr ∧ decide (xs = ys) = decide (xs.drop k = ys.drop k)) (fun i _ => n - (intOf i).toNat)
  case atStart => exact ⟨0, Nat.zero_le _, rfl, Ch.refl _ _, rfl⟩
  case round =>
    obtain ⟨k, hk, rfl, hb2, hrel⟩ := hrel
    have hst := Ex.rules hb2 rfl
    obtain ⟨hc2, hf2, hz2⟩ := hst
    by_cases hlt : k < n
    · obtain ⟨g, off, y, rfl, hg0, hg, hd, hy, hcy⟩ := at_I hxs hlt
      obtain ⟨g', off', z, rfl, hg0', hg', hd', hz', hcz⟩ := at_I hys hlt
      have t1 : (0 : Int) ≤ (k : Int) := by omega
      have t2 : (k : Int) < (n : Int) := by omega
      rw [hd, hd'] at hrel
      have Hrel := Lib.hid hrel
      clear hrel hd hd' hy hz'
      by_cases hyz : y = z
      · subst hyz
        go_wp2_with fail
        go_quiet ((first | fail))
        go_wp2
        go_roundw
        case rel => exact ⟨k + 1, by omega, by go_num, ext_, by rw [Hrel.out]; simp⟩
        case measure => simp [intOf]; omega
      · go_wp2_with fail
        go_quiet ((first | fail))
        go_wp2
        go_ret
        exact ⟨ret_b (by rw [Hrel.out]; simp [hyz]), ext_⟩
    · have Hrel := Lib.hid hrel; clear hrel
      go_wp2_with fail
      go_ret
      refine ⟨ret_b ?_, ext_⟩
      rw [Hrel.out, List.drop_of_length_le (by have := hl.out; omega), List.drop_of_length_le (by have := hl'.out; omega)]
      simp

end Go.Proofs.Ytgceeggfdomdjaa

namespace Go.Proofs.Ytgceeggfdomdjaa
set_option maxRecDepth 100000
set_option linter.unusedSimpArgs false
set_option linter.unusedVariables false
open Go.RowKit Go
set_option maxHeartbeats 400000

/-- n numbers from k on. -/
def marks : Int → Nat → List Int
  | _, 0 => []
  | k, n + 1 => k :: marks (k + 1) n
theorem marks_len : ∀ (n : Nat) (k : Int), (marks k n).length = n
  | 0, _ => rfl
  | n + 1, k => by rw [marks, List.length_cons, marks_len n]
theorem marks_at : ∀ (n j : Nat) (k : Int), j < n → (marks k n)[j]? = some (k + j)
  | 0, j, k, h => absurd h (Nat.not_lt_zero _)
  | n + 1, 0, k, _ => by simp [marks]
  | n + 1, j + 1, k, h => by
    rw [marks, List.getElem?_cons_succ, marks_at n j (k + 1) (by omega)]
    congr 1; omega
theorem marks_succ : ∀ (n : Nat) (k : Int), marks k (n + 1) = marks k n ++ [k + n]
  | 0, k => by simp [marks]
  | n + 1, k => by
    rw [marks, marks_succ n (k + 1)]
    simp only [marks, List.cons_append, List.cons.injEq, true_and]
    congr 2; omega
theorem marks_set {xs : List Int} {k : Int} {j n : Nat} (hn : n = xs.length) (hj : j < n) : (marks k j ++ xs.drop j).set j (k + j) = marks k (j + 1) ++ xs.drop (j + 1) := by
  rw [List.set_append_right _ _ (by rw [marks_len]; omega), marks_len, Nat.sub_self, marks_succ, List.append_assoc]
  congr 1
  rw [List.drop_eq_getElem_cons (by omega), List.set_cons_zero]
  rfl
theorem marks_old {xs : List Int} {k : Int} {j n : Nat} (hn : n = xs.length) (hj : j < n) : ∃ y, (marks k j ++ xs.drop j)[j]? = some y := by
  refine ⟨xs[j]'(by omega), ?_⟩
  rw [List.getElem?_append_right (by rw [marks_len]; omega), marks_len, Nat.sub_self, List.getElem?_drop]
  simp

theorem markIntS_c (A : Option Addr) (c n lo : Nat) (xs : List Int) (k : Int) (w : World) (hxs : OwI w lo A c n xs) (hk0 : 0 ≤ k) (hk1 : k ≤ 67108864) (hn : n ≤ 4194304) : Calls Try.prog 123 #[.slice A n c, .int .i64 k] w fun E w' => E = .returned (.int .i64 (k + n)) ∧ OwI w' lo A c n (marks k n) ∧ Ch (atA A) w w' := by
  have hl := Lib.hid hxs.1
  go_enter Try.func123, Try.ntmps123
  go_wp2_with fail
  go_loopw [5, 1] (fun i kk wr => ∃ j : Nat, j ≤ n ∧ i = .int .i64 j ∧ kk = .int .i64 (k + j) ∧ Ch (atA A) w wr ∧ OwI wr lo A c n (marks k j ++ xs.drop j)) (fun i _ _ => n - (intOf i).toNat)
  case atStart => exact ⟨0, Nat.zero_le _, rfl, by simp, Ch.refl _ _, hxs⟩
  case round =>
    obtain ⟨j, hj, rfl, rfl, hb2, hrel⟩ := hrel
    by_cases hlt : j < n
    · obtain ⟨g', x', rfl, hg0', hg', hx', hc', hfr⟩ := at_OI hrel hlt
      have Hs := Lib.hid (OI_set hrel rfl hx' (k + j))
      have hw : IntKind.i64.wrap (k + j + 1) = k + ((j + 1 : Nat) : Int) := by rw [IntWalk.i64_in _ (by omega)]; omega
      have Hb := Lib.hid hb2
      clear hrel hx' hb2
      go_wp2_with fail
      go_roundw
      case rel =>
        refine ⟨j + 1, by omega, by go_num, rfl, Ch.setCell (p := ⟨g', j, none⟩) Hb.out (Or.inl ⟨⟨g', 0, none⟩, rfl, rfl⟩) _, ?_⟩
        have := Hs.out
        rw [marks_set hl.out hlt] at this
        exact this
      case measure => simp [intOf]; omega
    · have Hrel := Lib.hid hrel; clear hrel
      go_wp2_with fail
      go_ret
      obtain rfl : j = n := by omega
      have := Hrel.out
      rw [List.drop_of_length_le (by have := hl.out; omega), List.append_nil] at this
      exact ⟨rfl, this, hb2⟩

theorem heldIntS_c (A : Option Addr) (c n : Nat) (k : Int) (w : World) (hxs : RI w 0 A c n (marks k n)) (hk0 : 0 ≤ k) (hk1 : k ≤ 67108864) (hn : n ≤ 4194304) : Calls Try.prog 126 #[.slice A n c, .int .i64 k] w fun E w' => E = .returned (.int .i64 (k + n)) ∧ w = w' := by
  go_enter Try.func126, Try.ntmps126
  go_wp2
  go_loop [5, 1] (fun i kk => ∃ j : Nat, j ≤ n ∧ i = .int .i64 j ∧ kk = .int .i64 (k + j)) (fun i _ => n - (intOf i).toNat)
  case atStart => exact ⟨0, Nat.zero_le _, rfl, by simp⟩
  case round =>
    obtain ⟨j, hj, rfl, rfl⟩ := hrel
    by_cases hlt : j < n
    · obtain ⟨g, off, y, rfl, hg0, hg, hd, hy, hcy⟩ := at_I hxs hlt
      rw [marks_at n j k hlt] at hy
      obtain rfl := Option.some.inj hy
      have hw : IntKind.i64.wrap (k + j + 1) = k + ((j + 1 : Nat) : Int) := by rw [IntWalk.i64_in _ (by omega)]; omega
      clear hd hy
      go_wp2
      go_round
      case rel => exact ⟨j + 1, by omega, by go_num, rfl⟩
      case measure => simp [intOf]; omega
    · go_wp2
      go_ret
      obtain rfl : j = n := by omega
      exact ⟨rfl, rfl⟩

end Go.Proofs.Ytgceeggfdomdjaa

namespace Go.Proofs.Ytgceeggfdomdjaa
set_option maxRecDepth 100000
set_option linter.unusedSimpArgs false
set_option linter.unusedVariables false
open Go.RowKit Go
set_option maxHeartbeats 400000

theorem swInts_c (A : Option Addr) (c n : Nat) (xs : List Int) (B : Option Addr) (d m : Nat) (ys : List Int) (w : World) (hxs : RI w 0 A c n xs) (hys : RI w 0 B d m ys) : Calls Try.prog 23 #[.slice A n c, .slice B m d] w fun E w' => E = .returned (.bool (decide (xs = ys))) ∧ Ex w w' := by
  have hl := Lib.hid hxs.1
  have hl' := Lib.hid hys.1
  have hbig : n ≤ 9223372036854775807 := by have := hxs.2.le; have := hxs.2.cap; unfold maxLen at this; omega
  by_cases hnm : n = m
  case neg =>
    have hb : ((n : Int) == m) = false := by simp; omega
    have e : decide (xs = ys) = false := by
      rw [decide_eq_false_iff_not]; rintro rfl
      have := hl.out; have := hl'.out; omega
    rw [e]; clear e
    go_enter Try.func23, Try.ntmps23
    go_wp2_with fail
    go_ret
    exact ⟨rfl, ext_⟩
  subst hnm
  go_enter Try.func23, Try.ntmps23
  go_wp2_with fail
  go_loopw [5] (fun i wr => ∃ k : Nat, k ≤ n ∧ i = .int .i64 k ∧ Ex w wr ∧ decide (xs = ys) = decide (xs.drop k = ys.drop k)) (fun i _ => n - (intOf i).toNat)
  case atStart => exact ⟨0, Nat.zero_le _, rfl, Ch.refl _ _, rfl⟩
  case round =>
    obtain ⟨k, hk, rfl, hb2, hrel⟩ := hrel
    have hst := Ex.rules hb2 rfl
    obtain ⟨hc2, hf2, hz2⟩ := hst
    by_cases hlt : k < n
    · obtain ⟨g, off, y, rfl, hg0, hg, hd, hy, hcy⟩ := at_I hxs hlt
      obtain ⟨g', off', z, rfl, hg0', hg', hd', hz', hcz⟩ := at_I hys hlt
      have t1 : (0 : Int) ≤ (k : Int) := by omega
      have t2 : (k : Int) < (n : Int) := by omega
      rw [hd, hd'] at hrel
      have Hrel := Lib.hid hrel
      clear hrel hd hd' hy hz'
      by_cases hyz : y = z
      · subst hyz
        go_wp2_with fail
        go_quiet ((first | fail))
        go_wp2
        go_roundw
        case rel => exact ⟨k + 1, by omega, by go_num, ext_, by rw [Hrel.out]; simp⟩
        case measure => simp [intOf]; omega
      · go_wp2_with fail
        go_quiet ((first | fail))
        go_wp2
        go_ret
        exact ⟨ret_b (by rw [Hrel.out]; simp [hyz]), ext_⟩
    · have Hrel := Lib.hid hrel; clear hrel
      go_wp2_with fail
      go_ret
      refine ⟨ret_b ?_, ext_⟩
      rw [Hrel.out, List.drop_of_length_le (by have := hl.out; omega), List.drop_of_length_le (by have := hl'.out; omega)]
      simp


theorem swOk_c (w : World) : Calls Try.prog 21 #[] w fun E w' => E = .returned (.bool true) ∧ w = w' := by
  have h1 : Sw.mixOk 1 = true := rfl
  go_enter Try.func21, Try.ntmps21
  go_wp2_with (first | (go_at_call 79; refine (iMixOk_c _ _).mono ?_; rintro E w' ⟨rfl, rfl⟩))
  go_ret
  exact ⟨ret_b (by simp [h1]), rfl⟩

theorem swGate_c (t : Sw.Head) (A : Option Addr) (c n : Nat) (xs : List Int) (u : Sw.Head) (B : Option Addr) (d m : Nat) (ys : List Int) (w : World) (hxs : RI w 0 A c n xs) (hys : RI w 0 B d m ys) : Calls Try.prog 18 #[.agg #[.int .i64 t.size, .int .i64 t.log, .int .i64 t.own, .slice A n c], .agg #[.int .i64 u.size, .int .i64 u.log, .int .i64 u.own, .slice B m d]] w fun E w' => E = .returned (.bool (decide (t = u) && decide (xs = ys))) ∧ Ex w w' := by
  go_enter Try.func18, Try.ntmps18
  go_wp2_with (first | (go_at_call 23; apply Calls.mono; apply swInts_c; ((first | (apply Rs.at0; assumption) | (apply Ow.rs0; assumption)); exact kf_); ((first | (apply Rs.at0; assumption) | (apply Ow.rs0; assumption)); exact kf_); rintro E w1 ⟨rfl, hb⟩; have hst := xr hb; (try simp only [zA, zC, zD, zN] at hst); obtain ⟨hc, hf, hz⟩ := hst))
  all_goals (go_ret; refine ⟨ret_b ?_, ext_⟩; go_tidy; simp only [head_ext])
  all_goals (first | (simp [*]; done) | (simp_all; done))
end Go.Proofs.Ytgceeggfdomdjaa

namespace Go.Proofs.Ytgceeggfdomdjaa
set_option maxRecDepth 100000
set_option linter.unusedSimpArgs false
set_option linter.unusedVariables false
open Go.RowKit Go
set_option maxHeartbeats 400000

/-- Where the first one stands that is no leaf; -1 if there is none. -/
def badAt (xs : List Int) : Int := match xs.findIdx? (fun x => !Sw.mixOk x) with
  | some i => i
  | none => -1
theorem badAt_iff (xs : List Int) : decide (0 ≤ badAt xs) = !xs.all Sw.mixOk := by
  unfold badAt
  cases h : xs.findIdx? (fun x => !Sw.mixOk x) with
  | none =>
    rw [List.findIdx?_eq_none_iff] at h
    have : xs.all Sw.mixOk = true := by
      rw [List.all_eq_true]
      intro x hx
      have := h x hx
      simpa using this
    rw [this]; rfl
  | some i =>
    have : xs.all Sw.mixOk = false := by
      rw [List.findIdx?_eq_some_iff_getElem] at h
      obtain ⟨h1, h2, _⟩ := h
      rw [List.all_eq_false]
      exact ⟨xs[i], List.getElem_mem h1, by simpa using h2⟩
    rw [this]
    simp
theorem badAt_here {xs : List Int} {k : Nat} {y : Int} (hy : xs[k]? = some y) (h : ∀ j, j < k → ∀ z, xs[j]? = some z → Sw.mixOk z = true) (hm : Sw.mixOk y = false) : badAt xs = k := by
  unfold badAt
  have hk := (List.getElem?_eq_some_iff.1 hy)
  obtain ⟨hk, rfl⟩ := hk
  have : xs.findIdx? (fun x => !Sw.mixOk x) = some k := by
    rw [List.findIdx?_eq_some_iff_getElem]
    refine ⟨hk, by simp [hm], fun j hj => ?_⟩
    have := h j hj xs[j] (by simp)
    simp [this]
  rw [this]
theorem badAt_none {xs : List Int} {k : Nat} (hk : xs.length ≤ k) (h : ∀ j, j < k → ∀ z, xs[j]? = some z → Sw.mixOk z = true) : badAt xs = -1 := by
  unfold badAt
  have : xs.findIdx? (fun x => !Sw.mixOk x) = none := by
    rw [List.findIdx?_eq_none_iff]
    intro x hx
    obtain ⟨i, hi, rfl⟩ := List.getElem_of_mem hx
    have := h i (by omega) xs[i] (by simp)
    simp [this]
  rw [this]

theorem iBad_c (x : Int) (w : World) : Calls Try.prog 153 #[.int .i64 x] w fun E w' => E = .returned (.bool (!Sw.mixOk x)) ∧ w = w' := by
  go_enter Try.func153, Try.ntmps153
  go_wp2_with (first | (go_at_call 79; refine (iMixOk_c _ _).mono ?_; rintro E w' ⟨rfl, rfl⟩))
  go_ret
  exact ⟨ret_b rfl, rfl⟩

theorem iBadAt_c (A : Option Addr) (c n : Nat) (xs : List Int) (w : World) (hxs : RI w 0 A c n xs) : Calls Try.prog 168 #[.slice A n c, .func (.func 153) #[] #[]] w fun E w' => E = .returned (.int .i64 (badAt xs)) ∧ w = w' := by
  have hl := Lib.hid hxs.1
  have hm : n ≤ 9223372036854775807 := by have := hxs.2.le; have := hxs.2.cap; unfold maxLen at this; omega
  go_enter Try.func168, Try.ntmps168
  go_wp2
  go_loop [8] (fun i => ∃ k : Nat, k ≤ n ∧ i = .int .i64 k ∧ ∀ j, j < k → ∀ z, xs[j]? = some z → Sw.mixOk z = true) (fun i => n - (intOf i).toNat)
  case atStart => exact ⟨0, Nat.zero_le _, rfl, by omega⟩
  case round =>
    obtain ⟨k, hk, rfl, hrel⟩ := hrel
    have Hrel := Lib.hid hrel; clear hrel
    by_cases hlt : k < n
    · obtain ⟨g, off, y, rfl, hg0, hg, hd, hy, hc⟩ := at_I hxs hlt
      have Hy := Lib.hid hy; clear hd hy
      cases hmx : Sw.mixOk y
      · go_wp2_with (first | (go_at_call 153; refine (iBad_c _ _).mono ?_; rintro E w' ⟨rfl, rfl⟩))
        go_ret
        refine ⟨ret_i ?_, rfl⟩
        exact (badAt_here Hy.out Hrel.out hmx).symm
      · go_wp2_with (first | (go_at_call 153; refine (iBad_c _ _).mono ?_; rintro E w' ⟨rfl, rfl⟩))
        go_round
        case rel =>
          refine ⟨k + 1, by omega, by go_num, ?_⟩
          intro j hj z hz
          rcases Nat.lt_succ_iff_lt_or_eq.1 hj with hj' | rfl
          · exact Hrel.out j hj' z hz
          · rw [Hy.out] at hz; cases hz; exact hmx
        case measure => simp [intOf]; omega
    · go_wp2
      go_ret
      refine ⟨ret_i ?_, rfl⟩
      exact (badAt_none (by have := hl.out; omega) Hrel.out).symm

theorem iHasBad_c (A : Option Addr) (c n : Nat) (xs : List Int) (w : World) (hxs : RI w 0 A c n xs) : Calls Try.prog 130 #[.slice A n c, .func (.func 153) #[] #[]] w fun E w' => E = .returned (.bool (!xs.all Sw.mixOk)) ∧ w = w' := by
  have Hb := Lib.hid (badAt_iff xs)
  go_enter Try.func130, Try.ntmps130
  go_wp2_with (first | (go_at_call 168; apply Calls.mono; apply iBadAt_c; ((first | (apply Rs.at0; assumption) | (apply Ow.rs0; assumption)); exact kf_); rintro E w' ⟨rfl, rfl⟩))
  go_ret
  exact ⟨ret_b Hb.out, rfl⟩

theorem iTreOk_c (A : Option Addr) (c n : Nat) (xs : List Int) (w : World) (hxs : RI w 0 A c n xs) : Calls Try.prog 97 #[.slice A n c] w fun E w' => E = .returned (.bool (Sw.treOk xs)) ∧ w = w' := by
  have hl := Lib.hid hxs.1
  have hm : n ≤ 9223372036854775807 := by have := hxs.2.le; have := hxs.2.cap; unfold maxLen at this; omega
  have e : Sw.treOk xs = (decide (n ≤ 40) && xs.all Sw.mixOk) := by rw [Sw.treOk, ← hl.out]
  have He := Lib.hid e; clear e
  by_cases hn : n ≤ 40
  · go_enter Try.func97, Try.ntmps97
    go_wp2_with (first | (go_at_call 130; apply Calls.mono; apply iHasBad_c; ((first | (apply Rs.at0; assumption) | (apply Ow.rs0; assumption)); exact kf_); rintro E w' ⟨rfl, rfl⟩))
    go_ret
    exact ⟨ret_b (by rw [He.out]; simp [hn]), rfl⟩
  · go_enter Try.func97, Try.ntmps97
    go_wp2_with (first | (go_at_call 130; apply Calls.mono; apply iHasBad_c; ((first | (apply Rs.at0; assumption) | (apply Ow.rs0; assumption)); exact kf_); rintro E w' ⟨rfl, rfl⟩))
    go_ret
    exact ⟨ret_b (by rw [He.out]; simp [hn]), rfl⟩
end Go.Proofs.Ytgceeggfdomdjaa

namespace Go.Proofs.Ytgceeggfdomdjaa
set_option maxRecDepth 100000
set_option linter.unusedSimpArgs false
set_option linter.unusedVariables false
open Go.RowKit Go
set_option maxHeartbeats 400000

theorem iGrown_c (N : Nat) (A : Option Addr) (c n m k : Nat) (old : Int) (kn : Bool) (xs : List Int) (w : World) (hN : n ≤ N) (hxs : RI w 0 A c n xs) (h40 : n ≤ 40) (hall : xs.all Sw.mixOk = true) (hold : Sw.mixOk old = true) (hm : 1 ≤ m) (hmk : m ≤ k) (hk40 : k ≤ 40) : Calls Try.prog 148 #[.int .i64 m, .int .i64 k, .int .i64 old, .slice A n c, .bool kn] w fun E w' => ∃ a b, E = .returned (.tuple #[.agg #[.int .i64 a, .int .i64 b], .bool (Sw.grR m k old xs.reverse kn).isSome]) ∧ (∀ r, Sw.grR m k old xs.reverse kn = some r → r = (a, b)) ∧ Sw.mixOk a = true ∧ Sw.mixOk b = true ∧ Ex w w' := by
  induction N generalizing A c n m k kn xs w with
  | zero =>
    have hl := hxs.1
    obtain rfl : n = 0 := by omega
    have hx : xs = [] := List.eq_nil_of_length_eq_zero (by omega)
    subst hx
    clear hl
    by_cases hmk' : m = k
    · subst hmk'
      cases kn with
      | true =>
        go_enter Try.func148, Try.ntmps148
        go_wp2_with fail
        refine bodyPost_ret (v := .tuple #[.agg #[.int .i64 old, .int .i64 old], .bool true]) (by simp [results, Try.results148, go_sem, *]) rfl ?_
        exact ⟨old, old, by simp [Sw.grR], by simp [Sw.grR], hold, hold, ext_⟩
      | false =>
        go_enter Try.func148, Try.ntmps148
        go_wp2_with fail
        refine bodyPost_ret (v := .tuple #[.agg #[.int .i64 0, .int .i64 0], .bool false]) (by simp [results, Try.results148, go_sem, *]) rfl ?_
        exact ⟨0, 0, by simp [Sw.grR], by simp [Sw.grR], rfl, rfl, ext_⟩
    · have hb : ((m : Int) == k) = false := by simp; omega
      go_enter Try.func148, Try.ntmps148
      go_wp2_with fail
      refine bodyPost_ret (v := .tuple #[.agg #[.int .i64 0, .int .i64 0], .bool false]) (by simp [results, Try.results148, go_sem, *]) rfl ?_
      exact ⟨0, 0, by simp [Sw.grR, hmk'], by simp [Sw.grR, hmk'], rfl, rfl, ext_⟩
  | succ N ih =>
    have hl := Lib.hid hxs.1
    have hcap := hxs.2.le
    by_cases h0 : n = 0
    · subst h0
      have hx : xs = [] := List.eq_nil_of_length_eq_zero (by have := hl.out; omega)
      subst hx
      exact ih _ c 0 m k kn [] w (by omega) hxs (by omega) hall hm hmk hk40
    · obtain ⟨p, rfl⟩ : ∃ p, n = p + 1 := ⟨n - 1, by omega⟩
      obtain ⟨g, off, y, rfl, hg0, hg, hd, hy, hc⟩ := at_I hxs (show p < p + 1 by omega)
      have hrev := rev_snoc (by have := hl.out; omega) hy
      have hyok : Sw.mixOk y = true := List.all_eq_true.1 hall y (List.mem_of_getElem? hy)
      rw [hrev]
      have Hy := Lib.hid hy
      clear hd hy hrev
      have w1 : IntKind.i64.wrap ((p : Int) + 1 - 1) = p := by rw [IntWalk.i64_in _ (by omega)]; omega
      have tp : (p : Int) < (p : Int) + 1 := by omega
      by_cases hmk' : m = k
      · subst hmk'
        cases kn with
        | true =>
          have hb1 : decide ((p : Int) < 0) = false := by simp
          go_enter Try.func148, Try.ntmps148
          go_wp2_with fail
          refine bodyPost_ret (v := .tuple #[.agg #[.int .i64 old, .int .i64 old], .bool false]) (by simp [results, Try.results148, go_sem, *]) rfl ?_
          exact ⟨old, old, by simp [Sw.grR], by simp [Sw.grR], hold, hold, ext_⟩
        | false =>
          have hb1 : decide ((p : Int) < 0) = false := by simp
          obtain ⟨g', off', z, hA', hg0', hg', _, hz', hc'⟩ := at_I hxs (show 0 < p + 1 by omega)
          cases hA'
          simp only [Nat.add_zero] at hc'
          have hzok : Sw.mixOk z = true := List.all_eq_true.1 hall z (List.mem_of_getElem? hz')
          have Hz := Lib.hid hz'; clear hz'
          have t0 : (0 : Int) < (p : Int) + 1 := by omega
          go_enter Try.func148, Try.ntmps148
          go_wp2_with fail
          (refine wp_name ?_; intro W0 hb0; have hst := xr hb0; (try simp only [zA, zC, zD, zN] at hst); obtain ⟨hc0, hf0, hz0⟩ := hst; have hLb : Lb W0 (w.heap.size) 2 := Lb.ex (by exact lbc_) hb0; go_region_held3 (fun w' => HeldB (w.heap.size) 2 W0 w') ((first | with_reducible assumption | with_reducible exact HeldB.start hLb | with_reducible exact HeldB.of (by assumption) (by assumption) | ((repeat (first | with_reducible refine HeldB.set ?_ (by first | exact Or.inl rfl | exact Or.inr (by simp only [zA, zC, zD, zN]; omega) | exact Or.inr (by omega)) | with_reducible refine HeldB.alloc ?_ _ | with_reducible refine HeldB.drew ?_)); (first | with_reducible assumption | with_reducible exact HeldB.refl hLb | with_reducible exact HeldB.of (by assumption) (by assumption) | with_reducible exact HeldB.ex (by assumption) (by assumption))))) (fail); all_goals (rename HeldB (w.heap.size) 2 W0 _ => hHx; have hb := HeldB.ch hHx; have hst := xc hb; (try simp only [zA, zC, zD, zN] at hst); obtain ⟨hc, hf, hz⟩ := hst; have hLb3 := HeldB.lb hHx; (repeat (first | with_reducible replace hLb3 := Lb.unset hLb3 | with_reducible replace hLb3 := Lb.undrew hLb3)); obtain ⟨hcb, hfb⟩ := Lb.rules hLb3; clear hHx))
          go_wp2_with fail
          refine bodyPost_ret (v := .tuple #[.agg #[.int .i64 z, .int .i64 z], .bool ((p : Int) == 0)]) (by simp [results, Try.results148, go_sem, *]) rfl ?_
          have e : Sw.grR m m old (y :: (xs.take p).reverse) false = if p = 0 then some (y, y) else none := by
            rw [Sw.grR, if_pos rfl]
            simp only [Bool.false_eq_true, if_false, List.reverse_eq_nil_iff, List.take_eq_nil_iff]
            by_cases hp : p = 0
            · simp [hp]
            · have : xs ≠ [] := by rintro rfl; have := hl.out; simp at this
              simp [hp, this]
          rw [e]
          by_cases hp : p = 0
          · subst hp
            have : z = y := by have h1 := Hy.out; have h2 := Hz.out; rw [h1] at h2; exact (Option.some.inj h2).symm
            subst this
            exact ⟨z, z, by simp, by simp, hzok, hzok, ext_⟩
          · exact ⟨z, z, by simp [hp], by simp [hp], hzok, hzok, ext_⟩
      · have h2 : 2 ≤ k := by omega
        have hs1 := Sw.split_lt h2
        have hs0 := Sw.split_pos k
        have hb : ((m : Int) == k) = false := by simp; omega
        have hb1 : decide ((p : Int) < 0) = false := by simp
        by_cases hms : m ≤ Sw.split k
        · go_enter Try.func148, Try.ntmps148
          go_wp2_with (first | (go_at_call 181; apply Calls.mono; apply iSplit_c; (first | assumption | omega); (first | assumption | omega); rintro E w' ⟨rfl, rfl⟩) | (go_at_call 148; apply Calls.mono; apply ih; omega; (apply Rs.at0; apply RI_take hxs; omega; (exact kf_)); omega; exact List.all_take hall; omega; omega; omega; rintro E w1 ⟨a, b, rfl, hr, ha, hb', hb⟩; have hst := xr hb; (try simp only [zA, zC, zD, zN] at hst); obtain ⟨hc, hf, hz⟩ := hst))
          (refine wp_name ?_; intro W0 hb0; have hst := xr hb0; (try simp only [zA, zC, zD, zN] at hst); obtain ⟨hc0, hf0, hz0⟩ := hst; have hLb : Lb W0 (w.heap.size) 2 := Lb.ex (by exact lbc_) hb0; go_region_held3 (fun w' => HeldB (w.heap.size) 2 W0 w') ((first | with_reducible assumption | with_reducible exact HeldB.start hLb | with_reducible exact HeldB.of (by assumption) (by assumption) | ((repeat (first | with_reducible refine HeldB.set ?_ (by first | exact Or.inl rfl | exact Or.inr (by simp only [zA, zC, zD, zN]; omega) | exact Or.inr (by omega)) | with_reducible refine HeldB.alloc ?_ _ | with_reducible refine HeldB.drew ?_)); (first | with_reducible assumption | with_reducible exact HeldB.refl hLb | with_reducible exact HeldB.of (by assumption) (by assumption) | with_reducible exact HeldB.ex (by assumption) (by assumption))))) ((go_at_call 182; apply Calls.mono; apply pair_c; (first | assumption | omega); (first | assumption | omega); rintro E w' ⟨rfl, rfl⟩)); all_goals (rename HeldB (w.heap.size) 2 W0 _ => hHx; have hb := HeldB.ch hHx; have hst := xc hb; (try simp only [zA, zC, zD, zN] at hst); obtain ⟨hc, hf, hz⟩ := hst; have hLb3 := HeldB.lb hHx; (repeat (first | with_reducible replace hLb3 := Lb.unset hLb3 | with_reducible replace hLb3 := Lb.undrew hLb3)); obtain ⟨hcb, hfb⟩ := Lb.rules hLb3; clear hHx))
          go_wp2_with fail
          refine bodyPost_ret (v := .tuple #[.agg #[.int .i64 a, .int .i64 (Sw.pair b y)], .bool (Sw.grR m (Sw.split k) old (xs.take p).reverse kn).isSome]) (by simp [results, Try.results148, go_sem, *]) rfl ?_
          refine ⟨a, Sw.pair b y, ?_, ?_, ha, pair_ok _ _, ext_⟩
          · rw [Sw.grR, if_neg hmk', if_pos hms, Option.isSome_map]
          · intro r hr'
            rw [Sw.grR, if_neg hmk', if_pos hms, Option.map_eq_some_iff] at hr'
            obtain ⟨q, hq, rfl⟩ := hr'
            rw [hr q hq]
        · have y0 : IntKind.i64.wrap ((m : Int) - ↑(Sw.split k)) = ((m - Sw.split k : Nat) : Int) := by rw [IntWalk.i64_in _ (by omega)]; omega
          have y1 : IntKind.i64.wrap ((k : Int) - ↑(Sw.split k)) = ((k - Sw.split k : Nat) : Int) := by rw [IntWalk.i64_in _ (by omega)]; omega
          go_enter Try.func148, Try.ntmps148
          go_wp2_with (first | (go_at_call 181; apply Calls.mono; apply iSplit_c; (first | assumption | omega); (first | assumption | omega); rintro E w' ⟨rfl, rfl⟩) | (go_at_call 148; apply Calls.mono; apply ih; omega; (apply Rs.at0; apply RI_take hxs; omega; (exact kf_)); omega; exact List.all_take hall; omega; omega; omega; rintro E w1 ⟨a, b, rfl, hr, ha, hb', hb⟩; have hst := xr hb; (try simp only [zA, zC, zD, zN] at hst); obtain ⟨hc, hf, hz⟩ := hst))
          (refine wp_name ?_; intro W0 hb0; have hst := xr hb0; (try simp only [zA, zC, zD, zN] at hst); obtain ⟨hc0, hf0, hz0⟩ := hst; have hLb : Lb W0 (w.heap.size) 2 := Lb.ex (by exact lbc_) hb0; go_region_held3 (fun w' => HeldB (w.heap.size) 2 W0 w') ((first | with_reducible assumption | with_reducible exact HeldB.start hLb | with_reducible exact HeldB.of (by assumption) (by assumption) | ((repeat (first | with_reducible refine HeldB.set ?_ (by first | exact Or.inl rfl | exact Or.inr (by simp only [zA, zC, zD, zN]; omega) | exact Or.inr (by omega)) | with_reducible refine HeldB.alloc ?_ _ | with_reducible refine HeldB.drew ?_)); (first | with_reducible assumption | with_reducible exact HeldB.refl hLb | with_reducible exact HeldB.of (by assumption) (by assumption) | with_reducible exact HeldB.ex (by assumption) (by assumption))))) ((go_at_call 182; apply Calls.mono; apply pair_c; (first | assumption | omega); (first | assumption | omega); rintro E w' ⟨rfl, rfl⟩)); all_goals (rename HeldB (w.heap.size) 2 W0 _ => hHx; have hb := HeldB.ch hHx; have hst := xc hb; (try simp only [zA, zC, zD, zN] at hst); obtain ⟨hc, hf, hz⟩ := hst; have hLb3 := HeldB.lb hHx; (repeat (first | with_reducible replace hLb3 := Lb.unset hLb3 | with_reducible replace hLb3 := Lb.undrew hLb3)); obtain ⟨hcb, hfb⟩ := Lb.rules hLb3; clear hHx))
          go_wp2_with fail
          refine bodyPost_ret (v := .tuple #[.agg #[.int .i64 (Sw.pair y a), .int .i64 (Sw.pair y b)], .bool (Sw.grR (m - Sw.split k) (k - Sw.split k) old (xs.take p).reverse false).isSome]) (by simp [results, Try.results148, go_sem, *]) rfl ?_
          refine ⟨Sw.pair y a, Sw.pair y b, ?_, ?_, pair_ok _ _, pair_ok _ _, ext_⟩
          · rw [Sw.grR, if_neg hmk', if_neg hms, Option.isSome_map]
          · intro r hr'
            rw [Sw.grR, if_neg hmk', if_neg hms, Option.map_eq_some_iff] at hr'
            obtain ⟨q, hq, rfl⟩ := hr'
            rw [hr q hq]
end Go.Proofs.Ytgceeggfdomdjaa

namespace Go.Proofs.Ytgceeggfdomdjaa
set_option maxRecDepth 100000
set_option linter.unusedSimpArgs false
set_option linter.unusedVariables false
open Go.RowKit Go
set_option maxHeartbeats 400000

theorem iConCheck_c (m old nn r : Int) (A : Option Addr) (c n : Nat) (xs : List Int) (w : World) (hxs : RI w 0 A c n xs) : Calls Try.prog 80 #[.int .i64 m, .int .i64 old, .int .i64 nn, .int .i64 r, .slice A n c] w fun E w' => E = .returned (.bool (Sw.conCheck m old nn r xs)) ∧ Ex w w' := by
  have hl := Lib.hid hxs.1
  by_cases hg : (Sw.inR nn 1 40 && Sw.inR m 1 nn && Sw.mixOk old && Sw.mixOk r && Sw.treOk xs) = true
  · have hg' := hg
    simp only [Bool.and_eq_true] at hg'
    obtain ⟨⟨⟨⟨g1, g2⟩, g3⟩, g4⟩, g5⟩ := hg'
    have b1 : 1 ≤ nn ∧ nn ≤ 40 := by simpa [Sw.inR] using g1
    have b2 : 1 ≤ m ∧ m ≤ nn := by simpa [Sw.inR] using g2
    have h40 : n ≤ 40 := by have := hl.out; simp [Sw.treOk] at g5; omega
    have hall : xs.all Sw.mixOk = true := by simp only [Sw.treOk, Bool.and_eq_true] at g5; exact g5.2
    obtain ⟨k, rfl⟩ := Int.eq_ofNat_of_zero_le (show 0 ≤ nn by omega)
    obtain ⟨j, rfl⟩ := Int.eq_ofNat_of_zero_le (show 0 ≤ m by omega)
    have e : Sw.conCheck j old k r xs = (Sw.grR j k old xs.reverse true == some (old, r)) := by
      rw [Sw.conCheck, hg]; rfl
    have He := Lib.hid e
    clear e hg
    go_enter Try.func80, Try.ntmps80
    go_wp2_with (first | (go_at_call 96; refine (in_c _ _ _ _).mono ?_; rintro E w' ⟨rfl, rfl⟩) | (go_at_call 79; refine (iMixOk_c _ _).mono ?_; rintro E w' ⟨rfl, rfl⟩) | (go_at_call 97; apply Calls.mono; apply iTreOk_c; ((first | (apply Rs.at0; assumption) | (apply Ow.rs0; assumption)); exact kf_); rintro E w' ⟨rfl, rfl⟩) | (go_at_call 148; apply Calls.mono; apply (iGrown_c 40); omega; ((first | (apply Rs.at0; assumption) | (apply Ow.rs0; assumption)); exact kf_); omega; exact hall; exact g3; omega; omega; omega; rintro E w1 ⟨a, b, rfl, hr, ha, hb', hb⟩; have Hr := Lib.hid hr; clear hr; cases hs : Sw.grR j k old xs.reverse true))
    all_goals (go_ret; refine ⟨ret_b ?_, ext_⟩; rw [He.out, hs])
    · rfl
    all_goals
      obtain rfl := Hr.out _ hs
      rw [Bool.eq_iff_iff]
      simp [*]
  · have hg' : (Sw.inR nn 1 40 && Sw.inR m 1 nn && Sw.mixOk old && Sw.mixOk r && Sw.treOk xs) = false := by simpa using hg
    have e : Sw.conCheck m old nn r xs = false := by rw [Sw.conCheck, hg']; rfl
    rw [e]
    have Hg := Lib.hid hg'
    clear e hg hg'
    cases g1 : Sw.inR nn 1 40
    case false => go_enter Try.func80, Try.ntmps80; go_wp2_with (first | (go_at_call 96; refine (in_c _ _ _ _).mono ?_; rintro E w' ⟨rfl, rfl⟩)); go_ret; exact ⟨rfl, ext_⟩
    cases g2 : Sw.inR m 1 nn
    case false => go_enter Try.func80, Try.ntmps80; go_wp2_with (first | (go_at_call 96; refine (in_c _ _ _ _).mono ?_; rintro E w' ⟨rfl, rfl⟩)); go_ret; exact ⟨rfl, ext_⟩
    cases g3 : Sw.mixOk old
    case false => go_enter Try.func80, Try.ntmps80; go_wp2_with (first | (go_at_call 96; refine (in_c _ _ _ _).mono ?_; rintro E w' ⟨rfl, rfl⟩) | (go_at_call 79; refine (iMixOk_c _ _).mono ?_; rintro E w' ⟨rfl, rfl⟩)); go_ret; exact ⟨rfl, ext_⟩
    cases g4 : Sw.mixOk r
    case false => go_enter Try.func80, Try.ntmps80; go_wp2_with (first | (go_at_call 96; refine (in_c _ _ _ _).mono ?_; rintro E w' ⟨rfl, rfl⟩) | (go_at_call 79; refine (iMixOk_c _ _).mono ?_; rintro E w' ⟨rfl, rfl⟩)); go_ret; exact ⟨rfl, ext_⟩
    cases g5 : Sw.treOk xs
    case false => go_enter Try.func80, Try.ntmps80; go_wp2_with (first | (go_at_call 96; refine (in_c _ _ _ _).mono ?_; rintro E w' ⟨rfl, rfl⟩) | (go_at_call 79; refine (iMixOk_c _ _).mono ?_; rintro E w' ⟨rfl, rfl⟩) | (go_at_call 97; apply Calls.mono; apply iTreOk_c; ((first | (apply Rs.at0; assumption) | (apply Ow.rs0; assumption)); exact kf_); rintro E w' ⟨rfl, rfl⟩)); go_ret; exact ⟨rfl, ext_⟩
    have := Hg.out
    rw [g1, g2, g3, g4, g5] at this
    cases this

theorem iCloneInts_c (A : Option Addr) (c n : Nat) (xs : List Int) (w : World) (hxs : RI w 0 A c n xs) (hn : n ≤ 4194304) : Calls Try.prog 86 #[.slice A n c] w fun E w' => ∃ A' c', E = .returned (.slice A' n c') ∧ OwI w' w.heap.size A' c' n xs ∧ Ex w w' := by
  go_enter Try.func86, Try.ntmps86
  go_wp2_with (at_builtin; apply wpList_app (lo := w.heap.size) el_I one_I rfl rfl rfl rfl; (first | assumption | exact Ow.nil _ _ | (apply Ow.keep; assumption; exact kf_) | (refine Ow.new [] (by (first | rfl | (simp only [zA, zC, zD, zN]; done) | omega)) rfl rfl (fun _ => rfl) (by exact sz_) (by omega))); (first | ((first | (apply Rs.at0; assumption) | (apply Ow.rs0; assumption)); exact kf_)); omega; exact sz_; intro A1 c1 w2 ho1 hch1 hat1 hex1 hlow1; have hb := hex1 (fun _ => False) w (by exact ext_) (by exact sz_); have hz := hch1.size; (try simp only [zA, zC, zD, zN] at hz); obtain ⟨hc, hf⟩ := low_rules hlow1; clear hlow1 hex1)
  go_ret
  rw [Nat.zero_add, List.nil_append] at ho1
  exact ⟨A1, c1, rfl, ho1, ext_⟩
end Go.Proofs.Ytgceeggfdomdjaa

namespace Go.Proofs.Ytgceeggfdomdjaa
set_option maxRecDepth 100000
set_option linter.unusedSimpArgs false
set_option linter.unusedVariables false
open Go.RowKit Go
set_option maxHeartbeats 400000

theorem iHedFollows_c (o t : Sw.Head) (A : Option Addr) (c n : Nat) (xs : List Int) (w : World) (hxs : RI w 0 A c n xs) : Calls Try.prog 22 #[.agg #[.int .i64 o.size, .int .i64 o.log, .int .i64 o.own], .agg #[.int .i64 t.size, .int .i64 t.log, .int .i64 t.own], .slice A n c] w fun E w' => E = .returned (.bool (Sw.hedFollows o t xs)) ∧ Ex w w' := by
  have hl := Lib.hid hxs.1
  cases g1 : Sw.hedOk o
  case false =>
    go_enter Try.func22, Try.ntmps22; go_wp2_with (first | (go_at_call 76; refine (iHedOk_c _ _).mono ?_; rintro E w1 ⟨rfl, hb⟩; have hst := xr hb; (try simp only [zA, zC, zD, zN] at hst); obtain ⟨hc, hf, hz⟩ := hst)); go_ret; exact ⟨ret_b (by simp [Sw.hedFollows, g1]), ext_⟩
  cases g2 : Sw.hedOk t
  case false =>
    go_enter Try.func22, Try.ntmps22; go_wp2_with (first | (go_at_call 76; refine (iHedOk_c _ _).mono ?_; rintro E w1 ⟨rfl, hb⟩; have hst := xr hb; (try simp only [zA, zC, zD, zN] at hst); obtain ⟨hc, hf, hz⟩ := hst)); go_ret; exact ⟨ret_b (by simp [Sw.hedFollows, g2]), ext_⟩
  by_cases g3 : o.size ≤ t.size
  case neg =>
    have e : Sw.hedFollows o t xs = false := by simp [Sw.hedFollows, g3]
    rw [e]; clear e
    have g3' : t.size < o.size := by omega
    go_enter Try.func22, Try.ntmps22; go_wp2_with (first | (go_at_call 76; refine (iHedOk_c _ _).mono ?_; rintro E w1 ⟨rfl, hb⟩; have hst := xr hb; (try simp only [zA, zC, zD, zN] at hst); obtain ⟨hc, hf, hz⟩ := hst)); go_ret; exact ⟨rfl, ext_⟩
  have n1 := g1; have n2 := g2
  simp only [Sw.hedOk, Sw.inR, Bool.and_eq_true, decide_eq_true_eq] at n1 n2
  obtain ⟨⟨⟨o0, _⟩, _⟩, _⟩ := n1
  obtain ⟨⟨⟨t0, _⟩, _⟩, _⟩ := n2
  have g3' : decide (t.size < o.size) = false := by simp; omega
  by_cases g4 : o.size = 0
  · have z0 : (o.size == 0) = true := by simp [g4]
    have hle : decide (o.size ≤ t.size) = true := by simp [g3]
    have e : Sw.hedFollows o t xs = ((decide (o.size ≠ t.size) || decide (o = t)) && xs.isEmpty) := by rw [Sw.hedFollows, g1, g2, hle, if_pos g4]; simp
    have He := Lib.hid e
    have G4 := Lib.hid g4
    clear e g4
    by_cases hn : n = 0
    · have hx : xs = [] := List.eq_nil_of_length_eq_zero (by have := hl.out; omega)
      subst hx
      subst hn
      clear hl
      go_enter Try.func22, Try.ntmps22
      go_wp2_with (first | (go_at_call 76; refine (iHedOk_c _ _).mono ?_; rintro E w1 ⟨rfl, hb⟩; have hst := xr hb; (try simp only [zA, zC, zD, zN] at hst); obtain ⟨hc, hf, hz⟩ := hst))
      all_goals (go_ret; refine ⟨ret_b ?_, ext_⟩; rw [He.out]; have g4 := G4.out; clear He G4; go_tidy; simp only [head_ext])
      all_goals (first | (simp [*]; done) | (simp [*]; omega) | (simp_all; done) | (simp_all; omega))
    · have hb : ((n : Int) == 0) = false := by simp; omega
      have hx : xs.isEmpty = false := by
        cases xs with
        | nil => exact absurd hl.out hn
        | cons _ _ => rfl
      go_enter Try.func22, Try.ntmps22
      go_wp2_with (first | (go_at_call 76; refine (iHedOk_c _ _).mono ?_; rintro E w1 ⟨rfl, hb⟩; have hst := xr hb; (try simp only [zA, zC, zD, zN] at hst); obtain ⟨hc, hf, hz⟩ := hst))
      all_goals (go_ret; exact ⟨ret_b (by rw [He.out, hx]; simp), ext_⟩)
  · have z0 : (o.size == 0) = false := by simp [g4]
    have hle : decide (o.size ≤ t.size) = true := by simp [g3]
    have e : Sw.hedFollows o t xs = ((decide (o.size ≠ t.size) || decide (o = t)) && Sw.conCheck o.size o.log t.size t.log xs) := by rw [Sw.hedFollows, g1, g2, hle, if_neg g4]; simp
    have He := Lib.hid e
    clear e g4
    go_enter Try.func22, Try.ntmps22
    go_wp2_with (first | (go_at_call 76; refine (iHedOk_c _ _).mono ?_; rintro E w1 ⟨rfl, hb⟩; have hst := xr hb; (try simp only [zA, zC, zD, zN] at hst); obtain ⟨hc, hf, hz⟩ := hst) | (go_at_call 80; apply Calls.mono; apply iConCheck_c; ((first | (apply Rs.at0; assumption) | (apply Ow.rs0; assumption)); exact kf_); rintro E w1 ⟨rfl, hb⟩; have hst := xr hb; (try simp only [zA, zC, zD, zN] at hst); obtain ⟨hc, hf, hz⟩ := hst))
    all_goals (go_ret; refine ⟨ret_b ?_, ext_⟩; rw [He.out]; clear He; go_tidy; simp only [head_ext])
    all_goals (first | (simp [*]; done) | (simp [*]; omega) | (simp_all; done) | (simp_all; omega))
end Go.Proofs.Ytgceeggfdomdjaa

namespace Go.Proofs.Ytgceeggfdomdjaa
set_option maxRecDepth 100000
set_option linter.unusedSimpArgs false
set_option linter.unusedVariables false
open Go.RowKit Go
set_option maxHeartbeats 400000

theorem iGatOk_c (t : Sw.Head) (A : Option Addr) (c n : Nat) (xs : List Int) (w : World) (hxs : RI w 0 A c n xs) : Calls Try.prog 19 #[.agg #[.int .i64 t.size, .int .i64 t.log, .int .i64 t.own, .slice A n c]] w fun E w' => E = .returned (.bool (Sw.gatOk ⟨t, xs⟩)) ∧ Ex w w' := by
  have hl := Lib.hid hxs.1
  have hcap := hxs.2.le
  have hbig : n ≤ 9223372036854775807 := by have := hxs.2.cap; unfold maxLen at this; omega
  have e : Sw.gatOk ⟨t, xs⟩ = (Sw.hedOk t && Sw.risesFrom (-1) xs) := rfl
  rw [e]; clear e
  go_enter Try.func19, Try.ntmps19
  go_wp2_with fail
  go_loopw [8] (fun i wr => ∃ (k : Nat) (p : Int), k ≤ n ∧ i = .int .i64 k ∧ Ex (w.alloc (.cells #[.int .i64 t.size, .int .i64 t.log, .int .i64 t.own, .slice A n c] 27)) wr ∧ (k = 0 ∧ p = -1 ∨ ∃ j, k = j + 1 ∧ xs[j]? = some p ∧ 0 ≤ p) ∧ Sw.risesFrom (-1) xs = Sw.risesFrom p (xs.drop k)) (fun i _ => n - (intOf i).toNat)
  case atStart => exact ⟨0, -1, Nat.zero_le _, rfl, Ch.refl _ _, .inl ⟨rfl, rfl⟩, rfl⟩
  case round =>
    obtain ⟨k, p, hk, rfl, hb2, hp, hrel⟩ := hrel
    have hst := Ex.rules hb2 rfl
    simp only [World.size_alloc] at hst
    obtain ⟨hc2, hf2, hz2⟩ := hst
    by_cases hlt : k < n
    · obtain ⟨g, off, y, rfl, hg0, hg, hd, hy, hcy⟩ := at_I hxs hlt
      rw [hd, Sw.risesFrom] at hrel
      have Hrel := Lib.hid hrel
      have Hy := Lib.hid hy
      clear hd hy hrel
      cases hin : Sw.inR y 0 7
      case false =>
        go_wp2_with (first | (go_at_call 75; refine (isTicket_c _ _).mono ?_; rintro E w' ⟨rfl, rfl⟩))
        go_ret
        exact ⟨ret_b (by rw [Hrel.out, hin]; simp), ext_⟩
      have hy7 : 0 ≤ y ∧ y ≤ 7 := by simpa [Sw.inR] using hin
      obtain ⟨y0, y7⟩ := hy7
      rcases hp with ⟨rfl, rfl⟩ | ⟨j, rfl, hj, hj0⟩
      · simp only [Nat.add_zero] at hcy
        go_wp2_with (first | (go_at_call 75; refine (isTicket_c _ _).mono ?_; rintro E w' ⟨rfl, rfl⟩))
        go_roundw
        case rel => exact ⟨0 + 1, y, by omega, by go_num, ext_, .inr ⟨0, rfl, Hy.out, y0⟩, by rw [Hrel.out, hin]; simp; omega⟩
        case measure => simp [intOf]; omega
      · obtain ⟨g', off', p', hA', _, _, _, hp', hcp⟩ := at_I hxs (show j < n by omega)
        cases hA'
        obtain rfl : p' = p := by rw [hj] at hp'; exact (Option.some.inj hp').symm
        clear hj hp'
        have t1 : ((j : Int) + 1).toNat = j + 1 := by omega
        have t2 : IntKind.i64.wrap ((j : Int) + 1 - 1) = j := by rw [IntWalk.i64_in _ (by omega)]; omega
        have t3 : (0 : Int) ≤ (j : Int) + 1 := by omega
        have t4 : (j : Int) + 1 < (n : Int) := by omega
        have t5 : (j : Int) < (n : Int) := by omega
        have t6 : (0 : Int) < (j : Int) + 1 := by omega
        by_cases hpy : p' < y
        · have hpy' : decide (y ≤ p') = false := by simp; omega
          go_wp2_with (first | (go_at_call 75; refine (isTicket_c _ _).mono ?_; rintro E w' ⟨rfl, rfl⟩))
          go_roundw
          case rel => exact ⟨j + 1 + 1, y, by omega, by go_num, ext_, .inr ⟨j + 1, rfl, Hy.out, y0⟩, by rw [Hrel.out, hin]; simp [hpy]⟩
          case measure => simp [intOf]; omega
        · have hpy' : y ≤ p' := by omega
          go_wp2_with (first | (go_at_call 75; refine (isTicket_c _ _).mono ?_; rintro E w' ⟨rfl, rfl⟩))
          go_ret
          have hlt' : decide (p' < y) = false := by rw [decide_eq_false_iff_not]; omega
          exact ⟨ret_b (by rw [Hrel.out, hin, hlt']; simp), ext_⟩
    · have Hrel := Lib.hid hrel; clear hrel hp
      go_wp2_with (first | (go_at_call 76; refine (iHedOk_c _ _).mono ?_; rintro E w1 ⟨rfl, hb⟩; have hst := xr hb; (try simp only [zA, zC, zD, zN] at hst); obtain ⟨hc, hf, hz⟩ := hst))
      go_ret
      refine ⟨ret_b ?_, ext_⟩
      have hh := Hrel.out
      rw [List.drop_of_length_le (by have := hl.out; omega)] at hh
      rw [hh]; simp [Sw.risesFrom]

theorem iClone_c (t : Sw.Head) (A : Option Addr) (c n : Nat) (xs : List Int) (w : World) (hxs : RI w 0 A c n xs) (hn : n ≤ 4194304) : Calls Try.prog 72 #[.agg #[.int .i64 t.size, .int .i64 t.log, .int .i64 t.own, .slice A n c]] w fun E w' => ∃ A' c', E = .returned (.agg #[.int .i64 t.size, .int .i64 t.log, .int .i64 t.own, .slice A' n c']) ∧ OwI w' w.heap.size A' c' n xs ∧ Ex w w' := by
  go_enter Try.func72, Try.ntmps72
  go_wp2_with fail
  (refine wp_name ?_; intro W0 hb0; have hst := xr hb0; (try simp only [zA, zC, zD, zN] at hst); obtain ⟨hc0, hf0, hz0⟩ := hst; have hLb : Lb W0 (w.heap.size + 1) 4 := Lb.ex (by exact lbc_) hb0; go_region_held3 (fun w' => HeldB (w.heap.size + 1) 4 W0 w') ((first | with_reducible assumption | with_reducible exact HeldB.start hLb | with_reducible exact HeldB.of (by assumption) (by assumption) | ((repeat (first | with_reducible refine HeldB.set ?_ (by first | exact Or.inl rfl | exact Or.inr (by simp only [zA, zC, zD, zN]; omega) | exact Or.inr (by omega)) | with_reducible refine HeldB.alloc ?_ _ | with_reducible refine HeldB.drew ?_)); (first | with_reducible assumption | with_reducible exact HeldB.refl hLb | with_reducible exact HeldB.of (by assumption) (by assumption) | with_reducible exact HeldB.ex (by assumption) (by assumption))))) ((go_at_call 86; apply Calls.mono; apply iCloneInts_c; ((first | (apply Rs.at0; assumption) | (apply Ow.rs0; assumption)); exact kf_); (first | assumption | omega); rintro E w1 ⟨A', c', rfl, ho1, hb⟩; have hst := xr hb; (try simp only [zA, zC, zD, zN] at hst); obtain ⟨hc, hf, hz⟩ := hst)); all_goals (rename HeldB (w.heap.size + 1) 4 W0 _ => hHx; have hb := HeldB.ch hHx; have hst := xc hb; (try simp only [zA, zC, zD, zN] at hst); obtain ⟨hc, hf, hz⟩ := hst; have hLb3 := HeldB.lb hHx; (repeat (first | with_reducible replace hLb3 := Lb.unset hLb3 | with_reducible replace hLb3 := Lb.undrew hLb3)); obtain ⟨hcb, hfb⟩ := Lb.rules hLb3; clear hHx))
  go_wp2
  refine bodyPost_ret (v := .agg #[.int .i64 t.size, .int .i64 t.log, .int .i64 t.own, .slice A' n c']) (by simp [results, Try.results72, go_sem, *]) rfl ?_
  exact ⟨A', c', rfl, (ho1.keep (by (exact kf_))).less (by exact sz_), ext_⟩

theorem iGatSync_c (t u : Sw.Head) (A : Option Addr) (c n : Nat) (xs : List Int) (B : Option Addr) (d m : Nat) (ps : List Int) (w : World) (hxs : RI w 0 A c n xs) (hps : RI w 0 B d m ps) : Calls Try.prog 16 #[.agg #[.int .i64 t.size, .int .i64 t.log, .int .i64 t.own, .slice A n c], .agg #[.int .i64 u.size, .int .i64 u.log, .int .i64 u.own], .slice B m d] w fun E w' => ∃ A' c' n', E = .returned (.tuple #[.agg #[.int .i64 (Sw.gatSync ⟨t, xs⟩ u ps).1.head.size, .int .i64 (Sw.gatSync ⟨t, xs⟩ u ps).1.head.log, .int .i64 (Sw.gatSync ⟨t, xs⟩ u ps).1.head.own, .slice A' n' c'], .bool (Sw.gatSync ⟨t, xs⟩ u ps).2]) ∧ OwI w' w.heap.size A' c' n' (Sw.gatSync ⟨t, xs⟩ u ps).1.done ∧ Ex w w' := by
  have hl := Lib.hid hxs.1
  cases g1 : Sw.gatOk ⟨t, xs⟩
  case false =>
    have e : Sw.gatSync ⟨t, xs⟩ u ps = (Sw.gateZ, false) := by simp [Sw.gatSync, g1]
    have He := Lib.hid e; clear e
    go_enter Try.func16, Try.ntmps16
    go_wp2_with (first | (go_at_call 19; apply Calls.mono; apply iGatOk_c; ((first | (apply Rs.at0; assumption) | (apply Ow.rs0; assumption)); exact kf_); rintro E w1 ⟨rfl, hb⟩; have hst := xr hb; (try simp only [zA, zC, zD, zN] at hst); obtain ⟨hc, hf, hz⟩ := hst))
    refine bodyPost_ret (v := .tuple #[.agg #[.int .i64 0, .int .i64 0, .int .i64 0, .slice none 0 0], .bool false]) (by simp [results, Try.results16, go_sem, *]) rfl ?_
    exact ⟨none, 0, 0, by rw [He.out]; rfl, by rw [He.out]; exact Ow.nil _ _, ext_⟩
  have h8 : n ≤ 8 := by have := gatOk_len g1; have := hl.out; simp at *; omega
  cases g2 : Sw.hedFollows t u ps
  case false =>
    have e : Sw.gatSync ⟨t, xs⟩ u ps = (⟨t, xs⟩, false) := by simp [Sw.gatSync, g1, g2]
    have He := Lib.hid e; clear e
    go_enter Try.func16, Try.ntmps16
    go_wp2_with (first | (go_at_call 19; apply Calls.mono; apply iGatOk_c; ((first | (apply Rs.at0; assumption) | (apply Ow.rs0; assumption)); exact kf_); rintro E w1 ⟨rfl, hb⟩; have hst := xr hb; (try simp only [zA, zC, zD, zN] at hst); obtain ⟨hc, hf, hz⟩ := hst) | (go_at_call 72; apply Calls.mono; apply iClone_c; ((first | (apply Rs.at0; assumption) | (apply Ow.rs0; assumption)); exact kf_); (first | assumption | omega); rintro E w1 ⟨A', c', rfl, hr, hb⟩; have hst := xr hb; (try simp only [zA, zC, zD, zN] at hst); obtain ⟨hc, hf, hz⟩ := hst) | (go_at_call 22; apply Calls.mono; apply iHedFollows_c; ((first | (apply Rs.at0; assumption) | (apply Ow.rs0; assumption)); exact kf_); rintro E w1 ⟨rfl, hb⟩; have hst := xr hb; (try simp only [zA, zC, zD, zN] at hst); obtain ⟨hc, hf, hz⟩ := hst))
    refine bodyPost_ret (v := .tuple #[.agg #[.int .i64 t.size, .int .i64 t.log, .int .i64 t.own, .slice A' n c'], .bool false]) (by simp [results, Try.results16, go_sem, *]) rfl ?_
    exact ⟨A', c', n, by rw [He.out], by rw [He.out]; exact (hr.keep (by (exact kf_))).less (by exact sz_), ext_⟩
  have e : Sw.gatSync ⟨t, xs⟩ u ps = (⟨u, xs⟩, true) := by simp [Sw.gatSync, g1, g2]
  have He := Lib.hid e; clear e
  go_enter Try.func16, Try.ntmps16
  go_wp2_with (first | (go_at_call 19; apply Calls.mono; apply iGatOk_c; ((first | (apply Rs.at0; assumption) | (apply Ow.rs0; assumption)); exact kf_); rintro E w1 ⟨rfl, hb⟩; have hst := xr hb; (try simp only [zA, zC, zD, zN] at hst); obtain ⟨hc, hf, hz⟩ := hst) | (go_at_call 72; apply Calls.mono; apply iClone_c; ((first | (apply Rs.at0; assumption) | (apply Ow.rs0; assumption)); exact kf_); (first | assumption | omega); rintro E w1 ⟨A', c', rfl, hr, hb⟩; have hst := xr hb; (try simp only [zA, zC, zD, zN] at hst); obtain ⟨hc, hf, hz⟩ := hst) | (go_at_call 22; apply Calls.mono; apply iHedFollows_c; ((first | (apply Rs.at0; assumption) | (apply Ow.rs0; assumption)); exact kf_); rintro E w1 ⟨rfl, hb⟩; have hst := xr hb; (try simp only [zA, zC, zD, zN] at hst); obtain ⟨hc, hf, hz⟩ := hst))
  refine bodyPost_ret (v := .tuple #[.agg #[.int .i64 u.size, .int .i64 u.log, .int .i64 u.own, .slice A' n c'], .bool true]) (by simp [results, Try.results16, go_sem, *]) rfl ?_
  exact ⟨A', c', n, by rw [He.out], by rw [He.out]; exact (hr.keep (by (exact kf_))).less (by exact sz_), ext_⟩
end Go.Proofs.Ytgceeggfdomdjaa

namespace Go.Proofs.Ytgceeggfdomdjaa
set_option maxRecDepth 100000
set_option linter.unusedSimpArgs false
set_option linter.unusedVariables false
open Go.RowKit Go
set_option maxHeartbeats 400000

theorem sGatSync_c (t u : Sw.Head) (A : Option Addr) (c n : Nat) (xs : List Int) (B : Option Addr) (d m : Nat) (ps : List Int) (w : World) (hxs : RI w 0 A c n xs) (hps : RI w 0 B d m ps) : Calls Try.prog 17 #[.agg #[.int .i64 t.size, .int .i64 t.log, .int .i64 t.own, .slice A n c], .agg #[.int .i64 u.size, .int .i64 u.log, .int .i64 u.own], .slice B m d] w fun E w' => ∃ A' c' n', E = .returned (.tuple #[.agg #[.int .i64 (Sw.gatSync ⟨t, xs⟩ u ps).1.head.size, .int .i64 (Sw.gatSync ⟨t, xs⟩ u ps).1.head.log, .int .i64 (Sw.gatSync ⟨t, xs⟩ u ps).1.head.own, .slice A' n' c'], .bool (Sw.gatSync ⟨t, xs⟩ u ps).2]) ∧ OwI w' w.heap.size A' c' n' (Sw.gatSync ⟨t, xs⟩ u ps).1.done ∧ Ex w w' := by
  have hl := Lib.hid hxs.1
  cases g1 : Sw.gatOk ⟨t, xs⟩
  case false =>
    have e : Sw.gatSync ⟨t, xs⟩ u ps = (Sw.gateZ, false) := by simp [Sw.gatSync, g1]
    have He := Lib.hid e; clear e
    go_enter Try.func17, Try.ntmps17
    go_wp2_with (first | (go_at_call 20; apply Calls.mono; apply sGatOk_c; ((first | (apply Rs.at0; assumption) | (apply Ow.rs0; assumption)); exact kf_); rintro E w1 ⟨rfl, hb⟩; have hst := xr hb; (try simp only [zA, zC, zD, zN] at hst); obtain ⟨hc, hf, hz⟩ := hst))
    refine bodyPost_ret (v := .tuple #[.agg #[.int .i64 0, .int .i64 0, .int .i64 0, .slice none 0 0], .bool false]) (by simp [results, Try.results17, go_sem, *]) rfl ?_
    exact ⟨none, 0, 0, by rw [He.out]; rfl, by rw [He.out]; exact Ow.nil _ _, ext_⟩
  have h8 : n ≤ 8 := by have := gatOk_len g1; have := hl.out; simp at *; omega
  cases g2 : Sw.hedFollows t u ps
  case false =>
    have e : Sw.gatSync ⟨t, xs⟩ u ps = (⟨t, xs⟩, false) := by simp [Sw.gatSync, g1, g2]
    have He := Lib.hid e; clear e
    go_enter Try.func17, Try.ntmps17
    go_wp2_with (first | (go_at_call 20; apply Calls.mono; apply sGatOk_c; ((first | (apply Rs.at0; assumption) | (apply Ow.rs0; assumption)); exact kf_); rintro E w1 ⟨rfl, hb⟩; have hst := xr hb; (try simp only [zA, zC, zD, zN] at hst); obtain ⟨hc, hf, hz⟩ := hst) | (go_at_call 73; apply Calls.mono; apply sCopy_c; ((first | (apply Rs.at0; assumption) | (apply Ow.rs0; assumption)); exact kf_); (first | assumption | omega); rintro E w1 ⟨A', c', rfl, hr, hb⟩; have hst := xr hb; (try simp only [zA, zC, zD, zN] at hst); obtain ⟨hc, hf, hz⟩ := hst) | (go_at_call 74; apply Calls.mono; apply sHedFollows_c; ((first | (apply Rs.at0; assumption) | (apply Ow.rs0; assumption)); exact kf_); rintro E w1 ⟨rfl, hb⟩; have hst := xr hb; (try simp only [zA, zC, zD, zN] at hst); obtain ⟨hc, hf, hz⟩ := hst))
    refine bodyPost_ret (v := .tuple #[.agg #[.int .i64 t.size, .int .i64 t.log, .int .i64 t.own, .slice A' n c'], .bool false]) (by simp [results, Try.results17, go_sem, *]) rfl ?_
    exact ⟨A', c', n, by rw [He.out], by rw [He.out]; exact (hr.keep (by (exact kf_))).less (by exact sz_), ext_⟩
  have e : Sw.gatSync ⟨t, xs⟩ u ps = (⟨u, xs⟩, true) := by simp [Sw.gatSync, g1, g2]
  have He := Lib.hid e; clear e
  go_enter Try.func17, Try.ntmps17
  go_wp2_with (first | (go_at_call 20; apply Calls.mono; apply sGatOk_c; ((first | (apply Rs.at0; assumption) | (apply Ow.rs0; assumption)); exact kf_); rintro E w1 ⟨rfl, hb⟩; have hst := xr hb; (try simp only [zA, zC, zD, zN] at hst); obtain ⟨hc, hf, hz⟩ := hst) | (go_at_call 73; apply Calls.mono; apply sCopy_c; ((first | (apply Rs.at0; assumption) | (apply Ow.rs0; assumption)); exact kf_); (first | assumption | omega); rintro E w1 ⟨A', c', rfl, hr, hb⟩; have hst := xr hb; (try simp only [zA, zC, zD, zN] at hst); obtain ⟨hc, hf, hz⟩ := hst) | (go_at_call 74; apply Calls.mono; apply sHedFollows_c; ((first | (apply Rs.at0; assumption) | (apply Ow.rs0; assumption)); exact kf_); rintro E w1 ⟨rfl, hb⟩; have hst := xr hb; (try simp only [zA, zC, zD, zN] at hst); obtain ⟨hc, hf, hz⟩ := hst))
  refine bodyPost_ret (v := .tuple #[.agg #[.int .i64 u.size, .int .i64 u.log, .int .i64 u.own, .slice A' n c'], .bool true]) (by simp [results, Try.results17, go_sem, *]) rfl ?_
  exact ⟨A', c', n, by rw [He.out], by rw [He.out]; exact (hr.keep (by (exact kf_))).less (by exact sz_), ext_⟩
end Go.Proofs.Ytgceeggfdomdjaa

namespace Go.Proofs.Ytgceeggfdomdjaa.Sw
set_option maxRecDepth 100000
set_option linter.unusedSimpArgs false
set_option linter.unusedVariables false
open Go.RowKit (wrap64)

/-- How a request was done: the market behind it, but its numbers. -/
inductive DoneBy (m : Mkt) (rows : List Row) (r : Req) : Mkt → Prop
  | issue : r.kind = 1 → r.user = 1 → r.who ≠ 1 → (rowAt rows r.ticket).who = 0 → m.log.length < 40 → moveMay m.purses r.who 1 r.price = true →
      DoneBy m rows r { m with purses := turned (turned m.purses r.who (-r.price)) 1 r.price, log := m.log ++ [⟨1, r.ticket, r.who, r.price⟩] }
  | offer : r.kind = 2 → (rowAt rows r.ticket).who = r.user → dealAt m.deals r.ticket = none → (rowAt rows r.ticket).used = false → r.price ≤ entCap (rowAt rows r.ticket).face →
      DoneBy m rows r { m with deals := insertDeal ⟨r.ticket, r.user, r.price, 0, 0⟩ m.deals }
  | drop (k : Nat) (d : Deal) : r.kind = 3 → (rowAt rows r.ticket).who = r.user → dealAt m.deals r.ticket = some k → m.deals[k]? = some d → d.ticket = r.ticket → held d = false →
      DoneBy m rows r { m with deals := m.deals.eraseIdx k }
  | fund (k : Nat) (d : Deal) : r.kind = 4 → dealAt m.deals r.ticket = some k → m.deals[k]? = some d → d.ticket = r.ticket → held d = false → d.seller ≠ r.user → turnMay m.purses r.user (-d.price) = true →
      DoneBy m rows r { m with purses := turned m.purses r.user (-d.price), deals := m.deals.set k { d with buyer := r.user, due := m.clock + 5 } }
  | settle (k : Nat) (d : Deal) : r.kind = 5 → dealAt m.deals r.ticket = some k → m.deals[k]? = some d → d.ticket = r.ticket → held d = true → d.seller = r.user → m.log.length < 40 → turnMay m.purses d.seller d.price = true →
      DoneBy m rows r { m with purses := turned m.purses d.seller d.price, log := m.log ++ [⟨2, r.ticket, d.buyer, d.price⟩], deals := m.deals.eraseIdx k }
  | enter : r.kind = 6 → (rowAt rows r.ticket).who = r.user → (rowAt rows r.ticket).used = false → dealAt m.deals r.ticket = none → m.log.length < 40 →
      DoneBy m rows r { m with log := m.log ++ [⟨3, r.ticket, r.user, 0⟩] }
theorem settle_may {m : Mkt} {rows : List Row} (h : MOk m rows) {k : Nat} {d : Deal} (hd : m.deals[k]? = some d) (hh : held d = true) : turnMay m.purses d.seller d.price = true := by
  have hdo := dealOk_iff.1 (h.deals.get hd)
  refine turnMay_in h.mon hdo.2.1 (by have := hdo.2.2.2.2.1; omega) ?_
  have h4 := h.sum
  have h5 := heldSum_erase hd
  have h6 := (heldSum_bd (h.deals.sub (List.eraseIdx_sublist m.deals k)).1).1
  have : heldIn d = d.price := by simp [heldIn, hh]
  omega
/-- A request that is not done turns nothing; one that is done does what its kind does. -/
theorem effect_done {m : Mkt} {rows : List Row} {r : Req} (h : MOk m rows) (hr : reqOk r = true) : ((effect m r).2 ≠ 1 ∧ (effect m r).1 = m) ∨ ((effect m r).2 = 1 ∧ DoneBy m rows r (effect m r).1) := by
  have hr := reqOk_iff.1 hr
  have hlog := (ownFold_some.1 h.fold).1
  unfold effect
  rw [mktRows_of h.fold]
  by_cases k1 : r.kind = 1
  · rw [if_pos k1]
    unfold issue
    split
    · exact .inl ⟨by simp, rfl⟩
    split
    · exact .inl ⟨by simp, rfl⟩
    split
    · exact .inl ⟨by simp, rfl⟩
    split
    · rename_i h1 h2 h3 h4
      exact .inr ⟨rfl, .issue k1 (by omega) (by omega) (by omega) (by omega) h4⟩
    · exact .inl ⟨by simp, rfl⟩
  rw [if_neg k1]
  by_cases k2 : r.kind = 2
  · rw [if_pos k2]
    unfold offer
    split
    · exact .inl ⟨by simp, rfl⟩
    split
    · exact .inl ⟨by simp, rfl⟩
    split
    · exact .inl ⟨by simp, rfl⟩
    · rename_i h1 h2 h3
      simp only [not_or, Bool.not_eq_true] at h2
      exact .inr ⟨rfl, .offer k2 (by simpa using h1) (none_of h2.1) h2.2 (by omega)⟩
  rw [if_neg k2]
  by_cases k3 : r.kind = 3
  · rw [if_pos k3]
    unfold dropIt
    split
    · exact .inl ⟨by simp, rfl⟩
    rename_i h1
    split
    · exact .inl ⟨by simp, rfl⟩
    rename_i k hk
    obtain ⟨d, hd, ht⟩ := dealAt_some hk
    rw [getD_of hd]
    split
    · exact .inl ⟨by simp, rfl⟩
    · exact .inr ⟨rfl, .drop k d k3 (by simpa using h1) hk hd ht (by simpa using ‹¬ held d = true›)⟩
  rw [if_neg k3]
  by_cases k4 : r.kind = 4
  · rw [if_pos k4]
    unfold fund
    split
    · exact .inl ⟨by simp, rfl⟩
    rename_i k hk
    obtain ⟨d, hd, ht⟩ := dealAt_some hk
    rw [getD_of hd]
    split
    · exact .inl ⟨by simp, rfl⟩
    split
    · exact .inl ⟨by simp, rfl⟩
    split
    · exact .inr ⟨rfl, .fund k d k4 hk hd ht (by simpa using ‹¬ held d = true›) ‹_› ‹_›⟩
    · exact .inl ⟨by simp, rfl⟩
  rw [if_neg k4]
  by_cases k5 : r.kind = 5
  · rw [if_pos k5]
    unfold settle
    split
    · exact .inl ⟨by simp, rfl⟩
    rename_i k hk
    obtain ⟨d, hd, ht⟩ := dealAt_some hk
    rw [getD_of hd]
    split
    · exact .inl ⟨by simp, rfl⟩
    split
    · exact .inl ⟨by simp, rfl⟩
    split
    · exact .inl ⟨by simp, rfl⟩
    · rename_i h1 h2 h3
      have hh : held d = true := by simpa using h1
      have hm := settle_may h hd hh
      refine .inr ⟨rfl, ?_⟩
      rw [show monTurn m.purses d.seller d.price = turned m.purses d.seller d.price from by simp [monTurn, hm]]
      exact .settle k d k5 hk hd ht hh (by simpa using h2) (by omega) hm
  rw [if_neg k5]
  unfold enter
  split
  · exact .inl ⟨by simp, rfl⟩
  split
  · exact .inl ⟨by simp, rfl⟩
  split
  · exact .inl ⟨by simp, rfl⟩
  · rename_i h1 h2 h3
    simp only [not_or, Bool.not_eq_true] at h2
    exact .inr ⟨rfl, .enter (by omega) (by simpa using h1) h2.1 (none_of h2.2) (by omega)⟩

/-! ### numbers -/
theorem lastOf_set {l : List Int} {u v x : Int} (h5 : l.length = 5) (hu : 1 ≤ u ∧ u ≤ 5) (hv : 1 ≤ v) : lastOf (l.set (u - 1).toNat x) v = if v = u then x else lastOf l v := by
  unfold lastOf
  rw [List.getD_eq_getElem?_getD, List.getElem?_set]
  by_cases h : v = u
  · subst h
    rw [if_pos rfl, if_pos (by omega), if_pos rfl]; rfl
  · rw [if_neg (by omega), if_neg h, List.getD_eq_getElem?_getD]
theorem said_of {m : Mkt} {rows : List Row} (h : MOk m rows) {u : Int} (hu : 1 ≤ u ∧ u ≤ 5) : numOk (lastOf m.nums u) (lastOf m.said u) = true := by
  have hn := h.nlen
  have hs := h.slen
  obtain ⟨a, ha⟩ : ∃ a, m.nums[(u - 1).toNat]? = some a := ⟨_, List.getElem?_eq_getElem (by omega)⟩
  obtain ⟨b, hb⟩ : ∃ b, m.said[(u - 1).toNat]? = some b := ⟨_, List.getElem?_eq_getElem (by omega)⟩
  unfold lastOf
  rw [getD_of ha, getD_of hb]
  exact (numsOk_iff (by rw [hn, hs])).1 h.nums _ _ _ ha hb
theorem doIt_ans {m : Mkt} {rows : List Row} {r : Req} (h : MOk m rows) (hr : reqOk r = true) : 1 ≤ (doIt m r).2 ∧ (doIt m r).2 ≤ 7 := by
  have hr' := reqOk_iff.1 hr
  unfold doIt
  split
  · have := numOk_iff.1 (said_of h hr'.1)
    dsimp only
    omega
  split
  · simp
  · have := effect_ans m r
    dsimp only
    omega
/-- The log grows by one entry at most. -/
theorem doIt_log {m : Mkt} {rows : List Row} {r : Req} (h : MOk m rows) (hr : reqOk r = true) : (doIt m r).1.log = m.log ∨ ∃ e, (doIt m r).1.log = m.log ++ [e] := by
  unfold doIt
  split
  · exact .inl rfl
  split
  · exact .inl rfl
  · show (effect m r).1.log = m.log ∨ ∃ e, (effect m r).1.log = m.log ++ [e]
    rcases effect_done h hr with ⟨_, e⟩ | ⟨_, d⟩
    · exact .inl (by rw [e])
    · generalize (effect m r).1 = x at d
      cases d
      · exact .inr ⟨_, rfl⟩
      · exact .inl rfl
      · exact .inl rfl
      · exact .inl rfl
      · exact .inr ⟨_, rfl⟩
      · exact .inr ⟨_, rfl⟩
theorem doIt_clock {m : Mkt} {rows : List Row} {r : Req} (h : MOk m rows) (hr : reqOk r = true) : (doIt m r).1.clock = m.clock := by
  unfold doIt
  split
  · rfl
  split
  · rfl
  · exact (effect_eff h hr).clk
end Go.Proofs.Ytgceeggfdomdjaa.Sw

namespace Go.Proofs.Ytgceeggfdomdjaa.Sw
set_option maxRecDepth 100000
set_option linter.unusedSimpArgs false
set_option linter.unusedVariables false
open Go.RowKit (wrap64)

theorem foldLines_append : ∀ (a b : List Req) (m : Mkt), foldLines m (a ++ b) = (foldLines m a).bind fun x => foldLines x b
  | [], b, m => rfl
  | r :: a, b, m => by
    rw [List.cons_append, foldLines, foldLines]
    split
    · split
      · rfl
      · exact foldLines_append a b _
    · split
      · exact foldLines_append a b _
      · rfl
theorem reqZ_no : reqOk reqZ = false := rfl
theorem ne_reqZ {r : Req} (h : reqOk r = true) : r ≠ reqZ := by rintro rfl; rw [reqZ_no] at h; cases h
theorem wldFold_snoc {first : List Int} {ls : List Req} {m : Mkt} (h : wldFold first ls = some m) (hl : ls.length < 300) (r : Req) : wldFold first (ls ++ [r]) = foldLines m [r] := by
  unfold wldFold at h ⊢
  split at h
  · rename_i hc
    simp only [Bool.and_eq_true, decide_eq_true_eq] at hc
    rw [if_pos (by simp only [Bool.and_eq_true, decide_eq_true_eq]; exact ⟨hc.1, by simp; omega⟩), foldLines_append, h]
    rfl
  · cases h

/-- A head of the first so many entries. -/
def Of (log : List Ent) (h : Head) : Prop := hedAt log h.size = some h
theorem hedAt_some {log : List Ent} {s : Int} {h : Head} : hedAt log s = some h ↔ (0 ≤ s ∧ s ≤ log.length) ∧ hedOf (log.take s.toNat) = some h := by
  unfold hedAt
  split
  · rename_i hc; rw [inR_iff] at hc; simp [hc]
  · rename_i hc
    have : ¬ (0 ≤ s ∧ s ≤ log.length) := fun h => hc (inR_iff.2 h)
    simp [this]
theorem hedAt_size {log : List Ent} {s : Int} {h : Head} (e : hedAt log s = some h) : h.size = s := by
  rw [hedAt_some] at e
  have := (hedOf_ok e.2).2
  rw [this, List.length_take]
  omega
theorem hedAt_append {log : List Ent} {s : Int} (es : List Ent) (h : 0 ≤ s ∧ s ≤ log.length) : hedAt (log ++ es) s = hedAt log s := by
  unfold hedAt
  rw [if_pos (inR_iff.2 h), if_pos (inR_iff.2 (by rw [List.length_append]; omega)), List.take_append_of_le_length (by omega)]
theorem Of.append {log : List Ent} {h : Head} (e : Of log h) (es : List Ent) : Of (log ++ es) h := by
  unfold Of at *
  rw [hedAt_append es (hedAt_some.1 e).1, e]
theorem Of.whole {log : List Ent} {h : Head} (e : hedOf log = some h) : Of log h := by
  have hs := (hedOf_ok e).2
  unfold Of
  rw [hedAt_some]
  refine ⟨by omega, ?_⟩
  rw [List.take_of_length_le (by omega)]
  exact e
theorem hedOf_of_fold {log : List Ent} {rows : List Row} (h : ownFold log = some rows) : ∃ x, hedOf log = some x := ⟨_, hedOf_some.2 ⟨rows, h, rfl⟩⟩
/-- Two heads of one log never fork. -/
theorem Of.nofork {log : List Ent} {a b : Head} (ha : Of log a) (hb : Of log b) : hedFork a b = false := by
  unfold Of at *
  by_cases h : a.size = b.size
  · rw [h, hb] at ha
    obtain rfl := Option.some.inj ha
    simp [hedFork]
  · simp [hedFork, h]

/-- What holds of a world that events have led to, from purses first on. -/
structure Inv (first : List Int) (w : World) : Prop where
  ok : WOk w
  isFirst : w.first = first
  fold : wldFold first w.lines = some w.market
  money : total w.market = first.sum
  gates : ∀ g ∈ w.gates, Of w.market.log g.head
  bag : ∀ x ∈ w.bag, Of w.market.log x.head
theorem Inv.rows {first : List Int} {w : World} (h : Inv first w) : ∃ rows, MOk w.market rows := mktOk_iff.1 h.ok.mkt
theorem inv_new {p : List Int} (hp : monOk p = true) (hs : monSum p ≤ 100000) : Inv p (wldNew p) := by
  have ok := wldNew_ok hp hs
  have e : wldNew p = ⟨p, mktNew p, [], [gatNew, gatNew], []⟩ := by simp [wldNew, hp, hs]
  have em : mktNew p = ⟨[], p, [], 0, [0, 0, 0, 0, 0], [0, 0, 0, 0, 0]⟩ := by simp [mktNew, hp, hs]
  rw [e] at ok ⊢
  refine ⟨ok, rfl, by simp [wldFold, hp, hs, foldLines], by rw [em]; simp [total, heldSum], fun g hg => ?_, by simp⟩
  have hg : g = gatNew := by simpa using hg
  subst hg
  rw [em]
  obtain ⟨x, hx⟩ := hedOf_of_fold (log := []) (rows := rows0) rfl
  have : gatNew.head = x := by simp [gatNew, hx]
  rw [this]
  exact Of.whole hx
theorem inv_ask {first : List Int} {w : World} (h : Inv first w) (r : Req) : Inv first (ask w r).1 := by
  have hok := ask_ok h.ok r
  unfold ask at hok ⊢
  split at hok
  · rename_i hr
    rw [if_pos hr]
    simp only [Bool.and_eq_true, decide_eq_true_eq] at hr
    obtain ⟨rows, hm⟩ := h.rows
    have hlog : ∃ es, (doIt w.market r).1.log = w.market.log ++ es := by
      rcases doIt_log hm hr.1 with e | ⟨x, e⟩
      · exact ⟨[], by rw [e, List.append_nil]⟩
      · exact ⟨[x], e⟩
    obtain ⟨es, he⟩ := hlog
    refine ⟨hok, h.isFirst, ?_, ?_, fun g hg => ?_, fun x hx => ?_⟩
    · show wldFold first (w.lines ++ [r]) = _
      rw [wldFold_snoc h.fold hr.2, foldLines, if_neg (ne_reqZ hr.1), if_pos hr.1, foldLines]
    · show total (doIt w.market r).1 = _
      rw [doIt_total hm hr.1, h.money]
    · show Of (doIt w.market r).1.log g.head
      rw [he]
      exact (h.gates g hg).append es
    · show Of (doIt w.market r).1.log x.head
      rw [he]
      exact (h.bag x hx).append es
  · rename_i hr
    rw [if_neg hr]
    exact h
theorem inv_tick {first : List Int} {w : World} (h : Inv first w) : Inv first (tickW w) := by
  have hok := tickW_ok h.ok
  unfold tickW at hok ⊢
  split at hok
  · rename_i hr
    rw [if_pos hr]
    simp only [Bool.and_eq_true, decide_eq_true_eq] at hr
    obtain ⟨rows, hm⟩ := h.rows
    refine ⟨hok, h.isFirst, ?_, ?_, h.gates, h.bag⟩
    · show wldFold first (w.lines ++ [reqZ]) = _
      rw [wldFold_snoc h.fold hr.2, foldLines, if_pos rfl, if_neg hr.1, foldLines]
    · show total (tick w.market) = _
      rw [tick_total hm, h.money]
  · rename_i hr
    rw [if_neg hr]
    exact h
theorem fall_market {first : List Int} {w : World} (h : Inv first w) : (fall w).market = w.market := by
  show (wldFold w.first w.lines).getD w.market = _
  rw [h.isFirst, h.fold]
  rfl
theorem inv_fall {first : List Int} {w : World} (h : Inv first w) : Inv first (fall w) := by
  have e := fall_market h
  refine ⟨fall_ok h.ok, h.isFirst, ?_, ?_, fun g hg => ?_, by simp [fall]⟩
  · rw [e]; exact h.fold
  · rw [e]; exact h.money
  · rw [e]; exact h.gates g hg
theorem inv_send {first : List Int} {w : World} (h : Inv first w) (k : Int) : Inv first (send w k) := by
  have hok := send_ok h.ok k
  unfold send at hok ⊢
  split at hok
  · rename_i hr
    rw [if_pos hr]
    refine ⟨hok, h.isFirst, h.fold, h.money, h.gates, fun x hx => ?_⟩
    rcases List.mem_append.1 hx with hx | hx
    · exact h.bag x hx
    · obtain rfl := List.mem_singleton.1 hx
      obtain ⟨rows, hm⟩ := h.rows
      obtain ⟨y, hy⟩ := hedOf_of_fold hm.fold
      show Of _ ((hedOf w.market.log).getD headZ)
      rw [hy]
      exact Of.whole hy
  · rename_i hr
    rw [if_neg hr]
    exact h
theorem inv_lose {first : List Int} {w : World} (h : Inv first w) (i : Int) : Inv first (lose w i) :=
  ⟨lose_ok h.ok i, h.isFirst, h.fold, h.money, h.gates, fun x hx => h.bag x ((List.eraseIdx_sublist w.bag i.toNat).subset hx)⟩
theorem inv_setGate {first : List Int} {w : World} (h : Inv first w) {k : Nat} {g : Gate} (hg : gatOk g = true) (ho : Of w.market.log g.head) : Inv first { w with gates := w.gates.set k g } := by
  refine ⟨setGate_ok h.ok hg, h.isFirst, h.fold, h.money, fun x hx => ?_, h.bag⟩
  rcases List.mem_or_eq_of_mem_set hx with hx | rfl
  · exact h.gates x hx
  · exact ho
theorem gateAt_mem {w : World} (h : WOk w) {k : Int} (hk : 0 ≤ k ∧ k ≤ 1) : gateAt w k ∈ w.gates := by
  unfold gateAt
  have hl := h.glen
  obtain ⟨g, hg⟩ : ∃ g, w.gates[k.toNat]? = some g := ⟨_, List.getElem?_eq_getElem (by omega)⟩
  rw [getD_of hg]
  exact List.mem_of_getElem? hg
theorem msgAt_mem {w : World} {i : Int} (hi : 0 ≤ i ∧ i ≤ (w.bag.length : Int) - 1) : msgAt w i ∈ w.bag := by
  unfold msgAt
  obtain ⟨g, hg⟩ : ∃ g, w.bag[i.toNat]? = some g := ⟨_, List.getElem?_eq_getElem (by omega)⟩
  rw [getD_of hg]
  exact List.mem_of_getElem? hg
theorem gatSync_head (g : Gate) (h : Head) (p : List Int) (hg : gatOk g = true) : (gatSync g h p).1.done = g.done ∧ g.head.size ≤ (gatSync g h p).1.head.size ∧ ((gatSync g h p).1.head = h ∨ (gatSync g h p).1.head = g.head) := by
  unfold gatSync
  rw [if_pos hg]
  split
  · exact ⟨rfl, (hedFollows_ok ‹_›).2.2, .inl rfl⟩
  · exact ⟨rfl, Int.le_refl _, .inr rfl⟩
theorem inv_heard {first : List Int} {w : World} (h : Inv first w) {x : Msg} (hx : msgOk x = true) (ho : Of w.market.log x.head) : Inv first (heard w x) := by
  simp only [msgOk, Bool.and_eq_true, inR_iff] at hx
  have hg := gateAt_ok h.ok hx.1.1
  refine inv_setGate h (gatSync_ok hg) ?_
  rcases (gatSync_head (gateAt w x.gate) x.head x.proof hg).2.2 with e | e
  · rw [e]; exact ho
  · rw [e]; exact h.gates _ (gateAt_mem h.ok hx.1.1)
theorem inv_hear {first : List Int} {w : World} (h : Inv first w) {i : Int} (hi : 0 ≤ i ∧ i ≤ (w.bag.length : Int) - 1) : Inv first (hear w i) :=
  inv_heard (inv_lose h i) (msgAt_ok h.ok hi) (h.bag _ (msgAt_mem hi))
theorem inv_twice {first : List Int} {w : World} (h : Inv first w) {i : Int} (hi : 0 ≤ i ∧ i ≤ (w.bag.length : Int) - 1) : Inv first (twice w i) := by
  have hok := twice_ok h.ok hi
  unfold twice at hok ⊢
  split at hok
  · rename_i hr
    rw [if_pos hr]
    refine ⟨hok, h.isFirst, h.fold, h.money, h.gates, fun x hx => ?_⟩
    rcases List.mem_append.1 hx with hx | hx
    · exact h.bag x hx
    · obtain rfl := List.mem_singleton.1 hx
      exact h.bag _ (msgAt_mem hi)
  · rename_i hr
    rw [if_neg hr]
    exact h
theorem gatShow_head (g : Gate) (t who : Int) (r : Row) (p : List Int) (hg : gatOk g = true) : (gatShow g t who r p).1.head = g.head := by
  unfold gatShow
  rw [if_pos hg]
  split <;> rfl
theorem inv_show {first : List Int} {w : World} (h : Inv first w) (k t who : Int) : Inv first (showIt w k t who).1 := by
  unfold showIt
  split
  · rename_i hr
    simp only [Bool.and_eq_true, decide_eq_true_eq, inR_iff] at hr
    split
    · exact h
    · split
      · have hg := gateAt_ok h.ok hr.1.1
        refine inv_setGate h (gatShow_ok hg) ?_
        rw [gatShow_head _ _ _ _ _ hg]
        exact h.gates _ (gateAt_mem h.ok hr.1.1)
      · exact h
  · exact h
theorem inv_tellOne {first : List Int} {w : World} (h : Inv first w) (t : Int) : Inv first (tellOne w t) := by
  unfold tellOne
  split
  · exact inv_ask h _
  · exact h
theorem inv_tells {first : List Int} : ∀ (ts : List Int) {w : World}, Inv first w → Inv first (ts.foldl tellOne w)
  | [], _, h => h
  | t :: ts, _, h => inv_tells ts (inv_tellOne h t)
theorem inv_tell {first : List Int} {w : World} (h : Inv first w) (k : Int) : Inv first (tell w k) := by
  unfold tell
  split
  · exact inv_tells _ h
  · exact h
theorem inv_step {first : List Int} {w : World} (h : Inv first w) (e : Ev) : Inv first (step w e).1 := by
  unfold step
  split
  · exact inv_ask h _
  split
  · exact inv_tick h
  split
  · exact inv_fall h
  split
  · exact inv_send h _
  split
  · dsimp only; split
    · exact inv_hear h (inR_iff.1 ‹_›)
    · exact h
  split
  · dsimp only; split
    · exact inv_lose h _
    · exact h
  split
  · dsimp only; split
    · exact inv_twice h (inR_iff.1 ‹_›)
    · exact h
  split
  · exact inv_show h _ _ _
  split
  · exact inv_tell h _
  · exact h
theorem inv_run {first : List Int} : ∀ (es : List Ev) {w : World}, Inv first w → Inv first (runFrom w es)
  | [], _, h => h
  | e :: es, _, h => inv_run es (inv_step h e)
theorem Inv.wldMoney {first : List Int} {w : World} (h : Inv first w) : wldMoney w = first.sum := by
  obtain ⟨rows, hm⟩ := h.rows
  unfold Sw.wldMoney
  rw [hm.total]
  have := h.money
  unfold total at this
  rw [this]
  have hs := hm.sum
  have h1 := (sum_bd w.market.purses 100000 (by omega) (monOk_iff.1 hm.mon).2).1
  have h2 := (heldSum_bd hm.deals.1).1
  exact wrap64_in (by omega)
end Go.Proofs.Ytgceeggfdomdjaa.Sw

namespace Go.Proofs.Ytgceeggfdomdjaa.Sw
set_option maxRecDepth 100000
set_option linter.unusedSimpArgs false
set_option linter.unusedVariables false
open Go.RowKit (wrap64)

/-! ### who meets -/
def anyFork (a b : List Head) : Bool := a.any fun x => b.any fun y => hedFork x y
theorem forkIn_some {x : Head} {b : List Head} {p : Head × Head} (h : forkIn x b = some p) : p.1 = x ∧ p.2 ∈ b ∧ hedFork p.1 p.2 = true := by
  unfold forkIn at h
  rw [Option.map_eq_some_iff] at h
  obtain ⟨y, hy, rfl⟩ := h
  exact ⟨rfl, List.mem_of_find?_eq_some hy, List.find?_some hy⟩
theorem forkIn_isSome (x : Head) (b : List Head) : (forkIn x b).isSome = b.any fun y => hedFork x y := by
  unfold forkIn
  rw [Option.isSome_map, List.isSome_find?]
theorem findFork (a b : List Head) : (a.findSome? fun x => forkIn x b).isSome = anyFork a b := by
  unfold anyFork
  induction a with
  | nil => rfl
  | cons x a ih =>
    rw [List.findSome?_cons, List.any_cons, ← ih, ← forkIn_isSome]
    cases forkIn x b <;> simp
theorem watMeet_iff {a b : List Head} (ha : watOk a = true) (hb : watOk b = true) : (watMeet a b).isSome = anyFork a b := by
  unfold watMeet
  rw [if_pos (by simp [ha, hb]), findFork]
theorem watMeet_fork {a b : List Head} {p : Head × Head} (h : watMeet a b = some p) : p.1 ∈ a ∧ p.2 ∈ b ∧ hedFork p.1 p.2 = true := by
  unfold watMeet at h
  split at h
  · obtain ⟨x, hx, e⟩ := List.exists_of_findSome?_eq_some h
    obtain ⟨rfl, h2, h3⟩ := forkIn_some e
    exact ⟨hx, h2, h3⟩
  · cases h
theorem watAll_mem {l : List Head} {log : List Ent} (h : watAll l log = true) {x : Head} (hx : x ∈ l) : Of log x := by
  unfold watAll at h
  simp only [Bool.and_eq_true, List.all_eq_true, decide_eq_true_eq] at h
  exact h.2 x hx
theorem watMeet_all {a c : List Head} {log : List Ent} (ha : watAll a log = true) (hc : watAll c log = true) : watMeet a c = none := by
  cases h : watMeet a c with
  | none => rfl
  | some p =>
    obtain ⟨h1, h2, h3⟩ := watMeet_fork h
    rw [Of.nofork (watAll_mem ha h1) (watAll_mem hc h2)] at h3
    cases h3

/-! ### a world at its beginning -/
def newOk (p : List Int) : Bool := monOk p && decide (monSum p ≤ 100000)
theorem wldNew_y {p : List Int} (h : newOk p = true) : wldNew p = ⟨p, ⟨[], p, [], 0, [0, 0, 0, 0, 0], [0, 0, 0, 0, 0]⟩, [], [gatNew, gatNew], []⟩ := by
  unfold newOk at h
  rw [wldNew, if_pos h, mktNew, if_pos h]
theorem wldNew_n {p : List Int} (h : newOk p = false) : wldNew p = worldZ := by
  unfold newOk at h
  rw [wldNew, if_neg (by rw [h]; simp)]
theorem mktNew_y {p : List Int} (h : newOk p = true) : mktNew p = ⟨[], p, [], 0, [0, 0, 0, 0, 0], [0, 0, 0, 0, 0]⟩ := by
  unfold newOk at h
  rw [mktNew, if_pos h]
theorem mktNew_n {p : List Int} (h : newOk p = false) : mktNew p = mktZ := by
  unfold newOk at h
  rw [mktNew, if_neg (by rw [h]; simp)]
theorem newOk_len {p : List Int} (h : newOk p = true) : p.length = 5 := by
  simp only [newOk, Bool.and_eq_true] at h
  exact (monOk_iff.1 h.1).1
theorem wldOk_worldZ : wldOk worldZ = false := by
  simp [wldOk, worldZ, mktOk, mktZ, monOk]
theorem wldOk_new {p : List Int} (h : newOk p = true) : wldOk (wldNew p) = true := by
  simp only [newOk, Bool.and_eq_true, decide_eq_true_eq] at h
  exact wldOk_iff.2 (wldNew_ok h.1 h.2)
theorem wldMoney_new {p : List Int} (h : newOk p = true) : wldMoney (wldNew p) = monSum p := by
  rw [wldNew_y h]
  simp only [newOk, Bool.and_eq_true, decide_eq_true_eq] at h
  have := monSum_bd h.1
  show wrap64 (monSum p + 0) = monSum p
  rw [Int.add_zero]
  unfold wrap64; omega
theorem gatNew_size : gatNew.head.size = 0 := by
  have : hedOf [] = some ⟨0, root [], ownRoot rows0⟩ := rfl
  rw [gatNew, this]
  rfl
end Go.Proofs.Ytgceeggfdomdjaa.Sw

namespace Go.Proofs.Ytgceeggfdomdjaa
set_option maxRecDepth 100000
set_option linter.unusedSimpArgs false
set_option linter.unusedVariables false
open Go.RowKit Go
set_option maxHeartbeats 2000000

theorem swGateEq_c (p q r : Int) (A : Option Addr) (c n : Nat) (xs : List Int) (B : Option Addr) (d m : Nat) (w : World) (hxs : RI w 0 A c n xs) (hys : RI w 0 B d m xs) : Calls Try.prog 18 #[.agg #[.int .i64 p, .int .i64 q, .int .i64 r, .slice A n c], .agg #[.int .i64 p, .int .i64 q, .int .i64 r, .slice B m d]] w fun E w' => E = .returned (.bool true) ∧ Ex w w' := by
  refine (swGate_c ⟨p, q, r⟩ A c n xs ⟨p, q, r⟩ B d m xs w hxs hys).mono ?_
  rintro E w' ⟨rfl, hb⟩
  exact ⟨by simp, hb⟩
theorem iGatSync_v (t1 t2 t3 u1 u2 u3 v1 v2 v3 : Int) (A : Option Addr) (c n : Nat) (xs : List Int) (B : Option Addr) (d m : Nat) (ps zs : List Int) (b : Bool) (w : World) (hxs : RI w 0 A c n xs) (hps : RI w 0 B d m ps) (he : Sw.gatSync ⟨⟨t1, t2, t3⟩, xs⟩ ⟨u1, u2, u3⟩ ps = (⟨⟨v1, v2, v3⟩, zs⟩, b)) :
    Calls Try.prog 16 #[.agg #[.int .i64 t1, .int .i64 t2, .int .i64 t3, .slice A n c], .agg #[.int .i64 u1, .int .i64 u2, .int .i64 u3], .slice B m d] w fun E w' => ∃ A' c' n', E = .returned (.tuple #[.agg #[.int .i64 v1, .int .i64 v2, .int .i64 v3, .slice A' n' c'], .bool b]) ∧ OwI w' w.heap.size A' c' n' zs ∧ Ex w w' := by
  have := iGatSync_c ⟨t1, t2, t3⟩ ⟨u1, u2, u3⟩ A c n xs B d m ps w hxs hps
  rw [he] at this
  exact this
theorem sGatSync_v (t1 t2 t3 u1 u2 u3 v1 v2 v3 : Int) (A : Option Addr) (c n : Nat) (xs : List Int) (B : Option Addr) (d m : Nat) (ps zs : List Int) (b : Bool) (w : World) (hxs : RI w 0 A c n xs) (hps : RI w 0 B d m ps) (he : Sw.gatSync ⟨⟨t1, t2, t3⟩, xs⟩ ⟨u1, u2, u3⟩ ps = (⟨⟨v1, v2, v3⟩, zs⟩, b)) :
    Calls Try.prog 17 #[.agg #[.int .i64 t1, .int .i64 t2, .int .i64 t3, .slice A n c], .agg #[.int .i64 u1, .int .i64 u2, .int .i64 u3], .slice B m d] w fun E w' => ∃ A' c' n', E = .returned (.tuple #[.agg #[.int .i64 v1, .int .i64 v2, .int .i64 v3, .slice A' n' c'], .bool b]) ∧ OwI w' w.heap.size A' c' n' zs ∧ Ex w w' := by
  have := sGatSync_c ⟨t1, t2, t3⟩ ⟨u1, u2, u3⟩ A c n xs B d m ps w hxs hps
  rw [he] at this
  exact this
theorem gatOk_next {g : Sw.Gate} {h : Sw.Head} {ps : List Int} (hg : Sw.gatOk g = true) (hf : Sw.hedFollows g.head h ps = true) : Sw.gatOk ⟨h, g.done⟩ = true ∧ g.head.size ≤ h.size := by
  unfold Sw.hedFollows at hf
  simp only [Bool.and_eq_true, decide_eq_true_eq] at hf
  unfold Sw.gatOk at hg ⊢
  rw [Bool.and_eq_true] at hg
  exact ⟨by rw [Bool.and_eq_true]; exact ⟨hf.1.1.1.2, hg.2⟩, hf.1.1.2⟩

theorem fnGatSync_c (A : Option Addr) (c n : Nat) (bs : List Int) (w : World) (hxs : RB w 0 A c n bs) (hq : ∀ x ∈ bs, 0 ≤ x ∧ x ≤ 255) : Calls Try.prog 3 #[.slice A n c] w fun E w' => E = .returned (.bool true) ∧ Ex w w' := by
  have hbig := Rs.big hxs
  by_cases hn : n ≤ 1048576
  case neg =>
    go_enter Try.func3, Try.ntmps3
    go_wp2_with fail
    go_ret
    exact ⟨rfl, ext_⟩
  go_enter Try.func3, Try.ntmps3
  go_wp2_with fail
  apply Calls.mono
  apply drawGatSync_c
  · apply Rs.at0 hxs; (exact kf_)
  · exact hq
  rintro E w1 ⟨t1, t2, t3, u1, u2, u3, B, d, m, xs, D, e, k, ps, rfl, ⟨hg, hp⟩, hb⟩
  have hst := xr hb; (try simp only [zA, zC, zD, zN] at hst); obtain ⟨hc, hf, hz⟩ := hst
  clear hxs hq
  obtain ⟨v1, v2, v3, zs, b, he⟩ : ∃ v1 v2 v3 zs b, Sw.gatSync ⟨⟨t1, t2, t3⟩, xs⟩ ⟨u1, u2, u3⟩ ps = (⟨⟨v1, v2, v3⟩, zs⟩, b) := ⟨_, _, _, _, _, rfl⟩
  have He := Lib.hid he
  clear he
  go_upto_region 6 with (first | (go_at_call 16; apply Calls.mono; apply (iGatSync_v (he := He.out)); (apply Rs.at0 hg; (exact kf_)); (apply Rs.at0 hp; (exact kf_)); rintro E w2 ⟨A2, c2, n2, rfl, ho2, hb⟩; have hst := xr hb; (try simp only [zA, zC, zD, zN] at hst); obtain ⟨hc, hf, hz⟩ := hst) | (go_at_call 17; apply Calls.mono; apply (sGatSync_v (he := He.out)); (apply Rs.at0 hg; (exact kf_)); (apply Rs.at0 hp; (exact kf_)); rintro E w3 ⟨A3, c3, n3, rfl, ho3, hb⟩; have hst := xr hb; (try simp only [zA, zC, zD, zN] at hst); obtain ⟨hc, hf, hz⟩ := hst))
  have hgg : ∀ x : Bool, (x != x) = false := by simp
  cases g1 : Sw.gatOk ⟨⟨t1, t2, t3⟩, xs⟩
  case false =>
    obtain ⟨rfl, rfl, rfl, rfl, rfl⟩ : v1 = 0 ∧ v2 = 0 ∧ v3 = 0 ∧ zs = [] ∧ b = false := by
      have h := He.out
      unfold Sw.gatSync at h
      rw [g1] at h
      simp [Sw.gateZ, Sw.headZ] at h
      obtain ⟨⟨⟨h1, h2, h3⟩, h4⟩, h5⟩ := h
      exact ⟨h1.symm, h2.symm, h3.symm, h4, h5⟩
    have G1 := Lib.hid g1
    clear g1
    (focus (refine wp_name ?_; intro W0 hb0; have hst := xr hb0; (try simp only [zA, zC, zD, zN] at hst); obtain ⟨hc0, hf0, hz0⟩ := hst; refine wp_regionX [] (S := fun w' => Held W0 w') hdH (fun hHeld => ?_); refine GoesX.take 0 33 [] hHeld (h := ?_); refine GoesX.take 1 34 [] hHeld (h := ?_); refine GoesX.one 2 (h := fun K hK => ?_); go_simp; (first | (go_at_call 18; apply Calls.mono; apply (swGateEq_c (xs := _)); (apply Rs.at0 ho2.rs; (exact kf_)); (apply Rs.at0 ho3.rs; (exact kf_)); rintro E w4 ⟨rfl, hb⟩; have hst := xr hb; (try simp only [zA, zC, zD, zN] at hst); obtain ⟨hc, hf, hz⟩ := hst) | (go_at_call 19; apply Calls.mono; apply (iGatOk_c ⟨t1, t2, t3⟩ (xs := xs)); (apply Rs.at0 hg; (exact kf_)); rintro E w5 ⟨rfl, hb⟩; rw [G1.out]; have hst := xr hb; (try simp only [zA, zC, zD, zN] at hst); obtain ⟨hc, hf, hz⟩ := hst) | (go_at_call 20; apply Calls.mono; apply (sGatOk_c ⟨t1, t2, t3⟩ (xs := xs)); (apply Rs.at0 hg; (exact kf_)); rintro E w6 ⟨rfl, hb⟩; rw [G1.out]; have hst := xr hb; (try simp only [zA, zC, zD, zN] at hst); obtain ⟨hc, hf, hz⟩ := hst)); (try go_wp2_with fail); refine outS hK hdH (h := fun hH2 => ?_); clear hK K hHeld; have hHeld := hH2; clear hH2; refine GoesX.take 3 36 [] hHeld (h := ?_); refine GoesX.take 4 37 [] hHeld (h := ?_); (first | refine GoesX.take 5 38 [] hHeld (h := ?_) | refine GoesX.skip 5 38 [] hHeld (h := ?_)); (first | refine GoesX.take 6 39 [] hHeld (h := ?_) | refine GoesX.skip 6 39 [] hHeld (h := ?_)); (first | refine GoesX.take 7 40 [] hHeld (h := ?_) | refine GoesX.skip 7 40 [] hHeld (h := ?_)); refine GoesX.take 8 41 [] hHeld (h := ?_); refine GoesX.take 9 42 [] hHeld (h := ?_); (first | refine GoesX.take 10 43 [] hHeld (h := ?_) | refine GoesX.skip 10 43 [] hHeld (h := ?_)); (first | refine GoesX.take 12 45 [] hHeld (h := ?_) | refine GoesX.skip 12 45 [] hHeld (h := ?_)); refine GoesX.one 11 (h := fun K hK => ?_); go_simp; (first | (go_at_call 18; apply Calls.mono; apply (swGateEq_c (xs := _)); (apply Rs.at0 ho2.rs; (exact kf_)); (apply Rs.at0 ho3.rs; (exact kf_)); rintro E w4 ⟨rfl, hb⟩; have hst := xr hb; (try simp only [zA, zC, zD, zN] at hst); obtain ⟨hc, hf, hz⟩ := hst) | (go_at_call 19; apply Calls.mono; apply (iGatOk_c ⟨t1, t2, t3⟩ (xs := xs)); (apply Rs.at0 hg; (exact kf_)); rintro E w5 ⟨rfl, hb⟩; rw [G1.out]; have hst := xr hb; (try simp only [zA, zC, zD, zN] at hst); obtain ⟨hc, hf, hz⟩ := hst) | (go_at_call 20; apply Calls.mono; apply (sGatOk_c ⟨t1, t2, t3⟩ (xs := xs)); (apply Rs.at0 hg; (exact kf_)); rintro E w6 ⟨rfl, hb⟩; rw [G1.out]; have hst := xr hb; (try simp only [zA, zC, zD, zN] at hst); obtain ⟨hc, hf, hz⟩ := hst)); (try go_wp2_with fail); refine outS hK hdH (h := fun hH2 => ?_); clear hK K hHeld; have hHeld := hH2; clear hH2; refine GoesX.one 13 (h := fun K hK => ?_); go_simp; (first | (go_at_call 18; apply Calls.mono; apply (swGateEq_c (xs := _)); (apply Rs.at0 ho2.rs; (exact kf_)); (apply Rs.at0 ho3.rs; (exact kf_)); rintro E w4 ⟨rfl, hb⟩; have hst := xr hb; (try simp only [zA, zC, zD, zN] at hst); obtain ⟨hc, hf, hz⟩ := hst) | (go_at_call 19; apply Calls.mono; apply (iGatOk_c ⟨t1, t2, t3⟩ (xs := xs)); (apply Rs.at0 hg; (exact kf_)); rintro E w5 ⟨rfl, hb⟩; rw [G1.out]; have hst := xr hb; (try simp only [zA, zC, zD, zN] at hst); obtain ⟨hc, hf, hz⟩ := hst) | (go_at_call 20; apply Calls.mono; apply (sGatOk_c ⟨t1, t2, t3⟩ (xs := xs)); (apply Rs.at0 hg; (exact kf_)); rintro E w6 ⟨rfl, hb⟩; rw [G1.out]; have hst := xr hb; (try simp only [zA, zC, zD, zN] at hst); obtain ⟨hc, hf, hz⟩ := hst)); (try go_wp2_with fail); refine outS hK hdH (h := fun hH2 => ?_); clear hK K hHeld; have hHeld := hH2; clear hH2; (first | refine GoesX.take 14 47 [] hHeld (h := ?_) | refine GoesX.skip 14 47 [] hHeld (h := ?_)); refine GoesX.take 15 48 [] hHeld (h := ?_); refine GoesX.done (by kernel_rfl) ?_ _; all_goals (have hb := And.right (by assumption : Held W0 _); have hst := xr hb; (try simp only [zA, zC, zD, zN] at hst); obtain ⟨hc, hf, hz⟩ := hst)))
    go_wp2_with (first | (go_at_call 18; apply Calls.mono; apply (swGateEq_c (xs := _)); (apply Rs.at0 ho2.rs; (exact kf_)); (first | (apply Rs.at0 hg; (exact kf_)) | exact ⟨rfl, Rd.none_ _ _ _⟩); rintro E w4 ⟨rfl, hb⟩; have hst := xr hb; (try simp only [zA, zC, zD, zN] at hst); obtain ⟨hc, hf, hz⟩ := hst) | (go_at_call 23; apply Calls.mono; apply (swInts_c (xs := xs) (ys := xs)); (apply Rs.at0 ho2.rs; (exact kf_)); (apply Rs.at0 hg; (exact kf_)); rintro E w4 ⟨rfl, hb⟩; rw [show decide (xs = xs) = true from decide_eq_true rfl]; have hst := xr hb; (try simp only [zA, zC, zD, zN] at hst); obtain ⟨hc, hf, hz⟩ := hst) | (go_at_call 19; apply Calls.mono; apply (iGatOk_c ⟨u1, u2, u3⟩ (xs := xs)); (apply Rs.at0 ho2.rs; (exact kf_)); rintro E w5 ⟨rfl, hb⟩; rw [G2.out]; have hst := xr hb; (try simp only [zA, zC, zD, zN] at hst); obtain ⟨hc, hf, hz⟩ := hst) | (go_at_call 22; apply Calls.mono; apply (iHedFollows_c ⟨t1, t2, t3⟩ ⟨u1, u2, u3⟩ (xs := ps)); (apply Rs.at0 hp; (exact kf_)); rintro E w5 ⟨rfl, hb⟩; rw [G3.out]; have hst := xr hb; (try simp only [zA, zC, zD, zN] at hst); obtain ⟨hc, hf, hz⟩ := hst) | (go_at_call 20; apply Calls.mono; apply (sGatOk_c ⟨t1, t2, t3⟩ (xs := xs)); (apply Rs.at0 hg; (exact kf_)); rintro E w6 ⟨rfl, hb⟩; rw [G1.out]; have hst := xr hb; (try simp only [zA, zC, zD, zN] at hst); obtain ⟨hc, hf, hz⟩ := hst) | (go_at_call 21; refine (swOk_c _).mono ?_; rintro E w' ⟨rfl, rfl⟩) | fail)
    go_ret
    exact ⟨rfl, ext_⟩
  cases g3 : Sw.hedFollows ⟨t1, t2, t3⟩ ⟨u1, u2, u3⟩ ps
  case false =>
    obtain ⟨rfl, rfl, rfl, rfl, rfl⟩ : t1 = v1 ∧ t2 = v2 ∧ t3 = v3 ∧ xs = zs ∧ b = false := by
      have h := He.out
      unfold Sw.gatSync at h
      rw [g1, g3] at h
      simp at h
      obtain ⟨⟨⟨h1, h2, h3⟩, h4⟩, h5⟩ := h
      exact ⟨h1, h2, h3, h4, h5⟩
    have G1 := Lib.hid g1
    have G3 := Lib.hid g3
    clear g1 g3
    (focus (refine wp_name ?_; intro W0 hb0; have hst := xr hb0; (try simp only [zA, zC, zD, zN] at hst); obtain ⟨hc0, hf0, hz0⟩ := hst; refine wp_regionX [] (S := fun w' => Held W0 w') hdH (fun hHeld => ?_); refine GoesX.take 0 33 [] hHeld (h := ?_); refine GoesX.take 1 34 [] hHeld (h := ?_); refine GoesX.one 2 (h := fun K hK => ?_); go_simp; (first | (go_at_call 18; apply Calls.mono; apply (swGateEq_c (xs := _)); (apply Rs.at0 ho2.rs; (exact kf_)); (apply Rs.at0 ho3.rs; (exact kf_)); rintro E w4 ⟨rfl, hb⟩; have hst := xr hb; (try simp only [zA, zC, zD, zN] at hst); obtain ⟨hc, hf, hz⟩ := hst) | (go_at_call 19; apply Calls.mono; apply (iGatOk_c ⟨t1, t2, t3⟩ (xs := xs)); (apply Rs.at0 hg; (exact kf_)); rintro E w5 ⟨rfl, hb⟩; rw [G1.out]; have hst := xr hb; (try simp only [zA, zC, zD, zN] at hst); obtain ⟨hc, hf, hz⟩ := hst) | (go_at_call 20; apply Calls.mono; apply (sGatOk_c ⟨t1, t2, t3⟩ (xs := xs)); (apply Rs.at0 hg; (exact kf_)); rintro E w6 ⟨rfl, hb⟩; rw [G1.out]; have hst := xr hb; (try simp only [zA, zC, zD, zN] at hst); obtain ⟨hc, hf, hz⟩ := hst)); (try go_wp2_with fail); refine outS hK hdH (h := fun hH2 => ?_); clear hK K hHeld; have hHeld := hH2; clear hH2; refine GoesX.take 3 36 [] hHeld (h := ?_); refine GoesX.take 4 37 [] hHeld (h := ?_); (first | refine GoesX.take 5 38 [] hHeld (h := ?_) | refine GoesX.skip 5 38 [] hHeld (h := ?_)); (first | refine GoesX.take 6 39 [] hHeld (h := ?_) | refine GoesX.skip 6 39 [] hHeld (h := ?_)); (first | refine GoesX.take 7 40 [] hHeld (h := ?_) | refine GoesX.skip 7 40 [] hHeld (h := ?_)); refine GoesX.take 8 41 [] hHeld (h := ?_); refine GoesX.take 9 42 [] hHeld (h := ?_); (first | refine GoesX.take 10 43 [] hHeld (h := ?_) | refine GoesX.skip 10 43 [] hHeld (h := ?_)); (first | refine GoesX.take 12 45 [] hHeld (h := ?_) | refine GoesX.skip 12 45 [] hHeld (h := ?_)); refine GoesX.one 11 (h := fun K hK => ?_); go_simp; (first | (go_at_call 18; apply Calls.mono; apply (swGateEq_c (xs := _)); (apply Rs.at0 ho2.rs; (exact kf_)); (apply Rs.at0 ho3.rs; (exact kf_)); rintro E w4 ⟨rfl, hb⟩; have hst := xr hb; (try simp only [zA, zC, zD, zN] at hst); obtain ⟨hc, hf, hz⟩ := hst) | (go_at_call 19; apply Calls.mono; apply (iGatOk_c ⟨t1, t2, t3⟩ (xs := xs)); (apply Rs.at0 hg; (exact kf_)); rintro E w5 ⟨rfl, hb⟩; rw [G1.out]; have hst := xr hb; (try simp only [zA, zC, zD, zN] at hst); obtain ⟨hc, hf, hz⟩ := hst) | (go_at_call 20; apply Calls.mono; apply (sGatOk_c ⟨t1, t2, t3⟩ (xs := xs)); (apply Rs.at0 hg; (exact kf_)); rintro E w6 ⟨rfl, hb⟩; rw [G1.out]; have hst := xr hb; (try simp only [zA, zC, zD, zN] at hst); obtain ⟨hc, hf, hz⟩ := hst)); (try go_wp2_with fail); refine outS hK hdH (h := fun hH2 => ?_); clear hK K hHeld; have hHeld := hH2; clear hH2; refine GoesX.one 13 (h := fun K hK => ?_); go_simp; (first | (go_at_call 18; apply Calls.mono; apply (swGateEq_c (xs := _)); (apply Rs.at0 ho2.rs; (exact kf_)); (apply Rs.at0 ho3.rs; (exact kf_)); rintro E w4 ⟨rfl, hb⟩; have hst := xr hb; (try simp only [zA, zC, zD, zN] at hst); obtain ⟨hc, hf, hz⟩ := hst) | (go_at_call 19; apply Calls.mono; apply (iGatOk_c ⟨t1, t2, t3⟩ (xs := xs)); (apply Rs.at0 hg; (exact kf_)); rintro E w5 ⟨rfl, hb⟩; rw [G1.out]; have hst := xr hb; (try simp only [zA, zC, zD, zN] at hst); obtain ⟨hc, hf, hz⟩ := hst) | (go_at_call 20; apply Calls.mono; apply (sGatOk_c ⟨t1, t2, t3⟩ (xs := xs)); (apply Rs.at0 hg; (exact kf_)); rintro E w6 ⟨rfl, hb⟩; rw [G1.out]; have hst := xr hb; (try simp only [zA, zC, zD, zN] at hst); obtain ⟨hc, hf, hz⟩ := hst)); (try go_wp2_with fail); refine outS hK hdH (h := fun hH2 => ?_); clear hK K hHeld; have hHeld := hH2; clear hH2; (first | refine GoesX.take 14 47 [] hHeld (h := ?_) | refine GoesX.skip 14 47 [] hHeld (h := ?_)); refine GoesX.take 15 48 [] hHeld (h := ?_); refine GoesX.done (by kernel_rfl) ?_ _; all_goals (have hb := And.right (by assumption : Held W0 _); have hst := xr hb; (try simp only [zA, zC, zD, zN] at hst); obtain ⟨hc, hf, hz⟩ := hst)))
    go_wp2_with (first | (go_at_call 18; apply Calls.mono; apply (swGateEq_c (xs := _)); (apply Rs.at0 ho2.rs; (exact kf_)); (first | (apply Rs.at0 hg; (exact kf_)) | exact ⟨rfl, Rd.none_ _ _ _⟩); rintro E w4 ⟨rfl, hb⟩; have hst := xr hb; (try simp only [zA, zC, zD, zN] at hst); obtain ⟨hc, hf, hz⟩ := hst) | (go_at_call 23; apply Calls.mono; apply (swInts_c (xs := xs) (ys := xs)); (apply Rs.at0 ho2.rs; (exact kf_)); (apply Rs.at0 hg; (exact kf_)); rintro E w4 ⟨rfl, hb⟩; rw [show decide (xs = xs) = true from decide_eq_true rfl]; have hst := xr hb; (try simp only [zA, zC, zD, zN] at hst); obtain ⟨hc, hf, hz⟩ := hst) | (go_at_call 19; apply Calls.mono; apply (iGatOk_c ⟨u1, u2, u3⟩ (xs := xs)); (apply Rs.at0 ho2.rs; (exact kf_)); rintro E w5 ⟨rfl, hb⟩; rw [G2.out]; have hst := xr hb; (try simp only [zA, zC, zD, zN] at hst); obtain ⟨hc, hf, hz⟩ := hst) | (go_at_call 22; apply Calls.mono; apply (iHedFollows_c ⟨t1, t2, t3⟩ ⟨u1, u2, u3⟩ (xs := ps)); (apply Rs.at0 hp; (exact kf_)); rintro E w5 ⟨rfl, hb⟩; rw [G3.out]; have hst := xr hb; (try simp only [zA, zC, zD, zN] at hst); obtain ⟨hc, hf, hz⟩ := hst) | (go_at_call 20; apply Calls.mono; apply (sGatOk_c ⟨t1, t2, t3⟩ (xs := xs)); (apply Rs.at0 hg; (exact kf_)); rintro E w6 ⟨rfl, hb⟩; rw [G1.out]; have hst := xr hb; (try simp only [zA, zC, zD, zN] at hst); obtain ⟨hc, hf, hz⟩ := hst) | (go_at_call 21; refine (swOk_c _).mono ?_; rintro E w' ⟨rfl, rfl⟩) | fail)
    go_ret
    exact ⟨rfl, ext_⟩
  obtain ⟨rfl, rfl, rfl, rfl, rfl⟩ : u1 = v1 ∧ u2 = v2 ∧ u3 = v3 ∧ xs = zs ∧ b = true := by
    have h := He.out
    unfold Sw.gatSync at h
    rw [g1, g3] at h
    simp at h
    obtain ⟨⟨⟨h1, h2, h3⟩, h4⟩, h5⟩ := h
    exact ⟨h1, h2, h3, h4, h5⟩
  obtain ⟨g2, hsz⟩ := gatOk_next g1 g3
  dsimp only at g2 hsz
  have G1 := Lib.hid g1
  have G2 := Lib.hid g2
  have G3 := Lib.hid g3
  clear g1 g3 g2
  (focus (refine wp_name ?_; intro W0 hb0; have hst := xr hb0; (try simp only [zA, zC, zD, zN] at hst); obtain ⟨hc0, hf0, hz0⟩ := hst; refine wp_regionX [] (S := fun w' => Held W0 w') hdH (fun hHeld => ?_); refine GoesX.take 0 33 [] hHeld (h := ?_); refine GoesX.take 1 34 [] hHeld (h := ?_); refine GoesX.one 2 (h := fun K hK => ?_); go_simp; (first | (go_at_call 18; apply Calls.mono; apply (swGateEq_c (xs := _)); (apply Rs.at0 ho2.rs; (exact kf_)); (apply Rs.at0 ho3.rs; (exact kf_)); rintro E w4 ⟨rfl, hb⟩; have hst := xr hb; (try simp only [zA, zC, zD, zN] at hst); obtain ⟨hc, hf, hz⟩ := hst) | (go_at_call 19; apply Calls.mono; apply (iGatOk_c ⟨t1, t2, t3⟩ (xs := xs)); (apply Rs.at0 hg; (exact kf_)); rintro E w5 ⟨rfl, hb⟩; rw [G1.out]; have hst := xr hb; (try simp only [zA, zC, zD, zN] at hst); obtain ⟨hc, hf, hz⟩ := hst) | (go_at_call 20; apply Calls.mono; apply (sGatOk_c ⟨t1, t2, t3⟩ (xs := xs)); (apply Rs.at0 hg; (exact kf_)); rintro E w6 ⟨rfl, hb⟩; rw [G1.out]; have hst := xr hb; (try simp only [zA, zC, zD, zN] at hst); obtain ⟨hc, hf, hz⟩ := hst)); (try go_wp2_with fail); refine outS hK hdH (h := fun hH2 => ?_); clear hK K hHeld; have hHeld := hH2; clear hH2; refine GoesX.take 3 36 [] hHeld (h := ?_); refine GoesX.take 4 37 [] hHeld (h := ?_); (first | refine GoesX.take 5 38 [] hHeld (h := ?_) | refine GoesX.skip 5 38 [] hHeld (h := ?_)); (first | refine GoesX.take 6 39 [] hHeld (h := ?_) | refine GoesX.skip 6 39 [] hHeld (h := ?_)); (first | refine GoesX.take 7 40 [] hHeld (h := ?_) | refine GoesX.skip 7 40 [] hHeld (h := ?_)); refine GoesX.take 8 41 [] hHeld (h := ?_); refine GoesX.take 9 42 [] hHeld (h := ?_); (first | refine GoesX.take 10 43 [] hHeld (h := ?_) | refine GoesX.skip 10 43 [] hHeld (h := ?_)); (first | refine GoesX.take 12 45 [] hHeld (h := ?_) | refine GoesX.skip 12 45 [] hHeld (h := ?_)); refine GoesX.one 11 (h := fun K hK => ?_); go_simp; (first | (go_at_call 18; apply Calls.mono; apply (swGateEq_c (xs := _)); (apply Rs.at0 ho2.rs; (exact kf_)); (apply Rs.at0 ho3.rs; (exact kf_)); rintro E w4 ⟨rfl, hb⟩; have hst := xr hb; (try simp only [zA, zC, zD, zN] at hst); obtain ⟨hc, hf, hz⟩ := hst) | (go_at_call 19; apply Calls.mono; apply (iGatOk_c ⟨t1, t2, t3⟩ (xs := xs)); (apply Rs.at0 hg; (exact kf_)); rintro E w5 ⟨rfl, hb⟩; rw [G1.out]; have hst := xr hb; (try simp only [zA, zC, zD, zN] at hst); obtain ⟨hc, hf, hz⟩ := hst) | (go_at_call 20; apply Calls.mono; apply (sGatOk_c ⟨t1, t2, t3⟩ (xs := xs)); (apply Rs.at0 hg; (exact kf_)); rintro E w6 ⟨rfl, hb⟩; rw [G1.out]; have hst := xr hb; (try simp only [zA, zC, zD, zN] at hst); obtain ⟨hc, hf, hz⟩ := hst)); (try go_wp2_with fail); refine outS hK hdH (h := fun hH2 => ?_); clear hK K hHeld; have hHeld := hH2; clear hH2; refine GoesX.one 13 (h := fun K hK => ?_); go_simp; (first | (go_at_call 18; apply Calls.mono; apply (swGateEq_c (xs := _)); (apply Rs.at0 ho2.rs; (exact kf_)); (apply Rs.at0 ho3.rs; (exact kf_)); rintro E w4 ⟨rfl, hb⟩; have hst := xr hb; (try simp only [zA, zC, zD, zN] at hst); obtain ⟨hc, hf, hz⟩ := hst) | (go_at_call 19; apply Calls.mono; apply (iGatOk_c ⟨t1, t2, t3⟩ (xs := xs)); (apply Rs.at0 hg; (exact kf_)); rintro E w5 ⟨rfl, hb⟩; rw [G1.out]; have hst := xr hb; (try simp only [zA, zC, zD, zN] at hst); obtain ⟨hc, hf, hz⟩ := hst) | (go_at_call 20; apply Calls.mono; apply (sGatOk_c ⟨t1, t2, t3⟩ (xs := xs)); (apply Rs.at0 hg; (exact kf_)); rintro E w6 ⟨rfl, hb⟩; rw [G1.out]; have hst := xr hb; (try simp only [zA, zC, zD, zN] at hst); obtain ⟨hc, hf, hz⟩ := hst)); (try go_wp2_with fail); refine outS hK hdH (h := fun hH2 => ?_); clear hK K hHeld; have hHeld := hH2; clear hH2; (first | refine GoesX.take 14 47 [] hHeld (h := ?_) | refine GoesX.skip 14 47 [] hHeld (h := ?_)); refine GoesX.take 15 48 [] hHeld (h := ?_); refine GoesX.done (by kernel_rfl) ?_ _; all_goals (have hb := And.right (by assumption : Held W0 _); have hst := xr hb; (try simp only [zA, zC, zD, zN] at hst); obtain ⟨hc, hf, hz⟩ := hst)))
  go_wp2_with (first | (go_at_call 18; apply Calls.mono; apply (swGateEq_c (xs := _)); (apply Rs.at0 ho2.rs; (exact kf_)); (first | (apply Rs.at0 hg; (exact kf_)) | exact ⟨rfl, Rd.none_ _ _ _⟩); rintro E w4 ⟨rfl, hb⟩; have hst := xr hb; (try simp only [zA, zC, zD, zN] at hst); obtain ⟨hc, hf, hz⟩ := hst) | (go_at_call 23; apply Calls.mono; apply (swInts_c (xs := xs) (ys := xs)); (apply Rs.at0 ho2.rs; (exact kf_)); (apply Rs.at0 hg; (exact kf_)); rintro E w4 ⟨rfl, hb⟩; rw [show decide (xs = xs) = true from decide_eq_true rfl]; have hst := xr hb; (try simp only [zA, zC, zD, zN] at hst); obtain ⟨hc, hf, hz⟩ := hst) | (go_at_call 19; apply Calls.mono; apply (iGatOk_c ⟨u1, u2, u3⟩ (xs := xs)); (apply Rs.at0 ho2.rs; (exact kf_)); rintro E w5 ⟨rfl, hb⟩; rw [G2.out]; have hst := xr hb; (try simp only [zA, zC, zD, zN] at hst); obtain ⟨hc, hf, hz⟩ := hst) | (go_at_call 22; apply Calls.mono; apply (iHedFollows_c ⟨t1, t2, t3⟩ ⟨u1, u2, u3⟩ (xs := ps)); (apply Rs.at0 hp; (exact kf_)); rintro E w5 ⟨rfl, hb⟩; rw [G3.out]; have hst := xr hb; (try simp only [zA, zC, zD, zN] at hst); obtain ⟨hc, hf, hz⟩ := hst) | (go_at_call 20; apply Calls.mono; apply (sGatOk_c ⟨t1, t2, t3⟩ (xs := xs)); (apply Rs.at0 hg; (exact kf_)); rintro E w6 ⟨rfl, hb⟩; rw [G1.out]; have hst := xr hb; (try simp only [zA, zC, zD, zN] at hst); obtain ⟨hc, hf, hz⟩ := hst) | (go_at_call 21; refine (swOk_c _).mono ?_; rintro E w' ⟨rfl, rfl⟩) | fail)
  go_ret
  exact ⟨rfl, ext_⟩
end Go.Proofs.Ytgceeggfdomdjaa

