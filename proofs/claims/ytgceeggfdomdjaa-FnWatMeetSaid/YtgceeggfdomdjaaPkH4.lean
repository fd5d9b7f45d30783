/-
  Texts joined: Draw3, Draw5, Draw6, Impl1, Impl2, Impl3, Impl4, ImpA, ImpB, Mon2.
-/
import Derived.Test.YtgceeggfdomdjaaPkH3
import Derived.Test.YtgceeggfdomdjaaPkH1
import Derived.Test.YtgceeggfdomdjaaPkH2
namespace Go.Proofs.Ytgceeggfdomdjaa
set_option maxRecDepth 100000
set_option linter.unusedSimpArgs false
set_option linter.unusedVariables false
open Go.RowKit Go
set_option maxHeartbeats 4000000

theorem sHedAtA_c (A : Option Addr) (c n : Nat) (s : Int) (xs : List Sw.Ent) (w : World) (hxs : RE w 0 A c n xs) : Calls Try.prog 140 #[.slice A n c, .int .i64 s] w fun E w' => ∃ p q r b, E = .returned (.tuple #[.agg #[.int .i64 p, .int .i64 q, .int .i64 r], .bool b]) ∧ True ∧ Ex w w' := by
  refine (sHedAt_c A c n s xs w hxs).mono ?_
  rintro E w' ⟨rfl, hb⟩
  exact ⟨_, _, _, _, rfl, trivial, hb⟩
/-- What is picked out of three numbers that were written out. -/
def sel3 (v : Nat) (a b c : Int) : Int := if v = 0 then a else if v = 1 then b else c
theorem sel3_cell {v : Nat} (h : v < 3) (W : World) (a b c : Int) (T : TypeId) : (W.alloc (.cells #[.int .i64 a, .int .i64 b, .int .i64 c] T)).cell? ⟨W.heap.size, v, none⟩ = some (.int .i64 (sel3 v a b c)) := by
  rcases (show v = 0 ∨ v = 1 ∨ v = 2 by omega) with rfl | rfl | rfl <;> simp [go_sem, sel3]
theorem l21Head_c (rb P : Nat) (A : Option Addr) (c m : Nat) (es : List Sw.Ent) (n : Int) (w : World) (hr : Rdp w rb P) (hes : RE w (rb + 1) A c m es) (hP : P ≤ 900000) (hm : m ≤ 900000) (h1 : 1 ≤ n) (h2 : n ≤ 1000000) : Calls Try.prog 71 #[.pointer (some ⟨rb, 0, none⟩), .slice A m c, .int .i64 n] w fun E w' => ∃ a b d, E = .returned (.agg #[.int .i64 a, .int .i64 b, .int .i64 d]) ∧ Rdp w' rb (P + 10) ∧ Ch (· = rb) w w' := by
  have hlt := hr.lt
  go_enter Try.func71, Try.ntmps71
  go_upto_region 2 with (first | (go_at_call 137; apply Calls.mono; apply pick_c; (apply Rdp.keep; assumption; (exact kb_)); (first | assumption | omega); (first | assumption | omega); rintro E w1 ⟨v, rfl, ⟨hv0, hv1⟩, hrd, hb⟩; have hst := xc hb; (try simp only [zA, zC, zD, zN] at hst); obtain ⟨hc, hf, hz⟩ := hst) | (go_at_call 140; apply Calls.mono; apply sHedAtA_c; ((first | (apply Rs.at0; assumption) | (apply Ow.rs0; assumption) | (apply OwT.rs0; assumption)); exact kf_); rintro E w1 ⟨p, q, r, b, rfl, -, hb⟩; have hst := xr hb; (try simp only [zA, zC, zD, zN] at hst); obtain ⟨hc, hf, hz⟩ := hst))
  (refine wp_name ?_; intro W0 hb0; have hst := xr hb0; (try simp only [zA, zC, zD, zN] at hst); obtain ⟨hc0, hf0, hz0⟩ := hst)
  obtain ⟨g, hgg⟩ : ∃ g, g = w1.heap.size := ⟨_, rfl⟩
  have hI : Ints W0 g 3 := Ints.ch hb0 (fun h => h) (by rw [hgg]; exact Ints.new (zs := [_, _, _]) rfl rfl rfl)
  have hR : Ints W0 w.heap.size 3 := (by (repeat (first | with_reducible assumption | exact Ints.new (zs := [_, _, _, _, _, _]) (by first | with_reducible rfl | omega | (simp only [zA, zC, zD, zN]; done) | (simp only [zA, zC, zD, zN]; omega)) rfl rfl | exact Ints.new (zs := [_, _, _]) (by first | with_reducible rfl | omega | (simp only [zA, zC, zD, zN]; done) | (simp only [zA, zC, zD, zN]; omega)) rfl rfl | exact Ints.new (zs := [_, _, _, _]) (by first | with_reducible rfl | omega | (simp only [zA, zC, zD, zN]; done) | (simp only [zA, zC, zD, zN]; omega)) rfl rfl | with_reducible apply Ints.alloc | with_reducible apply Ints.drew | (with_reducible refine Ints.set ?_ rfl) | (with_reducible refine Ints.ch (by assumption) (by first | exact (fun h => h) | omega | (simp only [zA, zC, zD, zN]; omega)) ?_))))
  have HK : RdCh w W0 rb (P + 1) := ⟨Rdp.keep hrd (by (exact kb_)), ext_⟩
  have hg0 : w.heap.size + 1 ≤ g := by rw [hgg]; exact sz_
  rw [← hgg]
  clear hgg hrd hb hc hf hz hb0 hc0 hf0 hz0 hes
  ((repeat (rename Ch _ _ _ => zz; clear zz)); (repeat (rename Rdp _ _ _ => zz; clear zz)); (repeat (rename (∀ (b o : Nat), ¬ ((⟨b, 0, none⟩ : Addr) = ⟨b - _ + _, 0, none⟩) → _) => zz; clear zz)))
  have hrd := HK.rd
  have hb := HK.ch
  have hgS := hI.lt
  have hgr : g ≠ rb := by omega
  have hLg := hI.lb
  have hLr := hrd.lb
  obtain ⟨ci0, hci0⟩ := hI.at_ (i := 0) (by omega); obtain ⟨ci1, hci1⟩ := hI.at_ (i := 1) (by omega); obtain ⟨ci2, hci2⟩ := hI.at_ (i := 2) (by omega); have hcif := hI.free
  go_upto_if 21 with (go_at_call 70; apply Calls.mono; apply odd_c; (apply Rdp.keep; assumption; (exact kb_)); (first | assumption | omega); (first | assumption | omega); (first | assumption | omega); rintro E w1 ⟨b, rfl, hrd, hb⟩; have hst := xc hb; (try simp only [zA, zC, zD, zN] at hst); obtain ⟨hc, hf, hz⟩ := hst)
  go_cut [] (fun wx => DrawAt w wx rb w.heap.size g 3 (P + 9))
  case first =>
    go_wp2_with (first | (go_at_call 137; apply Calls.mono; apply pick_c; (apply Rdp.keep; assumption; (exact kb_)); (first | assumption | omega); (first | assumption | omega); rintro E w1 ⟨v, rfl, ⟨hv0, hv1⟩, hrd, hb⟩; have hst := xc hb; (try simp only [zA, zC, zD, zN] at hst); obtain ⟨hc, hf, hz⟩ := hst) | (go_at_call 145; apply Calls.mono; apply l20Mix_c; (apply Rdp.keep; assumption; (exact kb_)); (first | assumption | omega); (first | assumption | omega); (first | assumption | omega); rintro E w1 ⟨m, rfl, hrd, hb⟩; have hst := xc hb; (try simp only [zA, zC, zD, zN] at hst); obtain ⟨hc, hf, hz⟩ := hst))
    · (focus (refine wp_name ?_; intro W0 hb0; have hst := xr hb0; (try simp only [zA, zC, zD, zN] at hst); obtain ⟨hc0, hf0, hz0⟩ := hst; refine wp_regionX [9] (S := fun w' => HeldR rb W0 w') hdR (fun hHeld => ?_); refine GoesX.take 0 29 [1, 2, 3, 6, 7, 8, 9] hHeld (h := ?_); refine GoesX.take 1 30 [2, 3, 6, 7, 8, 9] hHeld (h := ?_); refine GoesX.take 2 31 [3, 6, 7, 8, 9] hHeld (h := ?_); refine GoesX.take 4 33 [5, 6, 7, 8, 9] hHeld (h := ?_); refine GoesX.ready (rs := [3, 5]) (by kernel_rfl) (by simp) ?_; refine EachX.cons rfl (fun K hK => ?_) ?_; rotate_left; refine EachX.cons rfl (fun K hK => ?_) EachX.nil; (focus (go_simp; (go_at_call 137; apply Calls.mono; apply (pickN_c (N := 3)); (apply Rdp.keep; assumption; (exact kb_)); omega; rfl; decide; rintro E w5 ⟨v5, rfl, hv5, hrd, hb⟩; have hsel := sel3_cell hv5; have hv5i : (v5 : Int) < 3 := (by omega); (have hst := xc hb; (try simp only [zA, zC, zD, zN] at hst); obtain ⟨hc, hf, hz⟩ := hst)); (try go_wp2_with fail); refine outS hK hdR (h := fun hH2 => ?_); clear hK K hHeld; have hHeld := hH2; clear hH2; refine GoesX.one 3 (h := fun K hK => ?_); go_simp; refine outS hK hdR (h := fun hH2 => ?_); clear hK K hHeld; have hHeld := hH2; clear hH2; refine GoesX.take 6 35 [7, 8, 9] hHeld (h := ?_); refine GoesX.one 7 (h := fun K hK => ?_); go_simp; refine outS hK hdR (h := fun hH2 => ?_); clear hK K hHeld; have hHeld := hH2; clear hH2; refine GoesX.take 8 37 [9] hHeld (h := ?_); refine GoesX.oneX 9 (h := fun K hK => ?_); go_simp; refine outX hK (h := ?_); clear hK K; refine GoesX.done (by kernel_rfl) ?_ _)); rotate_right 1; (focus (go_simp; refine outS hK hdR (h := fun hH2 => ?_); clear hK K hHeld; have hHeld := hH2; clear hH2; refine GoesX.one 5 (h := fun K hK => ?_); go_simp; (go_at_call 137; apply Calls.mono; apply (pickN_c (N := 3)); (apply Rdp.keep; assumption; (exact kb_)); omega; rfl; decide; rintro E w5 ⟨v5, rfl, hv5, hrd, hb⟩; have hsel := sel3_cell hv5; have hv5i : (v5 : Int) < 3 := (by omega); (have hst := xc hb; (try simp only [zA, zC, zD, zN] at hst); obtain ⟨hc, hf, hz⟩ := hst)); (try go_wp2_with fail); refine outS hK hdR (h := fun hH2 => ?_); clear hK K hHeld; have hHeld := hH2; clear hH2; refine GoesX.take 6 35 [7, 8, 9] hHeld (h := ?_); refine GoesX.one 7 (h := fun K hK => ?_); go_simp; refine outS hK hdR (h := fun hH2 => ?_); clear hK K hHeld; have hHeld := hH2; clear hH2; refine GoesX.take 8 37 [9] hHeld (h := ?_); refine GoesX.oneX 9 (h := fun K hK => ?_); go_simp; refine outX hK (h := ?_); clear hK K; refine GoesX.done (by kernel_rfl) ?_ _))))
      all_goals go_wp2_with fail
      all_goals go_meet
      all_goals exact ⟨by (repeat (first | with_reducible assumption | exact Ints.new (zs := [_, _, _, _, _, _]) (by first | with_reducible rfl | omega | (simp only [zA, zC, zD, zN]; done) | (simp only [zA, zC, zD, zN]; omega)) rfl rfl | exact Ints.new (zs := [_, _, _]) (by first | with_reducible rfl | omega | (simp only [zA, zC, zD, zN]; done) | (simp only [zA, zC, zD, zN]; omega)) rfl rfl | exact Ints.new (zs := [_, _, _, _]) (by first | with_reducible rfl | omega | (simp only [zA, zC, zD, zN]; done) | (simp only [zA, zC, zD, zN]; omega)) rfl rfl | with_reducible apply Ints.alloc | with_reducible apply Ints.drew | (with_reducible refine Ints.set ?_ rfl) | (with_reducible refine Ints.ch (by assumption) (by first | exact (fun h => h) | omega | (simp only [zA, zC, zD, zN]; omega)) ?_))), by (repeat (first | with_reducible assumption | exact Ints.new (zs := [_, _, _, _, _, _]) (by first | with_reducible rfl | omega | (simp only [zA, zC, zD, zN]; done) | (simp only [zA, zC, zD, zN]; omega)) rfl rfl | exact Ints.new (zs := [_, _, _]) (by first | with_reducible rfl | omega | (simp only [zA, zC, zD, zN]; done) | (simp only [zA, zC, zD, zN]; omega)) rfl rfl | exact Ints.new (zs := [_, _, _, _]) (by first | with_reducible rfl | omega | (simp only [zA, zC, zD, zN]; done) | (simp only [zA, zC, zD, zN]; omega)) rfl rfl | with_reducible apply Ints.alloc | with_reducible apply Ints.drew | (with_reducible refine Ints.set ?_ rfl) | (with_reducible refine Ints.ch (by assumption) (by first | exact (fun h => h) | omega | (simp only [zA, zC, zD, zN]; omega)) ?_))), Rdp.more (Rdp.keep (by assumption) (by (exact kb_))) (by omega), ext_⟩
    all_goals go_meet
    all_goals exact ⟨by (repeat (first | with_reducible assumption | exact Ints.new (zs := [_, _, _, _, _, _]) (by first | with_reducible rfl | omega | (simp only [zA, zC, zD, zN]; done) | (simp only [zA, zC, zD, zN]; omega)) rfl rfl | exact Ints.new (zs := [_, _, _]) (by first | with_reducible rfl | omega | (simp only [zA, zC, zD, zN]; done) | (simp only [zA, zC, zD, zN]; omega)) rfl rfl | exact Ints.new (zs := [_, _, _, _]) (by first | with_reducible rfl | omega | (simp only [zA, zC, zD, zN]; done) | (simp only [zA, zC, zD, zN]; omega)) rfl rfl | with_reducible apply Ints.alloc | with_reducible apply Ints.drew | (with_reducible refine Ints.set ?_ rfl) | (with_reducible refine Ints.ch (by assumption) (by first | exact (fun h => h) | omega | (simp only [zA, zC, zD, zN]; omega)) ?_))), by (repeat (first | with_reducible assumption | exact Ints.new (zs := [_, _, _, _, _, _]) (by first | with_reducible rfl | omega | (simp only [zA, zC, zD, zN]; done) | (simp only [zA, zC, zD, zN]; omega)) rfl rfl | exact Ints.new (zs := [_, _, _]) (by first | with_reducible rfl | omega | (simp only [zA, zC, zD, zN]; done) | (simp only [zA, zC, zD, zN]; omega)) rfl rfl | exact Ints.new (zs := [_, _, _, _]) (by first | with_reducible rfl | omega | (simp only [zA, zC, zD, zN]; done) | (simp only [zA, zC, zD, zN]; omega)) rfl rfl | with_reducible apply Ints.alloc | with_reducible apply Ints.drew | (with_reducible refine Ints.set ?_ rfl) | (with_reducible refine Ints.ch (by assumption) (by first | exact (fun h => h) | omega | (simp only [zA, zC, zD, zN]; omega)) ?_))), Rdp.more (Rdp.keep (by assumption) (by (exact kb_))) (by omega), ext_⟩
  case rest =>
    ((repeat (rename Ch _ _ _ => zz; clear zz)); (repeat (rename Rdp _ _ _ => zz; clear zz)); (repeat (rename (∀ (b o : Nat), ¬ ((⟨b, 0, none⟩ : Addr) = ⟨b - _ + _, 0, none⟩) → _) => zz; clear zz)))
    obtain ⟨own, res, rd, hbx⟩ := hcut
    obtain ⟨o0, ho0⟩ := own.at_ (i := 0) (by omega); obtain ⟨o1, ho1⟩ := own.at_ (i := 1) (by omega); obtain ⟨o2, ho2⟩ := own.at_ (i := 2) (by omega); have hof := own.free
    obtain ⟨r0, hr0⟩ := res.at_ (i := 0) (by omega); obtain ⟨r1, hr1⟩ := res.at_ (i := 1) (by omega); obtain ⟨r2, hr2⟩ := res.at_ (i := 2) (by omega); have hrf := res.free
    go_wp2_with fail
    refine bodyPost_ret (v := .agg #[.int .i64 o0, .int .i64 o1, .int .i64 o2]) (by simp [results, Try.results71, go_sem, *]) rfl ?_
    exact ⟨o0, o1, o2, rfl, rd.keep (by (exact kb_)) |>.more (by omega), ext_⟩
theorem Lb.at_ {w : World} {g n : Nat} (h : Lb w g n) {i : Nat} (hi : i < n) : ∃ v, w.cell? ⟨g, i, none⟩ = some v := by
  obtain ⟨cs, T, h1, h2⟩ := h
  exact ⟨cs[i], by simp [World.cell?, h1, h2, hi]⟩
/-- A gate in block g: its head's numbers, and who is done. -/
structure GAt (w : World) (g : Nat) (a b d : Int) (B : Option Addr) (k e : Nat) : Prop where
  lt : g < w.heap.size
  c0 : w.cell? ⟨g, 0, none⟩ = some (.int .i64 a)
  c1 : w.cell? ⟨g, 1, none⟩ = some (.int .i64 b)
  c2 : w.cell? ⟨g, 2, none⟩ = some (.int .i64 d)
  c3 : w.cell? ⟨g, 3, none⟩ = some (.slice B k e)
  free : ∀ i, w.frozen? ⟨g, i, none⟩ = false
theorem l21Gate_c (rb P : Nat) (A : Option Addr) (c m : Nat) (es : List Sw.Ent) (n : Int) (w : World) (hr : Rdp w rb P) (hes : RE w (rb + 1) A c m es) (hP : P ≤ 800000) (hm : m ≤ 900000) (h1 : 1 ≤ n) (h2 : n ≤ 1000000) : Calls Try.prog 67 #[.pointer (some ⟨rb, 0, none⟩), .slice A m c, .int .i64 n] w fun E w' => ∃ a b d B e k ys, E = .returned (.agg #[.int .i64 a, .int .i64 b, .int .i64 d, .slice B k e]) ∧ RI w' w.heap.size B e k ys ∧ k ≤ 9 ∧ Rdp w' rb (P + 40) ∧ Ch (· = rb) w w' := by
  have hlt := hr.lt
  go_enter Try.func67, Try.ntmps67
  go_upto_region 2 with (go_at_call 88; refine (sGatNew_c _).mono ?_; rintro E w1 ⟨rfl, hb⟩; have hst := xr hb; (try simp only [zA, zC, zD, zN] at hst); obtain ⟨hc, hf, hz⟩ := hst)
  (refine wp_name ?_; intro W0 hb0; have hst := xr hb0; (try simp only [zA, zC, zD, zN] at hst); obtain ⟨hc0, hf0, hz0⟩ := hst)
  obtain ⟨g, hgg⟩ : ∃ g, g = w1.heap.size := ⟨_, rfl⟩
  have hG : ∃ a b d, GAt W0 g a b d none 0 0 := ⟨((Sw.hedOf []).getD Sw.headZ).size, ((Sw.hedOf []).getD Sw.headZ).log, ((Sw.hedOf []).getD Sw.headZ).own, by rw [hgg]; exact ⟨sz_, by (go_simp; first | done | simp [*]), by (go_simp; first | done | simp [*]), by (go_simp; first | done | simp [*]), by (go_simp; first | done | simp [*]), fun i => by (go_simp; first | done | simp [*])⟩⟩
  have hR : Lb W0 w.heap.size 4 := (by exact lbc_)
  have HK : RdCh w W0 rb P := ⟨Rdp.keep hr (by (exact kb_)), ext_⟩
  have hg0 : w.heap.size + 1 ≤ g := by rw [hgg]; exact sz_
  rw [← hgg]
  clear hgg hb hc hf hz hb0 hc0 hf0 hz0 hr
  obtain ⟨a0, b0, d0, hG⟩ := hG
  obtain ⟨hr, hb⟩ := HK
  have hgS := hG.lt
  obtain ⟨-, k0, k1, k2, k3, kf⟩ := hG
  go_upto_if 22 with (first | (go_at_call 137; apply Calls.mono; apply pick_c; (apply Rdp.keep; assumption; (exact kb_)); (first | assumption | omega); (first | assumption | omega); rintro E w1 ⟨v, rfl, ⟨hv0, hv1⟩, hrd, hb⟩; have hst := xc hb; (try simp only [zA, zC, zD, zN] at hst); obtain ⟨hc, hf, hz⟩ := hst) | (go_at_call 140; apply Calls.mono; apply sHedAtA_c; ((first | (apply Rs.at0; assumption) | (apply Ow.rs0; assumption) | (apply OwT.rs0; assumption)); exact kf_); rintro E w1 ⟨p, q, r, b, rfl, -, hb⟩; have hst := xr hb; (try simp only [zA, zC, zD, zN] at hst); obtain ⟨hc, hf, hz⟩ := hst))
  go_cut [] (fun wx => ∃ a b d, GAt wx g a b d none 0 0 ∧ Lb wx w.heap.size 4 ∧ Rdp wx rb (P + 1) ∧ Ch (· = rb) w wx)
  case first =>
    go_wp2_with fail
    all_goals go_meet
    all_goals refine ⟨(if b then p else a0), (if b then q else b0), (if b then r else d0), ⟨sz_, by (go_simp; first | done | simp [*]), by (go_simp; first | done | simp [*]), by (go_simp; first | done | simp [*]), by (go_simp; first | done | simp [*]), fun i => by (go_simp; first | done | simp [*])⟩, (by (repeat (first | with_reducible assumption | with_reducible exact Lb.new (by first | rfl | (simp only [zA, zC, zD, zN]; done)) (by with_unfolding_all rfl) | with_reducible apply Lb.alloc | with_reducible apply Lb.set | with_reducible apply Lb.drew | (with_reducible refine Lb.ex ?_ (by assumption)) | (refine Lb.chk (S := fun k => k = rb) (by with_reducible assumption) ?_ (by show ¬ _ = rb; omega))))), Rdp.keep (by assumption) (by (exact kb_)), ext_⟩
  case rest =>
    ((repeat (rename Ch _ _ _ => zz; clear zz)); (repeat (rename Rdp _ _ _ => zz; clear zz)); (repeat (rename (∀ (b o : Nat), ¬ ((⟨b, 0, none⟩ : Addr) = ⟨b - _ + _, 0, none⟩) → _) => zz; clear zz)))
    clear k0 k1 k2 k3 kf hR a0 b0 d0
    obtain ⟨a0, b0, d0, hG, hR, hr, hb⟩ := hcut
    have hzc := hb.size
    go_wp2_with fail
    go_loopw [10] (fun t wr => ∃ (t0 k e : Nat) (a b d : Int) (B : Option Addr) (ys : List Int), t = .int .i64 t0 ∧ t0 ≤ 8 ∧ k ≤ t0 ∧ GAt wr g a b d B k e ∧ OwI wr (g + 1) B e k ys ∧ Lb wr w.heap.size 4 ∧ Rdp wr rb (P + 1 + t0) ∧ Ch (· = rb) w wr) (fun t _ => 8 - (intOf t).toNat)
    case atStart => exact ⟨0, 0, 0, a0, b0, d0, none, [], rfl, by omega, by omega, hG, Ow.nil _ _, hR, hr, hb⟩
    case round =>
      obtain ⟨t0, k, e, a0, b0, d0, B, ys, rfl, ht0, hk, hG, ho, hR, hr, hb⟩ := hrel
      have hst := xc hb
      obtain ⟨hc, hf, hz⟩ := hst
      obtain ⟨hgS, k0, k1, k2, k3, kf⟩ := hG
      have hgr : ¬ g = rb := by omega
      by_cases hlt8 : t0 < 8
      · go_wp2_with (first | (go_at_call 137; apply Calls.mono; apply pick_c; (apply Rdp.keep; assumption; (exact kb_)); (first | assumption | omega); (first | assumption | omega); rintro E w1 ⟨v, rfl, ⟨hv0, hv1⟩, hrd, hb⟩; have hst := xc hb; (try simp only [zA, zC, zD, zN] at hst); obtain ⟨hc, hf, hz⟩ := hst) | (at_builtin; apply wpList_app (lo := g + 1) el_I one_I rfl rfl rfl rfl; (first | assumption | exact Ow.nil _ _ | (apply Ow.keep; assumption; exact kf_) | (refine Ow.new [] (by (first | rfl | (simp only [zA, zC, zD, zN]; done) | omega)) rfl rfl (fun _ => rfl) (by exact sz_) (by omega))); (first | (refine Rs.new [_] (by (first | rfl | (simp only [zA, zC, zD, zN]; done) | omega)) rfl rfl (fun _ => rfl) (by omega))); omega; exact sz_; intro A1 c1 w2 ho1 hch1 hat1 hex1 hlow1; have hb := hex1 (· = rb) w (by exact ext_) (by omega); have hrd := Rdp.low (Rdp.keep (by assumption) (by exact kb_)) hch1.size hlow1 (by omega); have hz := hch1.size; (try simp only [zA, zC, zD, zN] at hz); obtain ⟨hc, hf⟩ := low_rules hlow1; clear hex1))
        · go_roundw
          case rel => exact ⟨t0 + 1, k + 1, c1, a0, b0, d0, A1, _, by go_num, by omega, by omega, ⟨sz_, by (go_simp; first | done | simp [*]), by (go_simp; first | done | simp [*]), by (go_simp; first | done | simp [*]), by (go_simp; first | done | simp [*]), fun i => by (go_simp; first | done | simp [*])⟩, ho1.keep kf_, Lb.set (Lb.low hlow1 (show w.heap.size < g + 1 by omega) (by (repeat (first | with_reducible assumption | with_reducible exact Lb.new (by first | rfl | (simp only [zA, zC, zD, zN]; done)) (by with_unfolding_all rfl) | with_reducible apply Lb.alloc | with_reducible apply Lb.set | with_reducible apply Lb.drew | (with_reducible refine Lb.ex ?_ (by assumption)) | (refine Lb.chk (S := fun k => k = rb) (by with_reducible assumption) ?_ (by show ¬ _ = rb; omega)))))), (Rdp.keep hrd (by (exact kb_))).more (by omega), ext_⟩
          case measure => simp [intOf]; omega
        · go_roundw
          case rel => exact ⟨t0 + 1, k, e, a0, b0, d0, B, ys, by go_num, by omega, by omega, ⟨sz_, by (go_simp; first | done | simp [*]), by (go_simp; first | done | simp [*]), by (go_simp; first | done | simp [*]), by (go_simp; first | done | simp [*]), fun i => by (go_simp; first | done | simp [*])⟩, ho.keep kf_, by (repeat (first | with_reducible assumption | with_reducible exact Lb.new (by first | rfl | (simp only [zA, zC, zD, zN]; done)) (by with_unfolding_all rfl) | with_reducible apply Lb.alloc | with_reducible apply Lb.set | with_reducible apply Lb.drew | (with_reducible refine Lb.ex ?_ (by assumption)) | (refine Lb.chk (S := fun k => k = rb) (by with_reducible assumption) ?_ (by show ¬ _ = rb; omega)))), (Rdp.keep hrd (by (exact kb_))).more (by omega), ext_⟩
          case measure => simp [intOf]; omega
      · obtain ⟨r0, hr0⟩ := hR.at_ (i := 0) (by omega)
        obtain ⟨r1, hr1⟩ := hR.at_ (i := 1) (by omega)
        obtain ⟨r2, hr2⟩ := hR.at_ (i := 2) (by omega)
        obtain ⟨r3, hr3⟩ := hR.at_ (i := 3) (by omega)
        have hrf := hR.rules.2
        go_upto_if 40 with (go_at_call 70; apply Calls.mono; apply odd_c; (apply Rdp.keep; assumption; (exact kb_)); (first | assumption | omega); (first | assumption | omega); (first | assumption | omega); rintro E w1 ⟨b, rfl, hrd, hb⟩; have hst := xc hb; (try simp only [zA, zC, zD, zN] at hst); obtain ⟨hc, hf, hz⟩ := hst)
        cases b
        case false =>
          go_wp2_with fail
          refine bodyPost_ret (v := .agg #[.int .i64 a0, .int .i64 b0, .int .i64 d0, .slice B k e]) (by simp [results, Try.results67, go_sem, *]) rfl ?_
          exact ⟨_, _, _, _, _, _, ys, rfl, ((ho.keep kf_).less (by omega)).rs, by omega, (Rdp.keep hrd (by (exact kb_))).more (by omega), ext_⟩
        case true =>
          go_wp2_with (first | (go_at_call 137; apply Calls.mono; apply pick_c; (apply Rdp.keep; assumption; (exact kb_)); (first | assumption | omega); (first | assumption | omega); rintro E w1 ⟨v, rfl, ⟨hv0, hv1⟩, hrd, hb⟩; have hst := xc hb; (try simp only [zA, zC, zD, zN] at hst); obtain ⟨hc, hf, hz⟩ := hst) | (go_at_call 71; apply Calls.mono; apply l21Head_c; (apply Rdp.keep; assumption; (exact kb_)); (apply Rs.less; (first | (apply Rs.keep; assumption; (exact kf_)) | (apply Rs.keep; apply Ow.rs; assumption; (exact kf_))); (first | omega | (simp only [zA, zC, zD, zN]; omega))); (first | assumption | omega); (first | assumption | omega); (first | assumption | omega); (first | assumption | omega); rintro E w1 ⟨a, b, d, rfl, hrd, hb⟩; have hst := xc hb; (try simp only [zA, zC, zD, zN] at hst); obtain ⟨hc, hf, hz⟩ := hst))
          · refine bodyPost_ret (v := .agg #[.int .i64 a, .int .i64 b, .int .i64 d, .slice B k e]) (by simp [results, Try.results67, go_sem, *]) rfl ?_
            exact ⟨_, _, _, _, _, _, ys, rfl, ((ho.keep kf_).less (by omega)).rs, by omega, (Rdp.keep hrd (by (exact kb_))).more (by omega), ext_⟩
          · (focus (refine wp_name ?_; intro W0 hb0; have hst := xr hb0; (try simp only [zA, zC, zD, zN] at hst); obtain ⟨hc0, hf0, hz0⟩ := hst; refine wp_regionX [8, 9, 10] (S := fun w' => HeldR rb W0 w') hdR (fun hHeld => ?_); refine GoesX.take 0 48 [1, 8, 9, 10] hHeld (h := ?_); refine GoesX.take 1 49 [8, 9, 10] hHeld (h := ?_); refine GoesX.take 3 51 [4, 5, 6, 7, 8, 9, 10] hHeld (h := ?_); refine GoesX.ready (rs := [2, 4]) (by kernel_rfl) (by simp) ?_; refine EachX.cons rfl (fun K hK => ?_) ?_; rotate_left; refine EachX.cons rfl (fun K hK => ?_) EachX.nil; (focus (go_simp; (first | (go_at_call 137; apply Calls.mono; apply (pickN_c (N := 3)); (apply Rdp.keep; assumption; (exact kb_)); omega; rfl; decide; rintro E w5 ⟨v5, rfl, hv5, hrd, hb⟩; have hsel := sel3_cell hv5; have hv5i : (v5 : Int) < 3 := (by omega); (have hst := xc hb; (try simp only [zA, zC, zD, zN] at hst); obtain ⟨hc, hf, hz⟩ := hst)) | (apply step_app (lo := g + 1) el_I one_I rfl rfl rfl rfl; (first | assumption | exact Ow.nil _ _ | (apply Ow.keep; assumption; exact kf_) | (refine Ow.new [] (by (first | rfl | (simp only [zA, zC, zD, zN]; done) | omega)) rfl rfl (fun _ => rfl) (by exact sz_) (by omega))); (first | (refine Rs.new [_] (by (first | rfl | (simp only [zA, zC, zD, zN]; done) | omega)) rfl rfl (fun _ => rfl) (by omega))); omega; exact sz_; intro A1 c1 w2 ho1 hch1 hat1 hex1 hlow1; have hb := hex1 (· = rb) w (by exact ext_) (by omega); have hrd := Rdp.low (Rdp.keep (by assumption) (by exact kb_)) hch1.size hlow1 (by omega); have hz := hch1.size; (try simp only [zA, zC, zD, zN] at hz); obtain ⟨hc, hf⟩ := low_rules hlow1; clear hex1)); (try go_wp2_with fail); refine outS hK hdR (h := fun hH2 => ?_); clear hK K hHeld; have hHeld := hH2; clear hH2; refine GoesX.one 2 (h := fun K hK => ?_); go_simp; refine outS hK hdR (h := fun hH2 => ?_); clear hK K hHeld; have hHeld := hH2; clear hH2; refine GoesX.take 5 53 [6, 7, 8, 9, 10] hHeld (h := ?_); refine GoesX.one 6 (h := fun K hK => ?_); go_simp; refine outS hK hdR (h := fun hH2 => ?_); clear hK K hHeld; have hHeld := hH2; clear hH2; refine GoesX.one 7 (h := fun K hK => ?_); go_simp; refine outS hK hdR (h := fun hH2 => ?_); clear hK K hHeld; have hHeld := hH2; clear hH2; refine GoesX.oneX 8 (h := fun K hK => ?_); (first | (go_at_call 137; apply Calls.mono; apply (pickN_c (N := 3)); (apply Rdp.keep; assumption; (exact kb_)); omega; rfl; decide; rintro E w5 ⟨v5, rfl, hv5, hrd, hb⟩; have hsel := sel3_cell hv5; have hv5i : (v5 : Int) < 3 := (by omega); (have hst := xc hb; (try simp only [zA, zC, zD, zN] at hst); obtain ⟨hc, hf, hz⟩ := hst)) | (apply step_app (lo := g + 1) el_I one_I rfl rfl rfl rfl; (first | assumption | exact Ow.nil _ _ | (apply Ow.keep; assumption; exact kf_) | (refine Ow.new [] (by (first | rfl | (simp only [zA, zC, zD, zN]; done) | omega)) rfl rfl (fun _ => rfl) (by exact sz_) (by omega))); (first | (refine Rs.new [_] (by (first | rfl | (simp only [zA, zC, zD, zN]; done) | omega)) rfl rfl (fun _ => rfl) (by omega))); omega; exact sz_; intro A1 c1 w2 ho1 hch1 hat1 hex1 hlow1; have hb := hex1 (· = rb) w (by exact ext_) (by omega); have hrd := Rdp.low (Rdp.keep (by assumption) (by exact kb_)) hch1.size hlow1 (by omega); have hz := hch1.size; (try simp only [zA, zC, zD, zN] at hz); obtain ⟨hc, hf⟩ := low_rules hlow1; clear hex1)); refine outX hK (h := ?_); clear hK K; refine GoesX.takeX 9 57 (h := ?_); refine GoesX.oneX 10 (h := fun K hK => ?_); go_simp; refine outX hK (h := ?_); clear hK K; refine GoesX.done (by kernel_rfl) ?_ _)); rotate_right 1; (focus (go_simp; refine outS hK hdR (h := fun hH2 => ?_); clear hK K hHeld; have hHeld := hH2; clear hH2; refine GoesX.one 4 (h := fun K hK => ?_); go_simp; (first | (go_at_call 137; apply Calls.mono; apply (pickN_c (N := 3)); (apply Rdp.keep; assumption; (exact kb_)); omega; rfl; decide; rintro E w5 ⟨v5, rfl, hv5, hrd, hb⟩; have hsel := sel3_cell hv5; have hv5i : (v5 : Int) < 3 := (by omega); (have hst := xc hb; (try simp only [zA, zC, zD, zN] at hst); obtain ⟨hc, hf, hz⟩ := hst)) | (apply step_app (lo := g + 1) el_I one_I rfl rfl rfl rfl; (first | assumption | exact Ow.nil _ _ | (apply Ow.keep; assumption; exact kf_) | (refine Ow.new [] (by (first | rfl | (simp only [zA, zC, zD, zN]; done) | omega)) rfl rfl (fun _ => rfl) (by exact sz_) (by omega))); (first | (refine Rs.new [_] (by (first | rfl | (simp only [zA, zC, zD, zN]; done) | omega)) rfl rfl (fun _ => rfl) (by omega))); omega; exact sz_; intro A1 c1 w2 ho1 hch1 hat1 hex1 hlow1; have hb := hex1 (· = rb) w (by exact ext_) (by omega); have hrd := Rdp.low (Rdp.keep (by assumption) (by exact kb_)) hch1.size hlow1 (by omega); have hz := hch1.size; (try simp only [zA, zC, zD, zN] at hz); obtain ⟨hc, hf⟩ := low_rules hlow1; clear hex1)); (try go_wp2_with fail); refine outS hK hdR (h := fun hH2 => ?_); clear hK K hHeld; have hHeld := hH2; clear hH2; refine GoesX.take 5 53 [6, 7, 8, 9, 10] hHeld (h := ?_); refine GoesX.one 6 (h := fun K hK => ?_); go_simp; refine outS hK hdR (h := fun hH2 => ?_); clear hK K hHeld; have hHeld := hH2; clear hH2; refine GoesX.one 7 (h := fun K hK => ?_); go_simp; refine outS hK hdR (h := fun hH2 => ?_); clear hK K hHeld; have hHeld := hH2; clear hH2; refine GoesX.oneX 8 (h := fun K hK => ?_); (first | (go_at_call 137; apply Calls.mono; apply (pickN_c (N := 3)); (apply Rdp.keep; assumption; (exact kb_)); omega; rfl; decide; rintro E w5 ⟨v5, rfl, hv5, hrd, hb⟩; have hsel := sel3_cell hv5; have hv5i : (v5 : Int) < 3 := (by omega); (have hst := xc hb; (try simp only [zA, zC, zD, zN] at hst); obtain ⟨hc, hf, hz⟩ := hst)) | (apply step_app (lo := g + 1) el_I one_I rfl rfl rfl rfl; (first | assumption | exact Ow.nil _ _ | (apply Ow.keep; assumption; exact kf_) | (refine Ow.new [] (by (first | rfl | (simp only [zA, zC, zD, zN]; done) | omega)) rfl rfl (fun _ => rfl) (by exact sz_) (by omega))); (first | (refine Rs.new [_] (by (first | rfl | (simp only [zA, zC, zD, zN]; done) | omega)) rfl rfl (fun _ => rfl) (by omega))); omega; exact sz_; intro A1 c1 w2 ho1 hch1 hat1 hex1 hlow1; have hb := hex1 (· = rb) w (by exact ext_) (by omega); have hrd := Rdp.low (Rdp.keep (by assumption) (by exact kb_)) hch1.size hlow1 (by omega); have hz := hch1.size; (try simp only [zA, zC, zD, zN] at hz); obtain ⟨hc, hf⟩ := low_rules hlow1; clear hex1)); refine outX hK (h := ?_); clear hK K; refine GoesX.takeX 9 57 (h := ?_); refine GoesX.oneX 10 (h := fun K hK => ?_); go_simp; refine outX hK (h := ?_); clear hK K; refine GoesX.done (by kernel_rfl) ?_ _))))
            all_goals go_wp2_with fail
            all_goals refine bodyPost_ret (v := .agg #[.int .i64 a0, .int .i64 b0, .int .i64 d0, .slice A1 (k + 1) c1]) (by simp [results, Try.results67, go_sem, *]) rfl ?_
            all_goals exact ⟨_, _, _, _, _, _, _, rfl, ((ho1.keep kf_).less (by omega)).rs, by omega, (Rdp.keep hrd (by (exact kb_))).more (by omega), ext_⟩
end Go.Proofs.Ytgceeggfdomdjaa

namespace Go.Proofs.Ytgceeggfdomdjaa
set_option maxRecDepth 100000
set_option linter.unusedSimpArgs false
set_option linter.unusedVariables false
open Go.RowKit Go
set_option maxHeartbeats 4000000

theorem sHedOfA_c (A : Option Addr) (c n : Nat) (xs : List Sw.Ent) (w : World) (hxs : RE w 0 A c n xs) : Calls Try.prog 68 #[.slice A n c] w fun E w' => ∃ p q r b, E = .returned (.tuple #[.agg #[.int .i64 p, .int .i64 q, .int .i64 r], .bool b]) ∧ True ∧ Ex w w' := by
  refine (sHedOf_c A c n xs w hxs).mono ?_
  rintro E w' ⟨rfl, hb⟩
  exact ⟨_, _, _, _, rfl, trivial, hb⟩
/-- A head in block g. -/
structure HAt (w : World) (g : Nat) (a b d : Int) : Prop where
  lt : g < w.heap.size
  c0 : w.cell? ⟨g, 0, none⟩ = some (.int .i64 a)
  c1 : w.cell? ⟨g, 1, none⟩ = some (.int .i64 b)
  c2 : w.cell? ⟨g, 2, none⟩ = some (.int .i64 d)
  free : ∀ i, w.frozen? ⟨g, i, none⟩ = false
theorem drawGatSync_c (A0 : Option Addr) (c0 n0 : Nat) (bs : List Int) (w : World) (hxs : RB w 0 A0 c0 n0 bs) (hq : ∀ x ∈ bs, 0 ≤ x ∧ x ≤ 255) : Calls Try.prog 15 #[.slice A0 n0 c0] w fun E w' => ∃ t1 t2 t3 u1 u2 u3 B d m xs D e k ps, E = .returned (.tuple #[.agg #[.int .i64 t1, .int .i64 t2, .int .i64 t3, .slice B m d], .agg #[.int .i64 u1, .int .i64 u2, .int .i64 u3], .slice D k e]) ∧ (RI w' 0 B d m xs ∧ RI w' 0 D e k ps) ∧ Ex w w' := by
  go_enter Try.func15, Try.ntmps15
  go_wp2_with fail
  apply Calls.mono
  apply l20Open_c
  · apply Rs.at0 hxs; (exact kf_)
  · exact hq
  rintro E w1 ⟨rb, rfl, hrd, hrb, hb⟩
  have hst := xr hb; (try simp only [zA, zC, zD, zN] at hst); obtain ⟨hc, hf, hz⟩ := hst
  have hlt := hrd.lt
  have hrb0 : w.heap.size + 2 ≤ rb := sz_
  go_upto_region 4 with (first | (go_at_call 66; apply Calls.mono; apply l20Log_c; (apply Rdp.keep; assumption; (exact kb_)); (first | assumption | omega); (first | assumption | omega); (first | assumption | omega); rintro E w1 ⟨A, c, m, xs, rfl, hes, hm, hrd, hb⟩; have hst := xc hb; (try simp only [zA, zC, zD, zN] at hst); obtain ⟨hc, hf, hz⟩ := hst) | (go_at_call 67; apply Calls.mono; apply l21Gate_c; (apply Rdp.keep; assumption; (exact kb_)); (apply Rs.less; (first | (apply Rs.keep; assumption; (exact kf_)) | (apply Rs.keep; apply Ow.rs; assumption; (exact kf_))); (first | omega | (simp only [zA, zC, zD, zN]; omega))); (first | assumption | omega); (first | assumption | omega); (first | assumption | omega); (first | assumption | omega); rintro E w1 ⟨a, b, d, B, e, k, ys, rfl, hys, hk, hrd, hb⟩; have hst := xc hb; (try simp only [zA, zC, zD, zN] at hst); obtain ⟨hc, hf, hz⟩ := hst))
  obtain ⟨t1, rfl⟩ : ∃ x, x = a := ⟨_, rfl⟩
  obtain ⟨t2, rfl⟩ : ∃ x, x = b := ⟨_, rfl⟩
  obtain ⟨t3, rfl⟩ : ∃ x, x = d := ⟨_, rfl⟩
  (refine wp_name ?_; intro W0 hb0; have hst := xr hb0; (try simp only [zA, zC, zD, zN] at hst); obtain ⟨hc0, hf0, hz0⟩ := hst)
  obtain ⟨gg, hgg⟩ : ∃ g, g = w1.heap.size := ⟨_, rfl⟩
  have hgg0 : rb < gg := by rw [hgg]; exact hrd.lt
  have hG : GAt W0 gg t1 t2 t3 B k e := (by rw [hgg]; exact ⟨sz_, by (go_simp; first | done | simp [*]), by (go_simp; first | done | simp [*]), by (go_simp; first | done | simp [*]), by (go_simp; first | done | simp [*]), fun i => by (go_simp; first | done | simp [*])⟩)
  have hys1 : RI W0 (rb + 1) B e k ys := (hys.keep kf_).less sz_
  have hes1 : RE W0 (rb + 1) A c m xs := (hes.keep kf_).less sz_
  have hR4 : Lb W0 w.heap.size 4 := (by (repeat (first | with_reducible assumption | with_reducible exact Lb.new (by first | rfl | (simp only [zA, zC, zD, zN]; done)) (by with_unfolding_all rfl) | with_reducible apply Lb.alloc | with_reducible apply Lb.set | with_reducible apply Lb.drew | (with_reducible refine Lb.ex ?_ (by assumption)) | (refine Lb.chk (S := fun k => k = rb) (by with_reducible assumption) ?_ (by show ¬ _ = rb; omega)))))
  have hR3 : Lb W0 (w.heap.size + 1) 3 := (by (repeat (first | with_reducible assumption | with_reducible exact Lb.new (by first | rfl | (simp only [zA, zC, zD, zN]; done)) (by with_unfolding_all rfl) | with_reducible apply Lb.alloc | with_reducible apply Lb.set | with_reducible apply Lb.drew | (with_reducible refine Lb.ex ?_ (by assumption)) | (refine Lb.chk (S := fun k => k = rb) (by with_reducible assumption) ?_ (by show ¬ _ = rb; omega)))))
  have HK : RdCh w W0 rb 1000 := ⟨Rdp.more (Rdp.keep hrd kb_) (by omega), ext_⟩
  rw [← hgg]
  clear hgg hrd hb hc hf hz hb0 hc0 hf0 hz0 hes hys
  ((repeat (rename Ch _ _ _ => zz; clear zz)); (repeat (rename Rdp _ _ _ => zz; clear zz)); (repeat (rename (∀ (b o : Nat), ¬ ((⟨b, 0, none⟩ : Addr) = ⟨b - _ + _, 0, none⟩) → _) => zz; clear zz)))
  obtain ⟨hrd, hb⟩ := HK
  obtain ⟨l0, k0, k1, k2, k3, kf⟩ := hG
  go_upto_region 5 with (go_at_call 68; apply Calls.mono; apply sHedOfA_c; ((first | (apply Rs.at0; assumption) | (apply Ow.rs0; assumption) | (apply OwT.rs0; assumption)); exact kf_); rintro E w1 ⟨p, q, r, b, rfl, -, hb⟩; have hst := xr hb; (try simp only [zA, zC, zD, zN] at hst); obtain ⟨hc, hf, hz⟩ := hst)
  have hgz : W0.heap.size ≤ w1.heap.size := sz_
  (refine wp_name ?_; intro W0 hb0; have hst := xr hb0; (try simp only [zA, zC, zD, zN] at hst); obtain ⟨hc0, hf0, hz0⟩ := hst)
  obtain ⟨gh, hgh⟩ : ∃ g, g = w1.heap.size := ⟨_, rfl⟩
  have hgh0 : gg < gh := by rw [hgh]; exact sz_
  have hH : HAt W0 gh p q r := (by rw [hgh]; exact ⟨sz_, by (go_simp; first | done | simp [*]), by (go_simp; first | done | simp [*]), by (go_simp; first | done | simp [*]), fun i => by (go_simp; first | done | simp [*])⟩)
  rw [← hgh] at hgz ⊢
  clear hgh
  obtain ⟨m0, j0, j1, j2, jf⟩ := hH
  go_upto_if 29 with (first | (go_at_call 69; apply Calls.mono; apply sHedProof_c; ((first | (apply Rs.at0; assumption) | (apply Ow.rs0; assumption) | (apply OwT.rs0; assumption)); exact kf_); rintro E w1 ⟨A', c', n', rfl, hop, hb⟩; have hst := xr hb; (try simp only [zA, zC, zD, zN] at hst); obtain ⟨hc, hf, hz⟩ := hst) | (go_at_call 70; apply Calls.mono; apply odd_c; (apply Rdp.keep; assumption; (exact kb_)); (first | assumption | omega); (first | assumption | omega); (first | assumption | omega); rintro E w1 ⟨b, rfl, hrd, hb⟩; have hst := xc hb; (try simp only [zA, zC, zD, zN] at hst); obtain ⟨hc, hf, hz⟩ := hst))
  go_cut [] (fun wx => ∃ u1 u2 u3, HAt wx gh u1 u2 u3 ∧ GAt wx gg t1 t2 t3 B k e ∧ RI wx (rb + 1) B e k ys ∧ OwI wx (rb + 1) A' c' n' (Sw.hedProof xs t1) ∧ Lb wx w.heap.size 4 ∧ Lb wx (w.heap.size + 1) 3 ∧ Rdp wx rb 1100 ∧ Ch (· = rb) w wx)
  case first =>
    go_wp2_with (go_at_call 71; apply Calls.mono; apply l21Head_c; (apply Rdp.keep; assumption; (exact kb_)); (apply Rs.less; (first | (apply Rs.keep; assumption; (exact kf_)) | (apply Rs.keep; apply Ow.rs; assumption; (exact kf_))); (first | omega | (simp only [zA, zC, zD, zN]; omega))); (first | assumption | omega); (first | assumption | omega); (first | assumption | omega); (first | assumption | omega); rintro E w1 ⟨a, b, d, rfl, hrd, hb⟩; have hst := xc hb; (try simp only [zA, zC, zD, zN] at hst); obtain ⟨hc, hf, hz⟩ := hst)
    all_goals go_meet
    · exact ⟨a, b, d, ⟨sz_, by (go_simp; first | done | simp [*]), by (go_simp; first | done | simp [*]), by (go_simp; first | done | simp [*]), fun i => by (go_simp; first | done | simp [*])⟩, ⟨sz_, by (go_simp; first | done | simp [*]), by (go_simp; first | done | simp [*]), by (go_simp; first | done | simp [*]), by (go_simp; first | done | simp [*]), fun i => by (go_simp; first | done | simp [*])⟩, hys1.keep kf_, (hop.keep kf_).less sz_, by (repeat (first | with_reducible assumption | with_reducible exact Lb.new (by first | rfl | (simp only [zA, zC, zD, zN]; done)) (by with_unfolding_all rfl) | with_reducible apply Lb.alloc | with_reducible apply Lb.set | with_reducible apply Lb.drew | (with_reducible refine Lb.ex ?_ (by assumption)) | (refine Lb.chk (S := fun k => k = rb) (by with_reducible assumption) ?_ (by show ¬ _ = rb; omega)))), by (repeat (first | with_reducible assumption | with_reducible exact Lb.new (by first | rfl | (simp only [zA, zC, zD, zN]; done)) (by with_unfolding_all rfl) | with_reducible apply Lb.alloc | with_reducible apply Lb.set | with_reducible apply Lb.drew | (with_reducible refine Lb.ex ?_ (by assumption)) | (refine Lb.chk (S := fun k => k = rb) (by with_reducible assumption) ?_ (by show ¬ _ = rb; omega)))), (Rdp.keep hrd (by (exact kb_))).more (by omega), ext_⟩
    · exact ⟨p, q, r, ⟨sz_, by (go_simp; first | done | simp [*]), by (go_simp; first | done | simp [*]), by (go_simp; first | done | simp [*]), fun i => by (go_simp; first | done | simp [*])⟩, ⟨sz_, by (go_simp; first | done | simp [*]), by (go_simp; first | done | simp [*]), by (go_simp; first | done | simp [*]), by (go_simp; first | done | simp [*]), fun i => by (go_simp; first | done | simp [*])⟩, hys1.keep kf_, (hop.keep kf_).less sz_, by (repeat (first | with_reducible assumption | with_reducible exact Lb.new (by first | rfl | (simp only [zA, zC, zD, zN]; done)) (by with_unfolding_all rfl) | with_reducible apply Lb.alloc | with_reducible apply Lb.set | with_reducible apply Lb.drew | (with_reducible refine Lb.ex ?_ (by assumption)) | (refine Lb.chk (S := fun k => k = rb) (by with_reducible assumption) ?_ (by show ¬ _ = rb; omega)))), by (repeat (first | with_reducible assumption | with_reducible exact Lb.new (by first | rfl | (simp only [zA, zC, zD, zN]; done)) (by with_unfolding_all rfl) | with_reducible apply Lb.alloc | with_reducible apply Lb.set | with_reducible apply Lb.drew | (with_reducible refine Lb.ex ?_ (by assumption)) | (refine Lb.chk (S := fun k => k = rb) (by with_reducible assumption) ?_ (by show ¬ _ = rb; omega)))), (Rdp.keep hrd (by (exact kb_))).more (by omega), ext_⟩
  case rest =>
    clear k0 k1 k2 k3 kf j0 j1 j2 jf hys1 hes1 hR4 hR3 hop
    ((repeat (rename Ch _ _ _ => zz; clear zz)); (repeat (rename Rdp _ _ _ => zz; clear zz)); (repeat (rename (∀ (b o : Nat), ¬ ((⟨b, 0, none⟩ : Addr) = ⟨b - _ + _, 0, none⟩) → _) => zz; clear zz)))
    obtain ⟨u1, u2, u3, ⟨m0, j0, j1, j2, jf⟩, ⟨l0, k0, k1, k2, k3, kf⟩, hys, hop, hR4, hR3, hrd, hb⟩ := hcut
    obtain ⟨r0, hr0⟩ := hR4.at_ (i := 0) (by omega)
    obtain ⟨r1, hr1⟩ := hR4.at_ (i := 1) (by omega)
    obtain ⟨r2, hr2⟩ := hR4.at_ (i := 2) (by omega)
    obtain ⟨r3, hr3⟩ := hR4.at_ (i := 3) (by omega)
    have hrf := hR4.rules.2
    obtain ⟨s0, hs0⟩ := hR3.at_ (i := 0) (by omega)
    obtain ⟨s1, hs1⟩ := hR3.at_ (i := 1) (by omega)
    obtain ⟨s2, hs2⟩ := hR3.at_ (i := 2) (by omega)
    have hsf := hR3.rules.2
    have hpf := hop.rs
    have n1 : ¬ w.heap.size = gg := by omega
    have n2 : ¬ w.heap.size = gh := by omega
    have n3 : ¬ w.heap.size + 1 = gg := by omega
    have n4 : ¬ w.heap.size + 1 = gh := by omega
    have hpd := hop.rs.drop (fun _ => rfl) (k := 1)
    rcases hop.form with ⟨rfl, h0, h00⟩ | ⟨gp, cur, rfl, hlo, hltg, -⟩
    · subst h0 h00
      go_wp2_with (go_at_call 70; apply Calls.mono; apply odd_c; (apply Rdp.keep; assumption; (exact kb_)); (first | assumption | omega); (first | assumption | omega); (first | assumption | omega); rintro E w1 ⟨b, rfl, hrd, hb⟩; have hst := xc hb; (try simp only [zA, zC, zD, zN] at hst); obtain ⟨hc, hf, hz⟩ := hst)
      all_goals (refine wp_name ?_; intro W0 hb0; have hst := xr hb0; (try simp only [zA, zC, zD, zN] at hst); obtain ⟨hc0, hf0, hz0⟩ := hst)
      all_goals go_region_held3 (fun w' => w'.cell? ⟨gg, 0, none⟩ = some (.int .i64 t1) ∧ w'.cell? ⟨gg, 1, none⟩ = some (.int .i64 t2) ∧ w'.cell? ⟨gg, 2, none⟩ = some (.int .i64 t3) ∧ w'.cell? ⟨gg, 3, none⟩ = some (.slice B k e) ∧ w'.cell? ⟨gh, 0, none⟩ = some (.int .i64 u1) ∧ w'.cell? ⟨gh, 1, none⟩ = some (.int .i64 u2) ∧ w'.cell? ⟨gh, 2, none⟩ = some (.int .i64 u3)) (go_keep) (fail)
      all_goals go_wp2_with fail
      all_goals refine bodyPost_ret (v := .tuple #[.agg #[.int .i64 t1, .int .i64 t2, .int .i64 t3, .slice B k e], .agg #[.int .i64 u1, .int .i64 u2, .int .i64 u3], .slice none 0 0]) (by simp [results, Try.results15, go_sem, *]) rfl ?_
      all_goals exact ⟨_, _, _, _, _, _, _, _, _, ys, _, _, _, _, rfl, ⟨(hys.keep kf_).less (Nat.zero_le _), (Rs.keep hpf kf_).less (Nat.zero_le _)⟩, ext_⟩
    · have hpd0 : c' = 1 → n' = 1 → RI wc (rb + 1) (some ⟨gp, 0, none⟩) 0 0 [] := fun h1 h2 => by
        subst h1 h2
        have := Rs.drop hpf (fun _ => rfl) (k := 1) (by omega)
        rw [if_pos rfl, List.drop_of_length_le (by have := hpf.1; omega)] at this
        exact this
      have hpd1 : c' ≠ 1 → 1 ≤ n' → RI wc (rb + 1) (some ⟨gp, 1, none⟩) (c' - 1) (n' - 1) ((Sw.hedProof xs t1).drop 1) := fun h1 h2 => by
        have := Rs.drop hpf (fun _ => rfl) (k := 1) h2
        rw [if_neg h1] at this
        simpa [Addr.add_lit] using this
      have hnc := hpf.2.le
      clear hpd
      go_wp2_with (go_at_call 70; apply Calls.mono; apply odd_c; (apply Rdp.keep; assumption; (exact kb_)); (first | assumption | omega); (first | assumption | omega); (first | assumption | omega); rintro E w1 ⟨b, rfl, hrd, hb⟩; have hst := xc hb; (try simp only [zA, zC, zD, zN] at hst); obtain ⟨hc, hf, hz⟩ := hst)
      all_goals (refine wp_name ?_; intro W0 hb0; have hst := xr hb0; (try simp only [zA, zC, zD, zN] at hst); obtain ⟨hc0, hf0, hz0⟩ := hst)
      all_goals go_region_held3 (fun w' => w'.cell? ⟨gg, 0, none⟩ = some (.int .i64 t1) ∧ w'.cell? ⟨gg, 1, none⟩ = some (.int .i64 t2) ∧ w'.cell? ⟨gg, 2, none⟩ = some (.int .i64 t3) ∧ w'.cell? ⟨gg, 3, none⟩ = some (.slice B k e) ∧ w'.cell? ⟨gh, 0, none⟩ = some (.int .i64 u1) ∧ w'.cell? ⟨gh, 1, none⟩ = some (.int .i64 u2) ∧ w'.cell? ⟨gh, 2, none⟩ = some (.int .i64 u3)) (go_keep) (fail)
      all_goals go_wp2_with fail
      · refine bodyPost_ret (v := .tuple #[.agg #[.int .i64 t1, .int .i64 t2, .int .i64 t3, .slice B k e], .agg #[.int .i64 u1, .int .i64 u2, .int .i64 u3], .slice (some ⟨gp, 0, none⟩) (n' - 1) 0]) (by simp [results, Try.results15, go_sem, *]) rfl ?_
        (obtain rfl : n' = 1 := by omega)
        exact ⟨_, _, _, _, _, _, _, _, _, ys, _, _, _, _, rfl, ⟨(hys.keep kf_).less (Nat.zero_le _), (Rs.keep (hpd0 (by omega) rfl) kf_).less (Nat.zero_le _)⟩, ext_⟩
      · refine bodyPost_ret (v := .tuple #[.agg #[.int .i64 t1, .int .i64 t2, .int .i64 t3, .slice B k e], .agg #[.int .i64 u1, .int .i64 u2, .int .i64 u3], .slice (some ⟨gp, 1, none⟩) (n' - 1) (c' - 1)]) (by simp [results, Try.results15, go_sem, *]) rfl ?_
        exact ⟨_, _, _, _, _, _, _, _, _, ys, _, _, _, _, rfl, ⟨(hys.keep kf_).less (Nat.zero_le _), (Rs.keep (hpd1 (by omega) (by omega)) kf_).less (Nat.zero_le _)⟩, ext_⟩
      · refine bodyPost_ret (v := .tuple #[.agg #[.int .i64 t1, .int .i64 t2, .int .i64 t3, .slice B k e], .agg #[.int .i64 u1, .int .i64 u2, .int .i64 u3], .slice (some ⟨gp, 0, none⟩) n' c']) (by simp [results, Try.results15, go_sem, *]) rfl ?_
        exact ⟨_, _, _, _, _, _, _, _, _, ys, _, _, _, _, rfl, ⟨(hys.keep kf_).less (Nat.zero_le _), (Rs.keep hpf kf_).less (Nat.zero_le _)⟩, ext_⟩
      · refine bodyPost_ret (v := .tuple #[.agg #[.int .i64 t1, .int .i64 t2, .int .i64 t3, .slice B k e], .agg #[.int .i64 u1, .int .i64 u2, .int .i64 u3], .slice (some ⟨gp, 0, none⟩) n' c']) (by simp [results, Try.results15, go_sem, *]) rfl ?_
        exact ⟨_, _, _, _, _, _, _, _, _, ys, _, _, _, _, rfl, ⟨(hys.keep kf_).less (Nat.zero_le _), (Rs.keep hpf kf_).less (Nat.zero_le _)⟩, ext_⟩
end Go.Proofs.Ytgceeggfdomdjaa

namespace Go.Proofs.Ytgceeggfdomdjaa
set_option maxRecDepth 100000
set_option linter.unusedSimpArgs false
set_option linter.unusedVariables false
open Go.RowKit Go
set_option maxHeartbeats 4000000

theorem el_H : ElemOk Try.prog 38 24 3 24 := .mk' (z := .agg #[.int .i64 0, .int .i64 0, .int .i64 0]) Try.underlying38 (by kernel_rfl) rfl (by omega)
theorem one_H (x : Sw.Head) : ∀ u ∈ x.enc, u.oneCell' = true := by simp [Sw.Head.enc, Value.oneCell']
abbrev OwH := Ow Sw.Head.enc 3 24
theorem l21Kept_c (rb P : Nat) (A : Option Addr) (c m : Nat) (es : List Sw.Ent) (n : Int) (w : World) (hr : Rdp w rb P) (hes : RE w (rb + 1) A c m es) (hP : P ≤ 800000) (hm : m ≤ 900000) (h1 : 1 ≤ n) (h2 : n ≤ 1000000) : Calls Try.prog 81 #[.pointer (some ⟨rb, 0, none⟩), .slice A m c, .int .i64 n] w fun E w' => ∃ B e k ys, E = .returned (.slice B k e) ∧ RH w' w.heap.size B e k ys ∧ k ≤ 7 ∧ Rdp w' rb (P + 60) ∧ Ch (· = rb) w w' := by
  have hlt := hr.lt
  go_enter Try.func81, Try.ntmps81
  go_wp2_with fail
  apply Calls.mono; apply pick_c; (apply Rdp.keep; assumption; (exact kb_)); omega; omega
  rintro E w1 ⟨s0, rfl, ⟨hs0, hs1⟩, hrd, hb⟩
  (have hst := xc hb; (try simp only [zA, zC, zD, zN] at hst); obtain ⟨hc, hf, hz⟩ := hst)
  go_wp2_with (go_at_call 137; apply Calls.mono; apply pick_c; (apply Rdp.keep; assumption; (exact kb_)); (first | assumption | omega); (first | assumption | omega); rintro E w1 ⟨v, rfl, ⟨hv0, hv1⟩, hrd, hb⟩; have hst := xc hb; (try simp only [zA, zC, zD, zN] at hst); obtain ⟨hc, hf, hz⟩ := hst)
  go_loopw [7, 8, 9] (fun o s k wr => ∃ (B : Option Addr) (e j : Nat) (ys : List Sw.Head) (sz kk : Int), o = .slice B j e ∧ s = .int .i64 sz ∧ k = .int .i64 kk ∧ 0 ≤ sz ∧ sz ≤ 2 + 4 * j ∧ kk + j ≤ 5 ∧ j ≤ 6 ∧
    Ch (· = rb) w wr ∧ OwH wr w.heap.size B e j ys ∧ Rdp wr rb (P + 2 + 2 * j)) (fun _ _ k _ => (intOf k).toNat)
  case atStart =>
    refine ⟨_, 0, 0, [], s0, v, rfl, rfl, rfl, by omega, by omega, by omega, by omega, ext_, ?_, hrd.more (by omega)⟩
    exact Ow.keep (w := w.alloc (.cells #[] 24)) (Ow.new [] rfl rfl rfl (fun _ => rfl) (Nat.le_refl _) (by omega)) (by (exact kf_))
  case round =>
    obtain ⟨B, e, j, ys, sz, kk, rfl, rfl, rfl, hz0, hz1, hkj, hj, hb, ho, hrd⟩ := hrel
    have hst := xc hb
    obtain ⟨hc, hf, hz⟩ := hst
    rcases (show (0 < kk ∧ sz ≤ m) ∨ ¬ 0 < kk ∨ (0 < kk ∧ ¬ sz ≤ m) by omega) with ⟨hk0, hsm⟩ | hk0 | ⟨hk0, hsm⟩
    · go_wp2_with (first | (go_at_call 140; apply Calls.mono; apply sHedAtA_c; ((first | (apply Rs.at0; assumption) | (apply Ow.rs0; assumption) | (apply OwT.rs0; assumption)); exact kf_); rintro E w1 ⟨p, q, r, b, rfl, -, hb⟩; have hst := xr hb; (try simp only [zA, zC, zD, zN] at hst); obtain ⟨hc, hf, hz⟩ := hst) | (go_at_call 137; apply Calls.mono; apply pick_c; (apply Rdp.keep; assumption; (exact kb_)); (first | assumption | omega); (first | assumption | omega); rintro E w1 ⟨v, rfl, ⟨hv0, hv1⟩, hrd, hb⟩; have hst := xc hb; (try simp only [zA, zC, zD, zN] at hst); obtain ⟨hc, hf, hz⟩ := hst) | (at_builtin; apply wpList_app (lo := w.heap.size) el_H one_H rfl rfl rfl rfl; (first | assumption | exact Ow.nil _ _ | (apply Ow.keep; assumption; exact kf_) | (refine Ow.new [] (by (first | rfl | (simp only [zA, zC, zD, zN]; done) | omega)) rfl rfl (fun _ => rfl) (by exact sz_) (by omega))); (first | (refine Rs.new [⟨_, _, _⟩] (by (first | rfl | (simp only [zA, zC, zD, zN]; done) | omega)) rfl rfl (fun _ => rfl) (by omega))); omega; exact sz_; intro A1 c1 w2 ho1 hch1 hat1 hex1 hlow1; have hb := hex1 (· = rb) w (by exact ext_) (by omega); have hrd := Rdp.low (Rdp.keep (by assumption) (by exact kb_)) hch1.size hlow1 (by omega); have hz := hch1.size; (try simp only [zA, zC, zD, zN] at hz); obtain ⟨hc, hf⟩ := low_rules hlow1; clear hex1) | fail)
      · go_roundw
        case rel => exact ⟨A1, c1, j + 1, _, sz + 1 + v, kk - 1, rfl, rfl, rfl, by omega, by omega, by omega, by omega, ext_, ho1.keep kf_, (Rdp.keep hrd (by (exact kb_))).more (by omega)⟩
        case measure => simp [intOf]; omega
      · go_roundw
        case rel => exact ⟨A1, c1, j + 1, _, sz + 1 + v, kk - 1, rfl, rfl, rfl, by omega, by omega, by omega, by omega, ext_, ho1.keep kf_, (Rdp.keep hrd (by (exact kb_))).more (by omega)⟩
        case measure => simp [intOf]; omega
    all_goals
      go_wp2_with (first | (go_at_call 70; apply Calls.mono; apply odd_c; (apply Rdp.keep; assumption; (exact kb_)); (first | assumption | omega); (first | assumption | omega); (first | assumption | omega); rintro E w1 ⟨b, rfl, hrd, hb⟩; have hst := xc hb; (try simp only [zA, zC, zD, zN] at hst); obtain ⟨hc, hf, hz⟩ := hst) | (go_at_call 71; apply Calls.mono; apply l21Head_c; (apply Rdp.keep; assumption; (exact kb_)); (apply Rs.less; (first | (apply Rs.keep; assumption; (exact kf_)) | (apply Rs.keep; apply Ow.rs; assumption; (exact kf_))); (first | omega | (simp only [zA, zC, zD, zN]; omega))); (first | assumption | omega); (first | assumption | omega); (first | assumption | omega); (first | assumption | omega); rintro E w1 ⟨a, b, d, rfl, hrd, hb⟩; have hst := xc hb; (try simp only [zA, zC, zD, zN] at hst); obtain ⟨hc, hf, hz⟩ := hst) | (at_builtin; apply wpList_app (lo := w.heap.size) el_H one_H rfl rfl rfl rfl; (first | assumption | exact Ow.nil _ _ | (apply Ow.keep; assumption; exact kf_) | (refine Ow.new [] (by (first | rfl | (simp only [zA, zC, zD, zN]; done) | omega)) rfl rfl (fun _ => rfl) (by exact sz_) (by omega))); (first | (refine Rs.new [⟨_, _, _⟩] (by (first | rfl | (simp only [zA, zC, zD, zN]; done) | omega)) rfl rfl (fun _ => rfl) (by omega))); omega; exact sz_; intro A1 c1 w2 ho1 hch1 hat1 hex1 hlow1; have hb := hex1 (· = rb) w (by exact ext_) (by omega); have hrd := Rdp.low (Rdp.keep (by assumption) (by exact kb_)) hch1.size hlow1 (by omega); have hz := hch1.size; (try simp only [zA, zC, zD, zN] at hz); obtain ⟨hc, hf⟩ := low_rules hlow1; clear hex1) | fail)
      all_goals go_ret
      · exact ⟨_, _, _, _, rfl, ho1.rs, by omega, (Rdp.keep hrd (by (exact kb_))).more (by omega), ext_⟩
      · exact ⟨_, _, _, _, rfl, (ho.keep kf_).rs, by omega, (Rdp.keep hrd (by (exact kb_))).more (by omega), ext_⟩

theorem drawWatMeet_c (A0 : Option Addr) (c0 n0 : Nat) (bs : List Int) (w : World) (hxs : RB w 0 A0 c0 n0 bs) (hq : ∀ x ∈ bs, 0 ≤ x ∧ x ≤ 255) : Calls Try.prog 24 #[.slice A0 n0 c0] w fun E w' => ∃ B e k ys D f l zs, E = .returned (.tuple #[.slice B k e, .slice D l f]) ∧ ((RH w' 0 B e k ys ∧ k ≤ 7) ∧ RH w' 0 D f l zs ∧ l ≤ 7) ∧ Ex w w' := by
  go_enter Try.func24, Try.ntmps24
  go_wp2_with fail
  apply Calls.mono
  apply l20Open_c
  · apply Rs.at0 hxs; (exact kf_)
  · exact hq
  rintro E w1 ⟨rb, rfl, hrd, hrb, hb⟩
  have hst := xr hb; (try simp only [zA, zC, zD, zN] at hst); obtain ⟨hc, hf, hz⟩ := hst
  have hlt := hrd.lt
  go_upto_region 3 with (go_at_call 66; apply Calls.mono; apply l20Log_c; (apply Rdp.keep; assumption; (exact kb_)); (first | assumption | omega); (first | assumption | omega); (first | assumption | omega); rintro E w1 ⟨A, c, m, xs, rfl, hes, hm, hrd, hb⟩; have hst := xc hb; (try simp only [zA, zC, zD, zN] at hst); obtain ⟨hc, hf, hz⟩ := hst)
  obtain ⟨A1, c1, m1, xs1, hes1, rfl, rfl, rfl, rfl⟩ : ∃ A1 c1 m1 xs1, RE w1 (rb + 1) A1 c1 m1 xs1 ∧ A1 = A ∧ c1 = c ∧ m1 = m ∧ xs1 = xs := ⟨_, _, _, _, hes.less (by omega), rfl, rfl, rfl, rfl⟩
  clear hes
  go_wp2_with fail
  apply Calls.mono; apply l21Kept_c; (apply Rdp.keep; assumption; (exact kb_)); (exact hes1.keep kf_); omega; omega; omega; omega
  rintro E w2 ⟨B, e, k, ys, rfl, hk1, hk2, hrd, hb⟩
  (have hst := xc hb; (try simp only [zA, zC, zD, zN] at hst); obtain ⟨hc, hf, hz⟩ := hst)
  go_wp2_with fail
  apply Calls.mono; apply l21Kept_c; (apply Rdp.keep; assumption; (exact kb_)); (exact hes1.keep kf_); omega; omega; omega; omega
  rintro E w3 ⟨D, f, l, zs, rfl, hl1, hl2, hrd, hb⟩
  (have hst := xc hb; (try simp only [zA, zC, zD, zN] at hst); obtain ⟨hc, hf, hz⟩ := hst)
  go_wp2_with fail
  refine bodyPost_ret (v := .tuple #[.slice B k e, .slice D l f]) (by simp [results, Try.results24, go_sem, *]) rfl ?_
  exact ⟨_, _, _, _, _, _, _, _, rfl, ⟨⟨(hk1.keep kf_).less (Nat.zero_le _), hk2⟩, (hl1.keep kf_).less (Nat.zero_le _), hl2⟩, ext_⟩
theorem drawWatAll_c (A0 : Option Addr) (c0 n0 : Nat) (bs : List Int) (w : World) (hxs : RB w 0 A0 c0 n0 bs) (hq : ∀ x ∈ bs, 0 ≤ x ∧ x ≤ 255) : Calls Try.prog 29 #[.slice A0 n0 c0] w fun E w' => ∃ B e k ys D f l zs, E = .returned (.tuple #[.slice B k e, .slice D l f]) ∧ ((RH w' 0 B e k ys ∧ k ≤ 7) ∧ RE w' 0 D f l zs ∧ l ≤ 41) ∧ Ex w w' := by
  go_enter Try.func29, Try.ntmps29
  go_wp2_with fail
  apply Calls.mono
  apply l20Open_c
  · apply Rs.at0 hxs; (exact kf_)
  · exact hq
  rintro E w1 ⟨rb, rfl, hrd, hrb, hb⟩
  have hst := xr hb; (try simp only [zA, zC, zD, zN] at hst); obtain ⟨hc, hf, hz⟩ := hst
  have hlt := hrd.lt
  go_upto_region 3 with (go_at_call 66; apply Calls.mono; apply l20Log_c; (apply Rdp.keep; assumption; (exact kb_)); (first | assumption | omega); (first | assumption | omega); (first | assumption | omega); rintro E w1 ⟨A, c, m, xs, rfl, hes, hm, hrd, hb⟩; have hst := xc hb; (try simp only [zA, zC, zD, zN] at hst); obtain ⟨hc, hf, hz⟩ := hst)
  obtain ⟨A1, c1, m1, xs1, hes1, rfl, rfl, rfl, rfl⟩ : ∃ A1 c1 m1 xs1, RE w1 (rb + 1) A1 c1 m1 xs1 ∧ A1 = A ∧ c1 = c ∧ m1 = m ∧ xs1 = xs := ⟨_, _, _, _, hes.less (by omega), rfl, rfl, rfl, rfl⟩
  clear hes
  go_wp2_with fail
  apply Calls.mono; apply l21Kept_c; (apply Rdp.keep; assumption; (exact kb_)); (exact hes1.keep kf_); omega; omega; omega; omega
  rintro E w2 ⟨B, e, k, ys, rfl, hk1, hk2, hrd, hb⟩
  (have hst := xc hb; (try simp only [zA, zC, zD, zN] at hst); obtain ⟨hc, hf, hz⟩ := hst)
  go_wp2_with (first | (go_at_call 70; apply Calls.mono; apply odd_c; (apply Rdp.keep; assumption; (exact kb_)); (first | assumption | omega); (first | assumption | omega); (first | assumption | omega); rintro E w1 ⟨b, rfl, hrd, hb⟩; have hst := xc hb; (try simp only [zA, zC, zD, zN] at hst); obtain ⟨hc, hf, hz⟩ := hst) | (go_at_call 66; apply Calls.mono; apply l20Log_c; (apply Rdp.keep; assumption; (exact kb_)); (first | assumption | omega); (first | assumption | omega); (first | assumption | omega); rintro E w1 ⟨A, c, m, xs, rfl, hes2, hm2, hrd, hb⟩; have hst := xc hb; (try simp only [zA, zC, zD, zN] at hst); obtain ⟨hc, hf, hz⟩ := hst) | fail)
  · refine bodyPost_ret (v := .tuple #[.slice B k e, .slice A m c]) (by simp [results, Try.results29, go_sem, *]) rfl ?_
    exact ⟨_, _, _, _, _, _, _, _, rfl, ⟨⟨(hk1.keep kf_).less (Nat.zero_le _), hk2⟩, (hes2.keep kf_).less (Nat.zero_le _), hm2⟩, ext_⟩
  · refine bodyPost_ret (v := .tuple #[.slice B k e, .slice A1 m1 c1]) (by simp [results, Try.results29, go_sem, *]) rfl ?_
    exact ⟨_, _, _, _, _, _, _, _, rfl, ⟨⟨(hk1.keep kf_).less (Nat.zero_le _), hk2⟩, (hes1.keep kf_).less (Nat.zero_le _), hm⟩, ext_⟩
end Go.Proofs.Ytgceeggfdomdjaa

namespace Go.Proofs.Ytgceeggfdomdjaa
set_option maxRecDepth 100000
set_option linter.unusedSimpArgs false
set_option linter.unusedVariables false
open Go.RowKit Go
set_option maxHeartbeats 400000

/-- Where the first one stands that is no leaf; -1 if there is none. -/
def badAt (xs : List Int) : Int := match xs.findIdx? (fun x => !Sw.mixOk x) with
  | some i => i
  | none => -1
theorem badAt_iff (xs : List Int) : decide (0 ≤ badAt xs) = !xs.all Sw.mixOk := by
  unfold badAt
  cases h : xs.findIdx? (fun x => !Sw.mixOk x) with
  | none =>
    rw [List.findIdx?_eq_none_iff] at h
    have : xs.all Sw.mixOk = true := by
      rw [List.all_eq_true]
      intro x hx
      have := h x hx
      simpa using this
    rw [this]; rfl
  | some i =>
    have : xs.all Sw.mixOk = false := by
      rw [List.findIdx?_eq_some_iff_getElem] at h
      obtain ⟨h1, h2, _⟩ := h
      rw [List.all_eq_false]
      exact ⟨xs[i], List.getElem_mem h1, by simpa using h2⟩
    rw [this]
    simp
theorem badAt_here {xs : List Int} {k : Nat} {y : Int} (hy : xs[k]? = some y) (h : ∀ j, j < k → ∀ z, xs[j]? = some z → Sw.mixOk z = true) (hm : Sw.mixOk y = false) : badAt xs = k := by
  unfold badAt
  have hk := (List.getElem?_eq_some_iff.1 hy)
  obtain ⟨hk, rfl⟩ := hk
  have : xs.findIdx? (fun x => !Sw.mixOk x) = some k := by
    rw [List.findIdx?_eq_some_iff_getElem]
    refine ⟨hk, by simp [hm], fun j hj => ?_⟩
    have := h j hj xs[j] (by simp)
    simp [this]
  rw [this]
theorem badAt_none {xs : List Int} {k : Nat} (hk : xs.length ≤ k) (h : ∀ j, j < k → ∀ z, xs[j]? = some z → Sw.mixOk z = true) : badAt xs = -1 := by
  unfold badAt
  have : xs.findIdx? (fun x => !Sw.mixOk x) = none := by
    rw [List.findIdx?_eq_none_iff]
    intro x hx
    obtain ⟨i, hi, rfl⟩ := List.getElem_of_mem hx
    have := h i (by omega) xs[i] (by simp)
    simp [this]
  rw [this]

theorem iBad_c (x : Int) (w : World) : Calls Try.prog 153 #[.int .i64 x] w fun E w' => E = .returned (.bool (!Sw.mixOk x)) ∧ w = w' := by
  go_enter Try.func153, Try.ntmps153
  go_wp2_with (first | (go_at_call 79; refine (iMixOk_c _ _).mono ?_; rintro E w' ⟨rfl, rfl⟩))
  go_ret
  exact ⟨ret_b rfl, rfl⟩

theorem iBadAt_c (A : Option Addr) (c n : Nat) (xs : List Int) (w : World) (hxs : RI w 0 A c n xs) : Calls Try.prog 168 #[.slice A n c, .func (.func 153) #[] #[]] w fun E w' => E = .returned (.int .i64 (badAt xs)) ∧ w = w' := by
  have hl := Lib.hid hxs.1
  have hm : n ≤ 9223372036854775807 := by have := hxs.2.le; have := hxs.2.cap; unfold maxLen at this; omega
  go_enter Try.func168, Try.ntmps168
  go_wp2
  go_loop [8] (fun i => ∃ k : Nat, k ≤ n ∧ i = .int .i64 k ∧ ∀ j, j < k → ∀ z, xs[j]? = some z → Sw.mixOk z = true) (fun i => n - (intOf i).toNat)
  case atStart => exact ⟨0, Nat.zero_le _, rfl, by omega⟩
  case round =>
    obtain ⟨k, hk, rfl, hrel⟩ := hrel
    have Hrel := Lib.hid hrel; clear hrel
    by_cases hlt : k < n
    · obtain ⟨g, off, y, rfl, hg0, hg, hd, hy, hc⟩ := at_I hxs hlt
      have Hy := Lib.hid hy; clear hd hy
      cases hmx : Sw.mixOk y
      · go_wp2_with (first | (go_at_call 153; refine (iBad_c _ _).mono ?_; rintro E w' ⟨rfl, rfl⟩))
        go_ret
        refine ⟨ret_i ?_, rfl⟩
        exact (badAt_here Hy.out Hrel.out hmx).symm
      · go_wp2_with (first | (go_at_call 153; refine (iBad_c _ _).mono ?_; rintro E w' ⟨rfl, rfl⟩))
        go_round
        case rel =>
          refine ⟨k + 1, by omega, by go_num, ?_⟩
          intro j hj z hz
          rcases Nat.lt_succ_iff_lt_or_eq.1 hj with hj' | rfl
          · exact Hrel.out j hj' z hz
          · rw [Hy.out] at hz; cases hz; exact hmx
        case measure => simp [intOf]; omega
    · go_wp2
      go_ret
      refine ⟨ret_i ?_, rfl⟩
      exact (badAt_none (by have := hl.out; omega) Hrel.out).symm

theorem iHasBad_c (A : Option Addr) (c n : Nat) (xs : List Int) (w : World) (hxs : RI w 0 A c n xs) : Calls Try.prog 130 #[.slice A n c, .func (.func 153) #[] #[]] w fun E w' => E = .returned (.bool (!xs.all Sw.mixOk)) ∧ w = w' := by
  have Hb := Lib.hid (badAt_iff xs)
  go_enter Try.func130, Try.ntmps130
  go_wp2_with (first | (go_at_call 168; apply Calls.mono; apply iBadAt_c; ((first | (apply Rs.at0; assumption) | (apply Ow.rs0; assumption)); exact kf_); rintro E w' ⟨rfl, rfl⟩))
  go_ret
  exact ⟨ret_b Hb.out, rfl⟩

theorem iTreOk_c (A : Option Addr) (c n : Nat) (xs : List Int) (w : World) (hxs : RI w 0 A c n xs) : Calls Try.prog 97 #[.slice A n c] w fun E w' => E = .returned (.bool (Sw.treOk xs)) ∧ w = w' := by
  have hl := Lib.hid hxs.1
  have hm : n ≤ 9223372036854775807 := by have := hxs.2.le; have := hxs.2.cap; unfold maxLen at this; omega
  have e : Sw.treOk xs = (decide (n ≤ 40) && xs.all Sw.mixOk) := by rw [Sw.treOk, ← hl.out]
  have He := Lib.hid e; clear e
  by_cases hn : n ≤ 40
  · go_enter Try.func97, Try.ntmps97
    go_wp2_with (first | (go_at_call 130; apply Calls.mono; apply iHasBad_c; ((first | (apply Rs.at0; assumption) | (apply Ow.rs0; assumption)); exact kf_); rintro E w' ⟨rfl, rfl⟩))
    go_ret
    exact ⟨ret_b (by rw [He.out]; simp [hn]), rfl⟩
  · go_enter Try.func97, Try.ntmps97
    go_wp2_with (first | (go_at_call 130; apply Calls.mono; apply iHasBad_c; ((first | (apply Rs.at0; assumption) | (apply Ow.rs0; assumption)); exact kf_); rintro E w' ⟨rfl, rfl⟩))
    go_ret
    exact ⟨ret_b (by rw [He.out]; simp [hn]), rfl⟩
end Go.Proofs.Ytgceeggfdomdjaa

namespace Go.Proofs.Ytgceeggfdomdjaa
set_option maxRecDepth 100000
set_option linter.unusedSimpArgs false
set_option linter.unusedVariables false
open Go.RowKit Go
set_option maxHeartbeats 400000

theorem iGrown_c (N : Nat) (A : Option Addr) (c n m k : Nat) (old : Int) (kn : Bool) (xs : List Int) (w : World) (hN : n ≤ N) (hxs : RI w 0 A c n xs) (h40 : n ≤ 40) (hall : xs.all Sw.mixOk = true) (hold : Sw.mixOk old = true) (hm : 1 ≤ m) (hmk : m ≤ k) (hk40 : k ≤ 40) : Calls Try.prog 148 #[.int .i64 m, .int .i64 k, .int .i64 old, .slice A n c, .bool kn] w fun E w' => ∃ a b, E = .returned (.tuple #[.agg #[.int .i64 a, .int .i64 b], .bool (Sw.grR m k old xs.reverse kn).isSome]) ∧ (∀ r, Sw.grR m k old xs.reverse kn = some r → r = (a, b)) ∧ Sw.mixOk a = true ∧ Sw.mixOk b = true ∧ Ex w w' := by
  induction N generalizing A c n m k kn xs w with
  | zero =>
    have hl := hxs.1
    obtain rfl : n = 0 := by omega
    have hx : xs = [] := List.eq_nil_of_length_eq_zero (by omega)
    subst hx
    clear hl
    by_cases hmk' : m = k
    · subst hmk'
      cases kn with
      | true =>
        go_enter Try.func148, Try.ntmps148
        go_wp2_with fail
        refine bodyPost_ret (v := .tuple #[.agg #[.int .i64 old, .int .i64 old], .bool true]) (by simp [results, Try.results148, go_sem, *]) rfl ?_
        exact ⟨old, old, by simp [Sw.grR], by simp [Sw.grR], hold, hold, ext_⟩
      | false =>
        go_enter Try.func148, Try.ntmps148
        go_wp2_with fail
        refine bodyPost_ret (v := .tuple #[.agg #[.int .i64 0, .int .i64 0], .bool false]) (by simp [results, Try.results148, go_sem, *]) rfl ?_
        exact ⟨0, 0, by simp [Sw.grR], by simp [Sw.grR], rfl, rfl, ext_⟩
    · have hb : ((m : Int) == k) = false := by simp; omega
      go_enter Try.func148, Try.ntmps148
      go_wp2_with fail
      refine bodyPost_ret (v := .tuple #[.agg #[.int .i64 0, .int .i64 0], .bool false]) (by simp [results, Try.results148, go_sem, *]) rfl ?_
      exact ⟨0, 0, by simp [Sw.grR, hmk'], by simp [Sw.grR, hmk'], rfl, rfl, ext_⟩
  | succ N ih =>
    have hl := Lib.hid hxs.1
    have hcap := hxs.2.le
    by_cases h0 : n = 0
    · subst h0
      have hx : xs = [] := List.eq_nil_of_length_eq_zero (by have := hl.out; omega)
      subst hx
      exact ih _ c 0 m k kn [] w (by omega) hxs (by omega) hall hm hmk hk40
    · obtain ⟨p, rfl⟩ : ∃ p, n = p + 1 := ⟨n - 1, by omega⟩
      obtain ⟨g, off, y, rfl, hg0, hg, hd, hy, hc⟩ := at_I hxs (show p < p + 1 by omega)
      have hrev := rev_snoc (by have := hl.out; omega) hy
      have hyok : Sw.mixOk y = true := List.all_eq_true.1 hall y (List.mem_of_getElem? hy)
      rw [hrev]
      have Hy := Lib.hid hy
      clear hd hy hrev
      have w1 : IntKind.i64.wrap ((p : Int) + 1 - 1) = p := by rw [IntWalk.i64_in _ (by omega)]; omega
      have tp : (p : Int) < (p : Int) + 1 := by omega
      by_cases hmk' : m = k
      · subst hmk'
        cases kn with
        | true =>
          have hb1 : decide ((p : Int) < 0) = false := by simp
          go_enter Try.func148, Try.ntmps148
          go_wp2_with fail
          refine bodyPost_ret (v := .tuple #[.agg #[.int .i64 old, .int .i64 old], .bool false]) (by simp [results, Try.results148, go_sem, *]) rfl ?_
          exact ⟨old, old, by simp [Sw.grR], by simp [Sw.grR], hold, hold, ext_⟩
        | false =>
          have hb1 : decide ((p : Int) < 0) = false := by simp
          obtain ⟨g', off', z, hA', hg0', hg', _, hz', hc'⟩ := at_I hxs (show 0 < p + 1 by omega)
          cases hA'
          simp only [Nat.add_zero] at hc'
          have hzok : Sw.mixOk z = true := List.all_eq_true.1 hall z (List.mem_of_getElem? hz')
          have Hz := Lib.hid hz'; clear hz'
          have t0 : (0 : Int) < (p : Int) + 1 := by omega
          go_enter Try.func148, Try.ntmps148
          go_wp2_with fail
          (refine wp_name ?_; intro W0 hb0; have hst := xr hb0; (try simp only [zA, zC, zD, zN] at hst); obtain ⟨hc0, hf0, hz0⟩ := hst; have hLb : Lb W0 (w.heap.size) 2 := Lb.ex (by exact lbc_) hb0; go_region_held3 (fun w' => HeldB (w.heap.size) 2 W0 w') ((first | with_reducible assumption | with_reducible exact HeldB.start hLb | with_reducible exact HeldB.of (by assumption) (by assumption) | ((repeat (first | with_reducible refine HeldB.set ?_ (by first | exact Or.inl rfl | exact Or.inr (by simp only [zA, zC, zD, zN]; omega) | exact Or.inr (by omega)) | with_reducible refine HeldB.alloc ?_ _ | with_reducible refine HeldB.drew ?_)); (first | with_reducible assumption | with_reducible exact HeldB.refl hLb | with_reducible exact HeldB.of (by assumption) (by assumption) | with_reducible exact HeldB.ex (by assumption) (by assumption))))) (fail); all_goals (rename HeldB (w.heap.size) 2 W0 _ => hHx; have hb := HeldB.ch hHx; have hst := xc hb; (try simp only [zA, zC, zD, zN] at hst); obtain ⟨hc, hf, hz⟩ := hst; have hLb3 := HeldB.lb hHx; (repeat (first | with_reducible replace hLb3 := Lb.unset hLb3 | with_reducible replace hLb3 := Lb.undrew hLb3)); obtain ⟨hcb, hfb⟩ := Lb.rules hLb3; clear hHx))
          go_wp2_with fail
          refine bodyPost_ret (v := .tuple #[.agg #[.int .i64 z, .int .i64 z], .bool ((p : Int) == 0)]) (by simp [results, Try.results148, go_sem, *]) rfl ?_
          have e : Sw.grR m m old (y :: (xs.take p).reverse) false = if p = 0 then some (y, y) else none := by
            rw [Sw.grR, if_pos rfl]
            simp only [Bool.false_eq_true, if_false, List.reverse_eq_nil_iff, List.take_eq_nil_iff]
            by_cases hp : p = 0
            · simp [hp]
            · have : xs ≠ [] := by rintro rfl; have := hl.out; simp at this
              simp [hp, this]
          rw [e]
          by_cases hp : p = 0
          · subst hp
            have : z = y := by have h1 := Hy.out; have h2 := Hz.out; rw [h1] at h2; exact (Option.some.inj h2).symm
            subst this
            exact ⟨z, z, by simp, by simp, hzok, hzok, ext_⟩
          · exact ⟨z, z, by simp [hp], by simp [hp], hzok, hzok, ext_⟩
      · have h2 : 2 ≤ k := by omega
        have hs1 := Sw.split_lt h2
        have hs0 := Sw.split_pos k
        have hb : ((m : Int) == k) = false := by simp; omega
        have hb1 : decide ((p : Int) < 0) = false := by simp
        by_cases hms : m ≤ Sw.split k
        · go_enter Try.func148, Try.ntmps148
          go_wp2_with (first | (go_at_call 181; apply Calls.mono; apply iSplit_c; (first | assumption | omega); (first | assumption | omega); rintro E w' ⟨rfl, rfl⟩) | (go_at_call 148; apply Calls.mono; apply ih; omega; (apply Rs.at0; apply RI_take hxs; omega; (exact kf_)); omega; exact List.all_take hall; omega; omega; omega; rintro E w1 ⟨a, b, rfl, hr, ha, hb', hb⟩; have hst := xr hb; (try simp only [zA, zC, zD, zN] at hst); obtain ⟨hc, hf, hz⟩ := hst))
          (refine wp_name ?_; intro W0 hb0; have hst := xr hb0; (try simp only [zA, zC, zD, zN] at hst); obtain ⟨hc0, hf0, hz0⟩ := hst; have hLb : Lb W0 (w.heap.size) 2 := Lb.ex (by exact lbc_) hb0; go_region_held3 (fun w' => HeldB (w.heap.size) 2 W0 w') ((first | with_reducible assumption | with_reducible exact HeldB.start hLb | with_reducible exact HeldB.of (by assumption) (by assumption) | ((repeat (first | with_reducible refine HeldB.set ?_ (by first | exact Or.inl rfl | exact Or.inr (by simp only [zA, zC, zD, zN]; omega) | exact Or.inr (by omega)) | with_reducible refine HeldB.alloc ?_ _ | with_reducible refine HeldB.drew ?_)); (first | with_reducible assumption | with_reducible exact HeldB.refl hLb | with_reducible exact HeldB.of (by assumption) (by assumption) | with_reducible exact HeldB.ex (by assumption) (by assumption))))) ((go_at_call 182; apply Calls.mono; apply pair_c; (first | assumption | omega); (first | assumption | omega); rintro E w' ⟨rfl, rfl⟩)); all_goals (rename HeldB (w.heap.size) 2 W0 _ => hHx; have hb := HeldB.ch hHx; have hst := xc hb; (try simp only [zA, zC, zD, zN] at hst); obtain ⟨hc, hf, hz⟩ := hst; have hLb3 := HeldB.lb hHx; (repeat (first | with_reducible replace hLb3 := Lb.unset hLb3 | with_reducible replace hLb3 := Lb.undrew hLb3)); obtain ⟨hcb, hfb⟩ := Lb.rules hLb3; clear hHx))
          go_wp2_with fail
          refine bodyPost_ret (v := .tuple #[.agg #[.int .i64 a, .int .i64 (Sw.pair b y)], .bool (Sw.grR m (Sw.split k) old (xs.take p).reverse kn).isSome]) (by simp [results, Try.results148, go_sem, *]) rfl ?_
          refine ⟨a, Sw.pair b y, ?_, ?_, ha, pair_ok _ _, ext_⟩
          · rw [Sw.grR, if_neg hmk', if_pos hms, Option.isSome_map]
          · intro r hr'
            rw [Sw.grR, if_neg hmk', if_pos hms, Option.map_eq_some_iff] at hr'
            obtain ⟨q, hq, rfl⟩ := hr'
            rw [hr q hq]
        · have y0 : IntKind.i64.wrap ((m : Int) - ↑(Sw.split k)) = ((m - Sw.split k : Nat) : Int) := by rw [IntWalk.i64_in _ (by omega)]; omega
          have y1 : IntKind.i64.wrap ((k : Int) - ↑(Sw.split k)) = ((k - Sw.split k : Nat) : Int) := by rw [IntWalk.i64_in _ (by omega)]; omega
          go_enter Try.func148, Try.ntmps148
          go_wp2_with (first | (go_at_call 181; apply Calls.mono; apply iSplit_c; (first | assumption | omega); (first | assumption | omega); rintro E w' ⟨rfl, rfl⟩) | (go_at_call 148; apply Calls.mono; apply ih; omega; (apply Rs.at0; apply RI_take hxs; omega; (exact kf_)); omega; exact List.all_take hall; omega; omega; omega; rintro E w1 ⟨a, b, rfl, hr, ha, hb', hb⟩; have hst := xr hb; (try simp only [zA, zC, zD, zN] at hst); obtain ⟨hc, hf, hz⟩ := hst))
          (refine wp_name ?_; intro W0 hb0; have hst := xr hb0; (try simp only [zA, zC, zD, zN] at hst); obtain ⟨hc0, hf0, hz0⟩ := hst; have hLb : Lb W0 (w.heap.size) 2 := Lb.ex (by exact lbc_) hb0; go_region_held3 (fun w' => HeldB (w.heap.size) 2 W0 w') ((first | with_reducible assumption | with_reducible exact HeldB.start hLb | with_reducible exact HeldB.of (by assumption) (by assumption) | ((repeat (first | with_reducible refine HeldB.set ?_ (by first | exact Or.inl rfl | exact Or.inr (by simp only [zA, zC, zD, zN]; omega) | exact Or.inr (by omega)) | with_reducible refine HeldB.alloc ?_ _ | with_reducible refine HeldB.drew ?_)); (first | with_reducible assumption | with_reducible exact HeldB.refl hLb | with_reducible exact HeldB.of (by assumption) (by assumption) | with_reducible exact HeldB.ex (by assumption) (by assumption))))) ((go_at_call 182; apply Calls.mono; apply pair_c; (first | assumption | omega); (first | assumption | omega); rintro E w' ⟨rfl, rfl⟩)); all_goals (rename HeldB (w.heap.size) 2 W0 _ => hHx; have hb := HeldB.ch hHx; have hst := xc hb; (try simp only [zA, zC, zD, zN] at hst); obtain ⟨hc, hf, hz⟩ := hst; have hLb3 := HeldB.lb hHx; (repeat (first | with_reducible replace hLb3 := Lb.unset hLb3 | with_reducible replace hLb3 := Lb.undrew hLb3)); obtain ⟨hcb, hfb⟩ := Lb.rules hLb3; clear hHx))
          go_wp2_with fail
          refine bodyPost_ret (v := .tuple #[.agg #[.int .i64 (Sw.pair y a), .int .i64 (Sw.pair y b)], .bool (Sw.grR (m - Sw.split k) (k - Sw.split k) old (xs.take p).reverse false).isSome]) (by simp [results, Try.results148, go_sem, *]) rfl ?_
          refine ⟨Sw.pair y a, Sw.pair y b, ?_, ?_, pair_ok _ _, pair_ok _ _, ext_⟩
          · rw [Sw.grR, if_neg hmk', if_neg hms, Option.isSome_map]
          · intro r hr'
            rw [Sw.grR, if_neg hmk', if_neg hms, Option.map_eq_some_iff] at hr'
            obtain ⟨q, hq, rfl⟩ := hr'
            rw [hr q hq]
end Go.Proofs.Ytgceeggfdomdjaa

namespace Go.Proofs.Ytgceeggfdomdjaa
set_option maxRecDepth 100000
set_option linter.unusedSimpArgs false
set_option linter.unusedVariables false
open Go.RowKit Go
set_option maxHeartbeats 400000

theorem iConCheck_c (m old nn r : Int) (A : Option Addr) (c n : Nat) (xs : List Int) (w : World) (hxs : RI w 0 A c n xs) : Calls Try.prog 80 #[.int .i64 m, .int .i64 old, .int .i64 nn, .int .i64 r, .slice A n c] w fun E w' => E = .returned (.bool (Sw.conCheck m old nn r xs)) ∧ Ex w w' := by
  have hl := Lib.hid hxs.1
  by_cases hg : (Sw.inR nn 1 40 && Sw.inR m 1 nn && Sw.mixOk old && Sw.mixOk r && Sw.treOk xs) = true
  · have hg' := hg
    simp only [Bool.and_eq_true] at hg'
    obtain ⟨⟨⟨⟨g1, g2⟩, g3⟩, g4⟩, g5⟩ := hg'
    have b1 : 1 ≤ nn ∧ nn ≤ 40 := by simpa [Sw.inR] using g1
    have b2 : 1 ≤ m ∧ m ≤ nn := by simpa [Sw.inR] using g2
    have h40 : n ≤ 40 := by have := hl.out; simp [Sw.treOk] at g5; omega
    have hall : xs.all Sw.mixOk = true := by simp only [Sw.treOk, Bool.and_eq_true] at g5; exact g5.2
    obtain ⟨k, rfl⟩ := Int.eq_ofNat_of_zero_le (show 0 ≤ nn by omega)
    obtain ⟨j, rfl⟩ := Int.eq_ofNat_of_zero_le (show 0 ≤ m by omega)
    have e : Sw.conCheck j old k r xs = (Sw.grR j k old xs.reverse true == some (old, r)) := by
      rw [Sw.conCheck, hg]; rfl
    have He := Lib.hid e
    clear e hg
    go_enter Try.func80, Try.ntmps80
    go_wp2_with (first | (go_at_call 96; refine (in_c _ _ _ _).mono ?_; rintro E w' ⟨rfl, rfl⟩) | (go_at_call 79; refine (iMixOk_c _ _).mono ?_; rintro E w' ⟨rfl, rfl⟩) | (go_at_call 97; apply Calls.mono; apply iTreOk_c; ((first | (apply Rs.at0; assumption) | (apply Ow.rs0; assumption)); exact kf_); rintro E w' ⟨rfl, rfl⟩) | (go_at_call 148; apply Calls.mono; apply (iGrown_c 40); omega; ((first | (apply Rs.at0; assumption) | (apply Ow.rs0; assumption)); exact kf_); omega; exact hall; exact g3; omega; omega; omega; rintro E w1 ⟨a, b, rfl, hr, ha, hb', hb⟩; have Hr := Lib.hid hr; clear hr; cases hs : Sw.grR j k old xs.reverse true))
    all_goals (go_ret; refine ⟨ret_b ?_, ext_⟩; rw [He.out, hs])
    · rfl
    all_goals
      obtain rfl := Hr.out _ hs
      rw [Bool.eq_iff_iff]
      simp [*]
  · have hg' : (Sw.inR nn 1 40 && Sw.inR m 1 nn && Sw.mixOk old && Sw.mixOk r && Sw.treOk xs) = false := by simpa using hg
    have e : Sw.conCheck m old nn r xs = false := by rw [Sw.conCheck, hg']; rfl
    rw [e]
    have Hg := Lib.hid hg'
    clear e hg hg'
    cases g1 : Sw.inR nn 1 40
    case false => go_enter Try.func80, Try.ntmps80; go_wp2_with (first | (go_at_call 96; refine (in_c _ _ _ _).mono ?_; rintro E w' ⟨rfl, rfl⟩)); go_ret; exact ⟨rfl, ext_⟩
    cases g2 : Sw.inR m 1 nn
    case false => go_enter Try.func80, Try.ntmps80; go_wp2_with (first | (go_at_call 96; refine (in_c _ _ _ _).mono ?_; rintro E w' ⟨rfl, rfl⟩)); go_ret; exact ⟨rfl, ext_⟩
    cases g3 : Sw.mixOk old
    case false => go_enter Try.func80, Try.ntmps80; go_wp2_with (first | (go_at_call 96; refine (in_c _ _ _ _).mono ?_; rintro E w' ⟨rfl, rfl⟩) | (go_at_call 79; refine (iMixOk_c _ _).mono ?_; rintro E w' ⟨rfl, rfl⟩)); go_ret; exact ⟨rfl, ext_⟩
    cases g4 : Sw.mixOk r
    case false => go_enter Try.func80, Try.ntmps80; go_wp2_with (first | (go_at_call 96; refine (in_c _ _ _ _).mono ?_; rintro E w' ⟨rfl, rfl⟩) | (go_at_call 79; refine (iMixOk_c _ _).mono ?_; rintro E w' ⟨rfl, rfl⟩)); go_ret; exact ⟨rfl, ext_⟩
    cases g5 : Sw.treOk xs
    case false => go_enter Try.func80, Try.ntmps80; go_wp2_with (first | (go_at_call 96; refine (in_c _ _ _ _).mono ?_; rintro E w' ⟨rfl, rfl⟩) | (go_at_call 79; refine (iMixOk_c _ _).mono ?_; rintro E w' ⟨rfl, rfl⟩) | (go_at_call 97; apply Calls.mono; apply iTreOk_c; ((first | (apply Rs.at0; assumption) | (apply Ow.rs0; assumption)); exact kf_); rintro E w' ⟨rfl, rfl⟩)); go_ret; exact ⟨rfl, ext_⟩
    have := Hg.out
    rw [g1, g2, g3, g4, g5] at this
    cases this

theorem iCloneInts_c (A : Option Addr) (c n : Nat) (xs : List Int) (w : World) (hxs : RI w 0 A c n xs) (hn : n ≤ 4194304) : Calls Try.prog 86 #[.slice A n c] w fun E w' => ∃ A' c', E = .returned (.slice A' n c') ∧ OwI w' w.heap.size A' c' n xs ∧ Ex w w' := by
  go_enter Try.func86, Try.ntmps86
  go_wp2_with (at_builtin; apply wpList_app (lo := w.heap.size) el_I one_I rfl rfl rfl rfl; (first | assumption | exact Ow.nil _ _ | (apply Ow.keep; assumption; exact kf_) | (refine Ow.new [] (by (first | rfl | (simp only [zA, zC, zD, zN]; done) | omega)) rfl rfl (fun _ => rfl) (by exact sz_) (by omega))); (first | ((first | (apply Rs.at0; assumption) | (apply Ow.rs0; assumption)); exact kf_)); omega; exact sz_; intro A1 c1 w2 ho1 hch1 hat1 hex1 hlow1; have hb := hex1 (fun _ => False) w (by exact ext_) (by exact sz_); have hz := hch1.size; (try simp only [zA, zC, zD, zN] at hz); obtain ⟨hc, hf⟩ := low_rules hlow1; clear hlow1 hex1)
  go_ret
  rw [Nat.zero_add, List.nil_append] at ho1
  exact ⟨A1, c1, rfl, ho1, ext_⟩
end Go.Proofs.Ytgceeggfdomdjaa

namespace Go.Proofs.Ytgceeggfdomdjaa
set_option maxRecDepth 100000
set_option linter.unusedSimpArgs false
set_option linter.unusedVariables false
open Go.RowKit Go
set_option maxHeartbeats 400000

theorem iHedFollows_c (o t : Sw.Head) (A : Option Addr) (c n : Nat) (xs : List Int) (w : World) (hxs : RI w 0 A c n xs) : Calls Try.prog 22 #[.agg #[.int .i64 o.size, .int .i64 o.log, .int .i64 o.own], .agg #[.int .i64 t.size, .int .i64 t.log, .int .i64 t.own], .slice A n c] w fun E w' => E = .returned (.bool (Sw.hedFollows o t xs)) ∧ Ex w w' := by
  have hl := Lib.hid hxs.1
  cases g1 : Sw.hedOk o
  case false =>
    go_enter Try.func22, Try.ntmps22; go_wp2_with (first | (go_at_call 76; refine (iHedOk_c _ _).mono ?_; rintro E w1 ⟨rfl, hb⟩; have hst := xr hb; (try simp only [zA, zC, zD, zN] at hst); obtain ⟨hc, hf, hz⟩ := hst)); go_ret; exact ⟨ret_b (by simp [Sw.hedFollows, g1]), ext_⟩
  cases g2 : Sw.hedOk t
  case false =>
    go_enter Try.func22, Try.ntmps22; go_wp2_with (first | (go_at_call 76; refine (iHedOk_c _ _).mono ?_; rintro E w1 ⟨rfl, hb⟩; have hst := xr hb; (try simp only [zA, zC, zD, zN] at hst); obtain ⟨hc, hf, hz⟩ := hst)); go_ret; exact ⟨ret_b (by simp [Sw.hedFollows, g2]), ext_⟩
  by_cases g3 : o.size ≤ t.size
  case neg =>
    have e : Sw.hedFollows o t xs = false := by simp [Sw.hedFollows, g3]
    rw [e]; clear e
    have g3' : t.size < o.size := by omega
    go_enter Try.func22, Try.ntmps22; go_wp2_with (first | (go_at_call 76; refine (iHedOk_c _ _).mono ?_; rintro E w1 ⟨rfl, hb⟩; have hst := xr hb; (try simp only [zA, zC, zD, zN] at hst); obtain ⟨hc, hf, hz⟩ := hst)); go_ret; exact ⟨rfl, ext_⟩
  have n1 := g1; have n2 := g2
  simp only [Sw.hedOk, Sw.inR, Bool.and_eq_true, decide_eq_true_eq] at n1 n2
  obtain ⟨⟨⟨o0, _⟩, _⟩, _⟩ := n1
  obtain ⟨⟨⟨t0, _⟩, _⟩, _⟩ := n2
  have g3' : decide (t.size < o.size) = false := by simp; omega
  by_cases g4 : o.size = 0
  · have z0 : (o.size == 0) = true := by simp [g4]
    have hle : decide (o.size ≤ t.size) = true := by simp [g3]
    have e : Sw.hedFollows o t xs = ((decide (o.size ≠ t.size) || decide (o = t)) && xs.isEmpty) := by rw [Sw.hedFollows, g1, g2, hle, if_pos g4]; simp
    have He := Lib.hid e
    have G4 := Lib.hid g4
    clear e g4
    by_cases hn : n = 0
    · have hx : xs = [] := List.eq_nil_of_length_eq_zero (by have := hl.out; omega)
      subst hx
      subst hn
      clear hl
      go_enter Try.func22, Try.ntmps22
      go_wp2_with (first | (go_at_call 76; refine (iHedOk_c _ _).mono ?_; rintro E w1 ⟨rfl, hb⟩; have hst := xr hb; (try simp only [zA, zC, zD, zN] at hst); obtain ⟨hc, hf, hz⟩ := hst))
      all_goals (go_ret; refine ⟨ret_b ?_, ext_⟩; rw [He.out]; have g4 := G4.out; clear He G4; go_tidy; simp only [head_ext])
      all_goals (first | (simp [*]; done) | (simp [*]; omega) | (simp_all; done) | (simp_all; omega))
    · have hb : ((n : Int) == 0) = false := by simp; omega
      have hx : xs.isEmpty = false := by
        cases xs with
        | nil => exact absurd hl.out hn
        | cons _ _ => rfl
      go_enter Try.func22, Try.ntmps22
      go_wp2_with (first | (go_at_call 76; refine (iHedOk_c _ _).mono ?_; rintro E w1 ⟨rfl, hb⟩; have hst := xr hb; (try simp only [zA, zC, zD, zN] at hst); obtain ⟨hc, hf, hz⟩ := hst))
      all_goals (go_ret; exact ⟨ret_b (by rw [He.out, hx]; simp), ext_⟩)
  · have z0 : (o.size == 0) = false := by simp [g4]
    have hle : decide (o.size ≤ t.size) = true := by simp [g3]
    have e : Sw.hedFollows o t xs = ((decide (o.size ≠ t.size) || decide (o = t)) && Sw.conCheck o.size o.log t.size t.log xs) := by rw [Sw.hedFollows, g1, g2, hle, if_neg g4]; simp
    have He := Lib.hid e
    clear e g4
    go_enter Try.func22, Try.ntmps22
    go_wp2_with (first | (go_at_call 76; refine (iHedOk_c _ _).mono ?_; rintro E w1 ⟨rfl, hb⟩; have hst := xr hb; (try simp only [zA, zC, zD, zN] at hst); obtain ⟨hc, hf, hz⟩ := hst) | (go_at_call 80; apply Calls.mono; apply iConCheck_c; ((first | (apply Rs.at0; assumption) | (apply Ow.rs0; assumption)); exact kf_); rintro E w1 ⟨rfl, hb⟩; have hst := xr hb; (try simp only [zA, zC, zD, zN] at hst); obtain ⟨hc, hf, hz⟩ := hst))
    all_goals (go_ret; refine ⟨ret_b ?_, ext_⟩; rw [He.out]; clear He; go_tidy; simp only [head_ext])
    all_goals (first | (simp [*]; done) | (simp [*]; omega) | (simp_all; done) | (simp_all; omega))
end Go.Proofs.Ytgceeggfdomdjaa

namespace Go.Proofs.Ytgceeggfdomdjaa
set_option maxRecDepth 100000
set_option linter.unusedSimpArgs false
set_option linter.unusedVariables false
open Go.RowKit Go
set_option maxHeartbeats 400000

theorem isUser_c (n : Int) (w : World) : Calls Try.prog 150 #[.int .i64 n] w fun E w' => E = .returned (.bool (Sw.inR n 1 5)) ∧ w = w' := by
  go_enter Try.func150, Try.ntmps150
  go_wp2_with (first | (go_at_call 96; refine (in_c _ _ _ _).mono ?_; rintro E w' ⟨rfl, rfl⟩))
  all_goals (go_ret; exact ⟨rfl, rfl⟩)
theorem isFace_c (n : Int) (w : World) : Calls Try.prog 129 #[.int .i64 n] w fun E w' => E = .returned (.bool (Sw.inR n 1 50)) ∧ w = w' := by
  go_enter Try.func129, Try.ntmps129
  go_wp2_with (first | (go_at_call 96; refine (in_c _ _ _ _).mono ?_; rintro E w' ⟨rfl, rfl⟩))
  all_goals (go_ret; exact ⟨rfl, rfl⟩)
theorem iEntCap_c (f : Int) (w : World) : Calls Try.prog 58 #[.int .i64 f] w fun E w' => E = .returned (.int .i64 (Sw.entCap f)) ∧ w = w' := by
  by_cases h : Sw.inR f 1 50 = true
  · have h' : 1 ≤ f ∧ f ≤ 50 := by simpa [Sw.inR] using h
    obtain ⟨a, b⟩ := h'
    go_enter Try.func58, Try.ntmps58
    go_wp2_with (first | (go_at_call 129; refine (isFace_c _ _).mono ?_; rintro E w' ⟨rfl, rfl⟩))
    all_goals (go_ret; refine ⟨ret_i (by simp [Sw.entCap, h]), rfl⟩)
  · go_enter Try.func58, Try.ntmps58
    go_wp2_with (first | (go_at_call 129; refine (isFace_c _ _).mono ?_; rintro E w' ⟨rfl, rfl⟩))
    all_goals (go_ret; refine ⟨ret_i (by simp [Sw.entCap, h]), rfl⟩)
theorem iEntOk_c (e : Sw.Ent) (w : World) : Calls Try.prog 198 #[.agg #[.int .i64 e.kind, .int .i64 e.ticket, .int .i64 e.who, .int .i64 e.price]] w fun E w' => E = .returned (.bool (Sw.entOk e)) ∧ Ex w w' := by
  go_enter Try.func198, Try.ntmps198
  go_wp2_with (first | (go_at_call 75; refine (isTicket_c _ _).mono ?_; rintro E w' ⟨rfl, rfl⟩) | (go_at_call 150; refine (isUser_c _ _).mono ?_; rintro E w' ⟨rfl, rfl⟩) | (go_at_call 129; refine (isFace_c _ _).mono ?_; rintro E w' ⟨rfl, rfl⟩) | (go_at_call 96; refine (in_c _ _ _ _).mono ?_; rintro E w' ⟨rfl, rfl⟩) | (go_at_call 58; refine (iEntCap_c _ _).mono ?_; rintro E w' ⟨rfl, rfl⟩))
  all_goals (try (refine wp_name ?_; intro W0 hb0; have hst := xr hb0; (try simp only [zA, zC, zD, zN] at hst); obtain ⟨hc0, hf0, hz0⟩ := hst; go_region_held3 (fun w' => Held W0 w') ((first | with_reducible assumption | with_reducible exact Held.start _ | with_reducible exact Held.of (by assumption) | with_reducible exact Held.ex (by assumption) (by assumption) | ((repeat (first | with_reducible refine Held.set ?_ (by simp only [zA, zC, zD, zN]; omega) | with_reducible refine Held.alloc ?_ _ | with_reducible refine Held.drew ?_)); (first | with_reducible assumption | with_reducible exact Held.refl _ | with_reducible exact Held.of (by assumption) | with_reducible exact Held.ex (by assumption) (by assumption))) | exact Held.of (by exact ext_))) ((first | (go_at_call 75; refine (isTicket_c _ _).mono ?_; rintro E w' ⟨rfl, rfl⟩) | (go_at_call 150; refine (isUser_c _ _).mono ?_; rintro E w' ⟨rfl, rfl⟩) | (go_at_call 129; refine (isFace_c _ _).mono ?_; rintro E w' ⟨rfl, rfl⟩) | (go_at_call 96; refine (in_c _ _ _ _).mono ?_; rintro E w' ⟨rfl, rfl⟩) | (go_at_call 58; refine (iEntCap_c _ _).mono ?_; rintro E w' ⟨rfl, rfl⟩))); all_goals (have hb := And.right (by assumption : Held W0 _); have hst := xr hb; (try simp only [zA, zC, zD, zN] at hst); obtain ⟨hc, hf, hz⟩ := hst)))
  all_goals go_wp2
  all_goals (go_ret; refine ⟨ret_b ?_, (by first | rfl | exact ext_)⟩; go_tidy; (try simp only [Bool.not_eq_true', Bool.not_eq_false', Bool.not_eq_true, Bool.not_eq_false, beq_iff_eq, bne_iff_ne, ne_eq, beq_eq_false_iff_ne, bne_eq_false_iff_eq] at *); (first | rfl | (simp [Sw.entOk, Sw.entCap, show Sw.inR 50 1 50 = true from by decide, *]; done) | (simp [Sw.entOk, Sw.entCap, show Sw.inR 50 1 50 = true from by decide, *]; omega) | (simp [Sw.entOk, Sw.entCap, show Sw.inR 50 1 50 = true from by decide, beqI, *]; done) | (simp_all [Sw.entOk, Sw.entCap, show Sw.inR 50 1 50 = true from by decide, beqI]; done) | (simp_all [Sw.entOk, Sw.entCap, show Sw.inR 50 1 50 = true from by decide, beqI] <;> omega) | simp_all [Sw.entOk, Sw.entCap, show Sw.inR 50 1 50 = true from by decide, beqI]))

theorem iMixLeaf_c (A : Option Addr) (c n : Nat) (xs : List Int) (w : World) (h : RI w 0 A c n xs) (hn : n ≤ 4194304) : Calls Try.prog 205 #[.slice A n c] w fun E w' => E = .returned (.int .i64 (Sw.mixLeaf xs)) ∧ w = w' := by
  have hl := Lib.hid h.1
  go_enter Try.func205, Try.ntmps205
  go_wp2
  go_loop [3, 8] (fun m i => ∃ (k : Nat) (x : Int), k ≤ n ∧ i = .int .i64 k ∧ m = .int .i64 x ∧ 0 ≤ x ∧ x ≤ 65520 ∧ Sw.mixLeafFrom 7 xs = Sw.mixLeafFrom x (xs.drop k)) (fun _ i => n - (intOf i).toNat)
  case atStart => exact ⟨0, 7, Nat.zero_le _, rfl, rfl, by omega, by omega, rfl⟩
  case round =>
    obtain ⟨k, x, hk, rfl, rfl, x0, x1, hrel⟩ := hrel
    by_cases hlt : k < n
    · obtain ⟨g, off, y, rfl, hg0, hg, hd, hy, hc⟩ := at_I h hlt
      rw [hd] at hrel
      clear hd hy
      have Hrel := Lib.hid hrel; clear hrel
      obtain ⟨y0, y1⟩ := tmod_bd y
      have hbd := leafStep_bd x y
      by_cases hneg : y.tmod 65521 < 0
      · go_wp2
        go_round
        case rel => exact ⟨k + 1, Sw.leafStep x y, by omega, by go_num, int_i (by unfold Sw.leafStep; rw [Int.tmod_eq_emod] at *; split <;> omega), hbd.1, hbd.2, Hrel.out⟩
        case measure => simp [intOf]; omega
      · go_wp2
        go_round
        case rel => exact ⟨k + 1, Sw.leafStep x y, by omega, by go_num, int_i (by unfold Sw.leafStep; rw [Int.tmod_eq_emod] at *; split <;> omega), hbd.1, hbd.2, Hrel.out⟩
        case measure => simp [intOf]; omega
    · have Hrel := Lib.hid hrel; clear hrel
      go_wp2
      go_ret
      refine ⟨ret_i ?_, rfl⟩
      have := Hrel.out
      rw [List.drop_of_length_le (by have := hl.out; omega)] at this
      unfold Sw.mixLeaf
      rw [this, hl.out]
      rfl
theorem iEntLeaf_c (e : Sw.Ent) (w : World) : Calls Try.prog 184 #[.agg #[.int .i64 e.kind, .int .i64 e.ticket, .int .i64 e.who, .int .i64 e.price]] w fun E w' => E = .returned (.int .i64 (Sw.entLeaf e)) ∧ Ex w w' := by
  go_enter Try.func184, Try.ntmps184
  go_wp2_with (go_at_call 205; apply Calls.mono; apply (iMixLeaf_c (xs := [e.kind, e.ticket, e.who, e.price])); (refine Rs.new _ (by simp only [zA, zC, zD, zN]) rfl rfl (fun _ => rfl) (by omega)); omega; rintro E w' ⟨rfl, rfl⟩)
  go_ret
  exact ⟨rfl, ext_⟩
theorem iOwnLeaf_c (t : Int) (r : Sw.Row) (w : World) : Calls Try.prog 206 #[.int .i64 t, .agg #[.int .i64 r.who, .int .i64 r.face, .bool r.used]] w fun E w' => E = .returned (.int .i64 (Sw.ownLeaf t r)) ∧ Ex w w' := by
  by_cases h : Sw.inR t 0 7 = true
  · have h' : 0 ≤ t ∧ t ≤ 7 := by simpa [Sw.inR] using h
    obtain ⟨t0, t1⟩ := h'
    cases hu : r.used
    · go_enter Try.func206, Try.ntmps206
      go_wp2_with (first | (go_at_call 75; refine (isTicket_c _ _).mono ?_; rintro E w' ⟨rfl, rfl⟩) | (go_at_call 205; apply Calls.mono; apply (iMixLeaf_c (xs := [1000 + t, r.who, r.face, 0])); (refine Rs.new _ (by simp only [zA, zC, zD, zN]) rfl rfl (fun _ => rfl) (by omega)); omega; rintro E w' ⟨rfl, rfl⟩))
      go_ret
      exact ⟨ret_i (by simp [Sw.ownLeaf, h, hu]), ext_⟩
    · go_enter Try.func206, Try.ntmps206
      go_wp2_with (first | (go_at_call 75; refine (isTicket_c _ _).mono ?_; rintro E w' ⟨rfl, rfl⟩) | (go_at_call 205; apply Calls.mono; apply (iMixLeaf_c (xs := [1000 + t, r.who, r.face, 1])); (refine Rs.new _ (by simp only [zA, zC, zD, zN]) rfl rfl (fun _ => rfl) (by omega)); omega; rintro E w' ⟨rfl, rfl⟩))
      go_ret
      exact ⟨ret_i (by simp [Sw.ownLeaf, h, hu]), ext_⟩
  · go_enter Try.func206, Try.ntmps206
    go_wp2_with (first | (go_at_call 75; refine (isTicket_c _ _).mono ?_; rintro E w' ⟨rfl, rfl⟩))
    go_ret
    exact ⟨ret_i (by simp [Sw.ownLeaf, h]), ext_⟩

theorem iOwnOk_c (A : Option Addr) (c n : Nat) (xs : List Sw.Row) (w : World) (hxs : RR w 0 A c n xs) : Calls Try.prog 185 #[.slice A n c] w fun E w' => E = .returned (.bool (Sw.ownOk xs)) ∧ Ex w w' := by
  have hl := Lib.hid hxs.1
  have hbig := Rs.big hxs
  go_enter Try.func185, Try.ntmps185
  go_wp2_with fail
  go_loopw [7] (fun i wr => ∃ (k : Nat), k ≤ n ∧ i = .int .i64 k ∧ Ex w wr ∧ xs.all Sw.rowOk = (xs.drop k).all Sw.rowOk) (fun i _ => n - (intOf i).toNat)
  case atStart => exact ⟨0, Nat.zero_le _, rfl, ext_, rfl⟩
  case round =>
    obtain ⟨k, hk, rfl, hb, hrel⟩ := hrel
    have hst := Ex.rules hb rfl
    obtain ⟨hc, hf, hz⟩ := hst
    by_cases hlt : k < n
    · obtain ⟨g, off, y, rfl, hg0, hg, hd, hy, hc0, hc1, hc2⟩ := at_R hxs hlt
      rw [hd] at hrel
      have Hrel := Lib.hid hrel; clear hd hy hrel
      go_wp2_with (first | (go_at_call 150; refine (isUser_c _ _).mono ?_; rintro E w' ⟨rfl, rfl⟩) | (go_at_call 129; refine (isFace_c _ _).mono ?_; rintro E w' ⟨rfl, rfl⟩))
      all_goals (first | (refine ⟨⟨k + 1, by omega, by go_num, (by exact ext_), ?_⟩, by simp [intOf]; omega⟩; have hh := Hrel.out; clear Hrel; rw [List.all_cons] at hh; rw [hh]; clear hh; go_tidy; (try simp only [Bool.not_eq_true', Bool.not_eq_false', Bool.not_eq_true, Bool.not_eq_false, beq_iff_eq, bne_iff_ne, ne_eq, beq_eq_false_iff_ne, bne_eq_false_iff_eq] at *); have hp : Sw.rowOk y = true := (by (first | (simp [Sw.rowOk, show Sw.inR 0 1 5 = false from rfl, *]; done) | (simp [Sw.rowOk, show Sw.inR 0 1 5 = false from rfl, *]; omega) | (simp [Sw.rowOk, show Sw.inR 0 1 5 = false from rfl, *]; intros; simp_all; done) | (simp_all [Sw.rowOk, show Sw.inR 0 1 5 = false from rfl]; done))); simp [hp]) | (go_ret; refine ⟨ret_b ?_, (by first | rfl | exact ext_)⟩; have hh := Hrel.out; clear Hrel; rw [List.all_cons] at hh; unfold Sw.ownOk; rw [hh]; clear hh; go_tidy; (try simp only [Bool.not_eq_true', Bool.not_eq_false', Bool.not_eq_true, Bool.not_eq_false, beq_iff_eq, bne_iff_ne, ne_eq, beq_eq_false_iff_ne, bne_eq_false_iff_eq] at *); have hp : Sw.rowOk y = false := (by (first | (simp [Sw.rowOk, show Sw.inR 0 1 5 = false from rfl, *]; done) | (simp [Sw.rowOk, show Sw.inR 0 1 5 = false from rfl, *]; omega) | (simp [Sw.rowOk, show Sw.inR 0 1 5 = false from rfl, *]; intros; simp_all; done) | (simp_all [Sw.rowOk, show Sw.inR 0 1 5 = false from rfl]; done))); simp [hp]))
    · have Hrel := Lib.hid hrel; clear hrel
      go_wp2
      go_ret
      refine ⟨ret_b ?_, ext_⟩
      have := Hrel.out
      rw [List.drop_of_length_le (by have := hl.out; omega)] at this
      rw [Sw.ownOk, this, ← hl.out, show ((n : Int) == 8) = decide (n = 8) from by rw [beqI, decide_eq_decide]; omega]
      simp

theorem iFits_c (A : Option Addr) (c : Nat) (xs : List Sw.Row) (e : Sw.Ent) (w : World) (hxs : RR w 0 A c 8 xs) (ht0 : 0 ≤ e.ticket) (ht1 : e.ticket ≤ 7) : Calls Try.prog 199 #[.slice A 8 c, .agg #[.int .i64 e.kind, .int .i64 e.ticket, .int .i64 e.who, .int .i64 e.price]] w fun E w' => E = .returned (.bool (Sw.fitsRow (Sw.rowAt xs e.ticket) e)) ∧ Ex w w' := by
  have hl := Lib.hid hxs.1
  obtain ⟨t, ht'⟩ := Int.eq_ofNat_of_zero_le ht0
  have hlt : t < 8 := by omega
  obtain ⟨g, off, y, rfl, hg0, hg, hd, hy, hc0, hc1, hc2⟩ := at_R hxs hlt
  have hrow : Sw.rowAt xs e.ticket = y := by simp [Sw.rowAt, ht', hy]
  rw [hrow]
  clear hrow hd hy
  have Ht := Lib.hid ht'
  have ht2 : e.ticket < 8 := by omega
  have e0 : e.ticket.toNat = t := by omega
  clear ht'
  obtain ⟨yw, yf, yu⟩ := y
  dsimp only at hc0 hc1 hc2
  by_cases k1 : e.kind = 1
  · have hk1 : (e.kind == 1) = true := by simp [k1]
    have K1 := Lib.hid k1; clear k1
    go_enter Try.func199, Try.ntmps199
    go_wp2_with (first | (go_at_call 58; refine (iEntCap_c _ _).mono ?_; rintro E w' ⟨rfl, rfl⟩))
    go_ret
    exact ⟨ret_b (by simp [Sw.fitsRow, K1.out, beqI]), ext_⟩
  have hk1 : (e.kind == 1) = false := by simp [k1]
  by_cases k2 : e.kind = 2
  · have hk2 : (e.kind == 2) = true := by simp [k2]
    have K2 := Lib.hid k2; clear k2
    cases b1 : (yw == 0)
    case true =>
      have b1' : (yw != 0) = false := by rw [bne, b1]; rfl
      go_enter Try.func199, Try.ntmps199
      go_wp2_with fail
      go_quiet ((first | (go_at_call 58; exact Calls.quiet_same (iEntCap_c _ _))))
      go_wp2
      go_ret
      exact ⟨ret_b (by simp only [Sw.fitsRow, K2.out]; simp only [← beqI, decide_not, ne_eq, b1]; simp), ext_⟩
    have b1' : (yw != 0) = true := by rw [bne, b1]; rfl
    cases b2 : (yw == e.who)
    case true =>
      have b2' : (yw != e.who) = false := by rw [bne, b2]; rfl
      go_enter Try.func199, Try.ntmps199
      go_wp2_with fail
      go_quiet ((first | (go_at_call 58; exact Calls.quiet_same (iEntCap_c _ _))))
      go_wp2
      go_ret
      exact ⟨ret_b (by simp only [Sw.fitsRow, K2.out]; simp only [← beqI, decide_not, ne_eq, b2]; simp), ext_⟩
    have b2' : (yw != e.who) = true := by rw [bne, b2]; rfl
    cases yu
    all_goals
      go_enter Try.func199, Try.ntmps199
      go_wp2_with fail
      go_quiet ((first | (go_at_call 58; exact Calls.quiet_same (iEntCap_c _ _))))
      go_wp2
      go_ret
      exact ⟨ret_b (by simp only [Sw.fitsRow, K2.out]; simp only [← beqI, decide_not, ne_eq, b1, b2]; simp), ext_⟩
  have hk2 : (e.kind == 2) = false := by simp [k2]
  go_enter Try.func199, Try.ntmps199
  go_wp2_with (first | (go_at_call 58; refine (iEntCap_c _ _).mono ?_; rintro E w' ⟨rfl, rfl⟩))
  all_goals (go_ret; refine ⟨ret_b ?_, (by first | rfl | exact ext_)⟩; go_tidy; (try simp only [Bool.not_eq_true', Bool.not_eq_false', Bool.not_eq_true, Bool.not_eq_false, beq_iff_eq, bne_iff_ne, ne_eq, beq_eq_false_iff_ne, bne_eq_false_iff_eq] at *); (first | rfl | (simp [Sw.fitsRow, k1, k2, *]; done) | (simp [Sw.fitsRow, k1, k2, *]; omega) | (simp [Sw.fitsRow, k1, k2, beqI, *]; done) | (simp_all [Sw.fitsRow, k1, k2, beqI]; done) | (simp_all [Sw.fitsRow, k1, k2, beqI] <;> omega) | simp_all [Sw.fitsRow, k1, k2, beqI]))

theorem iOwnFits_c (A : Option Addr) (c n : Nat) (xs : List Sw.Row) (e : Sw.Ent) (w : World) (hxs : RR w 0 A c n xs) : Calls Try.prog 167 #[.slice A n c, .agg #[.int .i64 e.kind, .int .i64 e.ticket, .int .i64 e.who, .int .i64 e.price]] w fun E w' => E = .returned (.bool (Sw.ownFits xs e)) ∧ Ex w w' := by
  have hl := Lib.hid hxs.1
  cases h1 : Sw.ownOk xs
  case false =>
    go_enter Try.func167, Try.ntmps167; go_wp2_with (first | (go_at_call 185; apply Calls.mono; apply iOwnOk_c; ((first | (apply Rs.at0; assumption) | (apply Ow.rs0; assumption)); exact kf_); rintro E w1 ⟨rfl, hb⟩; have hst := xr hb; (try simp only [zA, zC, zD, zN] at hst); obtain ⟨hc, hf, hz⟩ := hst) | (go_at_call 198; refine (iEntOk_c _ _).mono ?_; rintro E w1 ⟨rfl, hb⟩; have hst := xr hb; (try simp only [zA, zC, zD, zN] at hst); obtain ⟨hc, hf, hz⟩ := hst)); go_ret; exact ⟨ret_b (by simp [Sw.ownFits, h1]), ext_⟩
  cases h2 : Sw.entOk e
  case false =>
    go_enter Try.func167, Try.ntmps167; go_wp2_with (first | (go_at_call 185; apply Calls.mono; apply iOwnOk_c; ((first | (apply Rs.at0; assumption) | (apply Ow.rs0; assumption)); exact kf_); rintro E w1 ⟨rfl, hb⟩; have hst := xr hb; (try simp only [zA, zC, zD, zN] at hst); obtain ⟨hc, hf, hz⟩ := hst) | (go_at_call 198; refine (iEntOk_c _ _).mono ?_; rintro E w1 ⟨rfl, hb⟩; have hst := xr hb; (try simp only [zA, zC, zD, zN] at hst); obtain ⟨hc, hf, hz⟩ := hst)); go_ret; exact ⟨ret_b (by simp [Sw.ownFits, h2]), ext_⟩
  obtain ⟨⟨t0, t7⟩, _⟩ := Sw.entOk_iff.1 h2
  have hn8 : n = 8 := by have := hl.out; have := Sw.ownOk_len h1; omega
  subst hn8
  go_enter Try.func167, Try.ntmps167
  go_wp2_with (first | (go_at_call 185; apply Calls.mono; apply iOwnOk_c; ((first | (apply Rs.at0; assumption) | (apply Ow.rs0; assumption)); exact kf_); rintro E w1 ⟨rfl, hb⟩; have hst := xr hb; (try simp only [zA, zC, zD, zN] at hst); obtain ⟨hc, hf, hz⟩ := hst) | (go_at_call 198; refine (iEntOk_c _ _).mono ?_; rintro E w1 ⟨rfl, hb⟩; have hst := xr hb; (try simp only [zA, zC, zD, zN] at hst); obtain ⟨hc, hf, hz⟩ := hst) | (go_at_call 199; apply Calls.mono; apply iFits_c; ((first | (apply Rs.at0; assumption) | (apply Ow.rs0; assumption)); exact kf_); (first | assumption | omega); (first | assumption | omega); rintro E w1 ⟨rfl, hb⟩; have hst := xr hb; (try simp only [zA, zC, zD, zN] at hst); obtain ⟨hc, hf, hz⟩ := hst))
  go_ret
  exact ⟨ret_b (by simp [Sw.ownFits, h1, h2]), ext_⟩

theorem iCloneRows_c (A : Option Addr) (c n : Nat) (xs : List Sw.Row) (w : World) (hxs : RR w 0 A c n xs) (hn : n ≤ 4194304) : Calls Try.prog 166 #[.slice A n c] w fun E w' => ∃ A' c', E = .returned (.slice A' n c') ∧ OwR w' w.heap.size A' c' n xs ∧ Ex w w' := by
  go_enter Try.func166, Try.ntmps166
  go_wp2_with (at_builtin; apply wpList_app (lo := w.heap.size) el_R one_R rfl rfl rfl rfl; (first | assumption | exact Ow.nil _ _ | (apply Ow.keep; assumption; exact kf_) | (refine Ow.new [] (by (first | rfl | (simp only [zA, zC, zD, zN]; done) | omega)) rfl rfl (fun _ => rfl) (by exact sz_) (by omega))); (first | ((first | (apply Rs.at0; assumption) | (apply Ow.rs0; assumption)); exact kf_)); omega; exact sz_; intro A1 c1 w2 ho1 hch1 hat1 hex1 hlow1; have hb := hex1 (fun _ => False) w (by exact ext_) (by exact sz_); have hz := hch1.size; (try simp only [zA, zC, zD, zN] at hz); obtain ⟨hc, hf⟩ := low_rules hlow1; clear hlow1 hex1)
  go_ret
  rw [Nat.zero_add, List.nil_append] at ho1
  exact ⟨A1, c1, rfl, ho1, ext_⟩
end Go.Proofs.Ytgceeggfdomdjaa

namespace Go.Proofs.Ytgceeggfdomdjaa
set_option maxRecDepth 100000
set_option linter.unusedSimpArgs false
set_option linter.unusedVariables false
open Go.RowKit Go
set_option maxHeartbeats 1000000

theorem iOwnPut_c (A : Option Addr) (c n : Nat) (xs : List Sw.Row) (e : Sw.Ent) (w : World) (hxs : RR w 0 A c n xs) (hn : n ≤ 4194304) : Calls Try.prog 128 #[.slice A n c, .agg #[.int .i64 e.kind, .int .i64 e.ticket, .int .i64 e.who, .int .i64 e.price]] w fun E w' => ∃ A' c', E = .returned (.tuple #[.slice A' n c', .bool (Sw.ownFits xs e)]) ∧ OwR w' w.heap.size A' c' n (Sw.ownPut xs e) ∧ Ex w w' := by
  by_cases hfit : Sw.ownFits xs e = true
  · have hl := Lib.hid hxs.1
    obtain ⟨h8, t0, t1, hk⟩ := fits_facts hfit
    obtain ⟨t, ht⟩ := Int.eq_ofNat_of_zero_le t0
    have e0 : e.ticket.toNat = t := by omega
    have Ht := Lib.hid ht
    have htn : t < n := by have := hl.out; omega
    have hn8 : n = 8 := by have := hl.out; omega
    subst hn8
    have Hk := Lib.hid hk
    have H8 := Lib.hid h8
    clear ht hk h8
    have key : ∀ (b1 b2 : Bool), (e.kind == 1) = b1 → (e.kind == 2) = b2 → Calls Try.prog 128 #[.slice A 8 c, .agg #[.int .i64 e.kind, .int .i64 e.ticket, .int .i64 e.who, .int .i64 e.price]] w fun E w' => ∃ A' c', E = .returned (.tuple #[.slice A' 8 c', .bool (Sw.ownFits xs e)]) ∧ OwR w' w.heap.size A' c' 8 (Sw.ownPut xs e) ∧ Ex w w' := by
      intro b1 b2 hb1 hb2
      go_enter Try.func128, Try.ntmps128
      go_wp2_with (go_at_call 166; apply Calls.mono; apply iCloneRows_c; ((first | (apply Rs.at0; assumption) | (apply Ow.rs0; assumption)); exact kf_); (first | assumption | omega); rintro E w1 ⟨A1, A1c, rfl, ho1, hb⟩; have hst := xr hb; (try simp only [zA, zC, zD, zN] at hst); obtain ⟨hc, hf, hz⟩ := hst)
      apply Calls.mono; apply iOwnFits_c; (first | assumption | ((first | (apply Rs.at0; assumption) | (apply Ow.rs0; assumption)); exact kf_) | omega); rintro E w3 ⟨rfl, hb3⟩; have hst := xr hb3; (try simp only [zA, zC, zD] at hst); obtain ⟨hc3, hf3, hz3⟩ := hst
      have ho3 := Ow.keep ho1 (KF.ex hb3 (KF.refl _ _))
      obtain ⟨g, x, hA, hlo, hlt, hx, c0, c1, c2, hfz⟩ := at_OR ho3 htn
      obtain ⟨ya, yb, yu⟩ := x
      have Hx := Lib.hid hx
      have hlo' : w.heap.size + 1 ≤ g := by exact sz_
      clear hx
      subst hA
      dsimp only at c0 c1 c2
      cases b1 with
      | true =>
        have hLg : Lb w3 g (A1c * 3) := ho3.lb rfl
        go_wp2_with fail
        (refine wp_name ?_; intro W0 hb0; have hst := xr hb0; (try simp only [zA, zC, zD, zN] at hst); obtain ⟨hc0, hf0, hz0⟩ := hst; have hLb : Lb W0 (g) (A1c * 3) := Lb.ex (by exact lbc_) hb0; go_region_held3 (fun w' => HeldB (g) (A1c * 3) W0 w') ((first | with_reducible assumption | with_reducible exact HeldB.start hLb | with_reducible exact HeldB.of (by assumption) (by assumption) | ((repeat (first | with_reducible refine HeldB.set ?_ (by first | exact Or.inl rfl | exact Or.inr (by simp only [zA, zC, zD, zN]; omega) | exact Or.inr (by omega)) | with_reducible refine HeldB.alloc ?_ _ | with_reducible refine HeldB.drew ?_)); (first | with_reducible assumption | with_reducible exact HeldB.refl hLb | with_reducible exact HeldB.of (by assumption) (by assumption) | with_reducible exact HeldB.ex (by assumption) (by assumption))))) (fail); all_goals (rename HeldB (g) (A1c * 3) W0 _ => hHx; have hb := HeldB.ch hHx; have hst := xc hb; (try simp only [zA, zC, zD, zN] at hst); obtain ⟨hc, hf, hz⟩ := hst; have hLb3 := HeldB.lb hHx; (repeat (first | with_reducible replace hLb3 := Lb.unset hLb3 | with_reducible replace hLb3 := Lb.undrew hLb3)); obtain ⟨hcb, hfb⟩ := Lb.rules hLb3; clear hHx))
        go_wp2
        go_ret2
        refine ⟨_, _, by rw [hfit]; rfl, ?_, ext_⟩
        have k1 : e.kind = 1 := by simpa using hb1
        rw [put_eq hfit Ht.out Hx.out]
        have hu := fits_fresh hfit k1 Ht.out Hx.out
        subst hu
        have hoW := Ow.keep ho3 (KF.ex hb0 (KF.refl _ _))
        have r := OR_set1 (OR_set0 hoW rfl Hx.out e.who) rfl (set_at Hx.out) e.price
        simp only [List.set_set] at r
        simp only [Sw.putRow, k1, if_true]
        exact (r.keep (kD (kR _ _))).less (by exact sz_)
      | false =>
        have k1 : ¬ e.kind = 1 := by simpa using hb1
        cases b2 with
        | true =>
          go_wp2_with fail
          go_ret2
          refine ⟨_, _, by rw [hfit]; rfl, ?_, ext_⟩
          have k2 : e.kind = 2 := by simpa using hb2
          rw [put_eq hfit Ht.out Hx.out]
          have r := OR_set0 ho3 rfl Hx.out e.who
          simp only [Sw.putRow, if_neg k1, k2, if_true]
          exact r.less (by exact sz_)
        | false =>
          go_wp2_with fail
          go_ret2
          refine ⟨_, _, by rw [hfit]; rfl, ?_, ext_⟩
          have k2 : ¬ e.kind = 2 := by simpa using hb2
          rw [put_eq hfit Ht.out Hx.out]
          have r := OR_set2 ho3 rfl Hx.out true
          simp only [Sw.putRow, if_neg k1, if_neg k2]
          exact r.less (by exact sz_)
    exact key _ _ rfl rfl
  · have hf0 : Sw.ownFits xs e = false := by simpa using hfit
    go_enter Try.func128, Try.ntmps128
    go_wp2_with (first | (go_at_call 166; apply Calls.mono; apply iCloneRows_c; ((first | (apply Rs.at0; assumption) | (apply Ow.rs0; assumption)); exact kf_); (first | assumption | omega); rintro E w1 ⟨A', c', rfl, hr, hb⟩; have hst := xr hb; (try simp only [zA, zC, zD, zN] at hst); obtain ⟨hc, hf, hz⟩ := hst) | (go_at_call 167; apply Calls.mono; apply iOwnFits_c; ((first | (apply Rs.at0; assumption) | (apply Ow.rs0; assumption)); exact kf_); rintro E w1 ⟨rfl, hb⟩; have hst := xr hb; (try simp only [zA, zC, zD, zN] at hst); obtain ⟨hc, hf, hz⟩ := hst))
    go_ret2
    refine ⟨_, _, by rw [hf0]; rfl, ?_, ext_⟩
    rw [show Sw.ownPut xs e = xs from by simp [Sw.ownPut, hf0]]
    exact (hr.keep (by (exact kf_))).less (by exact sz_)

theorem z_R : ∀ i z, Try.prog.info? 93 = some i → i.zero = some z → z.cells = (Sw.rowZ.enc).toArray := zero_law (z := .agg #[.int .i64 0, .int .i64 0, .bool false]) (by kernel_rfl) rfl
theorem iOwnFold_c (A : Option Addr) (c n : Nat) (xs : List Sw.Ent) (w : World) (hxs : RE w 0 A c n xs) : Calls Try.prog 57 #[.slice A n c] w fun E w' => ∃ A' c' n', E = .returned (.tuple #[.slice A' n' c', .bool (Sw.ownFold xs).isSome]) ∧ OwR w' w.heap.size A' c' n' ((Sw.ownFold xs).getD []) ∧ Ex w w' := by
  have hl := Lib.hid hxs.1
  have hbig := Rs.big hxs
  by_cases hn : n ≤ 40
  · have hn' : decide (40 < n) = false := by simp; omega
    have hmk : ∀ w, (Instr.makeSlice 89 (.int .i64 8) (.int .i64 8)).run Try.prog w = .ok (.slice (some ⟨w.heap.size, 0, none⟩) 8 8) (w.alloc (.cells (Sw.rows0.flatMap Sw.Row.enc).toArray 93)) := fun _ => by kernel_rfl
    go_enter Try.func57, Try.ntmps57
    go_wp2_with fail
    go_loopw [4, 15] (fun r i wr => ∃ (k : Nat) (B : Option Addr) (d : Nat) (rows : List Sw.Row), k ≤ n ∧ i = .int .i64 k ∧ r = .slice B 8 d ∧ Ex w wr ∧ OwR wr w.heap.size B d 8 rows ∧ Sw.ownFold xs = Sw.foldFrom rows (xs.drop k)) (fun _ i _ => n - (intOf i).toNat)
    case atStart => exact ⟨0, _, _, _, Nat.zero_le _, rfl, rfl, ext_, Ow.new _ rfl rfl rfl (fun _ => rfl) (Nat.le_refl _) (by omega), by rw [Sw.ownFold, if_pos (by have := hl.out; omega)]; rfl⟩
    case round =>
      clear hmk
      obtain ⟨k, B, d, rows, hk, rfl, rfl, hb, ho, hrel⟩ := hrel
      have hst := Ex.rules hb rfl
      obtain ⟨hc, hf, hz⟩ := hst
      by_cases hlt : k < n
      · obtain ⟨g, off, y, rfl, hg0, hg, hd, hy, hc0, hc1, hc2, hc3⟩ := at_E hxs hlt
        rw [hd, Sw.foldFrom] at hrel
        have Hrel := Lib.hid hrel
        clear hd hy hrel
        cases hfit : Sw.ownFits rows y
        case false =>
          go_wp2_with (first | (go_at_call 128; apply Calls.mono; apply iOwnPut_c; (apply Ow.rs0 ho; (exact kf_)); omega; rintro E w1 ⟨A1, c1, rfl, ho1, hb1⟩; have hst := Ex.rules hb1 rfl; obtain ⟨hc1', hf1', hz1'⟩ := hst))
          go_ret2
          have hh := Hrel.out
          rw [if_neg (by simp [hfit])] at hh
          refine ⟨_, _, _, by rw [hh]; rfl, ?_, ext_⟩
          rw [hh]
          exact Ow.nil _ _
        case true =>
          go_wp2_with (first | (go_at_call 128; apply Calls.mono; apply iOwnPut_c; (apply Ow.rs0 ho; (exact kf_)); omega; rintro E w1 ⟨A1, c1, rfl, ho1, hb1⟩; have hst := Ex.rules hb1 rfl; obtain ⟨hc1', hf1', hz1'⟩ := hst))
          have hh := Hrel.out
          rw [if_pos hfit] at hh
          refine ⟨⟨k + 1, _, _, _, by omega, by go_num, rfl, ext_, ho1.less (by exact sz_), ?_⟩, by simp [intOf]; omega⟩
          rw [hh, Sw.ownPut, if_pos hfit]
      · have Hrel := Lib.hid hrel; clear hrel
        go_wp2_with fail
        go_ret2
        obtain rfl : k = n := by omega
        have hh := Hrel.out
        rw [List.drop_of_length_le (by have := hl.out; omega)] at hh
        refine ⟨_, _, _, by rw [hh]; rfl, ?_, ext_⟩
        rw [hh]
        exact ho
  · have hn' : decide (40 < n) = true := by simp; omega
    go_enter Try.func57, Try.ntmps57
    go_wp2_with fail
    go_ret2
    have hh : Sw.ownFold xs = none := by rw [Sw.ownFold, if_neg (by have := hl.out; omega)]
    refine ⟨_, _, _, by rw [hh]; rfl, ?_, ext_⟩
    rw [hh]
    exact Ow.nil _ _

theorem iRoot_c (N : Nat) (A : Option Addr) (c n : Nat) (xs : List Int) (w : World) (hN : n ≤ N) (hxs : RI w 0 A c n xs) (h40 : n ≤ 40) (hok : xs.all Sw.mixOk = true) : Calls Try.prog 183 #[.slice A n c] w fun E w' => E = .returned (.int .i64 (Sw.root xs)) ∧ Ex w w' := by
  induction N generalizing A c n xs w with
  | zero =>
    have hl := hxs.1
    obtain rfl : n = 0 := by omega
    have hx : xs = [] := List.eq_nil_of_length_eq_zero (by omega)
    subst hx
    clear hl
    go_enter Try.func183, Try.ntmps183
    go_wp2_with fail
    go_ret
    exact ⟨ret_i (by simp [Sw.root]), ext_⟩
  | succ N ih =>
    have hl := Lib.hid hxs.1
    have hcap := hxs.2.le
    by_cases h0 : n = 0
    · subst h0
      have hx : xs = [] := List.eq_nil_of_length_eq_zero (by have := hl.out; omega)
      subst hx
      go_enter Try.func183, Try.ntmps183
      go_wp2_with fail
      go_ret
      exact ⟨ret_i (by simp [Sw.root]), ext_⟩
    by_cases h1 : n = 1
    · subst h1
      obtain ⟨g, off, y, rfl, hg0, hg, hd, hy, hc⟩ := at_I hxs (show 0 < 1 by omega)
      have hx : xs = [y] := by
        have := hl.out
        match xs, this, hy with
        | [z], _, hy => simpa using hy
      subst hx
      clear hd hy
      simp only [Nat.add_zero] at hc
      go_enter Try.func183, Try.ntmps183
      go_wp2_with fail
      go_ret
      exact ⟨ret_i (by simp [Sw.root]), ext_⟩
    have h2 : 2 ≤ n := by omega
    have hb0 : ((n : Int) == 0) = false := by simp; omega
    have hb1 : ((n : Int) == 1) = false := by simp; omega
    have hs1 := Sw.split_lt h2
    have hs0 := Sw.split_pos n
    have z3 : ¬ (c = Sw.split n) := by omega
    have z0 : (0 : Int) ≤ ↑(Sw.split n) := by omega
    have z1 : (↑(Sw.split n) : Int) ≤ ↑n := by omega
    have z2 : (↑(Sw.split n) : Int) ≤ ↑c := by omega
    have m1 := root_ok _ (List.all_take (k := Sw.split n) hok)
    have m2 := root_ok _ (List.all_drop (k := Sw.split n) hok)
    go_enter Try.func183, Try.ntmps183
    go_wp2_with (first | (go_at_call 181; apply Calls.mono; apply iSplit_c; (first | assumption | omega); (first | assumption | omega); rintro E w' ⟨rfl, rfl⟩))
    (refine wp_name ?_; intro W0 hb0; have hst := xr hb0; (try simp only [zA, zC, zD, zN] at hst); obtain ⟨hc0, hf0, hz0⟩ := hst; go_region_held3 (fun w' => Held W0 w') ((first | with_reducible assumption | with_reducible exact Held.start _ | with_reducible exact Held.of (by assumption) | with_reducible exact Held.ex (by assumption) (by assumption) | ((repeat (first | with_reducible refine Held.set ?_ (by simp only [zA, zC, zD, zN]; omega) | with_reducible refine Held.alloc ?_ _ | with_reducible refine Held.drew ?_)); (first | with_reducible assumption | with_reducible exact Held.refl _ | with_reducible exact Held.of (by assumption) | with_reducible exact Held.ex (by assumption) (by assumption))) | exact Held.of (by exact ext_))) ((first | (go_at_call 183; apply Calls.mono; apply ih; omega; (first | (apply Rs.at0; apply RI_take hxs; omega; (exact kf_)) | (apply Rs.at0; apply RI_drop hxs; omega; (exact kf_))); omega; (first | exact List.all_take hok | exact List.all_drop hok); rintro E w1 ⟨rfl, hb⟩) | (go_at_call 182; apply Calls.mono; apply pair_c; (first | assumption | omega); (first | assumption | omega); rintro E w' ⟨rfl, rfl⟩))); all_goals (have hb := And.right (by assumption : Held W0 _); have hst := xr hb; (try simp only [zA, zC, zD, zN] at hst); obtain ⟨hc, hf, hz⟩ := hst))
    go_wp2
    go_ret
    refine ⟨ret_i ?_, ext_⟩
    have e := root_two (xs := xs) (by have := hl.out; omega)
    rw [← hl.out] at e
    rw [e]

theorem iTreRoot_c (A : Option Addr) (c n : Nat) (xs : List Int) (w : World) (hxs : RI w 0 A c n xs) : Calls Try.prog 154 #[.slice A n c] w fun E w' => E = .returned (.int .i64 (Sw.treRoot xs)) ∧ Ex w w' := by
  have hl := Lib.hid hxs.1
  cases h1 : Sw.treOk xs
  case false =>
    go_enter Try.func154, Try.ntmps154; go_wp2_with (first | (go_at_call 97; apply Calls.mono; apply iTreOk_c; ((first | (apply Rs.at0; assumption) | (apply Ow.rs0; assumption)); exact kf_); rintro E w' ⟨rfl, rfl⟩)); go_ret; exact ⟨ret_i (by simp [Sw.treRoot, h1]), ext_⟩
  obtain ⟨h40, hall⟩ := Sw.treOk_iff.1 h1
  have hn40 : n ≤ 40 := by have := hl.out; omega
  go_enter Try.func154, Try.ntmps154
  go_wp2_with (first | (go_at_call 97; apply Calls.mono; apply iTreOk_c; ((first | (apply Rs.at0; assumption) | (apply Ow.rs0; assumption)); exact kf_); rintro E w' ⟨rfl, rfl⟩) | (go_at_call 183; apply Calls.mono; apply (iRoot_c 40); omega; ((first | (apply Rs.at0; assumption) | (apply Ow.rs0; assumption)); exact kf_); omega; exact hall; rintro E w1 ⟨rfl, hb⟩; have hst := xr hb; (try simp only [zA, zC, zD, zN] at hst); obtain ⟨hc, hf, hz⟩ := hst))
  go_ret
  exact ⟨ret_i (by simp [Sw.treRoot, h1]), ext_⟩

theorem iEntLeaves_c (A : Option Addr) (c n : Nat) (xs : List Sw.Ent) (w : World) (hxs : RE w 0 A c n xs) (hn : n ≤ 4194304) : Calls Try.prog 155 #[.slice A n c] w fun E w' => ∃ A' c', E = .returned (.slice A' n c') ∧ OwI w' w.heap.size A' c' n (xs.map Sw.entLeaf) ∧ Ex w w' := by
  have hl := Lib.hid hxs.1
  go_enter Try.func155, Try.ntmps155
  go_wp2_with fail
  go_loopw [3, 8] (fun o i wr => ∃ (k : Nat) (B : Option Addr) (d : Nat), k ≤ n ∧ i = .int .i64 k ∧ o = .slice B k d ∧ Ex w wr ∧ OwI wr w.heap.size B d k ((xs.take k).map Sw.entLeaf)) (fun _ i _ => n - (intOf i).toNat)
  case atStart => exact ⟨0, _, 0, Nat.zero_le _, rfl, rfl, ext_, Ow.nil _ _⟩
  case round =>
    obtain ⟨k, B, d, hk, rfl, rfl, hb, ho⟩ := hrel
    have hst := Ex.rules hb rfl
    obtain ⟨hc, hf, hz⟩ := hst
    by_cases hlt : k < n
    · obtain ⟨g, off, y, rfl, hg0, hg, hd, hy, hc0, hc1, hc2, hc3⟩ := at_E hxs hlt
      have Hd := Lib.hid hd; have Hy := Lib.hid hy; clear hd hy
      go_wp2_with (first | (go_at_call 184; refine (iEntLeaf_c _ _).mono ?_; rintro E w1 ⟨rfl, hb⟩; have hst := xr hb; (try simp only [zA, zC, zD, zN] at hst); obtain ⟨hc, hf, hz⟩ := hst) | (at_builtin; apply wpList_app (lo := w.heap.size) el_I one_I rfl rfl rfl rfl; (first | assumption | exact Ow.nil _ _ | (apply Ow.keep; assumption; exact kf_) | (refine Ow.new [] (by (first | rfl | (simp only [zA, zC, zD, zN]; done) | omega)) rfl rfl (fun _ => rfl) (by exact sz_) (by omega))); (first | (refine Rs.new [Sw.entLeaf y] (by (first | rfl | (simp only [zA, zC, zD, zN]; done) | omega)) rfl rfl (fun _ => rfl) (by omega))); omega; exact sz_; intro A1 c1 w2 ho1 hch1 hat1 hex1 hlow1; have hb := hex1 (fun _ => False) w (by exact ext_) (by exact sz_); have hz := hch1.size; (try simp only [zA, zC, zD, zN] at hz); obtain ⟨hc, hf⟩ := low_rules hlow1; clear hlow1 hex1))
      go_roundw
      case rel => exact ⟨k + 1, A1, c1, by omega, by go_num, rfl, hb, by rw [take_snoc Hy.out, List.map_append]; exact ho1⟩
      case measure => simp [intOf]; omega
    · go_wp2_with fail
      go_ret
      obtain rfl : k = n := by omega
      refine ⟨_, _, rfl, ?_, ext_⟩
      rw [List.take_of_length_le (by have := hl.out; omega)] at ho
      exact ho
theorem iLeaves_c (A : Option Addr) (c n : Nat) (xs : List Sw.Row) (w : World) (hxs : RR w 0 A c n xs) (hn : n ≤ 4194304) : Calls Try.prog 186 #[.slice A n c] w fun E w' => ∃ A' c', E = .returned (.slice A' n c') ∧ OwI w' w.heap.size A' c' n (Sw.ownLeaves xs) ∧ Ex w w' := by
  have hl := Lib.hid hxs.1
  go_enter Try.func186, Try.ntmps186
  go_wp2_with fail
  go_loopw [3, 8] (fun o i wr => ∃ (k : Nat) (B : Option Addr) (d : Nat), k ≤ n ∧ i = .int .i64 k ∧ o = .slice B k d ∧ Ex w wr ∧ OwI wr w.heap.size B d k (Sw.ownLeaves (xs.take k))) (fun _ i _ => n - (intOf i).toNat)
  case atStart => exact ⟨0, _, 0, Nat.zero_le _, rfl, rfl, ext_, Ow.nil _ _⟩
  case round =>
    obtain ⟨k, B, d, hk, rfl, rfl, hb, ho⟩ := hrel
    have hst := Ex.rules hb rfl
    obtain ⟨hc, hf, hz⟩ := hst
    by_cases hlt : k < n
    · obtain ⟨g, off, y, rfl, hg0, hg, hd, hy, hc0, hc1, hc2⟩ := at_R hxs hlt
      have Hy := Lib.hid hy; clear hd hy
      go_wp2_with (first | (go_at_call 206; refine (iOwnLeaf_c _ _ _).mono ?_; rintro E w1 ⟨rfl, hb⟩; have hst := xr hb; (try simp only [zA, zC, zD, zN] at hst); obtain ⟨hc, hf, hz⟩ := hst) | (at_builtin; apply wpList_app (lo := w.heap.size) el_I one_I rfl rfl rfl rfl; (first | assumption | exact Ow.nil _ _ | (apply Ow.keep; assumption; exact kf_) | (refine Ow.new [] (by (first | rfl | (simp only [zA, zC, zD, zN]; done) | omega)) rfl rfl (fun _ => rfl) (by exact sz_) (by omega))); (first | (refine Rs.new [Sw.ownLeaf k y] (by (first | rfl | (simp only [zA, zC, zD, zN]; done) | omega)) rfl rfl (fun _ => rfl) (by omega))); omega; exact sz_; intro A1 c1 w2 ho1 hch1 hat1 hex1 hlow1; have hb := hex1 (fun _ => False) w (by exact ext_) (by exact sz_); have hz := hch1.size; (try simp only [zA, zC, zD, zN] at hz); obtain ⟨hc, hf⟩ := low_rules hlow1; clear hlow1 hex1))
      go_roundw
      case rel =>
        refine ⟨k + 1, A1, c1, by omega, by go_num, rfl, hb, ?_⟩
        rw [take_snoc Hy.out]
        unfold Sw.ownLeaves at ho1 ⊢
        rw [leavesFrom_snoc, List.length_take, Nat.min_eq_left (by have := hl.out; omega), Int.zero_add]
        exact ho1
      case measure => simp [intOf]; omega
    · go_wp2_with fail
      go_ret
      obtain rfl : k = n := by omega
      refine ⟨_, _, rfl, ?_, ext_⟩
      rw [List.take_of_length_le (by have := hl.out; omega)] at ho
      exact ho

theorem treRoot_own {rows : List Sw.Row} (h : Sw.ownOk rows = true) : Sw.treRoot (Sw.ownLeaves rows) = Sw.root (Sw.ownLeaves rows) := by
  rw [Sw.treRoot, if_pos]
  exact Sw.treOk_iff.2 ⟨by rw [Sw.ownLeaves, leavesFrom_length, Sw.ownOk_len h]; omega, ownLeaves_ok _⟩
theorem treRoot_ent {es : List Sw.Ent} (h : es.length ≤ 40) : Sw.treRoot (es.map Sw.entLeaf) = Sw.root (es.map Sw.entLeaf) := by
  rw [Sw.treRoot, if_pos]
  exact Sw.treOk_iff.2 ⟨by rw [List.length_map]; omega, entLeaves_ok _⟩
theorem iOwnRoot_c (A : Option Addr) (c n : Nat) (xs : List Sw.Row) (w : World) (hxs : RR w 0 A c n xs) : Calls Try.prog 156 #[.slice A n c] w fun E w' => E = .returned (.int .i64 (Sw.ownRoot xs)) ∧ Ex w w' := by
  have hl := Lib.hid hxs.1
  cases hok : Sw.ownOk xs
  case false =>
    go_enter Try.func156, Try.ntmps156; go_wp2_with (first | (go_at_call 185; apply Calls.mono; apply iOwnOk_c; ((first | (apply Rs.at0; assumption) | (apply Ow.rs0; assumption)); exact kf_); rintro E w1 ⟨rfl, hb⟩; have hst := xr hb; (try simp only [zA, zC, zD, zN] at hst); obtain ⟨hc, hf, hz⟩ := hst)); go_ret; exact ⟨ret_i (by simp [Sw.ownRoot, hok]), ext_⟩
  have hn : n = 8 := by have := hl.out; have := Sw.ownOk_len hok; omega
  subst hn
  have e := Lib.hid (treRoot_own hok)
  go_enter Try.func156, Try.ntmps156
  go_wp2_with (first | (go_at_call 185; apply Calls.mono; apply iOwnOk_c; ((first | (apply Rs.at0; assumption) | (apply Ow.rs0; assumption)); exact kf_); rintro E w1 ⟨rfl, hb⟩; have hst := xr hb; (try simp only [zA, zC, zD, zN] at hst); obtain ⟨hc, hf, hz⟩ := hst) | (go_at_call 186; apply Calls.mono; apply iLeaves_c; ((first | (apply Rs.at0; assumption) | (apply Ow.rs0; assumption)); exact kf_); (first | assumption | omega); rintro E w1 ⟨A', c', rfl, hr, hb⟩; have hst := xr hb; (try simp only [zA, zC, zD, zN] at hst); obtain ⟨hc, hf, hz⟩ := hst) | (go_at_call 154; apply Calls.mono; apply iTreRoot_c; ((first | (apply Rs.at0; assumption) | (apply Ow.rs0; assumption)); exact kf_); rintro E w1 ⟨rfl, hb⟩; have hst := xr hb; (try simp only [zA, zC, zD, zN] at hst); obtain ⟨hc, hf, hz⟩ := hst))
  go_ret
  exact ⟨ret_i (by rw [e.out]; simp [Sw.ownRoot, hok]), ext_⟩
end Go.Proofs.Ytgceeggfdomdjaa

namespace Go.Proofs.Ytgceeggfdomdjaa
set_option maxRecDepth 100000
set_option linter.unusedSimpArgs false
set_option linter.unusedVariables false
open Go.RowKit Go
set_option maxHeartbeats 400000

theorem sMonOk_c (A : Option Addr) (c n : Nat) (xs : List Int) (w : World) (hxs : RI w 0 A c n xs) : Calls Try.prog 106 #[.slice A n c] w fun E w' => E = .returned (.bool (Sw.monOk xs)) ∧ w = w' := by
  have hl := Lib.hid hxs.1
  have hbig := Rs.big hxs
  by_cases hn : n = 5
  · subst hn
    go_enter Try.func106, Try.ntmps106
    go_wp2
    go_loop [3] (fun i => ∃ k : Nat, k ≤ 5 ∧ i = .int .i64 k ∧ xs.all (fun n => Sw.inR n 0 100000) = (xs.drop k).all (fun n => Sw.inR n 0 100000)) (fun i => 5 - (intOf i).toNat)
    case atStart => exact ⟨0, Nat.zero_le _, rfl, rfl⟩
    case round =>
      obtain ⟨k, hk, rfl, hrel⟩ := hrel
      by_cases hlt : k < 5
      · obtain ⟨g, off, y, rfl, hg0, hg, hd, hy, hc⟩ := at_I hxs hlt
        rw [hd] at hrel
        clear hd hy
        have Hrel := Lib.hid hrel; clear hrel
        cases hp : Sw.inR y 0 100000 with
        | true =>
          go_wp2_with (first | (go_at_call 78; refine (l1In_c _ _ _ _).mono ?_; rintro E w' ⟨rfl, rfl⟩))
          go_round
          case rel => exact ⟨k + 1, by omega, by go_num, by rw [Hrel.out, List.all_cons, hp, Bool.true_and]⟩
          case measure => simp [intOf]; omega
        | false =>
          go_wp2_with (first | (go_at_call 78; refine (l1In_c _ _ _ _).mono ?_; rintro E w' ⟨rfl, rfl⟩))
          go_ret
          exact ⟨ret_b (by rw [Sw.monOk, Hrel.out, List.all_cons, hp]; simp), rfl⟩
      · have Hrel := Lib.hid hrel; clear hrel
        go_wp2
        go_ret
        refine ⟨ret_b ?_, rfl⟩
        rw [Sw.monOk, Hrel.out, List.drop_of_length_le (by have := hl.out; omega), ← hl.out]
        rfl
  · have hb : decide (n = 5) = false := by simp [hn]
    go_enter Try.func106, Try.ntmps106
    go_wp2
    go_ret
    refine ⟨ret_b ?_, rfl⟩
    rw [Sw.monOk, ← hl.out, hb]
    rfl

theorem monTurn_y {xs : List Int} {who v : Int} (h : Sw.turnMay xs who v = true) : Sw.monTurn xs who v = Sw.turned xs who v := by simp [Sw.monTurn, h]
theorem monTurn_n {xs : List Int} {who v : Int} (h : Sw.turnMay xs who v = false) : Sw.monTurn xs who v = xs := by simp [Sw.monTurn, h]
theorem monOk_len {xs : List Int} (h : Sw.monOk xs = true) : xs.length = 5 := (Sw.monOk_iff.1 h).1
theorem purse_at {xs : List Int} {k : Nat} {y : Int} (h : xs[k]? = some y) : Sw.purse xs (k + 1) = y := by
  unfold Sw.purse
  rw [show ((k : Int) + 1 - 1).toNat = k from by omega, List.getD_eq_getElem?_getD, h]
  rfl

theorem sMonTurn_c (A : Option Addr) (c n : Nat) (xs : List Int) (who v : Int) (w : World) (hxs : RI w 0 A c n xs) (hn : n ≤ 4194304) : Calls Try.prog 159 #[.slice A n c, .int .i64 who, .int .i64 v] w fun E w' => ∃ A' c', E = .returned (.tuple #[.slice A' n c', .bool (Sw.turnMay xs who v)]) ∧ OwI w' w.heap.size A' c' n (Sw.monTurn xs who v) ∧ Ex w w' := by
  cases g1 : Sw.monOk xs
  case false =>
    have e : Sw.turnMay xs who v = false := by simp [Sw.turnMay, g1]
    rw [e, monTurn_n e]; clear e
    go_enter Try.func159, Try.ntmps159
    go_wp2_with (first | (at_builtin; apply wpList_app (lo := w.heap.size) el_I one_I rfl rfl rfl rfl; (first | assumption | exact Ow.nil _ _ | (apply Ow.keep; assumption; exact kf_) | (refine Ow.new [] (by (first | rfl | (simp only [zA, zC, zD, zN]; done) | omega)) rfl rfl (fun _ => rfl) (by exact sz_) (by omega))); (first | ((first | (apply Rs.at0; assumption) | (apply Ow.rs0; assumption)); exact kf_)); omega; exact sz_; intro A1 c1 w2 ho1 hch1 hat1 hex1 hlow1; have hb := hex1 (fun _ => False) w (by exact ext_) (by exact sz_); have hz := hch1.size; (try simp only [zA, zC, zD, zN] at hz); obtain ⟨hc, hf⟩ := low_rules hlow1; clear hlow1 hex1) | (go_at_call 106; apply Calls.mono; apply sMonOk_c; ((first | (apply Rs.at0; assumption) | (apply Ow.rs0; assumption)); exact kf_); rintro E w' ⟨rfl, rfl⟩))
    go_ret2
    exact ⟨A1, c1, by simp, by simpa using ho1, ext_⟩
  have h5 := monOk_len g1
  have hn5 : n = 5 := by rw [hxs.1, h5]
  subst hn5
  clear h5
  cases g2 : Sw.inR who 1 5
  case false =>
    have e : Sw.turnMay xs who v = false := by simp [Sw.turnMay, g2]
    rw [e, monTurn_n e]; clear e
    go_enter Try.func159, Try.ntmps159
    go_wp2_with (first | (at_builtin; apply wpList_app (lo := w.heap.size) el_I one_I rfl rfl rfl rfl; (first | assumption | exact Ow.nil _ _ | (apply Ow.keep; assumption; exact kf_) | (refine Ow.new [] (by (first | rfl | (simp only [zA, zC, zD, zN]; done) | omega)) rfl rfl (fun _ => rfl) (by exact sz_) (by omega))); (first | ((first | (apply Rs.at0; assumption) | (apply Ow.rs0; assumption)); exact kf_)); omega; exact sz_; intro A1 c1 w2 ho1 hch1 hat1 hex1 hlow1; have hb := hex1 (fun _ => False) w (by exact ext_) (by exact sz_); have hz := hch1.size; (try simp only [zA, zC, zD, zN] at hz); obtain ⟨hc, hf⟩ := low_rules hlow1; clear hlow1 hex1) | (go_at_call 106; apply Calls.mono; apply sMonOk_c; ((first | (apply Rs.at0; assumption) | (apply Ow.rs0; assumption)); exact kf_); rintro E w' ⟨rfl, rfl⟩) | (go_at_call 78; refine (l1In_c _ _ _ _).mono ?_; rintro E w' ⟨rfl, rfl⟩))
    go_ret2
    exact ⟨A1, c1, by simp, by simpa using ho1, ext_⟩
  cases g3 : Sw.inR v (-100000) 100000
  case false =>
    have e : Sw.turnMay xs who v = false := by simp [Sw.turnMay, g3]
    rw [e, monTurn_n e]; clear e
    go_enter Try.func159, Try.ntmps159
    go_wp2_with (first | (at_builtin; apply wpList_app (lo := w.heap.size) el_I one_I rfl rfl rfl rfl; (first | assumption | exact Ow.nil _ _ | (apply Ow.keep; assumption; exact kf_) | (refine Ow.new [] (by (first | rfl | (simp only [zA, zC, zD, zN]; done) | omega)) rfl rfl (fun _ => rfl) (by exact sz_) (by omega))); (first | ((first | (apply Rs.at0; assumption) | (apply Ow.rs0; assumption)); exact kf_)); omega; exact sz_; intro A1 c1 w2 ho1 hch1 hat1 hex1 hlow1; have hb := hex1 (fun _ => False) w (by exact ext_) (by exact sz_); have hz := hch1.size; (try simp only [zA, zC, zD, zN] at hz); obtain ⟨hc, hf⟩ := low_rules hlow1; clear hlow1 hex1) | (go_at_call 106; apply Calls.mono; apply sMonOk_c; ((first | (apply Rs.at0; assumption) | (apply Ow.rs0; assumption)); exact kf_); rintro E w' ⟨rfl, rfl⟩) | (go_at_call 78; refine (l1In_c _ _ _ _).mono ?_; rintro E w' ⟨rfl, rfl⟩))
    go_ret2
    exact ⟨A1, c1, by simp, by simpa using ho1, ext_⟩
  have hw := Sw.inR_iff.1 g2
  have hv := Sw.inR_iff.1 g3
  obtain ⟨k, rfl⟩ : ∃ k : Nat, who = k + 1 := ⟨(who - 1).toNat, by omega⟩
  have hk : k < 5 := by omega
  obtain ⟨g, off, y, rfl, hg0, hg, hd, hy, hc0⟩ := at_I hxs hk
  have hyb : 0 ≤ y ∧ y ≤ 100000 := (Sw.monOk_iff.1 g1).2 y (List.mem_of_getElem? hy)
  have hpu := purse_at hy
  have Hpu := Lib.hid hpu
  have Hy := Lib.hid hy
  clear hd hy hpu
  obtain ⟨y0, y1⟩ := hyb
  obtain ⟨v0, v1⟩ := hv
  clear hw
  have t2 : IntKind.i64.wrap ((k : Int) + 1 - 1) = k := by rw [IntWalk.i64_in _ (by omega)]; omega
  cases g4 : Sw.inR (y + v) 0 100000
  case false =>
    have e : Sw.turnMay xs (k + 1) v = false := by simp [Sw.turnMay, Hpu.out, g4]
    rw [e, monTurn_n e]; clear e
    go_enter Try.func159, Try.ntmps159
    go_wp2_with (first | (at_builtin; apply wpList_app (lo := w.heap.size) el_I one_I rfl rfl rfl rfl; (first | assumption | exact Ow.nil _ _ | (apply Ow.keep; assumption; exact kf_) | (refine Ow.new [] (by (first | rfl | (simp only [zA, zC, zD, zN]; done) | omega)) rfl rfl (fun _ => rfl) (by exact sz_) (by omega))); (first | ((first | (apply Rs.at0; assumption) | (apply Ow.rs0; assumption)); exact kf_)); omega; exact sz_; intro A1 c1 w2 ho1 hch1 hat1 hex1 hlow1; have hb := hex1 (fun _ => False) w (by exact ext_) (by exact sz_); have hz := hch1.size; (try simp only [zA, zC, zD, zN] at hz); obtain ⟨hc, hf⟩ := low_rules hlow1; clear hlow1 hex1) | (go_at_call 106; apply Calls.mono; apply sMonOk_c; ((first | (apply Rs.at0; assumption) | (apply Ow.rs0; assumption)); exact kf_); rintro E w' ⟨rfl, rfl⟩) | (go_at_call 78; refine (l1In_c _ _ _ _).mono ?_; rintro E w' ⟨rfl, rfl⟩))
    go_ret2
    exact ⟨A1, c1, by simp, by simpa using ho1, ext_⟩
  have e : Sw.turnMay xs (k + 1) v = true := by simp [Sw.turnMay, g1, g2, g3, Hpu.out, g4]
  rw [e, monTurn_y e]; clear e
  go_enter Try.func159, Try.ntmps159
  go_wp2_with (first | (at_builtin; apply wpList_app (lo := w.heap.size) el_I one_I rfl rfl rfl rfl; (first | assumption | exact Ow.nil _ _ | (apply Ow.keep; assumption; exact kf_) | (refine Ow.new [] (by (first | rfl | (simp only [zA, zC, zD, zN]; done) | omega)) rfl rfl (fun _ => rfl) (by exact sz_) (by omega))); (first | ((first | (apply Rs.at0; assumption) | (apply Ow.rs0; assumption)); exact kf_)); omega; exact sz_; intro A1 c1 w2 ho1 hch1 hat1 hex1 hlow1; have hb := hex1 (fun _ => False) w (by exact ext_) (by exact sz_); have hz := hch1.size; (try simp only [zA, zC, zD, zN] at hz); obtain ⟨hc, hf⟩ := low_rules hlow1; clear hlow1 hex1))
  simp only [Nat.zero_add, List.nil_append] at ho1
  apply Calls.mono; apply sMonOk_c; (first | assumption | ((first | (apply Rs.at0; assumption) | (apply Ow.rs0; assumption)); exact kf_) | omega); rintro E w3 ⟨rfl, rfl⟩
  obtain ⟨g', x', hA, hlo, hlt, hx, hcx, hfz⟩ := at_OI ho1 hk
  obtain rfl : x' = y := by have := Hy.out; rw [hx] at this; exact Option.some.inj this
  subst hA
  clear hx
  go_wp2_with (first | (go_at_call 78; refine (l1In_c _ _ _ _).mono ?_; rintro E w' ⟨rfl, rfl⟩))
  go_ret2
  refine ⟨_, _, rfl, ?_, ext_⟩
  have r := OI_set ho1 rfl Hy.out (x' + v)
  rw [Sw.turned, Hpu.out, show ((k : Int) + 1 - 1).toNat = k from by omega]
  exact r

theorem sMonMove_c (A : Option Addr) (c n : Nat) (xs : List Int) (a b v : Int) (w : World) (hxs : RI w 0 A c n xs) (hn : n ≤ 4194304) : Calls Try.prog 207 #[.slice A n c, .int .i64 a, .int .i64 b, .int .i64 v] w fun E w' => ∃ A' c', E = .returned (.tuple #[.slice A' n c', .bool (Sw.moveMay xs a b v)]) ∧ OwI w' w.heap.size A' c' n (Sw.monMove xs a b v) ∧ Ex w w' := by
  cases g1 : Sw.inR v 0 100000
  case false =>
    have e : Sw.moveMay xs a b v = false := by simp [Sw.moveMay, g1]
    have e2 : Sw.monMove xs a b v = xs := by simp [Sw.monMove, e]
    rw [e, e2]; clear e e2
    go_enter Try.func207, Try.ntmps207
    go_wp2_with (first | (at_builtin; apply wpList_app (lo := w.heap.size) el_I one_I rfl rfl rfl rfl; (first | assumption | exact Ow.nil _ _ | (apply Ow.keep; assumption; exact kf_) | (refine Ow.new [] (by (first | rfl | (simp only [zA, zC, zD, zN]; done) | omega)) rfl rfl (fun _ => rfl) (by exact sz_) (by omega))); (first | ((first | (apply Rs.at0; assumption) | (apply Ow.rs0; assumption)); exact kf_)); omega; exact sz_; intro A1 c1 w2 ho1 hch1 hat1 hex1 hlow1; have hb := hex1 (fun _ => False) w (by exact ext_) (by exact sz_); have hz := hch1.size; (try simp only [zA, zC, zD, zN] at hz); obtain ⟨hc, hf⟩ := low_rules hlow1; clear hlow1 hex1) | (go_at_call 78; refine (l1In_c _ _ _ _).mono ?_; rintro E w' ⟨rfl, rfl⟩))
    go_ret2
    exact ⟨A1, c1, by simp, by simpa using ho1, ext_⟩
  have hv := Sw.inR_iff.1 g1
  obtain ⟨v0, v1⟩ := hv
  by_cases g2 : a = b
  case pos =>
    have hab : (a == b) = true := by simp [g2]
    have e : Sw.moveMay xs a b v = false := by simp [Sw.moveMay, g2]
    have e2 : Sw.monMove xs a b v = xs := by simp [Sw.monMove, e]
    rw [e, e2]; clear e e2 g2
    go_enter Try.func207, Try.ntmps207
    go_wp2_with (first | (at_builtin; apply wpList_app (lo := w.heap.size) el_I one_I rfl rfl rfl rfl; (first | assumption | exact Ow.nil _ _ | (apply Ow.keep; assumption; exact kf_) | (refine Ow.new [] (by (first | rfl | (simp only [zA, zC, zD, zN]; done) | omega)) rfl rfl (fun _ => rfl) (by exact sz_) (by omega))); (first | ((first | (apply Rs.at0; assumption) | (apply Ow.rs0; assumption)); exact kf_)); omega; exact sz_; intro A1 c1 w2 ho1 hch1 hat1 hex1 hlow1; have hb := hex1 (fun _ => False) w (by exact ext_) (by exact sz_); have hz := hch1.size; (try simp only [zA, zC, zD, zN] at hz); obtain ⟨hc, hf⟩ := low_rules hlow1; clear hlow1 hex1) | (go_at_call 78; refine (l1In_c _ _ _ _).mono ?_; rintro E w' ⟨rfl, rfl⟩))
    go_ret2
    exact ⟨A1, c1, by simp, by simpa using ho1, ext_⟩
  have hab : (a == b) = false := by simp [g2]
  cases g3 : Sw.turnMay xs a (-v)
  case false =>
    have e : Sw.moveMay xs a b v = false := by simp [Sw.moveMay, g3]
    have e2 : Sw.monMove xs a b v = xs := by simp [Sw.monMove, e]
    rw [e, e2]; clear e e2 g2
    go_enter Try.func207, Try.ntmps207
    go_wp2_with (first | (at_builtin; apply wpList_app (lo := w.heap.size) el_I one_I rfl rfl rfl rfl; (first | assumption | exact Ow.nil _ _ | (apply Ow.keep; assumption; exact kf_) | (refine Ow.new [] (by (first | rfl | (simp only [zA, zC, zD, zN]; done) | omega)) rfl rfl (fun _ => rfl) (by exact sz_) (by omega))); (first | ((first | (apply Rs.at0; assumption) | (apply Ow.rs0; assumption)); exact kf_)); omega; exact sz_; intro A1 c1 w2 ho1 hch1 hat1 hex1 hlow1; have hb := hex1 (fun _ => False) w (by exact ext_) (by exact sz_); have hz := hch1.size; (try simp only [zA, zC, zD, zN] at hz); obtain ⟨hc, hf⟩ := low_rules hlow1; clear hlow1 hex1) | (go_at_call 78; refine (l1In_c _ _ _ _).mono ?_; rintro E w' ⟨rfl, rfl⟩) | (go_at_call 159; apply Calls.mono; apply sMonTurn_c; (first | assumption | ((first | (apply Rs.at0; assumption) | (apply Ow.rs0; assumption)); exact kf_) | omega); omega; rintro E w3 ⟨A3, c3, rfl, ho3, hb3⟩; have hst := Ex.rules hb3 rfl; obtain ⟨hc3, hf3, hz3⟩ := hst))
    go_ret2
    exact ⟨A1, c1, by simp, (by simpa using ho1.less (by omega)), ext_⟩
  have e3 := monTurn_y g3
  have E3 := Lib.hid e3; clear e3
  cases g4 : Sw.turnMay (Sw.turned xs a (-v)) b v
  case false =>
    have e : Sw.moveMay xs a b v = false := by simp [Sw.moveMay, g4]
    have e2 : Sw.monMove xs a b v = xs := by simp [Sw.monMove, e]
    rw [e, e2]; clear e e2 g2
    go_enter Try.func207, Try.ntmps207
    go_wp2_with (first | (at_builtin; apply wpList_app (lo := w.heap.size) el_I one_I rfl rfl rfl rfl; (first | assumption | exact Ow.nil _ _ | (apply Ow.keep; assumption; exact kf_) | (refine Ow.new [] (by (first | rfl | (simp only [zA, zC, zD, zN]; done) | omega)) rfl rfl (fun _ => rfl) (by exact sz_) (by omega))); (first | ((first | (apply Rs.at0; assumption) | (apply Ow.rs0; assumption)); exact kf_)); omega; exact sz_; intro A1 c1 w2 ho1 hch1 hat1 hex1 hlow1; have hb := hex1 (fun _ => False) w (by exact ext_) (by exact sz_); have hz := hch1.size; (try simp only [zA, zC, zD, zN] at hz); obtain ⟨hc, hf⟩ := low_rules hlow1; clear hlow1 hex1) | (go_at_call 78; refine (l1In_c _ _ _ _).mono ?_; rintro E w' ⟨rfl, rfl⟩) | (go_at_call 159; apply Calls.mono; apply (sMonTurn_c (xs := Sw.turned xs a (-v))); (first | assumption | ((first | (apply Rs.at0; assumption) | (apply Ow.rs0; assumption)); exact kf_) | omega); omega; rintro E w4 ⟨A4, c4, rfl, ho4, hb4⟩; have hst := Ex.rules hb4 rfl; obtain ⟨hc4, hf4, hz4⟩ := hst) | (go_at_call 159; apply Calls.mono; apply (sMonTurn_c (xs := xs)); (first | assumption | ((first | (apply Rs.at0; assumption) | (apply Ow.rs0; assumption)); exact kf_) | omega); omega; rintro E w3 ⟨A3, c3, rfl, ho3, hb3⟩; rw [E3.out] at ho3; have hst := Ex.rules hb3 rfl; obtain ⟨hc3, hf3, hz3⟩ := hst))
    go_ret2
    exact ⟨A1, c1, by simp, (by simpa using ho1.less (by omega)), ext_⟩
  have e : Sw.moveMay xs a b v = true := by simp [Sw.moveMay, g1, g2, g3, g4]
  have e2 : Sw.monMove xs a b v = Sw.turned (Sw.turned xs a (-v)) b v := by simp [Sw.monMove, e]
  have e4 := monTurn_y g4
  have E4 := Lib.hid e4; clear e4
  rw [e, e2]; clear e e2 g2
  go_enter Try.func207, Try.ntmps207
  go_wp2_with (first | (go_at_call 78; refine (l1In_c _ _ _ _).mono ?_; rintro E w' ⟨rfl, rfl⟩) | (go_at_call 159; apply Calls.mono; apply (sMonTurn_c (xs := Sw.turned xs a (-v))); (first | assumption | ((first | (apply Rs.at0; assumption) | (apply Ow.rs0; assumption)); exact kf_) | omega); omega; rintro E w4 ⟨A4, c4, rfl, ho4, hb4⟩; rw [E4.out] at ho4; have hst := Ex.rules hb4 rfl; obtain ⟨hc4, hf4, hz4⟩ := hst) | (go_at_call 159; apply Calls.mono; apply (sMonTurn_c (xs := xs)); (first | assumption | ((first | (apply Rs.at0; assumption) | (apply Ow.rs0; assumption)); exact kf_) | omega); omega; rintro E w3 ⟨A3, c3, rfl, ho3, hb3⟩; rw [E3.out] at ho3; have hst := Ex.rules hb3 rfl; obtain ⟨hc3, hf3, hz3⟩ := hst))
  go_ret2
  exact ⟨A4, c4, rfl, ho4.less (by omega), ext_⟩
end Go.Proofs.Ytgceeggfdomdjaa

