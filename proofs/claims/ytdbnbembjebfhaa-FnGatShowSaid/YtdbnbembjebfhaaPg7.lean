/-
  Texts joined: Draw3, Draw5, Impl1, Impl2, Impl3, Impl4, ImpA, ImpB.
-/
import Derived.Test.YtdbnbembjebfhaaPg6
import Derived.Test.YtdbnbembjebfhaaPg2
import Derived.Test.YtdbnbembjebfhaaPg4
import Derived.Test.YtdbnbembjebfhaaPg5
import Derived.Test.YtdbnbembjebfhaaPg3
namespace Go.Proofs.Ytdbnbembjebfhaa
set_option maxRecDepth 100000
set_option linter.unusedSimpArgs false
set_option linter.unusedVariables false
open Go.RowKit Go
set_option maxHeartbeats 4000000

theorem sHedAtA_c (A : Option Addr) (c n : Nat) (s : Int) (xs : List Sw.Ent) (w : World) (hxs : RE w 0 A c n xs) : Calls Try.prog 75 #[.slice A n c, .int .i64 s] w fun E w' => ∃ p q r b, E = .returned (.tuple #[.agg #[.int .i64 p, .int .i64 q, .int .i64 r], .bool b]) ∧ True ∧ Ex w w' := by
  refine (sHedAt_c A c n s xs w hxs).mono ?_
  rintro E w' ⟨rfl, hb⟩
  exact ⟨_, _, _, _, rfl, trivial, hb⟩
/-- What is picked out of three numbers that were written out. -/
def sel3 (v : Nat) (a b c : Int) : Int := if v = 0 then a else if v = 1 then b else c
theorem sel3_cell {v : Nat} (h : v < 3) (W : World) (a b c : Int) (T : TypeId) : (W.alloc (.cells #[.int .i64 a, .int .i64 b, .int .i64 c] T)).cell? ⟨W.heap.size, v, none⟩ = some (.int .i64 (sel3 v a b c)) := by
  rcases (show v = 0 ∨ v = 1 ∨ v = 2 by omega) with rfl | rfl | rfl <;> simp [go_sem, sel3]
theorem l21Head_c (rb P : Nat) (A : Option Addr) (c m : Nat) (es : List Sw.Ent) (n : Int) (w : World) (hr : Rdp w rb P) (hes : RE w (rb + 1) A c m es) (hP : P ≤ 900000) (hm : m ≤ 900000) (h1 : 1 ≤ n) (h2 : n ≤ 1000000) : Calls Try.prog 76 #[.pointer (some ⟨rb, 0, none⟩), .slice A m c, .int .i64 n] w fun E w' => ∃ a b d, E = .returned (.agg #[.int .i64 a, .int .i64 b, .int .i64 d]) ∧ Rdp w' rb (P + 10) ∧ Ch (· = rb) w w' := by
  have hlt := hr.lt
  go_enter Try.func76, Try.ntmps76
  go_upto_region 2 with (first | (go_at_call 29; apply Calls.mono; apply pick_c; (apply Rdp.keep; assumption; (exact kb_)); (first | assumption | omega); (first | assumption | omega); rintro E w1 ⟨v, rfl, ⟨hv0, hv1⟩, hrd, hb⟩; have hst := xc hb; (try simp only [zA, zC, zD, zN] at hst); obtain ⟨hc, hf, hz⟩ := hst) | (go_at_call 75; apply Calls.mono; apply sHedAtA_c; ((first | (apply Rs.at0; assumption) | (apply Ow.rs0; assumption) | (apply OwT.rs0; assumption)); exact kf_); rintro E w1 ⟨p, q, r, b, rfl, -, hb⟩; have hst := xr hb; (try simp only [zA, zC, zD, zN] at hst); obtain ⟨hc, hf, hz⟩ := hst))
  (refine wp_name ?_; intro W0 hb0; have hst := xr hb0; (try simp only [zA, zC, zD, zN] at hst); obtain ⟨hc0, hf0, hz0⟩ := hst)
  obtain ⟨g, hgg⟩ : ∃ g, g = w1.heap.size := ⟨_, rfl⟩
  have hI : Ints W0 g 3 := Ints.ch hb0 (fun h => h) (by rw [hgg]; exact Ints.new (zs := [_, _, _]) rfl rfl rfl)
  have hR : Ints W0 w.heap.size 3 := (by (repeat (first | with_reducible assumption | exact Ints.new (zs := [_, _, _, _, _, _]) (by first | with_reducible rfl | omega | (simp only [zA, zC, zD, zN]; done) | (simp only [zA, zC, zD, zN]; omega)) rfl rfl | exact Ints.new (zs := [_, _, _]) (by first | with_reducible rfl | omega | (simp only [zA, zC, zD, zN]; done) | (simp only [zA, zC, zD, zN]; omega)) rfl rfl | exact Ints.new (zs := [_, _, _, _]) (by first | with_reducible rfl | omega | (simp only [zA, zC, zD, zN]; done) | (simp only [zA, zC, zD, zN]; omega)) rfl rfl | with_reducible apply Ints.alloc | with_reducible apply Ints.drew | (with_reducible refine Ints.set ?_ rfl) | (with_reducible refine Ints.ch (by assumption) (by first | exact (fun h => h) | omega | (simp only [zA, zC, zD, zN]; omega)) ?_))))
  have HK : RdCh w W0 rb (P + 1) := ⟨Rdp.keep hrd (by (exact kb_)), ext_⟩
  have hg0 : w.heap.size + 1 ≤ g := by rw [hgg]; exact sz_
  rw [← hgg]
  clear hgg hrd hb hc hf hz hb0 hc0 hf0 hz0 hes
  ((repeat (rename Ch _ _ _ => zz; clear zz)); (repeat (rename Rdp _ _ _ => zz; clear zz)); (repeat (rename (∀ (b o : Nat), ¬ ((⟨b, 0, none⟩ : Addr) = ⟨b - _ + _, 0, none⟩) → _) => zz; clear zz)))
  have hrd := HK.rd
  have hb := HK.ch
  have hgS := hI.lt
  have hgr : g ≠ rb := by omega
  have hLg := hI.lb
  have hLr := hrd.lb
  obtain ⟨ci0, hci0⟩ := hI.at_ (i := 0) (by omega); obtain ⟨ci1, hci1⟩ := hI.at_ (i := 1) (by omega); obtain ⟨ci2, hci2⟩ := hI.at_ (i := 2) (by omega); have hcif := hI.free
  go_upto_if 21 with (go_at_call 30; apply Calls.mono; apply odd_c; (apply Rdp.keep; assumption; (exact kb_)); (first | assumption | omega); (first | assumption | omega); (first | assumption | omega); rintro E w1 ⟨b, rfl, hrd, hb⟩; have hst := xc hb; (try simp only [zA, zC, zD, zN] at hst); obtain ⟨hc, hf, hz⟩ := hst)
  go_cut [] (fun wx => DrawAt w wx rb w.heap.size g 3 (P + 9))
  case first =>
    go_wp2_with (first | (go_at_call 29; apply Calls.mono; apply pick_c; (apply Rdp.keep; assumption; (exact kb_)); (first | assumption | omega); (first | assumption | omega); rintro E w1 ⟨v, rfl, ⟨hv0, hv1⟩, hrd, hb⟩; have hst := xc hb; (try simp only [zA, zC, zD, zN] at hst); obtain ⟨hc, hf, hz⟩ := hst) | (go_at_call 35; apply Calls.mono; apply l20Mix_c; (apply Rdp.keep; assumption; (exact kb_)); (first | assumption | omega); (first | assumption | omega); (first | assumption | omega); rintro E w1 ⟨m, rfl, hrd, hb⟩; have hst := xc hb; (try simp only [zA, zC, zD, zN] at hst); obtain ⟨hc, hf, hz⟩ := hst))
    · (focus (refine wp_name ?_; intro W0 hb0; have hst := xr hb0; (try simp only [zA, zC, zD, zN] at hst); obtain ⟨hc0, hf0, hz0⟩ := hst; refine wp_regionX [9] (S := fun w' => HeldR rb W0 w') hdR (fun hHeld => ?_); refine GoesX.take 0 29 [1, 2, 3, 6, 7, 8, 9] hHeld (h := ?_); refine GoesX.take 1 30 [2, 3, 6, 7, 8, 9] hHeld (h := ?_); refine GoesX.take 2 31 [3, 6, 7, 8, 9] hHeld (h := ?_); refine GoesX.take 4 33 [5, 6, 7, 8, 9] hHeld (h := ?_); refine GoesX.ready (rs := [3, 5]) (by kernel_rfl) (by simp) ?_; refine EachX.cons rfl (fun K hK => ?_) ?_; rotate_left; refine EachX.cons rfl (fun K hK => ?_) EachX.nil; (focus (go_simp; (go_at_call 29; apply Calls.mono; apply (pickN_c (N := 3)); (apply Rdp.keep; assumption; (exact kb_)); omega; rfl; decide; rintro E w5 ⟨v5, rfl, hv5, hrd, hb⟩; have hsel := sel3_cell hv5; have hv5i : (v5 : Int) < 3 := (by omega); (have hst := xc hb; (try simp only [zA, zC, zD, zN] at hst); obtain ⟨hc, hf, hz⟩ := hst)); (try go_wp2_with fail); refine outS hK hdR (h := fun hH2 => ?_); clear hK K hHeld; have hHeld := hH2; clear hH2; refine GoesX.one 3 (h := fun K hK => ?_); go_simp; refine outS hK hdR (h := fun hH2 => ?_); clear hK K hHeld; have hHeld := hH2; clear hH2; refine GoesX.take 6 35 [7, 8, 9] hHeld (h := ?_); refine GoesX.one 7 (h := fun K hK => ?_); go_simp; refine outS hK hdR (h := fun hH2 => ?_); clear hK K hHeld; have hHeld := hH2; clear hH2; refine GoesX.take 8 37 [9] hHeld (h := ?_); refine GoesX.oneX 9 (h := fun K hK => ?_); go_simp; refine outX hK (h := ?_); clear hK K; refine GoesX.done (by kernel_rfl) ?_ _)); rotate_right 1; (focus (go_simp; refine outS hK hdR (h := fun hH2 => ?_); clear hK K hHeld; have hHeld := hH2; clear hH2; refine GoesX.one 5 (h := fun K hK => ?_); go_simp; (go_at_call 29; apply Calls.mono; apply (pickN_c (N := 3)); (apply Rdp.keep; assumption; (exact kb_)); omega; rfl; decide; rintro E w5 ⟨v5, rfl, hv5, hrd, hb⟩; have hsel := sel3_cell hv5; have hv5i : (v5 : Int) < 3 := (by omega); (have hst := xc hb; (try simp only [zA, zC, zD, zN] at hst); obtain ⟨hc, hf, hz⟩ := hst)); (try go_wp2_with fail); refine outS hK hdR (h := fun hH2 => ?_); clear hK K hHeld; have hHeld := hH2; clear hH2; refine GoesX.take 6 35 [7, 8, 9] hHeld (h := ?_); refine GoesX.one 7 (h := fun K hK => ?_); go_simp; refine outS hK hdR (h := fun hH2 => ?_); clear hK K hHeld; have hHeld := hH2; clear hH2; refine GoesX.take 8 37 [9] hHeld (h := ?_); refine GoesX.oneX 9 (h := fun K hK => ?_); go_simp; refine outX hK (h := ?_); clear hK K; refine GoesX.done (by kernel_rfl) ?_ _))))
      all_goals go_wp2_with fail
      all_goals go_meet
      all_goals exact ⟨by (repeat (first | with_reducible assumption | exact Ints.new (zs := [_, _, _, _, _, _]) (by first | with_reducible rfl | omega | (simp only [zA, zC, zD, zN]; done) | (simp only [zA, zC, zD, zN]; omega)) rfl rfl | exact Ints.new (zs := [_, _, _]) (by first | with_reducible rfl | omega | (simp only [zA, zC, zD, zN]; done) | (simp only [zA, zC, zD, zN]; omega)) rfl rfl | exact Ints.new (zs := [_, _, _, _]) (by first | with_reducible rfl | omega | (simp only [zA, zC, zD, zN]; done) | (simp only [zA, zC, zD, zN]; omega)) rfl rfl | with_reducible apply Ints.alloc | with_reducible apply Ints.drew | (with_reducible refine Ints.set ?_ rfl) | (with_reducible refine Ints.ch (by assumption) (by first | exact (fun h => h) | omega | (simp only [zA, zC, zD, zN]; omega)) ?_))), by (repeat (first | with_reducible assumption | exact Ints.new (zs := [_, _, _, _, _, _]) (by first | with_reducible rfl | omega | (simp only [zA, zC, zD, zN]; done) | (simp only [zA, zC, zD, zN]; omega)) rfl rfl | exact Ints.new (zs := [_, _, _]) (by first | with_reducible rfl | omega | (simp only [zA, zC, zD, zN]; done) | (simp only [zA, zC, zD, zN]; omega)) rfl rfl | exact Ints.new (zs := [_, _, _, _]) (by first | with_reducible rfl | omega | (simp only [zA, zC, zD, zN]; done) | (simp only [zA, zC, zD, zN]; omega)) rfl rfl | with_reducible apply Ints.alloc | with_reducible apply Ints.drew | (with_reducible refine Ints.set ?_ rfl) | (with_reducible refine Ints.ch (by assumption) (by first | exact (fun h => h) | omega | (simp only [zA, zC, zD, zN]; omega)) ?_))), Rdp.more (Rdp.keep (by assumption) (by (exact kb_))) (by omega), ext_⟩
    all_goals go_meet
    all_goals exact ⟨by (repeat (first | with_reducible assumption | exact Ints.new (zs := [_, _, _, _, _, _]) (by first | with_reducible rfl | omega | (simp only [zA, zC, zD, zN]; done) | (simp only [zA, zC, zD, zN]; omega)) rfl rfl | exact Ints.new (zs := [_, _, _]) (by first | with_reducible rfl | omega | (simp only [zA, zC, zD, zN]; done) | (simp only [zA, zC, zD, zN]; omega)) rfl rfl | exact Ints.new (zs := [_, _, _, _]) (by first | with_reducible rfl | omega | (simp only [zA, zC, zD, zN]; done) | (simp only [zA, zC, zD, zN]; omega)) rfl rfl | with_reducible apply Ints.alloc | with_reducible apply Ints.drew | (with_reducible refine Ints.set ?_ rfl) | (with_reducible refine Ints.ch (by assumption) (by first | exact (fun h => h) | omega | (simp only [zA, zC, zD, zN]; omega)) ?_))), by (repeat (first | with_reducible assumption | exact Ints.new (zs := [_, _, _, _, _, _]) (by first | with_reducible rfl | omega | (simp only [zA, zC, zD, zN]; done) | (simp only [zA, zC, zD, zN]; omega)) rfl rfl | exact Ints.new (zs := [_, _, _]) (by first | with_reducible rfl | omega | (simp only [zA, zC, zD, zN]; done) | (simp only [zA, zC, zD, zN]; omega)) rfl rfl | exact Ints.new (zs := [_, _, _, _]) (by first | with_reducible rfl | omega | (simp only [zA, zC, zD, zN]; done) | (simp only [zA, zC, zD, zN]; omega)) rfl rfl | with_reducible apply Ints.alloc | with_reducible apply Ints.drew | (with_reducible refine Ints.set ?_ rfl) | (with_reducible refine Ints.ch (by assumption) (by first | exact (fun h => h) | omega | (simp only [zA, zC, zD, zN]; omega)) ?_))), Rdp.more (Rdp.keep (by assumption) (by (exact kb_))) (by omega), ext_⟩
  case rest =>
    ((repeat (rename Ch _ _ _ => zz; clear zz)); (repeat (rename Rdp _ _ _ => zz; clear zz)); (repeat (rename (∀ (b o : Nat), ¬ ((⟨b, 0, none⟩ : Addr) = ⟨b - _ + _, 0, none⟩) → _) => zz; clear zz)))
    obtain ⟨own, res, rd, hbx⟩ := hcut
    obtain ⟨o0, ho0⟩ := own.at_ (i := 0) (by omega); obtain ⟨o1, ho1⟩ := own.at_ (i := 1) (by omega); obtain ⟨o2, ho2⟩ := own.at_ (i := 2) (by omega); have hof := own.free
    obtain ⟨r0, hr0⟩ := res.at_ (i := 0) (by omega); obtain ⟨r1, hr1⟩ := res.at_ (i := 1) (by omega); obtain ⟨r2, hr2⟩ := res.at_ (i := 2) (by omega); have hrf := res.free
    go_wp2_with fail
    refine bodyPost_ret (v := .agg #[.int .i64 o0, .int .i64 o1, .int .i64 o2]) (by simp [results, Try.results76, go_sem, *]) rfl ?_
    exact ⟨o0, o1, o2, rfl, rd.keep (by (exact kb_)) |>.more (by omega), ext_⟩
theorem Lb.at_ {w : World} {g n : Nat} (h : Lb w g n) {i : Nat} (hi : i < n) : ∃ v, w.cell? ⟨g, i, none⟩ = some v := by
  obtain ⟨cs, T, h1, h2⟩ := h
  exact ⟨cs[i], by simp [World.cell?, h1, h2, hi]⟩
/-- A gate in block g: its head's numbers, and who is done. -/
structure GAt (w : World) (g : Nat) (a b d : Int) (B : Option Addr) (k e : Nat) : Prop where
  lt : g < w.heap.size
  c0 : w.cell? ⟨g, 0, none⟩ = some (.int .i64 a)
  c1 : w.cell? ⟨g, 1, none⟩ = some (.int .i64 b)
  c2 : w.cell? ⟨g, 2, none⟩ = some (.int .i64 d)
  c3 : w.cell? ⟨g, 3, none⟩ = some (.slice B k e)
  free : ∀ i, w.frozen? ⟨g, i, none⟩ = false
theorem l21Gate_c (rb P : Nat) (A : Option Addr) (c m : Nat) (es : List Sw.Ent) (n : Int) (w : World) (hr : Rdp w rb P) (hes : RE w (rb + 1) A c m es) (hP : P ≤ 800000) (hm : m ≤ 900000) (h1 : 1 ≤ n) (h2 : n ≤ 1000000) : Calls Try.prog 28 #[.pointer (some ⟨rb, 0, none⟩), .slice A m c, .int .i64 n] w fun E w' => ∃ a b d B e k ys, E = .returned (.agg #[.int .i64 a, .int .i64 b, .int .i64 d, .slice B k e]) ∧ RI w' w.heap.size B e k ys ∧ k ≤ 9 ∧ Rdp w' rb (P + 40) ∧ Ch (· = rb) w w' := by
  have hlt := hr.lt
  go_enter Try.func28, Try.ntmps28
  go_upto_region 2 with (go_at_call 74; refine (sGatNew_c _).mono ?_; rintro E w1 ⟨rfl, hb⟩; have hst := xr hb; (try simp only [zA, zC, zD, zN] at hst); obtain ⟨hc, hf, hz⟩ := hst)
  (refine wp_name ?_; intro W0 hb0; have hst := xr hb0; (try simp only [zA, zC, zD, zN] at hst); obtain ⟨hc0, hf0, hz0⟩ := hst)
  obtain ⟨g, hgg⟩ : ∃ g, g = w1.heap.size := ⟨_, rfl⟩
  have hG : ∃ a b d, GAt W0 g a b d none 0 0 := ⟨((Sw.hedOf []).getD Sw.headZ).size, ((Sw.hedOf []).getD Sw.headZ).log, ((Sw.hedOf []).getD Sw.headZ).own, by rw [hgg]; exact ⟨sz_, by (go_simp; first | done | simp [*]), by (go_simp; first | done | simp [*]), by (go_simp; first | done | simp [*]), by (go_simp; first | done | simp [*]), fun i => by (go_simp; first | done | simp [*])⟩⟩
  have hR : Lb W0 w.heap.size 4 := (by exact lbc_)
  have HK : RdCh w W0 rb P := ⟨Rdp.keep hr (by (exact kb_)), ext_⟩
  have hg0 : w.heap.size + 1 ≤ g := by rw [hgg]; exact sz_
  rw [← hgg]
  clear hgg hb hc hf hz hb0 hc0 hf0 hz0 hr
  obtain ⟨a0, b0, d0, hG⟩ := hG
  obtain ⟨hr, hb⟩ := HK
  have hgS := hG.lt
  obtain ⟨-, k0, k1, k2, k3, kf⟩ := hG
  go_upto_if 22 with (first | (go_at_call 29; apply Calls.mono; apply pick_c; (apply Rdp.keep; assumption; (exact kb_)); (first | assumption | omega); (first | assumption | omega); rintro E w1 ⟨v, rfl, ⟨hv0, hv1⟩, hrd, hb⟩; have hst := xc hb; (try simp only [zA, zC, zD, zN] at hst); obtain ⟨hc, hf, hz⟩ := hst) | (go_at_call 75; apply Calls.mono; apply sHedAtA_c; ((first | (apply Rs.at0; assumption) | (apply Ow.rs0; assumption) | (apply OwT.rs0; assumption)); exact kf_); rintro E w1 ⟨p, q, r, b, rfl, -, hb⟩; have hst := xr hb; (try simp only [zA, zC, zD, zN] at hst); obtain ⟨hc, hf, hz⟩ := hst))
  go_cut [] (fun wx => ∃ a b d, GAt wx g a b d none 0 0 ∧ Lb wx w.heap.size 4 ∧ Rdp wx rb (P + 1) ∧ Ch (· = rb) w wx)
  case first =>
    go_wp2_with fail
    all_goals go_meet
    all_goals refine ⟨(if b then p else a0), (if b then q else b0), (if b then r else d0), ⟨sz_, by (go_simp; first | done | simp [*]), by (go_simp; first | done | simp [*]), by (go_simp; first | done | simp [*]), by (go_simp; first | done | simp [*]), fun i => by (go_simp; first | done | simp [*])⟩, (by (repeat (first | with_reducible assumption | with_reducible exact Lb.new (by first | rfl | (simp only [zA, zC, zD, zN]; done)) (by with_unfolding_all rfl) | with_reducible apply Lb.alloc | with_reducible apply Lb.set | with_reducible apply Lb.drew | (with_reducible refine Lb.ex ?_ (by assumption)) | (refine Lb.chk (S := fun k => k = rb) (by with_reducible assumption) ?_ (by show ¬ _ = rb; omega))))), Rdp.keep (by assumption) (by (exact kb_)), ext_⟩
  case rest =>
    ((repeat (rename Ch _ _ _ => zz; clear zz)); (repeat (rename Rdp _ _ _ => zz; clear zz)); (repeat (rename (∀ (b o : Nat), ¬ ((⟨b, 0, none⟩ : Addr) = ⟨b - _ + _, 0, none⟩) → _) => zz; clear zz)))
    clear k0 k1 k2 k3 kf hR a0 b0 d0
    obtain ⟨a0, b0, d0, hG, hR, hr, hb⟩ := hcut
    have hzc := hb.size
    go_wp2_with fail
    go_loopw [10] (fun t wr => ∃ (t0 k e : Nat) (a b d : Int) (B : Option Addr) (ys : List Int), t = .int .i64 t0 ∧ t0 ≤ 8 ∧ k ≤ t0 ∧ GAt wr g a b d B k e ∧ OwI wr (g + 1) B e k ys ∧ Lb wr w.heap.size 4 ∧ Rdp wr rb (P + 1 + t0) ∧ Ch (· = rb) w wr) (fun t _ => 8 - (intOf t).toNat)
    case atStart => exact ⟨0, 0, 0, a0, b0, d0, none, [], rfl, by omega, by omega, hG, Ow.nil _ _, hR, hr, hb⟩
    case round =>
      obtain ⟨t0, k, e, a0, b0, d0, B, ys, rfl, ht0, hk, hG, ho, hR, hr, hb⟩ := hrel
      have hst := xc hb
      obtain ⟨hc, hf, hz⟩ := hst
      obtain ⟨hgS, k0, k1, k2, k3, kf⟩ := hG
      have hgr : ¬ g = rb := by omega
      by_cases hlt8 : t0 < 8
      · go_wp2_with (first | (go_at_call 29; apply Calls.mono; apply pick_c; (apply Rdp.keep; assumption; (exact kb_)); (first | assumption | omega); (first | assumption | omega); rintro E w1 ⟨v, rfl, ⟨hv0, hv1⟩, hrd, hb⟩; have hst := xc hb; (try simp only [zA, zC, zD, zN] at hst); obtain ⟨hc, hf, hz⟩ := hst) | (at_builtin; apply wpList_app (lo := g + 1) el_I one_I rfl rfl rfl rfl; (first | assumption | exact Ow.nil _ _ | (apply Ow.keep; assumption; exact kf_) | (refine Ow.new [] (by (first | rfl | (simp only [zA, zC, zD, zN]; done) | omega)) rfl rfl (fun _ => rfl) (by exact sz_) (by omega))); (first | (refine Rs.new [_] (by (first | rfl | (simp only [zA, zC, zD, zN]; done) | omega)) rfl rfl (fun _ => rfl) (by omega))); omega; exact sz_; intro A1 c1 w2 ho1 hch1 hat1 hex1 hlow1; have hb := hex1 (· = rb) w (by exact ext_) (by omega); have hrd := Rdp.low (Rdp.keep (by assumption) (by exact kb_)) hch1.size hlow1 (by omega); have hz := hch1.size; (try simp only [zA, zC, zD, zN] at hz); obtain ⟨hc, hf⟩ := low_rules hlow1; clear hex1))
        · go_roundw
          case rel => exact ⟨t0 + 1, k + 1, c1, a0, b0, d0, A1, _, by go_num, by omega, by omega, ⟨sz_, by (go_simp; first | done | simp [*]), by (go_simp; first | done | simp [*]), by (go_simp; first | done | simp [*]), by (go_simp; first | done | simp [*]), fun i => by (go_simp; first | done | simp [*])⟩, ho1.keep kf_, Lb.set (Lb.low hlow1 (show w.heap.size < g + 1 by omega) (by (repeat (first | with_reducible assumption | with_reducible exact Lb.new (by first | rfl | (simp only [zA, zC, zD, zN]; done)) (by with_unfolding_all rfl) | with_reducible apply Lb.alloc | with_reducible apply Lb.set | with_reducible apply Lb.drew | (with_reducible refine Lb.ex ?_ (by assumption)) | (refine Lb.chk (S := fun k => k = rb) (by with_reducible assumption) ?_ (by show ¬ _ = rb; omega)))))), (Rdp.keep hrd (by (exact kb_))).more (by omega), ext_⟩
          case measure => simp [intOf]; omega
        · go_roundw
          case rel => exact ⟨t0 + 1, k, e, a0, b0, d0, B, ys, by go_num, by omega, by omega, ⟨sz_, by (go_simp; first | done | simp [*]), by (go_simp; first | done | simp [*]), by (go_simp; first | done | simp [*]), by (go_simp; first | done | simp [*]), fun i => by (go_simp; first | done | simp [*])⟩, ho.keep kf_, by (repeat (first | with_reducible assumption | with_reducible exact Lb.new (by first | rfl | (simp only [zA, zC, zD, zN]; done)) (by with_unfolding_all rfl) | with_reducible apply Lb.alloc | with_reducible apply Lb.set | with_reducible apply Lb.drew | (with_reducible refine Lb.ex ?_ (by assumption)) | (refine Lb.chk (S := fun k => k = rb) (by with_reducible assumption) ?_ (by show ¬ _ = rb; omega)))), (Rdp.keep hrd (by (exact kb_))).more (by omega), ext_⟩
          case measure => simp [intOf]; omega
      · obtain ⟨r0, hr0⟩ := hR.at_ (i := 0) (by omega)
        obtain ⟨r1, hr1⟩ := hR.at_ (i := 1) (by omega)
        obtain ⟨r2, hr2⟩ := hR.at_ (i := 2) (by omega)
        obtain ⟨r3, hr3⟩ := hR.at_ (i := 3) (by omega)
        have hrf := hR.rules.2
        go_upto_if 40 with (go_at_call 30; apply Calls.mono; apply odd_c; (apply Rdp.keep; assumption; (exact kb_)); (first | assumption | omega); (first | assumption | omega); (first | assumption | omega); rintro E w1 ⟨b, rfl, hrd, hb⟩; have hst := xc hb; (try simp only [zA, zC, zD, zN] at hst); obtain ⟨hc, hf, hz⟩ := hst)
        cases b
        case false =>
          go_wp2_with fail
          refine bodyPost_ret (v := .agg #[.int .i64 a0, .int .i64 b0, .int .i64 d0, .slice B k e]) (by simp [results, Try.results28, go_sem, *]) rfl ?_
          exact ⟨_, _, _, _, _, _, ys, rfl, ((ho.keep kf_).less (by omega)).rs, by omega, (Rdp.keep hrd (by (exact kb_))).more (by omega), ext_⟩
        case true =>
          go_wp2_with (first | (go_at_call 29; apply Calls.mono; apply pick_c; (apply Rdp.keep; assumption; (exact kb_)); (first | assumption | omega); (first | assumption | omega); rintro E w1 ⟨v, rfl, ⟨hv0, hv1⟩, hrd, hb⟩; have hst := xc hb; (try simp only [zA, zC, zD, zN] at hst); obtain ⟨hc, hf, hz⟩ := hst) | (go_at_call 76; apply Calls.mono; apply l21Head_c; (apply Rdp.keep; assumption; (exact kb_)); (apply Rs.less; (first | (apply Rs.keep; assumption; (exact kf_)) | (apply Rs.keep; apply Ow.rs; assumption; (exact kf_))); (first | omega | (simp only [zA, zC, zD, zN]; omega))); (first | assumption | omega); (first | assumption | omega); (first | assumption | omega); (first | assumption | omega); rintro E w1 ⟨a, b, d, rfl, hrd, hb⟩; have hst := xc hb; (try simp only [zA, zC, zD, zN] at hst); obtain ⟨hc, hf, hz⟩ := hst))
          · refine bodyPost_ret (v := .agg #[.int .i64 a, .int .i64 b, .int .i64 d, .slice B k e]) (by simp [results, Try.results28, go_sem, *]) rfl ?_
            exact ⟨_, _, _, _, _, _, ys, rfl, ((ho.keep kf_).less (by omega)).rs, by omega, (Rdp.keep hrd (by (exact kb_))).more (by omega), ext_⟩
          · (focus (refine wp_name ?_; intro W0 hb0; have hst := xr hb0; (try simp only [zA, zC, zD, zN] at hst); obtain ⟨hc0, hf0, hz0⟩ := hst; refine wp_regionX [8, 9, 10] (S := fun w' => HeldR rb W0 w') hdR (fun hHeld => ?_); refine GoesX.take 0 48 [1, 8, 9, 10] hHeld (h := ?_); refine GoesX.take 1 49 [8, 9, 10] hHeld (h := ?_); refine GoesX.take 3 51 [4, 5, 6, 7, 8, 9, 10] hHeld (h := ?_); refine GoesX.ready (rs := [2, 4]) (by kernel_rfl) (by simp) ?_; refine EachX.cons rfl (fun K hK => ?_) ?_; rotate_left; refine EachX.cons rfl (fun K hK => ?_) EachX.nil; (focus (go_simp; (first | (go_at_call 29; apply Calls.mono; apply (pickN_c (N := 3)); (apply Rdp.keep; assumption; (exact kb_)); omega; rfl; decide; rintro E w5 ⟨v5, rfl, hv5, hrd, hb⟩; have hsel := sel3_cell hv5; have hv5i : (v5 : Int) < 3 := (by omega); (have hst := xc hb; (try simp only [zA, zC, zD, zN] at hst); obtain ⟨hc, hf, hz⟩ := hst)) | (apply step_app (lo := g + 1) el_I one_I rfl rfl rfl rfl; (first | assumption | exact Ow.nil _ _ | (apply Ow.keep; assumption; exact kf_) | (refine Ow.new [] (by (first | rfl | (simp only [zA, zC, zD, zN]; done) | omega)) rfl rfl (fun _ => rfl) (by exact sz_) (by omega))); (first | (refine Rs.new [_] (by (first | rfl | (simp only [zA, zC, zD, zN]; done) | omega)) rfl rfl (fun _ => rfl) (by omega))); omega; exact sz_; intro A1 c1 w2 ho1 hch1 hat1 hex1 hlow1; have hb := hex1 (· = rb) w (by exact ext_) (by omega); have hrd := Rdp.low (Rdp.keep (by assumption) (by exact kb_)) hch1.size hlow1 (by omega); have hz := hch1.size; (try simp only [zA, zC, zD, zN] at hz); obtain ⟨hc, hf⟩ := low_rules hlow1; clear hex1)); (try go_wp2_with fail); refine outS hK hdR (h := fun hH2 => ?_); clear hK K hHeld; have hHeld := hH2; clear hH2; refine GoesX.one 2 (h := fun K hK => ?_); go_simp; refine outS hK hdR (h := fun hH2 => ?_); clear hK K hHeld; have hHeld := hH2; clear hH2; refine GoesX.take 5 53 [6, 7, 8, 9, 10] hHeld (h := ?_); refine GoesX.one 6 (h := fun K hK => ?_); go_simp; refine outS hK hdR (h := fun hH2 => ?_); clear hK K hHeld; have hHeld := hH2; clear hH2; refine GoesX.one 7 (h := fun K hK => ?_); go_simp; refine outS hK hdR (h := fun hH2 => ?_); clear hK K hHeld; have hHeld := hH2; clear hH2; refine GoesX.oneX 8 (h := fun K hK => ?_); (first | (go_at_call 29; apply Calls.mono; apply (pickN_c (N := 3)); (apply Rdp.keep; assumption; (exact kb_)); omega; rfl; decide; rintro E w5 ⟨v5, rfl, hv5, hrd, hb⟩; have hsel := sel3_cell hv5; have hv5i : (v5 : Int) < 3 := (by omega); (have hst := xc hb; (try simp only [zA, zC, zD, zN] at hst); obtain ⟨hc, hf, hz⟩ := hst)) | (apply step_app (lo := g + 1) el_I one_I rfl rfl rfl rfl; (first | assumption | exact Ow.nil _ _ | (apply Ow.keep; assumption; exact kf_) | (refine Ow.new [] (by (first | rfl | (simp only [zA, zC, zD, zN]; done) | omega)) rfl rfl (fun _ => rfl) (by exact sz_) (by omega))); (first | (refine Rs.new [_] (by (first | rfl | (simp only [zA, zC, zD, zN]; done) | omega)) rfl rfl (fun _ => rfl) (by omega))); omega; exact sz_; intro A1 c1 w2 ho1 hch1 hat1 hex1 hlow1; have hb := hex1 (· = rb) w (by exact ext_) (by omega); have hrd := Rdp.low (Rdp.keep (by assumption) (by exact kb_)) hch1.size hlow1 (by omega); have hz := hch1.size; (try simp only [zA, zC, zD, zN] at hz); obtain ⟨hc, hf⟩ := low_rules hlow1; clear hex1)); refine outX hK (h := ?_); clear hK K; refine GoesX.takeX 9 57 (h := ?_); refine GoesX.oneX 10 (h := fun K hK => ?_); go_simp; refine outX hK (h := ?_); clear hK K; refine GoesX.done (by kernel_rfl) ?_ _)); rotate_right 1; (focus (go_simp; refine outS hK hdR (h := fun hH2 => ?_); clear hK K hHeld; have hHeld := hH2; clear hH2; refine GoesX.one 4 (h := fun K hK => ?_); go_simp; (first | (go_at_call 29; apply Calls.mono; apply (pickN_c (N := 3)); (apply Rdp.keep; assumption; (exact kb_)); omega; rfl; decide; rintro E w5 ⟨v5, rfl, hv5, hrd, hb⟩; have hsel := sel3_cell hv5; have hv5i : (v5 : Int) < 3 := (by omega); (have hst := xc hb; (try simp only [zA, zC, zD, zN] at hst); obtain ⟨hc, hf, hz⟩ := hst)) | (apply step_app (lo := g + 1) el_I one_I rfl rfl rfl rfl; (first | assumption | exact Ow.nil _ _ | (apply Ow.keep; assumption; exact kf_) | (refine Ow.new [] (by (first | rfl | (simp only [zA, zC, zD, zN]; done) | omega)) rfl rfl (fun _ => rfl) (by exact sz_) (by omega))); (first | (refine Rs.new [_] (by (first | rfl | (simp only [zA, zC, zD, zN]; done) | omega)) rfl rfl (fun _ => rfl) (by omega))); omega; exact sz_; intro A1 c1 w2 ho1 hch1 hat1 hex1 hlow1; have hb := hex1 (· = rb) w (by exact ext_) (by omega); have hrd := Rdp.low (Rdp.keep (by assumption) (by exact kb_)) hch1.size hlow1 (by omega); have hz := hch1.size; (try simp only [zA, zC, zD, zN] at hz); obtain ⟨hc, hf⟩ := low_rules hlow1; clear hex1)); (try go_wp2_with fail); refine outS hK hdR (h := fun hH2 => ?_); clear hK K hHeld; have hHeld := hH2; clear hH2; refine GoesX.take 5 53 [6, 7, 8, 9, 10] hHeld (h := ?_); refine GoesX.one 6 (h := fun K hK => ?_); go_simp; refine outS hK hdR (h := fun hH2 => ?_); clear hK K hHeld; have hHeld := hH2; clear hH2; refine GoesX.one 7 (h := fun K hK => ?_); go_simp; refine outS hK hdR (h := fun hH2 => ?_); clear hK K hHeld; have hHeld := hH2; clear hH2; refine GoesX.oneX 8 (h := fun K hK => ?_); (first | (go_at_call 29; apply Calls.mono; apply (pickN_c (N := 3)); (apply Rdp.keep; assumption; (exact kb_)); omega; rfl; decide; rintro E w5 ⟨v5, rfl, hv5, hrd, hb⟩; have hsel := sel3_cell hv5; have hv5i : (v5 : Int) < 3 := (by omega); (have hst := xc hb; (try simp only [zA, zC, zD, zN] at hst); obtain ⟨hc, hf, hz⟩ := hst)) | (apply step_app (lo := g + 1) el_I one_I rfl rfl rfl rfl; (first | assumption | exact Ow.nil _ _ | (apply Ow.keep; assumption; exact kf_) | (refine Ow.new [] (by (first | rfl | (simp only [zA, zC, zD, zN]; done) | omega)) rfl rfl (fun _ => rfl) (by exact sz_) (by omega))); (first | (refine Rs.new [_] (by (first | rfl | (simp only [zA, zC, zD, zN]; done) | omega)) rfl rfl (fun _ => rfl) (by omega))); omega; exact sz_; intro A1 c1 w2 ho1 hch1 hat1 hex1 hlow1; have hb := hex1 (· = rb) w (by exact ext_) (by omega); have hrd := Rdp.low (Rdp.keep (by assumption) (by exact kb_)) hch1.size hlow1 (by omega); have hz := hch1.size; (try simp only [zA, zC, zD, zN] at hz); obtain ⟨hc, hf⟩ := low_rules hlow1; clear hex1)); refine outX hK (h := ?_); clear hK K; refine GoesX.takeX 9 57 (h := ?_); refine GoesX.oneX 10 (h := fun K hK => ?_); go_simp; refine outX hK (h := ?_); clear hK K; refine GoesX.done (by kernel_rfl) ?_ _))))
            all_goals go_wp2_with fail
            all_goals refine bodyPost_ret (v := .agg #[.int .i64 a0, .int .i64 b0, .int .i64 d0, .slice A1 (k + 1) c1]) (by simp [results, Try.results28, go_sem, *]) rfl ?_
            all_goals exact ⟨_, _, _, _, _, _, _, rfl, ((ho1.keep kf_).less (by omega)).rs, by omega, (Rdp.keep hrd (by (exact kb_))).more (by omega), ext_⟩
end Go.Proofs.Ytdbnbembjebfhaa

namespace Go.Proofs.Ytdbnbembjebfhaa
set_option maxRecDepth 100000
set_option linter.unusedSimpArgs false
set_option linter.unusedVariables false
open Go.RowKit Go
set_option maxHeartbeats 4000000

theorem sHedOfA_c (A : Option Addr) (c n : Nat) (xs : List Sw.Ent) (w : World) (hxs : RE w 0 A c n xs) : Calls Try.prog 107 #[.slice A n c] w fun E w' => ∃ p q r b, E = .returned (.tuple #[.agg #[.int .i64 p, .int .i64 q, .int .i64 r], .bool b]) ∧ True ∧ Ex w w' := by
  refine (sHedOf_c A c n xs w hxs).mono ?_
  rintro E w' ⟨rfl, hb⟩
  exact ⟨_, _, _, _, rfl, trivial, hb⟩
/-- A head in block g. -/
structure HAt (w : World) (g : Nat) (a b d : Int) : Prop where
  lt : g < w.heap.size
  c0 : w.cell? ⟨g, 0, none⟩ = some (.int .i64 a)
  c1 : w.cell? ⟨g, 1, none⟩ = some (.int .i64 b)
  c2 : w.cell? ⟨g, 2, none⟩ = some (.int .i64 d)
  free : ∀ i, w.frozen? ⟨g, i, none⟩ = false
end Go.Proofs.Ytdbnbembjebfhaa

namespace Go.Proofs.Ytdbnbembjebfhaa
set_option maxRecDepth 100000
set_option linter.unusedSimpArgs false
set_option linter.unusedVariables false
open Go.RowKit Go
set_option maxHeartbeats 400000

/-- Where the first one stands that is no leaf; -1 if there is none. -/
def badAt (xs : List Int) : Int := match xs.findIdx? (fun x => !Sw.mixOk x) with
  | some i => i
  | none => -1
theorem badAt_iff (xs : List Int) : decide (0 ≤ badAt xs) = !xs.all Sw.mixOk := by
  unfold badAt
  cases h : xs.findIdx? (fun x => !Sw.mixOk x) with
  | none =>
    rw [List.findIdx?_eq_none_iff] at h
    have : xs.all Sw.mixOk = true := by
      rw [List.all_eq_true]
      intro x hx
      have := h x hx
      simpa using this
    rw [this]; rfl
  | some i =>
    have : xs.all Sw.mixOk = false := by
      rw [List.findIdx?_eq_some_iff_getElem] at h
      obtain ⟨h1, h2, _⟩ := h
      rw [List.all_eq_false]
      exact ⟨xs[i], List.getElem_mem h1, by simpa using h2⟩
    rw [this]
    simp
theorem badAt_here {xs : List Int} {k : Nat} {y : Int} (hy : xs[k]? = some y) (h : ∀ j, j < k → ∀ z, xs[j]? = some z → Sw.mixOk z = true) (hm : Sw.mixOk y = false) : badAt xs = k := by
  unfold badAt
  have hk := (List.getElem?_eq_some_iff.1 hy)
  obtain ⟨hk, rfl⟩ := hk
  have : xs.findIdx? (fun x => !Sw.mixOk x) = some k := by
    rw [List.findIdx?_eq_some_iff_getElem]
    refine ⟨hk, by simp [hm], fun j hj => ?_⟩
    have := h j hj xs[j] (by simp)
    simp [this]
  rw [this]
theorem badAt_none {xs : List Int} {k : Nat} (hk : xs.length ≤ k) (h : ∀ j, j < k → ∀ z, xs[j]? = some z → Sw.mixOk z = true) : badAt xs = -1 := by
  unfold badAt
  have : xs.findIdx? (fun x => !Sw.mixOk x) = none := by
    rw [List.findIdx?_eq_none_iff]
    intro x hx
    obtain ⟨i, hi, rfl⟩ := List.getElem_of_mem hx
    have := h i (by omega) xs[i] (by simp)
    simp [this]
  rw [this]

theorem iBad_c (x : Int) (w : World) : Calls Try.prog 155 #[.int .i64 x] w fun E w' => E = .returned (.bool (!Sw.mixOk x)) ∧ w = w' := by
  go_enter Try.func155, Try.ntmps155
  go_wp2_with (first | (go_at_call 47; refine (iMixOk_c _ _).mono ?_; rintro E w' ⟨rfl, rfl⟩))
  go_ret
  exact ⟨ret_b rfl, rfl⟩

theorem iBadAt_c (A : Option Addr) (c n : Nat) (xs : List Int) (w : World) (hxs : RI w 0 A c n xs) : Calls Try.prog 163 #[.slice A n c, .func (.func 155) #[] #[]] w fun E w' => E = .returned (.int .i64 (badAt xs)) ∧ w = w' := by
  have hl := Lib.hid hxs.1
  have hm : n ≤ 9223372036854775807 := by have := hxs.2.le; have := hxs.2.cap; unfold maxLen at this; omega
  go_enter Try.func163, Try.ntmps163
  go_wp2
  go_loop [8] (fun i => ∃ k : Nat, k ≤ n ∧ i = .int .i64 k ∧ ∀ j, j < k → ∀ z, xs[j]? = some z → Sw.mixOk z = true) (fun i => n - (intOf i).toNat)
  case atStart => exact ⟨0, Nat.zero_le _, rfl, by omega⟩
  case round =>
    obtain ⟨k, hk, rfl, hrel⟩ := hrel
    have Hrel := Lib.hid hrel; clear hrel
    by_cases hlt : k < n
    · obtain ⟨g, off, y, rfl, hg0, hg, hd, hy, hc⟩ := at_I hxs hlt
      have Hy := Lib.hid hy; clear hd hy
      cases hmx : Sw.mixOk y
      · go_wp2_with (first | (go_at_call 155; refine (iBad_c _ _).mono ?_; rintro E w' ⟨rfl, rfl⟩))
        go_ret
        refine ⟨ret_i ?_, rfl⟩
        exact (badAt_here Hy.out Hrel.out hmx).symm
      · go_wp2_with (first | (go_at_call 155; refine (iBad_c _ _).mono ?_; rintro E w' ⟨rfl, rfl⟩))
        go_round
        case rel =>
          refine ⟨k + 1, by omega, by go_num, ?_⟩
          intro j hj z hz
          rcases Nat.lt_succ_iff_lt_or_eq.1 hj with hj' | rfl
          · exact Hrel.out j hj' z hz
          · rw [Hy.out] at hz; cases hz; exact hmx
        case measure => simp [intOf]; omega
    · go_wp2
      go_ret
      refine ⟨ret_i ?_, rfl⟩
      exact (badAt_none (by have := hl.out; omega) Hrel.out).symm

theorem iHasBad_c (A : Option Addr) (c n : Nat) (xs : List Int) (w : World) (hxs : RI w 0 A c n xs) : Calls Try.prog 132 #[.slice A n c, .func (.func 155) #[] #[]] w fun E w' => E = .returned (.bool (!xs.all Sw.mixOk)) ∧ w = w' := by
  have Hb := Lib.hid (badAt_iff xs)
  go_enter Try.func132, Try.ntmps132
  go_wp2_with (first | (go_at_call 163; apply Calls.mono; apply iBadAt_c; ((first | (apply Rs.at0; assumption) | (apply Ow.rs0; assumption)); exact kf_); rintro E w' ⟨rfl, rfl⟩))
  go_ret
  exact ⟨ret_b Hb.out, rfl⟩

theorem iTreOk_c (A : Option Addr) (c n : Nat) (xs : List Int) (w : World) (hxs : RI w 0 A c n xs) : Calls Try.prog 123 #[.slice A n c] w fun E w' => E = .returned (.bool (Sw.treOk xs)) ∧ w = w' := by
  have hl := Lib.hid hxs.1
  have hm : n ≤ 9223372036854775807 := by have := hxs.2.le; have := hxs.2.cap; unfold maxLen at this; omega
  have e : Sw.treOk xs = (decide (n ≤ 40) && xs.all Sw.mixOk) := by rw [Sw.treOk, ← hl.out]
  have He := Lib.hid e; clear e
  by_cases hn : n ≤ 40
  · go_enter Try.func123, Try.ntmps123
    go_wp2_with (first | (go_at_call 132; apply Calls.mono; apply iHasBad_c; ((first | (apply Rs.at0; assumption) | (apply Ow.rs0; assumption)); exact kf_); rintro E w' ⟨rfl, rfl⟩))
    go_ret
    exact ⟨ret_b (by rw [He.out]; simp [hn]), rfl⟩
  · go_enter Try.func123, Try.ntmps123
    go_wp2_with (first | (go_at_call 132; apply Calls.mono; apply iHasBad_c; ((first | (apply Rs.at0; assumption) | (apply Ow.rs0; assumption)); exact kf_); rintro E w' ⟨rfl, rfl⟩))
    go_ret
    exact ⟨ret_b (by rw [He.out]; simp [hn]), rfl⟩
end Go.Proofs.Ytdbnbembjebfhaa

namespace Go.Proofs.Ytdbnbembjebfhaa
set_option maxRecDepth 100000
set_option linter.unusedSimpArgs false
set_option linter.unusedVariables false
open Go.RowKit Go
set_option maxHeartbeats 400000

end Go.Proofs.Ytdbnbembjebfhaa

namespace Go.Proofs.Ytdbnbembjebfhaa
set_option maxRecDepth 100000
set_option linter.unusedSimpArgs false
set_option linter.unusedVariables false
open Go.RowKit Go
set_option maxHeartbeats 400000

theorem iCloneInts_c (A : Option Addr) (c n : Nat) (xs : List Int) (w : World) (hxs : RI w 0 A c n xs) (hn : n ≤ 4194304) : Calls Try.prog 80 #[.slice A n c] w fun E w' => ∃ A' c', E = .returned (.slice A' n c') ∧ OwI w' w.heap.size A' c' n xs ∧ Ex w w' := by
  go_enter Try.func80, Try.ntmps80
  go_wp2_with (at_builtin; apply wpList_app (lo := w.heap.size) el_I one_I rfl rfl rfl rfl; (first | assumption | exact Ow.nil _ _ | (apply Ow.keep; assumption; exact kf_) | (refine Ow.new [] (by (first | rfl | (simp only [zA, zC, zD, zN]; done) | omega)) rfl rfl (fun _ => rfl) (by exact sz_) (by omega))); (first | ((first | (apply Rs.at0; assumption) | (apply Ow.rs0; assumption)); exact kf_)); omega; exact sz_; intro A1 c1 w2 ho1 hch1 hat1 hex1 hlow1; have hb := hex1 (fun _ => False) w (by exact ext_) (by exact sz_); have hz := hch1.size; (try simp only [zA, zC, zD, zN] at hz); obtain ⟨hc, hf⟩ := low_rules hlow1; clear hlow1 hex1)
  go_ret
  rw [Nat.zero_add, List.nil_append] at ho1
  exact ⟨A1, c1, rfl, ho1, ext_⟩
end Go.Proofs.Ytdbnbembjebfhaa

namespace Go.Proofs.Ytdbnbembjebfhaa
set_option maxRecDepth 100000
set_option linter.unusedSimpArgs false
set_option linter.unusedVariables false
open Go.RowKit Go
set_option maxHeartbeats 400000

end Go.Proofs.Ytdbnbembjebfhaa

namespace Go.Proofs.Ytdbnbembjebfhaa
set_option maxRecDepth 100000
set_option linter.unusedSimpArgs false
set_option linter.unusedVariables false
open Go.RowKit Go
set_option maxHeartbeats 400000

theorem isUser_c (n : Int) (w : World) : Calls Try.prog 37 #[.int .i64 n] w fun E w' => E = .returned (.bool (Sw.inR n 1 5)) ∧ w = w' := by
  go_enter Try.func37, Try.ntmps37
  go_wp2_with (first | (go_at_call 81; refine (in_c _ _ _ _).mono ?_; rintro E w' ⟨rfl, rfl⟩))
  all_goals (go_ret; exact ⟨rfl, rfl⟩)
theorem isFace_c (n : Int) (w : World) : Calls Try.prog 100 #[.int .i64 n] w fun E w' => E = .returned (.bool (Sw.inR n 1 50)) ∧ w = w' := by
  go_enter Try.func100, Try.ntmps100
  go_wp2_with (first | (go_at_call 81; refine (in_c _ _ _ _).mono ?_; rintro E w' ⟨rfl, rfl⟩))
  all_goals (go_ret; exact ⟨rfl, rfl⟩)
theorem iEntCap_c (f : Int) (w : World) : Calls Try.prog 137 #[.int .i64 f] w fun E w' => E = .returned (.int .i64 (Sw.entCap f)) ∧ w = w' := by
  by_cases h : Sw.inR f 1 50 = true
  · have h' : 1 ≤ f ∧ f ≤ 50 := by simpa [Sw.inR] using h
    obtain ⟨a, b⟩ := h'
    go_enter Try.func137, Try.ntmps137
    go_wp2_with (first | (go_at_call 100; refine (isFace_c _ _).mono ?_; rintro E w' ⟨rfl, rfl⟩))
    all_goals (go_ret; refine ⟨ret_i (by simp [Sw.entCap, h]), rfl⟩)
  · go_enter Try.func137, Try.ntmps137
    go_wp2_with (first | (go_at_call 100; refine (isFace_c _ _).mono ?_; rintro E w' ⟨rfl, rfl⟩))
    all_goals (go_ret; refine ⟨ret_i (by simp [Sw.entCap, h]), rfl⟩)
theorem iEntOk_c (e : Sw.Ent) (w : World) : Calls Try.prog 179 #[.agg #[.int .i64 e.kind, .int .i64 e.ticket, .int .i64 e.who, .int .i64 e.price]] w fun E w' => E = .returned (.bool (Sw.entOk e)) ∧ Ex w w' := by
  go_enter Try.func179, Try.ntmps179
  go_wp2_with (first | (go_at_call 48; refine (isTicket_c _ _).mono ?_; rintro E w' ⟨rfl, rfl⟩) | (go_at_call 37; refine (isUser_c _ _).mono ?_; rintro E w' ⟨rfl, rfl⟩) | (go_at_call 100; refine (isFace_c _ _).mono ?_; rintro E w' ⟨rfl, rfl⟩) | (go_at_call 81; refine (in_c _ _ _ _).mono ?_; rintro E w' ⟨rfl, rfl⟩) | (go_at_call 137; refine (iEntCap_c _ _).mono ?_; rintro E w' ⟨rfl, rfl⟩))
  all_goals (try (refine wp_name ?_; intro W0 hb0; have hst := xr hb0; (try simp only [zA, zC, zD, zN] at hst); obtain ⟨hc0, hf0, hz0⟩ := hst; go_region_held3 (fun w' => Held W0 w') ((first | with_reducible assumption | with_reducible exact Held.start _ | with_reducible exact Held.of (by assumption) | with_reducible exact Held.ex (by assumption) (by assumption) | ((repeat (first | with_reducible refine Held.set ?_ (by simp only [zA, zC, zD, zN]; omega) | with_reducible refine Held.alloc ?_ _ | with_reducible refine Held.drew ?_)); (first | with_reducible assumption | with_reducible exact Held.refl _ | with_reducible exact Held.of (by assumption) | with_reducible exact Held.ex (by assumption) (by assumption))) | exact Held.of (by exact ext_))) ((first | (go_at_call 48; refine (isTicket_c _ _).mono ?_; rintro E w' ⟨rfl, rfl⟩) | (go_at_call 37; refine (isUser_c _ _).mono ?_; rintro E w' ⟨rfl, rfl⟩) | (go_at_call 100; refine (isFace_c _ _).mono ?_; rintro E w' ⟨rfl, rfl⟩) | (go_at_call 81; refine (in_c _ _ _ _).mono ?_; rintro E w' ⟨rfl, rfl⟩) | (go_at_call 137; refine (iEntCap_c _ _).mono ?_; rintro E w' ⟨rfl, rfl⟩))); all_goals (have hb := And.right (by assumption : Held W0 _); have hst := xr hb; (try simp only [zA, zC, zD, zN] at hst); obtain ⟨hc, hf, hz⟩ := hst)))
  all_goals go_wp2
  all_goals (go_ret; refine ⟨ret_b ?_, (by first | rfl | exact ext_)⟩; go_tidy; (try simp only [Bool.not_eq_true', Bool.not_eq_false', Bool.not_eq_true, Bool.not_eq_false, beq_iff_eq, bne_iff_ne, ne_eq, beq_eq_false_iff_ne, bne_eq_false_iff_eq] at *); (first | rfl | (simp [Sw.entOk, Sw.entCap, show Sw.inR 50 1 50 = true from by decide, *]; done) | (simp [Sw.entOk, Sw.entCap, show Sw.inR 50 1 50 = true from by decide, *]; omega) | (simp [Sw.entOk, Sw.entCap, show Sw.inR 50 1 50 = true from by decide, beqI, *]; done) | (simp_all [Sw.entOk, Sw.entCap, show Sw.inR 50 1 50 = true from by decide, beqI]; done) | (simp_all [Sw.entOk, Sw.entCap, show Sw.inR 50 1 50 = true from by decide, beqI] <;> omega) | simp_all [Sw.entOk, Sw.entCap, show Sw.inR 50 1 50 = true from by decide, beqI]))

theorem iMixLeaf_c (A : Option Addr) (c n : Nat) (xs : List Int) (w : World) (h : RI w 0 A c n xs) (hn : n ≤ 4194304) : Calls Try.prog 89 #[.slice A n c] w fun E w' => E = .returned (.int .i64 (Sw.mixLeaf xs)) ∧ w = w' := by
  have hl := Lib.hid h.1
  go_enter Try.func89, Try.ntmps89
  go_wp2
  go_loop [3, 8] (fun m i => ∃ (k : Nat) (x : Int), k ≤ n ∧ i = .int .i64 k ∧ m = .int .i64 x ∧ 0 ≤ x ∧ x ≤ 65520 ∧ Sw.mixLeafFrom 7 xs = Sw.mixLeafFrom x (xs.drop k)) (fun _ i => n - (intOf i).toNat)
  case atStart => exact ⟨0, 7, Nat.zero_le _, rfl, rfl, by omega, by omega, rfl⟩
  case round =>
    obtain ⟨k, x, hk, rfl, rfl, x0, x1, hrel⟩ := hrel
    by_cases hlt : k < n
    · obtain ⟨g, off, y, rfl, hg0, hg, hd, hy, hc⟩ := at_I h hlt
      rw [hd] at hrel
      clear hd hy
      have Hrel := Lib.hid hrel; clear hrel
      obtain ⟨y0, y1⟩ := tmod_bd y
      have hbd := leafStep_bd x y
      by_cases hneg : y.tmod 65521 < 0
      · go_wp2
        go_round
        case rel => exact ⟨k + 1, Sw.leafStep x y, by omega, by go_num, int_i (by unfold Sw.leafStep; rw [Int.tmod_eq_emod] at *; split <;> omega), hbd.1, hbd.2, Hrel.out⟩
        case measure => simp [intOf]; omega
      · go_wp2
        go_round
        case rel => exact ⟨k + 1, Sw.leafStep x y, by omega, by go_num, int_i (by unfold Sw.leafStep; rw [Int.tmod_eq_emod] at *; split <;> omega), hbd.1, hbd.2, Hrel.out⟩
        case measure => simp [intOf]; omega
    · have Hrel := Lib.hid hrel; clear hrel
      go_wp2
      go_ret
      refine ⟨ret_i ?_, rfl⟩
      have := Hrel.out
      rw [List.drop_of_length_le (by have := hl.out; omega)] at this
      unfold Sw.mixLeaf
      rw [this, hl.out]
      rfl
theorem iOwnLeaf_c (t : Int) (r : Sw.Row) (w : World) : Calls Try.prog 50 #[.int .i64 t, .agg #[.int .i64 r.who, .int .i64 r.face, .bool r.used]] w fun E w' => E = .returned (.int .i64 (Sw.ownLeaf t r)) ∧ Ex w w' := by
  by_cases h : Sw.inR t 0 7 = true
  · have h' : 0 ≤ t ∧ t ≤ 7 := by simpa [Sw.inR] using h
    obtain ⟨t0, t1⟩ := h'
    cases hu : r.used
    · go_enter Try.func50, Try.ntmps50
      go_wp2_with (first | (go_at_call 48; refine (isTicket_c _ _).mono ?_; rintro E w' ⟨rfl, rfl⟩) | (go_at_call 89; apply Calls.mono; apply (iMixLeaf_c (xs := [1000 + t, r.who, r.face, 0])); (refine Rs.new _ (by simp only [zA, zC, zD, zN]) rfl rfl (fun _ => rfl) (by omega)); omega; rintro E w' ⟨rfl, rfl⟩))
      go_ret
      exact ⟨ret_i (by simp [Sw.ownLeaf, h, hu]), ext_⟩
    · go_enter Try.func50, Try.ntmps50
      go_wp2_with (first | (go_at_call 48; refine (isTicket_c _ _).mono ?_; rintro E w' ⟨rfl, rfl⟩) | (go_at_call 89; apply Calls.mono; apply (iMixLeaf_c (xs := [1000 + t, r.who, r.face, 1])); (refine Rs.new _ (by simp only [zA, zC, zD, zN]) rfl rfl (fun _ => rfl) (by omega)); omega; rintro E w' ⟨rfl, rfl⟩))
      go_ret
      exact ⟨ret_i (by simp [Sw.ownLeaf, h, hu]), ext_⟩
  · go_enter Try.func50, Try.ntmps50
    go_wp2_with (first | (go_at_call 48; refine (isTicket_c _ _).mono ?_; rintro E w' ⟨rfl, rfl⟩))
    go_ret
    exact ⟨ret_i (by simp [Sw.ownLeaf, h]), ext_⟩

theorem iOwnOk_c (A : Option Addr) (c n : Nat) (xs : List Sw.Row) (w : World) (hxs : RR w 0 A c n xs) : Calls Try.prog 178 #[.slice A n c] w fun E w' => E = .returned (.bool (Sw.ownOk xs)) ∧ Ex w w' := by
  have hl := Lib.hid hxs.1
  have hbig := Rs.big hxs
  go_enter Try.func178, Try.ntmps178
  go_wp2_with fail
  go_loopw [7] (fun i wr => ∃ (k : Nat), k ≤ n ∧ i = .int .i64 k ∧ Ex w wr ∧ xs.all Sw.rowOk = (xs.drop k).all Sw.rowOk) (fun i _ => n - (intOf i).toNat)
  case atStart => exact ⟨0, Nat.zero_le _, rfl, ext_, rfl⟩
  case round =>
    obtain ⟨k, hk, rfl, hb, hrel⟩ := hrel
    have hst := Ex.rules hb rfl
    obtain ⟨hc, hf, hz⟩ := hst
    by_cases hlt : k < n
    · obtain ⟨g, off, y, rfl, hg0, hg, hd, hy, hc0, hc1, hc2⟩ := at_R hxs hlt
      rw [hd] at hrel
      have Hrel := Lib.hid hrel; clear hd hy hrel
      go_wp2_with (first | (go_at_call 37; refine (isUser_c _ _).mono ?_; rintro E w' ⟨rfl, rfl⟩) | (go_at_call 100; refine (isFace_c _ _).mono ?_; rintro E w' ⟨rfl, rfl⟩))
      all_goals (first | (refine ⟨⟨k + 1, by omega, by go_num, (by exact ext_), ?_⟩, by simp [intOf]; omega⟩; have hh := Hrel.out; clear Hrel; rw [List.all_cons] at hh; rw [hh]; clear hh; go_tidy; (try simp only [Bool.not_eq_true', Bool.not_eq_false', Bool.not_eq_true, Bool.not_eq_false, beq_iff_eq, bne_iff_ne, ne_eq, beq_eq_false_iff_ne, bne_eq_false_iff_eq] at *); have hp : Sw.rowOk y = true := (by (first | (simp [Sw.rowOk, show Sw.inR 0 1 5 = false from rfl, *]; done) | (simp [Sw.rowOk, show Sw.inR 0 1 5 = false from rfl, *]; omega) | (simp [Sw.rowOk, show Sw.inR 0 1 5 = false from rfl, *]; intros; simp_all; done) | (simp_all [Sw.rowOk, show Sw.inR 0 1 5 = false from rfl]; done))); simp [hp]) | (go_ret; refine ⟨ret_b ?_, (by first | rfl | exact ext_)⟩; have hh := Hrel.out; clear Hrel; rw [List.all_cons] at hh; unfold Sw.ownOk; rw [hh]; clear hh; go_tidy; (try simp only [Bool.not_eq_true', Bool.not_eq_false', Bool.not_eq_true, Bool.not_eq_false, beq_iff_eq, bne_iff_ne, ne_eq, beq_eq_false_iff_ne, bne_eq_false_iff_eq] at *); have hp : Sw.rowOk y = false := (by (first | (simp [Sw.rowOk, show Sw.inR 0 1 5 = false from rfl, *]; done) | (simp [Sw.rowOk, show Sw.inR 0 1 5 = false from rfl, *]; omega) | (simp [Sw.rowOk, show Sw.inR 0 1 5 = false from rfl, *]; intros; simp_all; done) | (simp_all [Sw.rowOk, show Sw.inR 0 1 5 = false from rfl]; done))); simp [hp]))
    · have Hrel := Lib.hid hrel; clear hrel
      go_wp2
      go_ret
      refine ⟨ret_b ?_, ext_⟩
      have := Hrel.out
      rw [List.drop_of_length_le (by have := hl.out; omega)] at this
      rw [Sw.ownOk, this, ← hl.out, show ((n : Int) == 8) = decide (n = 8) from by rw [beqI, decide_eq_decide]; omega]
      simp

theorem iFits_c (A : Option Addr) (c : Nat) (xs : List Sw.Row) (e : Sw.Ent) (w : World) (hxs : RR w 0 A c 8 xs) (ht0 : 0 ≤ e.ticket) (ht1 : e.ticket ≤ 7) : Calls Try.prog 180 #[.slice A 8 c, .agg #[.int .i64 e.kind, .int .i64 e.ticket, .int .i64 e.who, .int .i64 e.price]] w fun E w' => E = .returned (.bool (Sw.fitsRow (Sw.rowAt xs e.ticket) e)) ∧ Ex w w' := by
  have hl := Lib.hid hxs.1
  obtain ⟨t, ht'⟩ := Int.eq_ofNat_of_zero_le ht0
  have hlt : t < 8 := by omega
  obtain ⟨g, off, y, rfl, hg0, hg, hd, hy, hc0, hc1, hc2⟩ := at_R hxs hlt
  have hrow : Sw.rowAt xs e.ticket = y := by simp [Sw.rowAt, ht', hy]
  rw [hrow]
  clear hrow hd hy
  have Ht := Lib.hid ht'
  have ht2 : e.ticket < 8 := by omega
  have e0 : e.ticket.toNat = t := by omega
  clear ht'
  obtain ⟨yw, yf, yu⟩ := y
  dsimp only at hc0 hc1 hc2
  by_cases k1 : e.kind = 1
  · have hk1 : (e.kind == 1) = true := by simp [k1]
    have K1 := Lib.hid k1; clear k1
    go_enter Try.func180, Try.ntmps180
    go_wp2_with (first | (go_at_call 137; refine (iEntCap_c _ _).mono ?_; rintro E w' ⟨rfl, rfl⟩))
    go_ret
    exact ⟨ret_b (by simp [Sw.fitsRow, K1.out, beqI]), ext_⟩
  have hk1 : (e.kind == 1) = false := by simp [k1]
  by_cases k2 : e.kind = 2
  · have hk2 : (e.kind == 2) = true := by simp [k2]
    have K2 := Lib.hid k2; clear k2
    cases b1 : (yw == 0)
    case true =>
      have b1' : (yw != 0) = false := by rw [bne, b1]; rfl
      go_enter Try.func180, Try.ntmps180
      go_wp2_with fail
      go_quiet ((first | (go_at_call 137; exact Calls.quiet_same (iEntCap_c _ _))))
      go_wp2
      go_ret
      exact ⟨ret_b (by simp only [Sw.fitsRow, K2.out]; simp only [← beqI, decide_not, ne_eq, b1]; simp), ext_⟩
    have b1' : (yw != 0) = true := by rw [bne, b1]; rfl
    cases b2 : (yw == e.who)
    case true =>
      have b2' : (yw != e.who) = false := by rw [bne, b2]; rfl
      go_enter Try.func180, Try.ntmps180
      go_wp2_with fail
      go_quiet ((first | (go_at_call 137; exact Calls.quiet_same (iEntCap_c _ _))))
      go_wp2
      go_ret
      exact ⟨ret_b (by simp only [Sw.fitsRow, K2.out]; simp only [← beqI, decide_not, ne_eq, b2]; simp), ext_⟩
    have b2' : (yw != e.who) = true := by rw [bne, b2]; rfl
    cases yu
    all_goals
      go_enter Try.func180, Try.ntmps180
      go_wp2_with fail
      go_quiet ((first | (go_at_call 137; exact Calls.quiet_same (iEntCap_c _ _))))
      go_wp2
      go_ret
      exact ⟨ret_b (by simp only [Sw.fitsRow, K2.out]; simp only [← beqI, decide_not, ne_eq, b1, b2]; simp), ext_⟩
  have hk2 : (e.kind == 2) = false := by simp [k2]
  go_enter Try.func180, Try.ntmps180
  go_wp2_with (first | (go_at_call 137; refine (iEntCap_c _ _).mono ?_; rintro E w' ⟨rfl, rfl⟩))
  all_goals (go_ret; refine ⟨ret_b ?_, (by first | rfl | exact ext_)⟩; go_tidy; (try simp only [Bool.not_eq_true', Bool.not_eq_false', Bool.not_eq_true, Bool.not_eq_false, beq_iff_eq, bne_iff_ne, ne_eq, beq_eq_false_iff_ne, bne_eq_false_iff_eq] at *); (first | rfl | (simp [Sw.fitsRow, k1, k2, *]; done) | (simp [Sw.fitsRow, k1, k2, *]; omega) | (simp [Sw.fitsRow, k1, k2, beqI, *]; done) | (simp_all [Sw.fitsRow, k1, k2, beqI]; done) | (simp_all [Sw.fitsRow, k1, k2, beqI] <;> omega) | simp_all [Sw.fitsRow, k1, k2, beqI]))

theorem iOwnFits_c (A : Option Addr) (c n : Nat) (xs : List Sw.Row) (e : Sw.Ent) (w : World) (hxs : RR w 0 A c n xs) : Calls Try.prog 176 #[.slice A n c, .agg #[.int .i64 e.kind, .int .i64 e.ticket, .int .i64 e.who, .int .i64 e.price]] w fun E w' => E = .returned (.bool (Sw.ownFits xs e)) ∧ Ex w w' := by
  have hl := Lib.hid hxs.1
  cases h1 : Sw.ownOk xs
  case false =>
    go_enter Try.func176, Try.ntmps176; go_wp2_with (first | (go_at_call 178; apply Calls.mono; apply iOwnOk_c; ((first | (apply Rs.at0; assumption) | (apply Ow.rs0; assumption)); exact kf_); rintro E w1 ⟨rfl, hb⟩; have hst := xr hb; (try simp only [zA, zC, zD, zN] at hst); obtain ⟨hc, hf, hz⟩ := hst) | (go_at_call 179; refine (iEntOk_c _ _).mono ?_; rintro E w1 ⟨rfl, hb⟩; have hst := xr hb; (try simp only [zA, zC, zD, zN] at hst); obtain ⟨hc, hf, hz⟩ := hst)); go_ret; exact ⟨ret_b (by simp [Sw.ownFits, h1]), ext_⟩
  cases h2 : Sw.entOk e
  case false =>
    go_enter Try.func176, Try.ntmps176; go_wp2_with (first | (go_at_call 178; apply Calls.mono; apply iOwnOk_c; ((first | (apply Rs.at0; assumption) | (apply Ow.rs0; assumption)); exact kf_); rintro E w1 ⟨rfl, hb⟩; have hst := xr hb; (try simp only [zA, zC, zD, zN] at hst); obtain ⟨hc, hf, hz⟩ := hst) | (go_at_call 179; refine (iEntOk_c _ _).mono ?_; rintro E w1 ⟨rfl, hb⟩; have hst := xr hb; (try simp only [zA, zC, zD, zN] at hst); obtain ⟨hc, hf, hz⟩ := hst)); go_ret; exact ⟨ret_b (by simp [Sw.ownFits, h2]), ext_⟩
  obtain ⟨⟨t0, t7⟩, _⟩ := Sw.entOk_iff.1 h2
  have hn8 : n = 8 := by have := hl.out; have := Sw.ownOk_len h1; omega
  subst hn8
  go_enter Try.func176, Try.ntmps176
  go_wp2_with (first | (go_at_call 178; apply Calls.mono; apply iOwnOk_c; ((first | (apply Rs.at0; assumption) | (apply Ow.rs0; assumption)); exact kf_); rintro E w1 ⟨rfl, hb⟩; have hst := xr hb; (try simp only [zA, zC, zD, zN] at hst); obtain ⟨hc, hf, hz⟩ := hst) | (go_at_call 179; refine (iEntOk_c _ _).mono ?_; rintro E w1 ⟨rfl, hb⟩; have hst := xr hb; (try simp only [zA, zC, zD, zN] at hst); obtain ⟨hc, hf, hz⟩ := hst) | (go_at_call 180; apply Calls.mono; apply iFits_c; ((first | (apply Rs.at0; assumption) | (apply Ow.rs0; assumption)); exact kf_); (first | assumption | omega); (first | assumption | omega); rintro E w1 ⟨rfl, hb⟩; have hst := xr hb; (try simp only [zA, zC, zD, zN] at hst); obtain ⟨hc, hf, hz⟩ := hst))
  go_ret
  exact ⟨ret_b (by simp [Sw.ownFits, h1, h2]), ext_⟩

theorem iCloneRows_c (A : Option Addr) (c n : Nat) (xs : List Sw.Row) (w : World) (hxs : RR w 0 A c n xs) (hn : n ≤ 4194304) : Calls Try.prog 175 #[.slice A n c] w fun E w' => ∃ A' c', E = .returned (.slice A' n c') ∧ OwR w' w.heap.size A' c' n xs ∧ Ex w w' := by
  go_enter Try.func175, Try.ntmps175
  go_wp2_with (at_builtin; apply wpList_app (lo := w.heap.size) el_R one_R rfl rfl rfl rfl; (first | assumption | exact Ow.nil _ _ | (apply Ow.keep; assumption; exact kf_) | (refine Ow.new [] (by (first | rfl | (simp only [zA, zC, zD, zN]; done) | omega)) rfl rfl (fun _ => rfl) (by exact sz_) (by omega))); (first | ((first | (apply Rs.at0; assumption) | (apply Ow.rs0; assumption)); exact kf_)); omega; exact sz_; intro A1 c1 w2 ho1 hch1 hat1 hex1 hlow1; have hb := hex1 (fun _ => False) w (by exact ext_) (by exact sz_); have hz := hch1.size; (try simp only [zA, zC, zD, zN] at hz); obtain ⟨hc, hf⟩ := low_rules hlow1; clear hlow1 hex1)
  go_ret
  rw [Nat.zero_add, List.nil_append] at ho1
  exact ⟨A1, c1, rfl, ho1, ext_⟩
end Go.Proofs.Ytdbnbembjebfhaa

namespace Go.Proofs.Ytdbnbembjebfhaa
set_option maxRecDepth 100000
set_option linter.unusedSimpArgs false
set_option linter.unusedVariables false
open Go.RowKit Go
set_option maxHeartbeats 1000000

theorem iOwnPut_c (A : Option Addr) (c n : Nat) (xs : List Sw.Row) (e : Sw.Ent) (w : World) (hxs : RR w 0 A c n xs) (hn : n ≤ 4194304) : Calls Try.prog 173 #[.slice A n c, .agg #[.int .i64 e.kind, .int .i64 e.ticket, .int .i64 e.who, .int .i64 e.price]] w fun E w' => ∃ A' c', E = .returned (.tuple #[.slice A' n c', .bool (Sw.ownFits xs e)]) ∧ OwR w' w.heap.size A' c' n (Sw.ownPut xs e) ∧ Ex w w' := by
  by_cases hfit : Sw.ownFits xs e = true
  · have hl := Lib.hid hxs.1
    obtain ⟨h8, t0, t1, hk⟩ := fits_facts hfit
    obtain ⟨t, ht⟩ := Int.eq_ofNat_of_zero_le t0
    have e0 : e.ticket.toNat = t := by omega
    have Ht := Lib.hid ht
    have htn : t < n := by have := hl.out; omega
    have hn8 : n = 8 := by have := hl.out; omega
    subst hn8
    have Hk := Lib.hid hk
    have H8 := Lib.hid h8
    clear ht hk h8
    have key : ∀ (b1 b2 : Bool), (e.kind == 1) = b1 → (e.kind == 2) = b2 → Calls Try.prog 173 #[.slice A 8 c, .agg #[.int .i64 e.kind, .int .i64 e.ticket, .int .i64 e.who, .int .i64 e.price]] w fun E w' => ∃ A' c', E = .returned (.tuple #[.slice A' 8 c', .bool (Sw.ownFits xs e)]) ∧ OwR w' w.heap.size A' c' 8 (Sw.ownPut xs e) ∧ Ex w w' := by
      intro b1 b2 hb1 hb2
      go_enter Try.func173, Try.ntmps173
      go_wp2_with (go_at_call 175; apply Calls.mono; apply iCloneRows_c; ((first | (apply Rs.at0; assumption) | (apply Ow.rs0; assumption)); exact kf_); (first | assumption | omega); rintro E w1 ⟨A1, A1c, rfl, ho1, hb⟩; have hst := xr hb; (try simp only [zA, zC, zD, zN] at hst); obtain ⟨hc, hf, hz⟩ := hst)
      apply Calls.mono; apply iOwnFits_c; (first | assumption | ((first | (apply Rs.at0; assumption) | (apply Ow.rs0; assumption)); exact kf_) | omega); rintro E w3 ⟨rfl, hb3⟩; have hst := xr hb3; (try simp only [zA, zC, zD] at hst); obtain ⟨hc3, hf3, hz3⟩ := hst
      have ho3 := Ow.keep ho1 (KF.ex hb3 (KF.refl _ _))
      obtain ⟨g, x, hA, hlo, hlt, hx, c0, c1, c2, hfz⟩ := at_OR ho3 htn
      obtain ⟨ya, yb, yu⟩ := x
      have Hx := Lib.hid hx
      have hlo' : w.heap.size + 1 ≤ g := by exact sz_
      clear hx
      subst hA
      dsimp only at c0 c1 c2
      cases b1 with
      | true =>
        have hLg : Lb w3 g (A1c * 3) := ho3.lb rfl
        go_wp2_with fail
        (refine wp_name ?_; intro W0 hb0; have hst := xr hb0; (try simp only [zA, zC, zD, zN] at hst); obtain ⟨hc0, hf0, hz0⟩ := hst; have hLb : Lb W0 (g) (A1c * 3) := Lb.ex (by exact lbc_) hb0; go_region_held3 (fun w' => HeldB (g) (A1c * 3) W0 w') ((first | with_reducible assumption | with_reducible exact HeldB.start hLb | with_reducible exact HeldB.of (by assumption) (by assumption) | ((repeat (first | with_reducible refine HeldB.set ?_ (by first | exact Or.inl rfl | exact Or.inr (by simp only [zA, zC, zD, zN]; omega) | exact Or.inr (by omega)) | with_reducible refine HeldB.alloc ?_ _ | with_reducible refine HeldB.drew ?_)); (first | with_reducible assumption | with_reducible exact HeldB.refl hLb | with_reducible exact HeldB.of (by assumption) (by assumption) | with_reducible exact HeldB.ex (by assumption) (by assumption))))) (fail); all_goals (rename HeldB (g) (A1c * 3) W0 _ => hHx; have hb := HeldB.ch hHx; have hst := xc hb; (try simp only [zA, zC, zD, zN] at hst); obtain ⟨hc, hf, hz⟩ := hst; have hLb3 := HeldB.lb hHx; (repeat (first | with_reducible replace hLb3 := Lb.unset hLb3 | with_reducible replace hLb3 := Lb.undrew hLb3)); obtain ⟨hcb, hfb⟩ := Lb.rules hLb3; clear hHx))
        go_wp2
        go_ret2
        refine ⟨_, _, by rw [hfit]; rfl, ?_, ext_⟩
        have k1 : e.kind = 1 := by simpa using hb1
        rw [put_eq hfit Ht.out Hx.out]
        have hu := fits_fresh hfit k1 Ht.out Hx.out
        subst hu
        have hoW := Ow.keep ho3 (KF.ex hb0 (KF.refl _ _))
        have r := OR_set1 (OR_set0 hoW rfl Hx.out e.who) rfl (set_at Hx.out) e.price
        simp only [List.set_set] at r
        simp only [Sw.putRow, k1, if_true]
        exact (r.keep (kD (kR _ _))).less (by exact sz_)
      | false =>
        have k1 : ¬ e.kind = 1 := by simpa using hb1
        cases b2 with
        | true =>
          go_wp2_with fail
          go_ret2
          refine ⟨_, _, by rw [hfit]; rfl, ?_, ext_⟩
          have k2 : e.kind = 2 := by simpa using hb2
          rw [put_eq hfit Ht.out Hx.out]
          have r := OR_set0 ho3 rfl Hx.out e.who
          simp only [Sw.putRow, if_neg k1, k2, if_true]
          exact r.less (by exact sz_)
        | false =>
          go_wp2_with fail
          go_ret2
          refine ⟨_, _, by rw [hfit]; rfl, ?_, ext_⟩
          have k2 : ¬ e.kind = 2 := by simpa using hb2
          rw [put_eq hfit Ht.out Hx.out]
          have r := OR_set2 ho3 rfl Hx.out true
          simp only [Sw.putRow, if_neg k1, if_neg k2]
          exact r.less (by exact sz_)
    exact key _ _ rfl rfl
  · have hf0 : Sw.ownFits xs e = false := by simpa using hfit
    go_enter Try.func173, Try.ntmps173
    go_wp2_with (first | (go_at_call 175; apply Calls.mono; apply iCloneRows_c; ((first | (apply Rs.at0; assumption) | (apply Ow.rs0; assumption)); exact kf_); (first | assumption | omega); rintro E w1 ⟨A', c', rfl, hr, hb⟩; have hst := xr hb; (try simp only [zA, zC, zD, zN] at hst); obtain ⟨hc, hf, hz⟩ := hst) | (go_at_call 176; apply Calls.mono; apply iOwnFits_c; ((first | (apply Rs.at0; assumption) | (apply Ow.rs0; assumption)); exact kf_); rintro E w1 ⟨rfl, hb⟩; have hst := xr hb; (try simp only [zA, zC, zD, zN] at hst); obtain ⟨hc, hf, hz⟩ := hst))
    go_ret2
    refine ⟨_, _, by rw [hf0]; rfl, ?_, ext_⟩
    rw [show Sw.ownPut xs e = xs from by simp [Sw.ownPut, hf0]]
    exact (hr.keep (by (exact kf_))).less (by exact sz_)

theorem z_R : ∀ i z, Try.prog.info? 29 = some i → i.zero = some z → z.cells = (Sw.rowZ.enc).toArray := zero_law (z := .agg #[.int .i64 0, .int .i64 0, .bool false]) (by kernel_rfl) rfl
theorem iOwnFold_c (A : Option Addr) (c n : Nat) (xs : List Sw.Ent) (w : World) (hxs : RE w 0 A c n xs) : Calls Try.prog 164 #[.slice A n c] w fun E w' => ∃ A' c' n', E = .returned (.tuple #[.slice A' n' c', .bool (Sw.ownFold xs).isSome]) ∧ OwR w' w.heap.size A' c' n' ((Sw.ownFold xs).getD []) ∧ Ex w w' := by
  have hl := Lib.hid hxs.1
  have hbig := Rs.big hxs
  by_cases hn : n ≤ 40
  · have hn' : decide (40 < n) = false := by simp; omega
    have hmk : ∀ w, (Instr.makeSlice 64 (.int .i64 8) (.int .i64 8)).run Try.prog w = .ok (.slice (some ⟨w.heap.size, 0, none⟩) 8 8) (w.alloc (.cells (Sw.rows0.flatMap Sw.Row.enc).toArray 29)) := fun _ => by kernel_rfl
    go_enter Try.func164, Try.ntmps164
    go_wp2_with fail
    go_loopw [4, 15] (fun r i wr => ∃ (k : Nat) (B : Option Addr) (d : Nat) (rows : List Sw.Row), k ≤ n ∧ i = .int .i64 k ∧ r = .slice B 8 d ∧ Ex w wr ∧ OwR wr w.heap.size B d 8 rows ∧ Sw.ownFold xs = Sw.foldFrom rows (xs.drop k)) (fun _ i _ => n - (intOf i).toNat)
    case atStart => exact ⟨0, _, _, _, Nat.zero_le _, rfl, rfl, ext_, Ow.new _ rfl rfl rfl (fun _ => rfl) (Nat.le_refl _) (by omega), by rw [Sw.ownFold, if_pos (by have := hl.out; omega)]; rfl⟩
    case round =>
      clear hmk
      obtain ⟨k, B, d, rows, hk, rfl, rfl, hb, ho, hrel⟩ := hrel
      have hst := Ex.rules hb rfl
      obtain ⟨hc, hf, hz⟩ := hst
      by_cases hlt : k < n
      · obtain ⟨g, off, y, rfl, hg0, hg, hd, hy, hc0, hc1, hc2, hc3⟩ := at_E hxs hlt
        rw [hd, Sw.foldFrom] at hrel
        have Hrel := Lib.hid hrel
        clear hd hy hrel
        cases hfit : Sw.ownFits rows y
        case false =>
          go_wp2_with (first | (go_at_call 173; apply Calls.mono; apply iOwnPut_c; (apply Ow.rs0 ho; (exact kf_)); omega; rintro E w1 ⟨A1, c1, rfl, ho1, hb1⟩; have hst := Ex.rules hb1 rfl; obtain ⟨hc1', hf1', hz1'⟩ := hst))
          go_ret2
          have hh := Hrel.out
          rw [if_neg (by simp [hfit])] at hh
          refine ⟨_, _, _, by rw [hh]; rfl, ?_, ext_⟩
          rw [hh]
          exact Ow.nil _ _
        case true =>
          go_wp2_with (first | (go_at_call 173; apply Calls.mono; apply iOwnPut_c; (apply Ow.rs0 ho; (exact kf_)); omega; rintro E w1 ⟨A1, c1, rfl, ho1, hb1⟩; have hst := Ex.rules hb1 rfl; obtain ⟨hc1', hf1', hz1'⟩ := hst))
          have hh := Hrel.out
          rw [if_pos hfit] at hh
          refine ⟨⟨k + 1, _, _, _, by omega, by go_num, rfl, ext_, ho1.less (by exact sz_), ?_⟩, by simp [intOf]; omega⟩
          rw [hh, Sw.ownPut, if_pos hfit]
      · have Hrel := Lib.hid hrel; clear hrel
        go_wp2_with fail
        go_ret2
        obtain rfl : k = n := by omega
        have hh := Hrel.out
        rw [List.drop_of_length_le (by have := hl.out; omega)] at hh
        refine ⟨_, _, _, by rw [hh]; rfl, ?_, ext_⟩
        rw [hh]
        exact ho
  · have hn' : decide (40 < n) = true := by simp; omega
    go_enter Try.func164, Try.ntmps164
    go_wp2_with fail
    go_ret2
    have hh : Sw.ownFold xs = none := by rw [Sw.ownFold, if_neg (by have := hl.out; omega)]
    refine ⟨_, _, _, by rw [hh]; rfl, ?_, ext_⟩
    rw [hh]
    exact Ow.nil _ _

theorem treRoot_own {rows : List Sw.Row} (h : Sw.ownOk rows = true) : Sw.treRoot (Sw.ownLeaves rows) = Sw.root (Sw.ownLeaves rows) := by
  rw [Sw.treRoot, if_pos]
  exact Sw.treOk_iff.2 ⟨by rw [Sw.ownLeaves, leavesFrom_length, Sw.ownOk_len h]; omega, ownLeaves_ok _⟩
theorem treRoot_ent {es : List Sw.Ent} (h : es.length ≤ 40) : Sw.treRoot (es.map Sw.entLeaf) = Sw.root (es.map Sw.entLeaf) := by
  rw [Sw.treRoot, if_pos]
  exact Sw.treOk_iff.2 ⟨by rw [List.length_map]; omega, entLeaves_ok _⟩
end Go.Proofs.Ytdbnbembjebfhaa

