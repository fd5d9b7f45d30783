/-
  Texts joined: DrawE.
-/
import Derived.Test.YtdbnbembjebfhaaGreatPz9
namespace Go.Proofs.YtdbnbembjebfhaaGreat
set_option maxRecDepth 100000
set_option linter.unusedSimpArgs false
set_option linter.unusedVariables false
open Go.RowKit Go
set_option maxHeartbeats 2000000

theorem pick_z (rb P : Nat) (n N : Int) (w : World) (hr : Rdp w rb P) (hP : P ≤ 1000000) (hN : n ≤ N) (h0 : 0 ≤ N) : Calls Tryz.prog 35 #[.pointer (some ⟨rb, 0, none⟩), .int .i64 n] w fun E w' => ∃ v, E = .returned (.int .i64 v) ∧ (0 ≤ v ∧ v ≤ N) ∧ Rdp w' rb (P + 1) ∧ Ch (· = rb) w w' := by
  by_cases h1 : 1 ≤ n
  · refine (pick_c rb P n w hr hP h1).mono ?_
    rintro E w' ⟨v, rfl, ⟨h2, h3⟩, h4, h5⟩
    exact ⟨v, rfl, ⟨h2, by omega⟩, h4, h5⟩
  obtain ⟨p, hp, hr⟩ := hr
  have Hs := Lib.hid (show Rdp (w.setCell ⟨rb, 1, none⟩ (.int .i64 ((p : Int) + 1))) rb (P + 1) from ⟨p + 1, by omega, hr.step⟩)
  obtain ⟨⟨A, c, m, bs, hc0, hbs, hm, hq, hab⟩, hc1, hfr, hlt⟩ := hr
  clear hq
  have hn1 : n < 1 := by omega
  go_enter Tryz.func35, Tryz.ntmps35
  go_wp2_with fail
  go_ret
  exact ⟨0, rfl, ⟨by omega, by omega⟩, Hs.out, Ch.setCell (S := (· = rb)) (Ch.refl _ _) (.inl rfl) _⟩

theorem l20Entry_c (rb P : Nat) (n : Int) (w : World) (hr : Rdp w rb P) (hP : P ≤ 999000) (h1 : 1 ≤ n) (h2 : n ≤ 1000000) : Calls Tryz.prog 102 #[.pointer (some ⟨rb, 0, none⟩), .int .i64 n] w fun E w' => ∃ a b c d, E = .returned (.agg #[.int .i64 a, .int .i64 b, .int .i64 c, .int .i64 d]) ∧ Rdp w' rb (P + 10) ∧ Ch (· = rb) w w' := by
  have hlt := hr.lt
  go_enter Tryz.func102, Tryz.ntmps102
  go_upto_if 17 with (first | (go_at_call 35; apply Calls.mono; apply (pickLit (fun _ => True)); (apply Rdp.keep; assumption; (exact kb_)); omega; (first | rfl | (simp; done)); (repeat (first | exact LitQ.nil | (refine LitQ.cons ⟨_, rfl, (by first | exact trivial | omega)⟩ ?_))); omega; (first | omega | (simp only [zA, zC, zD, zN]; omega)); rintro E w1 ⟨v, x, rfl, hv, hq, hcx, hrd, hb⟩; (try simp only [zA, zC, zD, zN] at hcx); have hst := xc hb; (try simp only [zA, zC, zD, zN] at hst); obtain ⟨hc, hf, hz⟩ := hst) | (go_at_call 35; apply Calls.mono; apply pick_c; (apply Rdp.keep; assumption; (exact kb_)); (first | assumption | omega); (first | assumption | omega); rintro E w1 ⟨v, rfl, ⟨hv0, hv1⟩, hrd, hb⟩; have hst := xc hb; (try simp only [zA, zC, zD, zN] at hst); obtain ⟨hc, hf, hz⟩ := hst))
  obtain ⟨g, hgg⟩ : ∃ g, g = w1.heap.size := ⟨_, rfl⟩
  have hg0 : w.heap.size + 1 ≤ g := by omega
  have Hgg := Lib.hid hgg
  clear hgg
  go_cut [] (fun wx => DrawAt w wx rb w.heap.size g 4 (P + 4))
  case first =>
    go_wp2_with (go_at_call 35; apply Calls.mono; apply (pickLit (fun _ => True)); (apply Rdp.keep; assumption; (exact kb_)); omega; (first | rfl | (simp; done)); (repeat (first | exact LitQ.nil | (refine LitQ.cons ⟨_, rfl, (by first | exact trivial | omega)⟩ ?_))); omega; (first | omega | (simp only [zA, zC, zD, zN]; omega)); rintro E w1 ⟨v, x, rfl, hv, hq, hcx, hrd, hb⟩; (try simp only [zA, zC, zD, zN] at hcx); have hst := xc hb; (try simp only [zA, zC, zD, zN] at hst); obtain ⟨hc, hf, hz⟩ := hst)
    all_goals go_meet
    all_goals (refine ⟨?_, ?_, Rdp.more (Rdp.keep (by assumption) (by (exact kb_))) (by omega), ext_⟩)
    all_goals (try rw [Hgg.out])
    all_goals (repeat (first | with_reducible assumption | exact Ints.new (zs := [_, _, _]) (by first | with_reducible rfl | omega) rfl rfl | exact Ints.new (zs := [_, _, _, _]) (by first | with_reducible rfl | omega) rfl rfl | exact Ints.new (zs := [_, _, _, _, _, _]) (by first | with_reducible rfl | omega) rfl rfl | with_reducible apply Ints.alloc | with_reducible apply Ints.drew | (with_reducible refine Ints.set ?_ rfl) | (with_reducible refine Ints.ch (by assumption) (by first | omega | (simp only [zA, zC, zD, zN]; omega)) ?_)))
  case rest =>
    ((repeat (rename Ch _ _ _ => zz; clear zz)); (repeat (rename Rdp _ _ _ => zz; clear zz)); (repeat (rename (∀ (b o : Nat), ¬ ((⟨b, 0, none⟩ : Addr) = ⟨b - _ + _, 0, none⟩) → _) => zz; clear zz)))
    rw [← Hgg.out]
    obtain ⟨own, res, rd, hbx⟩ := hcut
    have hzx := hbx.size
    have hgl := own.lt
    have hgr : g ≠ rb := by omega
    obtain ⟨o0, ho0⟩ := own.at_ (i := 0) (by omega); obtain ⟨o1, ho1⟩ := own.at_ (i := 1) (by omega); obtain ⟨o2, ho2⟩ := own.at_ (i := 2) (by omega); obtain ⟨o3, ho3⟩ := own.at_ (i := 3) (by omega); have hof := own.free
    go_upto_if 26 with (go_at_call 36; apply Calls.mono; apply odd_c; (apply Rdp.keep; assumption; (exact kb_)); (first | assumption | omega); (first | assumption | omega); (first | assumption | omega); rintro E w1 ⟨b, rfl, hrd, hb⟩; have hst := xc hb; (try simp only [zA, zC, zD, zN] at hst); obtain ⟨hc, hf, hz⟩ := hst)
    go_cut [] (fun wx => DrawAt w wx rb w.heap.size g 4 (P + 7))
    case first =>
      go_wp2_with (first | (go_at_call 35; apply Calls.mono; apply (pickLit (fun _ => True)); (apply Rdp.keep; assumption; (exact kb_)); omega; (first | rfl | (simp; done)); (repeat (first | exact LitQ.nil | (refine LitQ.cons ⟨_, rfl, (by first | exact trivial | omega)⟩ ?_))); omega; (first | omega | (simp only [zA, zC, zD, zN]; omega)); rintro E w1 ⟨v, x, rfl, hv, hq, hcx, hrd, hb⟩; (try simp only [zA, zC, zD, zN] at hcx); have hst := xc hb; (try simp only [zA, zC, zD, zN] at hst); obtain ⟨hc, hf, hz⟩ := hst) | (go_at_call 35; apply Calls.mono; apply pick_c; (apply Rdp.keep; assumption; (exact kb_)); (first | assumption | omega); (first | assumption | omega); rintro E w1 ⟨v, rfl, ⟨hv0, hv1⟩, hrd, hb⟩; have hst := xc hb; (try simp only [zA, zC, zD, zN] at hst); obtain ⟨hc, hf, hz⟩ := hst) | (go_at_call 100; refine (sEntCap_c _ _).mono ?_; rintro E w' ⟨rfl, rfl⟩))
      all_goals go_meet
      all_goals (refine ⟨?_, ?_, Rdp.more (Rdp.keep (by assumption) (by (exact kb_))) (by omega), ext_⟩)
      all_goals (repeat (first | with_reducible assumption | exact Ints.new (zs := [_, _, _]) (by first | with_reducible rfl | omega) rfl rfl | exact Ints.new (zs := [_, _, _, _]) (by first | with_reducible rfl | omega) rfl rfl | exact Ints.new (zs := [_, _, _, _, _, _]) (by first | with_reducible rfl | omega) rfl rfl | with_reducible apply Ints.alloc | with_reducible apply Ints.drew | (with_reducible refine Ints.set ?_ rfl) | (with_reducible refine Ints.ch (by assumption) (by first | omega | (simp only [zA, zC, zD, zN]; omega)) ?_)))
    case rest =>
      ((repeat (rename Ch _ _ _ => zz; clear zz)); (repeat (rename Rdp _ _ _ => zz; clear zz)); (repeat (rename (∀ (b o : Nat), ¬ ((⟨b, 0, none⟩ : Addr) = ⟨b - _ + _, 0, none⟩) → _) => zz; clear zz)))
      clear own res hzx hgl
      obtain ⟨own, res, rd, hbx⟩ := hcut
      have hzx := hbx.size
      have hgl := own.lt
      obtain ⟨o0, ho0⟩ := own.at_ (i := 0) (by omega); obtain ⟨o1, ho1⟩ := own.at_ (i := 1) (by omega); obtain ⟨o2, ho2⟩ := own.at_ (i := 2) (by omega); obtain ⟨o3, ho3⟩ := own.at_ (i := 3) (by omega); have hof := own.free
      obtain ⟨r0, hr0⟩ := res.at_ (i := 0) (by omega); obtain ⟨r1, hr1⟩ := res.at_ (i := 1) (by omega); obtain ⟨r2, hr2⟩ := res.at_ (i := 2) (by omega); obtain ⟨r3, hr3⟩ := res.at_ (i := 3) (by omega); have hrf := res.free
      go_wp2_with fail
      refine bodyPost_ret (v := .agg #[.int .i64 o0, .int .i64 o1, .int .i64 o2, .int .i64 o3]) (by simp [results, Tryz.results102, go_sem, *]) rfl ?_
      exact ⟨o0, o1, o2, o3, rfl, rd.keep (by (exact kb_)) |>.more (by omega), ext_⟩
end Go.Proofs.YtdbnbembjebfhaaGreat

