/-
  Texts joined: UpS.
-/
import Derived.Test.YtdbnbembjebfhaaGreatPz18
import Derived.Test.YtdbnbembjebfhaaGreatPz3
import Derived.Test.YtdbnbembjebfhaaGreatPz7
namespace Go.Proofs.YtdbnbembjebfhaaGreat
set_option maxRecDepth 100000
set_option linter.unusedSimpArgs false
set_option linter.unusedVariables false
open Go.RowKit Go
set_option maxHeartbeats 1000000

theorem upR_ok : ∀ (l : List Int) (n i : Nat) (leaf : Int), Sw.mixOk leaf = true → l.all Sw.mixOk = true → Sw.mixOk (Sw.upR n i leaf l).1 = true
  | [], n, i, leaf, h, _ => by
    unfold Sw.upR
    split
    · exact h
    · rfl
  | y :: l, n, i, leaf, h, ha => by
    unfold Sw.upR
    split
    · exact h
    · split <;> exact pair_ok _ _

theorem sUp_c (N : Nat) (A : Option Addr) (c n m k : Nat) (leaf : Int) (xs : List Int) (w : World) (hN : n ≤ N) (hxs : RI w 0 A c n xs) (h40 : n ≤ 40) (hall : xs.all Sw.mixOk = true) (hleaf : Sw.mixOk leaf = true) (hm : 1 ≤ m) (hk : k < m) (hm40 : m ≤ 40) : Calls Tryz.prog 277 #[.int .i64 m, .int .i64 k, .int .i64 leaf, .slice A n c] w fun E w' => E = .returned (.tuple #[.int .i64 (Sw.upR m k leaf xs.reverse).1, .bool (Sw.upR m k leaf xs.reverse).2]) ∧ Ex w w' := by
  induction N generalizing A c n m k xs w with
  | zero =>
    have hl := hxs.1
    obtain rfl : n = 0 := by omega
    have hx : xs = [] := List.eq_nil_of_length_eq_zero (by omega)
    subst hx
    clear hl
    by_cases h1 : m = 1
    · subst h1
      go_enter Tryz.func277, Tryz.ntmps277
      go_wp2_with fail
      go_ret2
      exact ⟨by simp [Sw.upR], ext_⟩
    · have hb : ((m : Int) == 1) = false := by simp; omega
      have hb2 : decide ((m : Int) < 2) = false := by simp; omega
      go_enter Tryz.func277, Tryz.ntmps277
      go_wp2_with fail
      go_ret2
      exact ⟨by simp [Sw.upR, show ¬ m ≤ 1 by omega], ext_⟩
  | succ N ih =>
    have hl := Lib.hid hxs.1
    have hcap := hxs.2.le
    by_cases h0 : n = 0
    · subst h0
      have hx : xs = [] := List.eq_nil_of_length_eq_zero (by have := hl.out; omega)
      subst hx
      exact ih _ c 0 m k [] w (by omega) hxs (by omega) hall hm hk hm40
    · obtain ⟨p, rfl⟩ : ∃ p, n = p + 1 := ⟨n - 1, by omega⟩
      obtain ⟨g, off, y, rfl, hg0, hg, hd, hy, hc⟩ := at_I hxs (show p < p + 1 by omega)
      have hrev := rev_snoc (by have := hl.out; omega) hy
      have hyok : Sw.mixOk y = true := List.all_eq_true.1 hall y (List.mem_of_getElem? hy)
      rw [hrev]
      have Hy := Lib.hid hy
      clear hd hy hrev
      have w1 : IntKind.i64.wrap ((p : Int) + 1 - 1) = p := by rw [IntWalk.i64_in _ (by omega)]; omega
      have tp : (p : Int) < (p : Int) + 1 := by omega
      have hb0 : ((p : Int) + 1 == 0) = false := by simp; omega
      have hb1 : decide ((p : Int) < 0) = false := by simp
      by_cases h1 : m = 1
      · subst h1
        go_enter Tryz.func277, Tryz.ntmps277
        go_wp2_with fail
        go_ret2
        exact ⟨by simp [Sw.upR], ext_⟩
      · have h2 : 2 ≤ m := by omega
        have hs1 := Sw.split_lt h2
        have hs0 := Sw.split_pos m
        have hb : ((m : Int) == 1) = false := by simp; omega
        have hb2 : decide ((m : Int) < 2) = false := by simp; omega
        have hal := List.all_take (k := p) hall
        have hal' : (xs.take p).reverse.all Sw.mixOk = true := by rw [List.all_reverse]; exact hal
        by_cases hms : k < Sw.split m
        · have hms' : (k : Int) < (Sw.split m : Int) := by omega
          have e : Sw.upR m k leaf (y :: (xs.take p).reverse) = (Sw.pair (Sw.upR (Sw.split m) k leaf (xs.take p).reverse).1 y, (Sw.upR (Sw.split m) k leaf (xs.take p).reverse).2) := by
            rw [Sw.upR, if_neg (by omega), if_pos hms]
          have xok := upR_ok (xs.take p).reverse (Sw.split m) k leaf hleaf hal'
          rw [e]; clear e
          go_enter Tryz.func277, Tryz.ntmps277
          go_wp2_with (first | (go_at_call 111; apply Calls.mono; apply sTreSplit_c; (first | assumption | omega); (first | assumption | omega); rintro E w' ⟨rfl, rfl⟩) | (go_at_call 277; apply Calls.mono; apply ih; omega; (apply Rs.at0; apply RI_take hxs; omega; (exact kf_)); omega; exact hal; omega; omega; omega; rintro E w1 ⟨rfl, hb⟩; have hst := xr hb; (try simp only [zA, zC, zD, zN] at hst); obtain ⟨hc, hf, hz⟩ := hst) | (go_at_call 112; refine (sMixPair_c _ _ _).mono ?_; rintro E w' ⟨rfl, rfl⟩))
          all_goals (try (refine wp_name ?_; intro W0 hb0; have hst := xr hb0; (try simp only [zA, zC, zD, zN] at hst); obtain ⟨hc0, hf0, hz0⟩ := hst; go_region_held3 (fun w' => Held W0 w') ((first | with_reducible assumption | with_reducible exact Held.start _ | with_reducible exact Held.of (by assumption) | with_reducible exact Held.ex (by assumption) (by assumption) | ((repeat (first | with_reducible refine Held.set ?_ (by simp only [zA, zC, zD, zN]; omega) | with_reducible refine Held.alloc ?_ _ | with_reducible refine Held.drew ?_)); (first | with_reducible assumption | with_reducible exact Held.refl _ | with_reducible exact Held.of (by assumption) | with_reducible exact Held.ex (by assumption) (by assumption))) | exact Held.of (by exact ext_))) ((first | (go_at_call 112; refine (sMixPair_c _ _ _).mono ?_; rintro E w' ⟨rfl, rfl⟩))); all_goals (have hb := And.right (by assumption : Held W0 _); have hst := xr hb; (try simp only [zA, zC, zD, zN] at hst); obtain ⟨hc, hf, hz⟩ := hst)))
          all_goals (try go_wp2)
          go_ret2
          exact ⟨by rw [mixPair_ok xok hyok]; rfl, ext_⟩
        · have hms' : ¬ (k : Int) < (Sw.split m : Int) := by omega
          have y0 : IntKind.i64.wrap ((k : Int) - ↑(Sw.split m)) = ((k - Sw.split m : Nat) : Int) := by rw [IntWalk.i64_in _ (by omega)]; omega
          have y1 : IntKind.i64.wrap ((m : Int) - ↑(Sw.split m)) = ((m - Sw.split m : Nat) : Int) := by rw [IntWalk.i64_in _ (by omega)]; omega
          have e : Sw.upR m k leaf (y :: (xs.take p).reverse) = (Sw.pair y (Sw.upR (m - Sw.split m) (k - Sw.split m) leaf (xs.take p).reverse).1, (Sw.upR (m - Sw.split m) (k - Sw.split m) leaf (xs.take p).reverse).2) := by
            rw [Sw.upR, if_neg (by omega), if_neg hms]
          have xok := upR_ok (xs.take p).reverse (m - Sw.split m) (k - Sw.split m) leaf hleaf hal'
          rw [e]; clear e
          go_enter Tryz.func277, Tryz.ntmps277
          go_wp2_with (first | (go_at_call 111; apply Calls.mono; apply sTreSplit_c; (first | assumption | omega); (first | assumption | omega); rintro E w' ⟨rfl, rfl⟩) | (go_at_call 277; apply Calls.mono; apply ih; omega; (apply Rs.at0; apply RI_take hxs; omega; (exact kf_)); omega; exact hal; omega; omega; omega; rintro E w1 ⟨rfl, hb⟩; have hst := xr hb; (try simp only [zA, zC, zD, zN] at hst); obtain ⟨hc, hf, hz⟩ := hst) | (go_at_call 112; refine (sMixPair_c _ _ _).mono ?_; rintro E w' ⟨rfl, rfl⟩))
          all_goals (try (refine wp_name ?_; intro W0 hb0; have hst := xr hb0; (try simp only [zA, zC, zD, zN] at hst); obtain ⟨hc0, hf0, hz0⟩ := hst; go_region_held3 (fun w' => Held W0 w') ((first | with_reducible assumption | with_reducible exact Held.start _ | with_reducible exact Held.of (by assumption) | with_reducible exact Held.ex (by assumption) (by assumption) | ((repeat (first | with_reducible refine Held.set ?_ (by simp only [zA, zC, zD, zN]; omega) | with_reducible refine Held.alloc ?_ _ | with_reducible refine Held.drew ?_)); (first | with_reducible assumption | with_reducible exact Held.refl _ | with_reducible exact Held.of (by assumption) | with_reducible exact Held.ex (by assumption) (by assumption))) | exact Held.of (by exact ext_))) ((first | (go_at_call 112; refine (sMixPair_c _ _ _).mono ?_; rintro E w' ⟨rfl, rfl⟩))); all_goals (have hb := And.right (by assumption : Held W0 _); have hst := xr hb; (try simp only [zA, zC, zD, zN] at hst); obtain ⟨hc, hf, hz⟩ := hst)))
          all_goals (try go_wp2)
          go_ret2
          exact ⟨by rw [mixPair_ok hyok xok]; rfl, ext_⟩

theorem sTreUp_c (nn i leaf : Int) (A : Option Addr) (c n : Nat) (xs : List Int) (w : World) (hxs : RI w 0 A c n xs) : Calls Tryz.prog 270 #[.int .i64 nn, .int .i64 i, .int .i64 leaf, .slice A n c] w fun E w' => E = .returned (.tuple #[.int .i64 ((Sw.treUp nn i leaf xs).getD 0), .bool (Sw.treUp nn i leaf xs).isSome]) ∧ Ex w w' := by
  have hl := Lib.hid hxs.1
  cases g1 : Sw.inR nn 1 40
  case false => have e : Sw.treUp nn i leaf xs = none := by (simp [Sw.treUp, g1])
                rw [e]; go_enter Tryz.func270, Tryz.ntmps270; go_wp2_with (first | (go_at_call 107; refine (l1In_c _ _ _ _).mono ?_; rintro E w' ⟨rfl, rfl⟩)); go_ret2; exact ⟨rfl, ext_⟩
  obtain ⟨n0, n1⟩ := Sw.inR_iff.1 g1
  cases g2 : Sw.inR i 0 (nn - 1)
  case false => have e : Sw.treUp nn i leaf xs = none := by (simp [Sw.treUp, g2])
                rw [e]; go_enter Tryz.func270, Tryz.ntmps270; go_wp2_with (first | (go_at_call 107; refine (l1In_c _ _ _ _).mono ?_; rintro E w' ⟨rfl, rfl⟩)); go_ret2; exact ⟨rfl, ext_⟩
  obtain ⟨i0, i1⟩ := Sw.inR_iff.1 g2
  cases g3 : Sw.mixOk leaf
  case false => have e : Sw.treUp nn i leaf xs = none := by (simp [Sw.treUp, g3])
                rw [e]; go_enter Tryz.func270, Tryz.ntmps270; go_wp2_with (first | (go_at_call 107; refine (l1In_c _ _ _ _).mono ?_; rintro E w' ⟨rfl, rfl⟩) | (go_at_call 183; refine (sMixOk_c _ _).mono ?_; rintro E w' ⟨rfl, rfl⟩)); go_ret2; exact ⟨rfl, ext_⟩
  cases g4 : Sw.treOk xs
  case false => have e : Sw.treUp nn i leaf xs = none := by (simp [Sw.treUp, g4])
                rw [e]; go_enter Tryz.func270, Tryz.ntmps270; go_wp2_with (first | (go_at_call 107; refine (l1In_c _ _ _ _).mono ?_; rintro E w' ⟨rfl, rfl⟩) | (go_at_call 183; refine (sMixOk_c _ _).mono ?_; rintro E w' ⟨rfl, rfl⟩) | (go_at_call 136; apply Calls.mono; apply sTreOk_c; ((first | (apply Rs.at0; assumption) | (apply Ow.rs0; assumption)); exact kf_); rintro E w' ⟨rfl, rfl⟩)); go_ret2; exact ⟨rfl, ext_⟩
  obtain ⟨h40, hall⟩ := Sw.treOk_iff.1 g4
  have hn40 : n ≤ 40 := by have := hl.out; omega
  obtain ⟨m, rfl⟩ := Int.eq_ofNat_of_zero_le (show 0 ≤ nn by omega)
  obtain ⟨k, rfl⟩ := Int.eq_ofNat_of_zero_le i0
  have e : Sw.treUp m k leaf xs = if (Sw.upR m k leaf xs.reverse).2 then some (Sw.upR m k leaf xs.reverse).1 else none := by
    simp only [Sw.treUp, g1, g2, g3, g4, Bool.true_and, Sw.up, Int.toNat_natCast]
  rw [e]; clear e
  cases hu : (Sw.upR m k leaf xs.reverse).2
  all_goals
    go_enter Tryz.func270, Tryz.ntmps270
    go_wp2_with (first | (go_at_call 107; refine (l1In_c _ _ _ _).mono ?_; rintro E w' ⟨rfl, rfl⟩) | (go_at_call 183; refine (sMixOk_c _ _).mono ?_; rintro E w' ⟨rfl, rfl⟩) | (go_at_call 136; apply Calls.mono; apply sTreOk_c; ((first | (apply Rs.at0; assumption) | (apply Ow.rs0; assumption)); exact kf_); rintro E w' ⟨rfl, rfl⟩) | (go_at_call 277; apply Calls.mono; apply (sUp_c 40); omega; ((first | (apply Rs.at0; assumption) | (apply Ow.rs0; assumption)); exact kf_); omega; exact hall; exact g3; omega; omega; omega; rintro E w1 ⟨rfl, hb⟩; have hst := xr hb; (try simp only [zA, zC, zD, zN] at hst); obtain ⟨hc, hf, hz⟩ := hst))
    go_ret2
    exact ⟨rfl, ext_⟩
theorem sTreCheck_c (r nn i leaf : Int) (A : Option Addr) (c n : Nat) (xs : List Int) (w : World) (hxs : RI w 0 A c n xs) : Calls Tryz.prog 256 #[.int .i64 r, .int .i64 nn, .int .i64 i, .int .i64 leaf, .slice A n c] w fun E w' => E = .returned (.bool (Sw.treCheck r nn i leaf xs)) ∧ Ex w w' := by
  have e : Sw.treCheck r nn i leaf xs = ((Sw.treUp nn i leaf xs).isSome && ((Sw.treUp nn i leaf xs).getD 0 == r)) := by
    unfold Sw.treCheck
    cases Sw.treUp nn i leaf xs with
    | none => rfl
    | some v => rfl
  rw [e]; clear e
  cases hu : (Sw.treUp nn i leaf xs).isSome
  all_goals
    go_enter Tryz.func256, Tryz.ntmps256
    go_wp2_with (first | (go_at_call 270; apply Calls.mono; apply sTreUp_c; ((first | (apply Rs.at0; assumption) | (apply Ow.rs0; assumption)); exact kf_); rintro E w1 ⟨rfl, hb⟩; have hst := xr hb; (try simp only [zA, zC, zD, zN] at hst); obtain ⟨hc, hf, hz⟩ := hst))
    all_goals (go_ret; exact ⟨ret_b (by simp [*]), ext_⟩)
theorem sOwnCheck_c (root t : Int) (r : Sw.Row) (A : Option Addr) (c n : Nat) (xs : List Int) (w : World) (hxs : RI w 0 A c n xs) : Calls Tryz.prog 243 #[.int .i64 root, .int .i64 t, .agg #[.int .i64 r.who, .int .i64 r.face, .bool r.used], .slice A n c] w fun E w' => E = .returned (.bool (Sw.ownCheck root t r xs)) ∧ Ex w w' := by
  cases g1 : Sw.inR t 0 7
  all_goals
    go_enter Tryz.func243, Tryz.ntmps243
    go_wp2_with (first | (go_at_call 107; refine (l1In_c _ _ _ _).mono ?_; rintro E w' ⟨rfl, rfl⟩) | (go_at_call 182; refine (sOwnLeaf_c _ _ _).mono ?_; rintro E w1 ⟨rfl, hb⟩; have hst := xr hb; (try simp only [zA, zC, zD, zN] at hst); obtain ⟨hc, hf, hz⟩ := hst) | (go_at_call 256; apply Calls.mono; apply sTreCheck_c; ((first | (apply Rs.at0; assumption) | (apply Ow.rs0; assumption)); exact kf_); rintro E w1 ⟨rfl, hb⟩; have hst := xr hb; (try simp only [zA, zC, zD, zN] at hst); obtain ⟨hc, hf, hz⟩ := hst))
    all_goals (go_ret; exact ⟨ret_b (by simp [Sw.ownCheck, g1]), ext_⟩)
end Go.Proofs.YtdbnbembjebfhaaGreat

