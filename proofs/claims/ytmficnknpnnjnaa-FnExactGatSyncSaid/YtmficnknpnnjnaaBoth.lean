/-
  Walks: what a proof of growth leads to.
-/
import Derived.Test.YtmficnknpnnjnaaGrow
namespace Go.Proofs.Ytmficnknpnnjnaa
open Go.RowKit Go
set_option maxHeartbeats 400000

theorem snoc_of {α : Type} {xs : List α} {n : Nat} {y : α} (hn : n + 1 = xs.length) (h : xs[n]? = some y) : xs = xs.take n ++ [y] := by
  rw [← take_snoc h, List.take_of_length_le (by omega)]
theorem rev_snoc {α : Type} {xs : List α} {n : Nat} {y : α} (hn : n + 1 = xs.length) (h : xs[n]? = some y) : xs.reverse = y :: (xs.take n).reverse := by
  conv => lhs; rw [snoc_of hn h]
  simp

theorem sBoth_c (N : Nat) (A : Option Addr) (c n m k : Nat) (old : Int) (kn : Bool) (xs : List Int) (w : World) (hN : n ≤ N) (hxs : RI w 0 A c n xs) (h40 : n ≤ 40) (hall : xs.all Sw.mixOk = true) (hold : Sw.mixOk old = true) (hm : 1 ≤ m) (hmk : m ≤ k) (hk40 : k ≤ 40) : Calls Try.prog 62 #[.int .i64 m, .int .i64 k, .int .i64 old, .slice A n c, .bool kn] w fun E w' => ∃ a b, E = .returned (.tuple #[.int .i64 a, .int .i64 b, .bool (Sw.grR m k old xs.reverse kn).isSome]) ∧ (∀ r, Sw.grR m k old xs.reverse kn = some r → r = (a, b)) ∧ Sw.mixOk a = true ∧ Sw.mixOk b = true ∧ Ex w w' := by
  induction N generalizing A c n m k kn xs w with
  | zero =>
    have hl := hxs.1
    obtain rfl : n = 0 := by omega
    have hx : xs = [] := List.eq_nil_of_length_eq_zero (by omega)
    subst hx
    clear hl
    by_cases hmk' : m = k
    · subst hmk'
      cases kn with
      | true =>
        go_enter Try.func62, Try.ntmps62
        go_wp2_with fail
        go_ret3
        exact ⟨old, old, by simp [Sw.grR], by simp [Sw.grR], hold, hold, (by (repeat (first | with_reducible exact Ch.refl _ _ | with_reducible apply Ch.alloc | with_reducible apply Ch.drew | with_reducible apply Ch.drewN | (with_reducible refine Ch.setCell ?_ (Or.inr (by first | omega | (simp only [World.size_alloc, World.size_setCell, World.size_drew]; omega))) _) | (with_reducible apply Ch.exk; with_reducible assumption) | (with_reducible apply Ch.chk; with_reducible assumption) | (with_reducible refine Ch.chg (by assumption) ?_ (by first | omega | (simp only [World.size_alloc, World.size_setCell, World.size_drew]; omega))))))⟩
      | false =>
        go_enter Try.func62, Try.ntmps62
        go_wp2_with fail
        go_ret3
        exact ⟨0, 0, by simp [Sw.grR], by simp [Sw.grR], rfl, rfl, (by (repeat (first | with_reducible exact Ch.refl _ _ | with_reducible apply Ch.alloc | with_reducible apply Ch.drew | with_reducible apply Ch.drewN | (with_reducible refine Ch.setCell ?_ (Or.inr (by first | omega | (simp only [World.size_alloc, World.size_setCell, World.size_drew]; omega))) _) | (with_reducible apply Ch.exk; with_reducible assumption) | (with_reducible apply Ch.chk; with_reducible assumption) | (with_reducible refine Ch.chg (by assumption) ?_ (by first | omega | (simp only [World.size_alloc, World.size_setCell, World.size_drew]; omega))))))⟩
    · have hb : ((m : Int) == k) = false := by simp; omega
      go_enter Try.func62, Try.ntmps62
      go_wp2_with fail
      go_ret3
      exact ⟨0, 0, by simp [Sw.grR, hmk'], by simp [Sw.grR, hmk'], rfl, rfl, (by (repeat (first | with_reducible exact Ch.refl _ _ | with_reducible apply Ch.alloc | with_reducible apply Ch.drew | with_reducible apply Ch.drewN | (with_reducible refine Ch.setCell ?_ (Or.inr (by first | omega | (simp only [World.size_alloc, World.size_setCell, World.size_drew]; omega))) _) | (with_reducible apply Ch.exk; with_reducible assumption) | (with_reducible apply Ch.chk; with_reducible assumption) | (with_reducible refine Ch.chg (by assumption) ?_ (by first | omega | (simp only [World.size_alloc, World.size_setCell, World.size_drew]; omega))))))⟩
  | succ N ih =>
    have hl := Lib.hid hxs.1
    have hcap := hxs.2.le
    by_cases h0 : n = 0
    · subst h0
      have hx : xs = [] := List.eq_nil_of_length_eq_zero (by have := hl.out; omega)
      subst hx
      exact ih _ c 0 m k kn [] w (by omega) hxs (by omega) hall hm hmk hk40
    · obtain ⟨p, rfl⟩ : ∃ p, n = p + 1 := ⟨n - 1, by omega⟩
      obtain ⟨g, off, y, rfl, hg0, hg, hd, hy, hc⟩ := at_I hxs (show p < p + 1 by omega)
      have hrev := rev_snoc (by have := hl.out; omega) hy
      have hyok : Sw.mixOk y = true := List.all_eq_true.1 hall y (List.mem_of_getElem? hy)
      rw [hrev]
      have Hy := Lib.hid hy
      clear hd hy hrev
      by_cases hmk' : m = k
      · subst hmk'
        cases kn with
        | true =>
          have hb1 : ((p : Int) + 1 == 0) = false := by simp; omega
          go_enter Try.func62, Try.ntmps62
          go_wp2_with fail
          go_ret3
          exact ⟨old, old, by simp [Sw.grR], by simp [Sw.grR], hold, hold, (by (repeat (first | with_reducible exact Ch.refl _ _ | with_reducible apply Ch.alloc | with_reducible apply Ch.drew | with_reducible apply Ch.drewN | (with_reducible refine Ch.setCell ?_ (Or.inr (by first | omega | (simp only [World.size_alloc, World.size_setCell, World.size_drew]; omega))) _) | (with_reducible apply Ch.exk; with_reducible assumption) | (with_reducible apply Ch.chk; with_reducible assumption) | (with_reducible refine Ch.chg (by assumption) ?_ (by first | omega | (simp only [World.size_alloc, World.size_setCell, World.size_drew]; omega))))))⟩
        | false =>
          by_cases hp : p = 0
          · subst hp
            simp only [Nat.add_zero] at hc
            go_enter Try.func62, Try.ntmps62
            go_wp2_with fail
            go_quiet ((first | fail))
            go_wp2
            go_ret3
            exact ⟨y, y, by simp [Sw.grR], by simp [Sw.grR], hyok, hyok, (by (repeat (first | with_reducible exact Ch.refl _ _ | with_reducible apply Ch.alloc | with_reducible apply Ch.drew | with_reducible apply Ch.drewN | (with_reducible refine Ch.setCell ?_ (Or.inr (by first | omega | (simp only [World.size_alloc, World.size_setCell, World.size_drew]; omega))) _) | (with_reducible apply Ch.exk; with_reducible assumption) | (with_reducible apply Ch.chk; with_reducible assumption) | (with_reducible refine Ch.chg (by assumption) ?_ (by first | omega | (simp only [World.size_alloc, World.size_setCell, World.size_drew]; omega))))))⟩
          · have hb1 : ((p : Int) + 1 != 1) = true := by simp; omega
            have hne : ¬ (xs.take p = []) := by
              intro e
              have e1 := congrArg List.length e
              rw [List.length_take, List.length_nil] at e1
              have := hl.out
              omega
            go_enter Try.func62, Try.ntmps62
            go_wp2_with fail
            go_ret3
            exact ⟨0, 0, by simp [Sw.grR, hne], by simp [Sw.grR, hne], rfl, rfl, (by (repeat (first | with_reducible exact Ch.refl _ _ | with_reducible apply Ch.alloc | with_reducible apply Ch.drew | with_reducible apply Ch.drewN | (with_reducible refine Ch.setCell ?_ (Or.inr (by first | omega | (simp only [World.size_alloc, World.size_setCell, World.size_drew]; omega))) _) | (with_reducible apply Ch.exk; with_reducible assumption) | (with_reducible apply Ch.chk; with_reducible assumption) | (with_reducible refine Ch.chg (by assumption) ?_ (by first | omega | (simp only [World.size_alloc, World.size_setCell, World.size_drew]; omega))))))⟩
      · have h2 : 2 ≤ k := by omega
        have hs1 := Sw.split_lt h2
        have hs0 := Sw.split_pos k
        have hb : ((m : Int) == k) = false := by simp; omega
        have hb1 : ((p : Int) + 1 == 0) = false := by simp; omega
        by_cases hms : m ≤ Sw.split k
        · go_enter Try.func62, Try.ntmps62
          go_wp2_with (first | (go_at_call 64; apply Calls.mono; apply sTreSplit_c; (first | assumption | (first | (apply Rs.at0; assumption; (repeat (first | with_reducible exact KF.refl _ _ | with_reducible apply KF.alloc | with_reducible apply KF.drew | with_reducible apply KF.drewN | (with_reducible refine KF.setCell ?_ (by first | omega | (simp only [World.size_alloc, World.size_setCell, World.size_drew]; omega))) | (with_reducible apply KF.ex; with_reducible assumption) | (with_reducible refine KF.ch1 (by assumption) ?_ (by (first | omega | (simp only [World.size_alloc, World.size_setCell, World.size_drew]; omega))))))) | (apply Ow.rs0; assumption; (repeat (first | with_reducible exact KF.refl _ _ | with_reducible apply KF.alloc | with_reducible apply KF.drew | with_reducible apply KF.drewN | (with_reducible refine KF.setCell ?_ (by first | omega | (simp only [World.size_alloc, World.size_setCell, World.size_drew]; omega))) | (with_reducible apply KF.ex; with_reducible assumption) | (with_reducible refine KF.ch1 (by assumption) ?_ (by (first | omega | (simp only [World.size_alloc, World.size_setCell, World.size_drew]; omega)))))))) | omega); (first | assumption | (first | (apply Rs.at0; assumption; (repeat (first | with_reducible exact KF.refl _ _ | with_reducible apply KF.alloc | with_reducible apply KF.drew | with_reducible apply KF.drewN | (with_reducible refine KF.setCell ?_ (by first | omega | (simp only [World.size_alloc, World.size_setCell, World.size_drew]; omega))) | (with_reducible apply KF.ex; with_reducible assumption) | (with_reducible refine KF.ch1 (by assumption) ?_ (by (first | omega | (simp only [World.size_alloc, World.size_setCell, World.size_drew]; omega))))))) | (apply Ow.rs0; assumption; (repeat (first | with_reducible exact KF.refl _ _ | with_reducible apply KF.alloc | with_reducible apply KF.drew | with_reducible apply KF.drewN | (with_reducible refine KF.setCell ?_ (by first | omega | (simp only [World.size_alloc, World.size_setCell, World.size_drew]; omega))) | (with_reducible apply KF.ex; with_reducible assumption) | (with_reducible refine KF.ch1 (by assumption) ?_ (by (first | omega | (simp only [World.size_alloc, World.size_setCell, World.size_drew]; omega)))))))) | omega); rintro E w' ⟨rfl, rfl⟩) | (go_at_call 62; apply Calls.mono; apply ih; omega; (apply Rs.at0; apply RI_take hxs; omega; (repeat (first | with_reducible exact KF.refl _ _ | with_reducible apply KF.alloc | with_reducible apply KF.drew | with_reducible apply KF.drewN | (with_reducible refine KF.setCell ?_ (by first | omega | (simp only [World.size_alloc, World.size_setCell, World.size_drew]; omega))) | (with_reducible apply KF.ex; with_reducible assumption) | (with_reducible refine KF.ch1 (by assumption) ?_ (by (first | omega | (simp only [World.size_alloc, World.size_setCell, World.size_drew]; omega))))))); omega; exact List.all_take hall; omega; omega; omega; rintro E w1 ⟨a, b, rfl, hr, ha, hb', hb⟩; have hst := Ex.rules hb rfl; (try simp only [World.size_alloc, World.size_setCell, World.size_drew] at hst); obtain ⟨hc, hf, hz⟩ := hst) | (go_at_call 65; refine (sMixPair_c _ _ _).mono ?_; rintro E w' ⟨rfl, rfl⟩))
          go_ret3
          refine ⟨a, Sw.pair b y, ?_, ?_, ha, pair_ok _ _, (by (repeat (first | with_reducible exact Ch.refl _ _ | with_reducible apply Ch.alloc | with_reducible apply Ch.drew | with_reducible apply Ch.drewN | (with_reducible refine Ch.setCell ?_ (Or.inr (by first | omega | (simp only [World.size_alloc, World.size_setCell, World.size_drew]; omega))) _) | (with_reducible apply Ch.exk; with_reducible assumption) | (with_reducible apply Ch.chk; with_reducible assumption) | (with_reducible refine Ch.chg (by assumption) ?_ (by first | omega | (simp only [World.size_alloc, World.size_setCell, World.size_drew]; omega))))))⟩
          · rw [mixPair_ok hb' hyok, Sw.grR, if_neg hmk', if_pos hms, Option.isSome_map]; rfl
          · intro r hr'
            rw [Sw.grR, if_neg hmk', if_pos hms, Option.map_eq_some_iff] at hr'
            obtain ⟨q, hq, rfl⟩ := hr'
            rw [hr q hq]
        · have y0 : IntKind.i64.wrap ((m : Int) - ↑(Sw.split k)) = ((m - Sw.split k : Nat) : Int) := by rw [IntWalk.i64_in _ (by omega)]; omega
          have y1 : IntKind.i64.wrap ((k : Int) - ↑(Sw.split k)) = ((k - Sw.split k : Nat) : Int) := by rw [IntWalk.i64_in _ (by omega)]; omega
          go_enter Try.func62, Try.ntmps62
          go_wp2_with (first | (go_at_call 64; apply Calls.mono; apply sTreSplit_c; (first | assumption | (first | (apply Rs.at0; assumption; (repeat (first | with_reducible exact KF.refl _ _ | with_reducible apply KF.alloc | with_reducible apply KF.drew | with_reducible apply KF.drewN | (with_reducible refine KF.setCell ?_ (by first | omega | (simp only [World.size_alloc, World.size_setCell, World.size_drew]; omega))) | (with_reducible apply KF.ex; with_reducible assumption) | (with_reducible refine KF.ch1 (by assumption) ?_ (by (first | omega | (simp only [World.size_alloc, World.size_setCell, World.size_drew]; omega))))))) | (apply Ow.rs0; assumption; (repeat (first | with_reducible exact KF.refl _ _ | with_reducible apply KF.alloc | with_reducible apply KF.drew | with_reducible apply KF.drewN | (with_reducible refine KF.setCell ?_ (by first | omega | (simp only [World.size_alloc, World.size_setCell, World.size_drew]; omega))) | (with_reducible apply KF.ex; with_reducible assumption) | (with_reducible refine KF.ch1 (by assumption) ?_ (by (first | omega | (simp only [World.size_alloc, World.size_setCell, World.size_drew]; omega)))))))) | omega); (first | assumption | (first | (apply Rs.at0; assumption; (repeat (first | with_reducible exact KF.refl _ _ | with_reducible apply KF.alloc | with_reducible apply KF.drew | with_reducible apply KF.drewN | (with_reducible refine KF.setCell ?_ (by first | omega | (simp only [World.size_alloc, World.size_setCell, World.size_drew]; omega))) | (with_reducible apply KF.ex; with_reducible assumption) | (with_reducible refine KF.ch1 (by assumption) ?_ (by (first | omega | (simp only [World.size_alloc, World.size_setCell, World.size_drew]; omega))))))) | (apply Ow.rs0; assumption; (repeat (first | with_reducible exact KF.refl _ _ | with_reducible apply KF.alloc | with_reducible apply KF.drew | with_reducible apply KF.drewN | (with_reducible refine KF.setCell ?_ (by first | omega | (simp only [World.size_alloc, World.size_setCell, World.size_drew]; omega))) | (with_reducible apply KF.ex; with_reducible assumption) | (with_reducible refine KF.ch1 (by assumption) ?_ (by (first | omega | (simp only [World.size_alloc, World.size_setCell, World.size_drew]; omega)))))))) | omega); rintro E w' ⟨rfl, rfl⟩) | (go_at_call 62; apply Calls.mono; apply ih; omega; (apply Rs.at0; apply RI_take hxs; omega; (repeat (first | with_reducible exact KF.refl _ _ | with_reducible apply KF.alloc | with_reducible apply KF.drew | with_reducible apply KF.drewN | (with_reducible refine KF.setCell ?_ (by first | omega | (simp only [World.size_alloc, World.size_setCell, World.size_drew]; omega))) | (with_reducible apply KF.ex; with_reducible assumption) | (with_reducible refine KF.ch1 (by assumption) ?_ (by (first | omega | (simp only [World.size_alloc, World.size_setCell, World.size_drew]; omega))))))); omega; exact List.all_take hall; omega; omega; omega; rintro E w1 ⟨a, b, rfl, hr, ha, hb', hb⟩; have hst := Ex.rules hb rfl; (try simp only [World.size_alloc, World.size_setCell, World.size_drew] at hst); obtain ⟨hc, hf, hz⟩ := hst) | (go_at_call 65; refine (sMixPair_c _ _ _).mono ?_; rintro E w' ⟨rfl, rfl⟩))
          go_ret3
          refine ⟨Sw.pair y a, Sw.pair y b, ?_, ?_, pair_ok _ _, pair_ok _ _, (by (repeat (first | with_reducible exact Ch.refl _ _ | with_reducible apply Ch.alloc | with_reducible apply Ch.drew | with_reducible apply Ch.drewN | (with_reducible refine Ch.setCell ?_ (Or.inr (by first | omega | (simp only [World.size_alloc, World.size_setCell, World.size_drew]; omega))) _) | (with_reducible apply Ch.exk; with_reducible assumption) | (with_reducible apply Ch.chk; with_reducible assumption) | (with_reducible refine Ch.chg (by assumption) ?_ (by first | omega | (simp only [World.size_alloc, World.size_setCell, World.size_drew]; omega))))))⟩
          · rw [mixPair_ok hyok ha, mixPair_ok hyok hb', Sw.grR, if_neg hmk', if_neg hms, Option.isSome_map]; rfl
          · intro r hr'
            rw [Sw.grR, if_neg hmk', if_neg hms, Option.map_eq_some_iff] at hr'
            obtain ⟨q, hq, rfl⟩ := hr'
            rw [hr q hq]
end Go.Proofs.Ytmficnknpnnjnaa
