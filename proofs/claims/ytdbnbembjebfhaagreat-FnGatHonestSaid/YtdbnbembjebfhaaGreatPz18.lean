/-
  Texts joined: Grow, Both.
-/
import Derived.Test.YtdbnbembjebfhaaGreatPz13
namespace Go.Proofs.YtdbnbembjebfhaaGreat
set_option maxRecDepth 100000
set_option linter.unusedSimpArgs false
set_option linter.unusedVariables false
open Go.RowKit Go
set_option maxHeartbeats 400000

theorem grow_len {N : Nat} {l : List Int} {m : Nat} {k : Bool} (h : m ≠ l.length) (hN : l.length ≤ N + 1) : Sw.grow (N + 1) l m k =
    if m ≤ Sw.split l.length then Sw.grow N (l.take (Sw.split l.length)) m k ++ [Sw.root (l.drop (Sw.split l.length))]
    else Sw.grow N (l.drop (Sw.split l.length)) (m - Sw.split l.length) false ++ [Sw.root (l.take (Sw.split l.length))] := by
  rw [Sw.grow, if_neg h]

theorem sGrow_c (N : Nat) (A : Option Addr) (c n m : Nat) (kn : Bool) (xs : List Int) (w : World) (hN : n ≤ N) (hN4 : N ≤ 40) (hxs : RI w 0 A c n xs) (h40 : n ≤ 40) (hok : xs.all Sw.mixOk = true) (hm : 1 ≤ m) (hmn : m ≤ n) : Calls Tryz.prog 254 #[.slice A n c, .int .i64 m, .bool kn] w fun E w' => ∃ A' c' n', E = .returned (.slice A' n' c') ∧ OwI w' w.heap.size A' c' n' (Sw.grow N xs m kn) ∧ n' ≤ N ∧ Ex w w' := by
  induction N generalizing A c n m kn xs w with
  | zero => omega
  | succ N ih =>
    have hl := Lib.hid hxs.1
    have hcap := hxs.2.le
    by_cases hmn' : m = n
    · subst hmn'
      have hg : Sw.grow (N + 1) xs m kn = if kn = true then [] else [Sw.root xs] := by rw [Sw.grow, if_pos hl.out]
      have Hg := Lib.hid hg; clear hg
      cases kn with
      | true =>
        go_enter Tryz.func254, Tryz.ntmps254
        go_wp2_with fail
        go_ret
        refine ⟨_, _, _, rfl, ?_, Nat.zero_le _, ext_⟩
        rw [Hg.out]
        (refine Ow.new [] (by (first | rfl | (simp only [zA, zC, zD, zN]; done) | omega)) rfl rfl (fun _ => rfl) (by exact sz_) (by omega))
      | false =>
        go_enter Tryz.func254, Tryz.ntmps254
        go_wp2_with (first | (go_at_call 45; apply Calls.mono; apply (sRoot_c 40); omega; ((first | (apply Rs.at0; assumption) | (apply Ow.rs0; assumption)); exact kf_); omega; exact hok; rintro E w1 ⟨rfl, hb⟩))
        go_ret
        refine ⟨_, _, _, rfl, ?_, by omega, ext_⟩
        rw [Hg.out]
        have hz := hb.size
        simp only [Bool.false_eq_true, if_false]
        (refine Ow.new [Sw.root xs] (by (first | rfl | (simp only [zA, zC, zD, zN]; done) | omega)) rfl rfl (fun _ => rfl) (by exact sz_) (by omega))
    · have h2 : 2 ≤ n := by omega
      have hs1 := Sw.split_lt h2
      have hs0 := Sw.split_pos n
      have hg := grow_len (N := N) (l := xs) (m := m) (k := kn) (by have := hl.out; omega) (by have := hl.out; omega)
      rw [← hl.out] at hg
      have Hg := Lib.hid hg
      clear hg
      have hmb : ((m : Int) == n) = false := by simp; omega
      have z3 : ¬ (c = Sw.split n) := by omega
      have z0 : (0 : Int) ≤ ↑(Sw.split n) := by omega
      have z1 : (↑(Sw.split n) : Int) ≤ ↑n := by omega
      have z2 : (↑(Sw.split n) : Int) ≤ ↑c := by omega
      by_cases hms : m ≤ Sw.split n
      · go_enter Tryz.func254, Tryz.ntmps254
        go_wp2_with (first | (go_at_call 111; apply Calls.mono; apply sTreSplit_c; (first | assumption | omega); (first | assumption | omega); rintro E w' ⟨rfl, rfl⟩))
        (refine wp_name ?_; intro W0 hb0; have hst := xr hb0; (try simp only [zA, zC, zD, zN] at hst); obtain ⟨hc0, hf0, hz0⟩ := hst; go_region_held3 (fun w' => Held W0 w') ((first | with_reducible assumption | with_reducible exact Held.start _ | with_reducible exact Held.of (by assumption) | with_reducible exact Held.ex (by assumption) (by assumption) | ((repeat (first | with_reducible refine Held.set ?_ (by simp only [zA, zC, zD, zN]; omega) | with_reducible refine Held.alloc ?_ _ | with_reducible refine Held.drew ?_)); (first | with_reducible assumption | with_reducible exact Held.refl _ | with_reducible exact Held.of (by assumption) | with_reducible exact Held.ex (by assumption) (by assumption))) | exact Held.of (by exact ext_))) ((first | (go_at_call 254; apply Calls.mono; apply ih; omega; omega; (apply Rs.at0; apply RI_take hxs; omega; (exact kf_)); omega; exact List.all_take hok; omega; omega; rintro E w1 ⟨A3, c3, n3, rfl, ho3, hn3, hb⟩; have hst := xr hb; (try simp only [zA, zC, zD, zN] at hst); obtain ⟨hc, hf, hz⟩ := hst) | (go_at_call 45; apply Calls.mono; apply (sRoot_c 40); omega; (apply Rs.at0; apply RI_drop hxs; omega; (exact kf_)); omega; exact List.all_drop hok; rintro E w1 ⟨rfl, hb⟩; have hst := xr hb; (try simp only [zA, zC, zD, zN] at hst); obtain ⟨hc, hf, hz⟩ := hst) | (apply step_app el_I one_I rfl rfl rfl rfl; (first | assumption | exact Ow.nil _ _ | (apply Ow.keep; assumption; exact kf_) | (refine Ow.new [] (by (first | rfl | (simp only [zA, zC, zD, zN]; done) | omega)) rfl rfl (fun _ => rfl) (by exact sz_) (by omega))); (first | (refine Rs.new [Sw.root (xs.drop (Sw.split n))] (by (first | rfl | (simp only [zA, zC, zD, zN]; done) | omega)) rfl rfl (fun _ => rfl) (by omega))); omega; exact sz_; intro A1 c1 w2 ho1 hch1 hat1 hex1 hlow1; have hbx := hex1 (fun _ => False) W0 (And.right (by assumption : Held W0 _)) (by exact sz_); clear hex1 hlow1))); all_goals (have hb := And.right (by assumption : Held W0 _); have hst := xr hb; (try simp only [zA, zC, zD, zN] at hst); obtain ⟨hc, hf, hz⟩ := hst))
        go_wp2
        go_ret
        refine ⟨_, _, _, rfl, ?_, by omega, ext_⟩
        rw [Hg.out, if_pos hms]
        exact ho1.less (by exact sz_)
      · have y0 : IntKind.i64.wrap ((m : Int) - ↑(Sw.split n)) = ((m - Sw.split n : Nat) : Int) := by rw [IntWalk.i64_in _ (by omega)]; omega
        go_enter Tryz.func254, Tryz.ntmps254
        go_wp2_with (first | (go_at_call 111; apply Calls.mono; apply sTreSplit_c; (first | assumption | omega); (first | assumption | omega); rintro E w' ⟨rfl, rfl⟩))
        (refine wp_name ?_; intro W0 hb0; have hst := xr hb0; (try simp only [zA, zC, zD, zN] at hst); obtain ⟨hc0, hf0, hz0⟩ := hst; go_region_held3 (fun w' => Held W0 w') ((first | with_reducible assumption | with_reducible exact Held.start _ | with_reducible exact Held.of (by assumption) | with_reducible exact Held.ex (by assumption) (by assumption) | ((repeat (first | with_reducible refine Held.set ?_ (by simp only [zA, zC, zD, zN]; omega) | with_reducible refine Held.alloc ?_ _ | with_reducible refine Held.drew ?_)); (first | with_reducible assumption | with_reducible exact Held.refl _ | with_reducible exact Held.of (by assumption) | with_reducible exact Held.ex (by assumption) (by assumption))) | exact Held.of (by exact ext_))) ((first | (go_at_call 254; apply Calls.mono; apply ih; omega; omega; (apply Rs.at0; apply RI_drop hxs; omega; (exact kf_)); omega; exact List.all_drop hok; omega; omega; rintro E w1 ⟨A3, c3, n3, rfl, ho3, hn3, hb⟩; have hst := xr hb; (try simp only [zA, zC, zD, zN] at hst); obtain ⟨hc, hf, hz⟩ := hst) | (go_at_call 45; apply Calls.mono; apply (sRoot_c 40); omega; (apply Rs.at0; apply RI_take hxs; omega; (exact kf_)); omega; exact List.all_take hok; rintro E w1 ⟨rfl, hb⟩; have hst := xr hb; (try simp only [zA, zC, zD, zN] at hst); obtain ⟨hc, hf, hz⟩ := hst) | (apply step_app el_I one_I rfl rfl rfl rfl; (first | assumption | exact Ow.nil _ _ | (apply Ow.keep; assumption; exact kf_) | (refine Ow.new [] (by (first | rfl | (simp only [zA, zC, zD, zN]; done) | omega)) rfl rfl (fun _ => rfl) (by exact sz_) (by omega))); (first | (refine Rs.new [Sw.root (xs.take (Sw.split n))] (by (first | rfl | (simp only [zA, zC, zD, zN]; done) | omega)) rfl rfl (fun _ => rfl) (by omega))); omega; exact sz_; intro A1 c1 w2 ho1 hch1 hat1 hex1 hlow1; have hbx := hex1 (fun _ => False) W0 (And.right (by assumption : Held W0 _)) (by exact sz_); clear hex1 hlow1))); all_goals (have hb := And.right (by assumption : Held W0 _); have hst := xr hb; (try simp only [zA, zC, zD, zN] at hst); obtain ⟨hc, hf, hz⟩ := hst))
        go_wp2
        go_ret
        refine ⟨_, _, _, rfl, ?_, by omega, ext_⟩
        rw [Hg.out, if_neg hms]
        exact ho1.less (by exact sz_)

theorem empty_len {xs : List Int} {N : Nat} (h : xs.length ≤ N) : xs.length ≤ N := h
theorem grow_N : ∀ (N M : Nat) (xs : List Int) (m : Nat) (kn : Bool), xs.length ≤ N → xs.length ≤ M → 1 ≤ m → m ≤ xs.length → Sw.grow N xs m kn = Sw.grow M xs m kn
  | 0, _, xs, m, kn, h1, h2, h3, h4 => by omega
  | _ + 1, 0, xs, m, kn, h1, h2, h3, h4 => by omega
  | N + 1, M + 1, xs, m, kn, h1, h2, h3, h4 => by
    rw [Sw.grow, Sw.grow]
    by_cases e : m = xs.length
    · rw [if_pos e, if_pos e]
    · have l2 : 2 ≤ xs.length := by omega
      have s1 := Sw.split_lt l2
      have s0 := Sw.split_pos xs.length
      rw [if_neg e, if_neg e]
      by_cases g : m ≤ Sw.split xs.length
      · rw [if_pos g, if_pos g, grow_N N M _ m kn (by rw [List.length_take]; omega) (by rw [List.length_take]; omega) h3 (by rw [List.length_take]; omega)]
      · rw [if_neg g, if_neg g, grow_N N M _ (m - Sw.split xs.length) false (by rw [List.length_drop]; omega) (by rw [List.length_drop]; omega) (by omega) (by rw [List.length_drop]; omega)]

theorem sConProof_c (A : Option Addr) (c n : Nat) (m : Int) (xs : List Int) (w : World) (hxs : RI w 0 A c n xs) : Calls Tryz.prog 240 #[.slice A n c, .int .i64 m] w fun E w' => ∃ A' c' n', E = .returned (.slice A' n' c') ∧ OwI w' w.heap.size A' c' n' (Sw.conProof xs m) ∧ Ex w w' := by
  have hl := Lib.hid hxs.1
  have hcap := hxs.2.le
  have hbig : n ≤ 9223372036854775807 := by have := hxs.2.cap; unfold maxLen at this; omega
  by_cases h1 : Sw.treOk xs = true
  · have h40 : n ≤ 40 := by have := hl.out; simp [Sw.treOk] at h1; omega
    have hall : xs.all Sw.mixOk = true := by simp only [Sw.treOk, Bool.and_eq_true] at h1; exact h1.2
    by_cases h2 : Sw.inR m 1 n = true
    · have hm : 1 ≤ m ∧ m ≤ n := by simpa [Sw.inR] using h2
      obtain ⟨k, rfl⟩ := Int.eq_ofNat_of_zero_le (show 0 ≤ m by omega)
      have e : Sw.conProof xs k = Sw.grow 40 xs k true := by
        rw [Sw.conProof, if_pos (by rw [h1, ← hl.out, h2]; rfl)]
        exact grow_N _ _ _ _ _ (Nat.le_refl _) (by have := hl.out; omega) (by omega) (by have := hl.out; omega)
      rw [e]
      clear e
      go_enter Tryz.func240, Tryz.ntmps240
      go_wp2_with (first | (go_at_call 136; apply Calls.mono; apply sTreOk_c; ((first | (apply Rs.at0; assumption) | (apply Ow.rs0; assumption)); exact kf_); rintro E w' ⟨rfl, rfl⟩) | (go_at_call 107; refine (l1In_c _ _ _ _).mono ?_; rintro E w' ⟨rfl, rfl⟩) | (go_at_call 254; apply Calls.mono; apply (sGrow_c 40); omega; omega; ((first | (apply Rs.at0; assumption) | (apply Ow.rs0; assumption)); exact kf_); omega; exact hall; omega; omega; rintro E w1 ⟨A1, c1, n1, rfl, ho1, hn1, hb⟩))
      go_ret
      exact ⟨_, _, _, rfl, ho1, ext_⟩
    · have h2' : Sw.inR m 1 n = false := by simpa using h2
      have e : Sw.conProof xs m = [] := by rw [Sw.conProof, if_neg (by rw [← hl.out, h2']; simp)]
      rw [e]
      go_enter Tryz.func240, Tryz.ntmps240
      go_wp2_with (first | (go_at_call 136; apply Calls.mono; apply sTreOk_c; ((first | (apply Rs.at0; assumption) | (apply Ow.rs0; assumption)); exact kf_); rintro E w' ⟨rfl, rfl⟩) | (go_at_call 107; refine (l1In_c _ _ _ _).mono ?_; rintro E w' ⟨rfl, rfl⟩))
      go_ret
      refine ⟨_, _, _, rfl, ?_, ext_⟩
      (refine Ow.new [] (by (first | rfl | (simp only [zA, zC, zD, zN]; done) | omega)) rfl rfl (fun _ => rfl) (by exact sz_) (by omega))
  · have h1' : Sw.treOk xs = false := by simpa using h1
    have e : Sw.conProof xs m = [] := by rw [Sw.conProof, if_neg (by rw [h1']; simp)]
    rw [e]
    go_enter Tryz.func240, Tryz.ntmps240
    go_wp2_with (first | (go_at_call 136; apply Calls.mono; apply sTreOk_c; ((first | (apply Rs.at0; assumption) | (apply Ow.rs0; assumption)); exact kf_); rintro E w' ⟨rfl, rfl⟩) | (go_at_call 107; refine (l1In_c _ _ _ _).mono ?_; rintro E w' ⟨rfl, rfl⟩))
    go_ret
    refine ⟨_, _, _, rfl, ?_, ext_⟩
    (refine Ow.new [] (by (first | rfl | (simp only [zA, zC, zD, zN]; done) | omega)) rfl rfl (fun _ => rfl) (by exact sz_) (by omega))

theorem sHedProof_c (A : Option Addr) (c n : Nat) (m : Int) (xs : List Sw.Ent) (w : World) (hxs : RE w 0 A c n xs) : Calls Tryz.prog 205 #[.slice A n c, .int .i64 m] w fun E w' => ∃ A' c' n', E = .returned (.slice A' n' c') ∧ OwI w' w.heap.size A' c' n' (Sw.hedProof xs m) ∧ Ex w w' := by
  have hl := Lib.hid hxs.1
  have hcap := hxs.2.le
  have hbig : n ≤ 9223372036854775807 := by have := hxs.2.cap; unfold maxLen at this; omega
  by_cases h2 : Sw.inR m 1 n = true
  · by_cases h40 : n ≤ 40
    · have hb40 : decide (40 < n) = false := by simp; omega
      have e : Sw.hedProof xs m = Sw.conProof (xs.map Sw.entLeaf) m := by rw [Sw.hedProof, if_pos (by simp; have := hl.out; omega)]
      rw [e]; clear e
      go_enter Tryz.func205, Tryz.ntmps205
      go_wp2_with (first | (go_at_call 107; refine (l1In_c _ _ _ _).mono ?_; rintro E w' ⟨rfl, rfl⟩) | (go_at_call 46; apply Calls.mono; apply sEntLeaves_c; (first | assumption | ((first | (apply Rs.at0; assumption) | (apply Ow.rs0; assumption)); exact kf_) | omega); omega; rintro E w1 ⟨A1, c1, rfl, ho1, hb⟩; have hst := xr hb; (try simp only [zA, zC, zD, zN] at hst); obtain ⟨hc, hf, hz⟩ := hst) | (go_at_call 240; apply Calls.mono; apply sConProof_c; ((first | (apply Rs.at0; assumption) | (apply Ow.rs0; assumption)); exact kf_); rintro E w2 ⟨A2, c2, n2, rfl, ho2, hb⟩; have hst := xr hb; (try simp only [zA, zC, zD, zN] at hst); obtain ⟨hc, hf, hz⟩ := hst))
      go_ret
      exact ⟨_, _, _, rfl, ho2.less (by omega), ext_⟩
    · have hb40 : decide (40 < n) = true := by simp; omega
      have e : Sw.hedProof xs m = [] := by rw [Sw.hedProof, if_neg (by simp; have := hl.out; omega)]
      rw [e]
      go_enter Tryz.func205, Tryz.ntmps205
      go_wp2_with (first | (go_at_call 107; refine (l1In_c _ _ _ _).mono ?_; rintro E w' ⟨rfl, rfl⟩))
      go_ret
      refine ⟨_, _, _, rfl, ?_, ext_⟩
      (refine Ow.new [] (by (first | rfl | (simp only [zA, zC, zD, zN]; done) | omega)) rfl rfl (fun _ => rfl) (by exact sz_) (by omega))
  · have h2' : Sw.inR m 1 n = false := by simpa using h2
    have e : Sw.hedProof xs m = [] := by
      rw [Sw.hedProof]
      split
      · rw [Sw.conProof, if_neg (by rw [List.length_map, ← hl.out, h2']; simp)]
      · rfl
    rw [e]
    go_enter Tryz.func205, Tryz.ntmps205
    go_wp2_with (first | (go_at_call 107; refine (l1In_c _ _ _ _).mono ?_; rintro E w' ⟨rfl, rfl⟩))
    go_ret
    refine ⟨_, _, _, rfl, ?_, ext_⟩
    (refine Ow.new [] (by (first | rfl | (simp only [zA, zC, zD, zN]; done) | omega)) rfl rfl (fun _ => rfl) (by exact sz_) (by omega))
end Go.Proofs.YtdbnbembjebfhaaGreat

namespace Go.Proofs.YtdbnbembjebfhaaGreat
set_option maxRecDepth 100000
set_option linter.unusedSimpArgs false
set_option linter.unusedVariables false
open Go.RowKit Go
set_option maxHeartbeats 400000

theorem snoc_of {α : Type} {xs : List α} {n : Nat} {y : α} (hn : n + 1 = xs.length) (h : xs[n]? = some y) : xs = xs.take n ++ [y] := by
  rw [← take_snoc h, List.take_of_length_le (by omega)]
theorem rev_snoc {α : Type} {xs : List α} {n : Nat} {y : α} (hn : n + 1 = xs.length) (h : xs[n]? = some y) : xs.reverse = y :: (xs.take n).reverse := by
  conv => lhs; rw [snoc_of hn h]
  simp

theorem sBoth_c (N : Nat) (A : Option Addr) (c n m k : Nat) (old : Int) (kn : Bool) (xs : List Int) (w : World) (hN : n ≤ N) (hxs : RI w 0 A c n xs) (h40 : n ≤ 40) (hall : xs.all Sw.mixOk = true) (hold : Sw.mixOk old = true) (hm : 1 ≤ m) (hmk : m ≤ k) (hk40 : k ≤ 40) : Calls Tryz.prog 269 #[.int .i64 m, .int .i64 k, .int .i64 old, .slice A n c, .bool kn] w fun E w' => ∃ a b, E = .returned (.tuple #[.int .i64 a, .int .i64 b, .bool (Sw.grR m k old xs.reverse kn).isSome]) ∧ (∀ r, Sw.grR m k old xs.reverse kn = some r → r = (a, b)) ∧ Sw.mixOk a = true ∧ Sw.mixOk b = true ∧ Ex w w' := by
  induction N generalizing A c n m k kn xs w with
  | zero =>
    have hl := hxs.1
    obtain rfl : n = 0 := by omega
    have hx : xs = [] := List.eq_nil_of_length_eq_zero (by omega)
    subst hx
    clear hl
    by_cases hmk' : m = k
    · subst hmk'
      cases kn with
      | true =>
        go_enter Tryz.func269, Tryz.ntmps269
        go_wp2_with fail
        go_ret3
        exact ⟨old, old, by simp [Sw.grR], by simp [Sw.grR], hold, hold, ext_⟩
      | false =>
        go_enter Tryz.func269, Tryz.ntmps269
        go_wp2_with fail
        go_ret3
        exact ⟨0, 0, by simp [Sw.grR], by simp [Sw.grR], rfl, rfl, ext_⟩
    · have hb : ((m : Int) == k) = false := by simp; omega
      go_enter Tryz.func269, Tryz.ntmps269
      go_wp2_with fail
      go_ret3
      exact ⟨0, 0, by simp [Sw.grR, hmk'], by simp [Sw.grR, hmk'], rfl, rfl, ext_⟩
  | succ N ih =>
    have hl := Lib.hid hxs.1
    have hcap := hxs.2.le
    by_cases h0 : n = 0
    · subst h0
      have hx : xs = [] := List.eq_nil_of_length_eq_zero (by have := hl.out; omega)
      subst hx
      exact ih _ c 0 m k kn [] w (by omega) hxs (by omega) hall hm hmk hk40
    · obtain ⟨p, rfl⟩ : ∃ p, n = p + 1 := ⟨n - 1, by omega⟩
      obtain ⟨g, off, y, rfl, hg0, hg, hd, hy, hc⟩ := at_I hxs (show p < p + 1 by omega)
      have hrev := rev_snoc (by have := hl.out; omega) hy
      have hyok : Sw.mixOk y = true := List.all_eq_true.1 hall y (List.mem_of_getElem? hy)
      rw [hrev]
      have Hy := Lib.hid hy
      clear hd hy hrev
      by_cases hmk' : m = k
      · subst hmk'
        cases kn with
        | true =>
          have hb1 : ((p : Int) + 1 == 0) = false := by simp; omega
          go_enter Tryz.func269, Tryz.ntmps269
          go_wp2_with fail
          go_ret3
          exact ⟨old, old, by simp [Sw.grR], by simp [Sw.grR], hold, hold, ext_⟩
        | false =>
          by_cases hp : p = 0
          · subst hp
            simp only [Nat.add_zero] at hc
            go_enter Tryz.func269, Tryz.ntmps269
            go_wp2_with fail
            go_quiet ((first | fail))
            go_wp2
            go_ret3
            exact ⟨y, y, by simp [Sw.grR], by simp [Sw.grR], hyok, hyok, ext_⟩
          · have hb1 : ((p : Int) + 1 != 1) = true := by simp; omega
            have hne : ¬ (xs.take p = []) := by
              intro e
              have e1 := congrArg List.length e
              rw [List.length_take, List.length_nil] at e1
              have := hl.out
              omega
            go_enter Tryz.func269, Tryz.ntmps269
            go_wp2_with fail
            go_ret3
            exact ⟨0, 0, by simp [Sw.grR, hne], by simp [Sw.grR, hne], rfl, rfl, ext_⟩
      · have h2 : 2 ≤ k := by omega
        have hs1 := Sw.split_lt h2
        have hs0 := Sw.split_pos k
        have hb : ((m : Int) == k) = false := by simp; omega
        have hb1 : ((p : Int) + 1 == 0) = false := by simp; omega
        by_cases hms : m ≤ Sw.split k
        · go_enter Tryz.func269, Tryz.ntmps269
          go_wp2_with (first | (go_at_call 111; apply Calls.mono; apply sTreSplit_c; (first | assumption | omega); (first | assumption | omega); rintro E w' ⟨rfl, rfl⟩) | (go_at_call 269; apply Calls.mono; apply ih; omega; (apply Rs.at0; apply RI_take hxs; omega; (exact kf_)); omega; exact List.all_take hall; omega; omega; omega; rintro E w1 ⟨a, b, rfl, hr, ha, hb', hb⟩; have hst := xr hb; (try simp only [zA, zC, zD, zN] at hst); obtain ⟨hc, hf, hz⟩ := hst) | (go_at_call 112; refine (sMixPair_c _ _ _).mono ?_; rintro E w' ⟨rfl, rfl⟩))
          go_ret3
          refine ⟨a, Sw.pair b y, ?_, ?_, ha, pair_ok _ _, ext_⟩
          · rw [mixPair_ok hb' hyok, Sw.grR, if_neg hmk', if_pos hms, Option.isSome_map]; rfl
          · intro r hr'
            rw [Sw.grR, if_neg hmk', if_pos hms, Option.map_eq_some_iff] at hr'
            obtain ⟨q, hq, rfl⟩ := hr'
            rw [hr q hq]
        · have y0 : IntKind.i64.wrap ((m : Int) - ↑(Sw.split k)) = ((m - Sw.split k : Nat) : Int) := by rw [IntWalk.i64_in _ (by omega)]; omega
          have y1 : IntKind.i64.wrap ((k : Int) - ↑(Sw.split k)) = ((k - Sw.split k : Nat) : Int) := by rw [IntWalk.i64_in _ (by omega)]; omega
          go_enter Tryz.func269, Tryz.ntmps269
          go_wp2_with (first | (go_at_call 111; apply Calls.mono; apply sTreSplit_c; (first | assumption | omega); (first | assumption | omega); rintro E w' ⟨rfl, rfl⟩) | (go_at_call 269; apply Calls.mono; apply ih; omega; (apply Rs.at0; apply RI_take hxs; omega; (exact kf_)); omega; exact List.all_take hall; omega; omega; omega; rintro E w1 ⟨a, b, rfl, hr, ha, hb', hb⟩; have hst := xr hb; (try simp only [zA, zC, zD, zN] at hst); obtain ⟨hc, hf, hz⟩ := hst) | (go_at_call 112; refine (sMixPair_c _ _ _).mono ?_; rintro E w' ⟨rfl, rfl⟩))
          go_ret3
          refine ⟨Sw.pair y a, Sw.pair y b, ?_, ?_, pair_ok _ _, pair_ok _ _, ext_⟩
          · rw [mixPair_ok hyok ha, mixPair_ok hyok hb', Sw.grR, if_neg hmk', if_neg hms, Option.isSome_map]; rfl
          · intro r hr'
            rw [Sw.grR, if_neg hmk', if_neg hms, Option.map_eq_some_iff] at hr'
            obtain ⟨q, hq, rfl⟩ := hr'
            rw [hr q hq]
end Go.Proofs.YtdbnbembjebfhaaGreat

