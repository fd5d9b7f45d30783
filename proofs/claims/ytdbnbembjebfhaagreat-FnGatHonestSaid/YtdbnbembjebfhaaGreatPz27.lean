/-
  Texts joined: Incl.
-/
import Derived.Test.YtdbnbembjebfhaaGreatPz13
import Derived.Test.YtdbnbembjebfhaaGreatPz24
import Derived.Test.YtdbnbembjebfhaaGreatPz26
import Derived.Test.YtdbnbembjebfhaaGreatPz22
namespace Go.Proofs.YtdbnbembjebfhaaGreat
set_option maxRecDepth 100000
set_option linter.unusedSimpArgs false
set_option linter.unusedVariables false
open Go.RowKit Go
set_option maxHeartbeats 1000000

theorem incl_small {N : Nat} {l : List Int} {i : Nat} (h : l.length ≤ 1) : Sw.incl N l i = [] := by
  cases N with
  | zero => rfl
  | succ N => rw [Sw.incl, if_pos h]
theorem incl_big {N : Nat} {l : List Int} {i : Nat} (h : ¬ l.length ≤ 1) : Sw.incl (N + 1) l i =
    if i < Sw.split l.length then Sw.incl N (l.take (Sw.split l.length)) i ++ [Sw.root (l.drop (Sw.split l.length))]
    else Sw.incl N (l.drop (Sw.split l.length)) (i - Sw.split l.length) ++ [Sw.root (l.take (Sw.split l.length))] := by
  rw [Sw.incl, if_neg h]
theorem sIncl_c (N : Nat) (A : Option Addr) (c n i : Nat) (xs : List Int) (w : World) (hN : n ≤ N) (hN4 : N ≤ 40) (hxs : RI w 0 A c n xs) (hok : xs.all Sw.mixOk = true) (hi : i ≤ 40) : Calls Tryz.prog 108 #[.slice A n c, .int .i64 i] w fun E w' => ∃ A' c' n', E = .returned (.slice A' n' c') ∧ OwI w' w.heap.size A' c' n' (Sw.incl N xs i) ∧ n' ≤ N ∧ Ex w w' := by
  induction N generalizing A c n i xs w with
  | zero =>
    obtain rfl : n = 0 := by omega
    have e : Sw.incl 0 xs i = [] := rfl
    rw [e]
    go_enter Tryz.func108, Tryz.ntmps108
    go_wp2_with fail
    go_ret
    refine ⟨_, _, _, rfl, ?_, Nat.zero_le _, ext_⟩
    (refine Ow.new [] (by (first | rfl | (simp only [zA, zC, zD, zN]; done) | omega)) rfl rfl (fun _ => rfl) (by exact sz_) (by omega))
  | succ N ih =>
    have hl := Lib.hid hxs.1
    have hcap := hxs.2.le
    by_cases h1 : n ≤ 1
    · have e : Sw.incl (N + 1) xs i = [] := incl_small (by have := hl.out; omega)
      rw [e]
      have hlt : (n : Int) < 2 := by omega
      go_enter Tryz.func108, Tryz.ntmps108
      go_wp2_with fail
      go_ret
      refine ⟨_, _, _, rfl, ?_, Nat.zero_le _, ext_⟩
      (refine Ow.new [] (by (first | rfl | (simp only [zA, zC, zD, zN]; done) | omega)) rfl rfl (fun _ => rfl) (by exact sz_) (by omega))
    · have h2 : 2 ≤ n := by omega
      have hs1 := Sw.split_lt h2
      have hs0 := Sw.split_pos n
      have hg := incl_big (N := N) (l := xs) (i := i) (by have := hl.out; omega)
      rw [← hl.out] at hg
      have Hg := Lib.hid hg
      clear hg
      have hnlt : ¬ (n : Int) < 2 := by omega
      have z3 : ¬ (c = Sw.split n) := by omega
      have z0 : (0 : Int) ≤ ↑(Sw.split n) := by omega
      have z1 : (↑(Sw.split n) : Int) ≤ ↑n := by omega
      have z2 : (↑(Sw.split n) : Int) ≤ ↑c := by omega
      by_cases hms : i < Sw.split n
      · go_enter Tryz.func108, Tryz.ntmps108
        go_wp2_with (first | (go_at_call 111; apply Calls.mono; apply sTreSplit_c; (first | assumption | omega); (first | assumption | omega); rintro E w' ⟨rfl, rfl⟩))
        (refine wp_name ?_; intro W0 hb0; have hst := xr hb0; (try simp only [zA, zC, zD, zN] at hst); obtain ⟨hc0, hf0, hz0⟩ := hst; go_region_held3 (fun w' => Held W0 w') ((first | with_reducible assumption | with_reducible exact Held.start _ | with_reducible exact Held.of (by assumption) | with_reducible exact Held.ex (by assumption) (by assumption) | ((repeat (first | with_reducible refine Held.set ?_ (by simp only [zA, zC, zD, zN]; omega) | with_reducible refine Held.alloc ?_ _ | with_reducible refine Held.drew ?_)); (first | with_reducible assumption | with_reducible exact Held.refl _ | with_reducible exact Held.of (by assumption) | with_reducible exact Held.ex (by assumption) (by assumption))) | exact Held.of (by exact ext_))) ((first | (go_at_call 108; apply Calls.mono; apply ih; omega; omega; (apply Rs.at0; apply RI_take hxs; omega; (exact kf_)); exact List.all_take hok; omega; rintro E w1 ⟨A3, c3, n3, rfl, ho3, hn3, hb⟩; have hst := xr hb; (try simp only [zA, zC, zD, zN] at hst); obtain ⟨hc, hf, hz⟩ := hst) | (go_at_call 45; apply Calls.mono; apply (sRoot_c 40); omega; (apply Rs.at0; apply RI_drop hxs; omega; (exact kf_)); omega; exact List.all_drop hok; rintro E w1 ⟨rfl, hb⟩; have hst := xr hb; (try simp only [zA, zC, zD, zN] at hst); obtain ⟨hc, hf, hz⟩ := hst) | (apply step_app el_I one_I rfl rfl rfl rfl; (first | assumption | exact Ow.nil _ _ | (apply Ow.keep; assumption; exact kf_) | (refine Ow.new [] (by (first | rfl | (simp only [zA, zC, zD, zN]; done) | omega)) rfl rfl (fun _ => rfl) (by exact sz_) (by omega))); (first | (refine Rs.new [Sw.root (xs.drop (Sw.split n))] (by (first | rfl | (simp only [zA, zC, zD, zN]; done) | omega)) rfl rfl (fun _ => rfl) (by omega))); omega; exact sz_; intro A1 c1 w2 ho1 hch1 hat1 hex1 hlow1; have hbx := hex1 (fun _ => False) W0 (And.right (by assumption : Held W0 _)) (by exact sz_); clear hex1 hlow1))); all_goals (have hb := And.right (by assumption : Held W0 _); have hst := xr hb; (try simp only [zA, zC, zD, zN] at hst); obtain ⟨hc, hf, hz⟩ := hst))
        go_wp2
        go_ret
        refine ⟨_, _, _, rfl, ?_, by omega, ext_⟩
        rw [Hg.out, if_pos hms]
        exact ho1.less (by exact sz_)
      · have y0 : IntKind.i64.wrap ((i : Int) - ↑(Sw.split n)) = ((i - Sw.split n : Nat) : Int) := by rw [IntWalk.i64_in _ (by omega)]; omega
        go_enter Tryz.func108, Tryz.ntmps108
        go_wp2_with (first | (go_at_call 111; apply Calls.mono; apply sTreSplit_c; (first | assumption | omega); (first | assumption | omega); rintro E w' ⟨rfl, rfl⟩))
        (refine wp_name ?_; intro W0 hb0; have hst := xr hb0; (try simp only [zA, zC, zD, zN] at hst); obtain ⟨hc0, hf0, hz0⟩ := hst; go_region_held3 (fun w' => Held W0 w') ((first | with_reducible assumption | with_reducible exact Held.start _ | with_reducible exact Held.of (by assumption) | with_reducible exact Held.ex (by assumption) (by assumption) | ((repeat (first | with_reducible refine Held.set ?_ (by simp only [zA, zC, zD, zN]; omega) | with_reducible refine Held.alloc ?_ _ | with_reducible refine Held.drew ?_)); (first | with_reducible assumption | with_reducible exact Held.refl _ | with_reducible exact Held.of (by assumption) | with_reducible exact Held.ex (by assumption) (by assumption))) | exact Held.of (by exact ext_))) ((first | (go_at_call 108; apply Calls.mono; apply ih; omega; omega; (apply Rs.at0; apply RI_drop hxs; omega; (exact kf_)); exact List.all_drop hok; omega; rintro E w1 ⟨A3, c3, n3, rfl, ho3, hn3, hb⟩; have hst := xr hb; (try simp only [zA, zC, zD, zN] at hst); obtain ⟨hc, hf, hz⟩ := hst) | (go_at_call 45; apply Calls.mono; apply (sRoot_c 40); omega; (apply Rs.at0; apply RI_take hxs; omega; (exact kf_)); omega; exact List.all_take hok; rintro E w1 ⟨rfl, hb⟩; have hst := xr hb; (try simp only [zA, zC, zD, zN] at hst); obtain ⟨hc, hf, hz⟩ := hst) | (apply step_app el_I one_I rfl rfl rfl rfl; (first | assumption | exact Ow.nil _ _ | (apply Ow.keep; assumption; exact kf_) | (refine Ow.new [] (by (first | rfl | (simp only [zA, zC, zD, zN]; done) | omega)) rfl rfl (fun _ => rfl) (by exact sz_) (by omega))); (first | (refine Rs.new [Sw.root (xs.take (Sw.split n))] (by (first | rfl | (simp only [zA, zC, zD, zN]; done) | omega)) rfl rfl (fun _ => rfl) (by omega))); omega; exact sz_; intro A1 c1 w2 ho1 hch1 hat1 hex1 hlow1; have hbx := hex1 (fun _ => False) W0 (And.right (by assumption : Held W0 _)) (by exact sz_); clear hex1 hlow1))); all_goals (have hb := And.right (by assumption : Held W0 _); have hst := xr hb; (try simp only [zA, zC, zD, zN] at hst); obtain ⟨hc, hf, hz⟩ := hst))
        go_wp2
        go_ret
        refine ⟨_, _, _, rfl, ?_, by omega, ext_⟩
        rw [Hg.out, if_neg hms]
        exact ho1.less (by exact sz_)
theorem iIncl_c (N : Nat) (A : Option Addr) (c n i : Nat) (xs : List Int) (w : World) (hN : n ≤ N) (hN4 : N ≤ 40) (hxs : RI w 0 A c n xs) (hok : xs.all Sw.mixOk = true) (hi : i < n) : Calls Tryz.prog 123 #[.slice A n c, .int .i64 i] w fun E w' => ∃ A' c' n', E = .returned (.slice A' n' c') ∧ OwI w' w.heap.size A' c' n' (Sw.incl N xs i) ∧ n' ≤ N ∧ Ex w w' := by
  induction N generalizing A c n i xs w with
  | zero => omega
  | succ N ih =>
    have hl := Lib.hid hxs.1
    have hcap := hxs.2.le
    by_cases h1 : n = 1
    · have e : Sw.incl (N + 1) xs i = [] := incl_small (by have := hl.out; omega)
      rw [e]
      subst h1
      go_enter Tryz.func123, Tryz.ntmps123
      go_wp2_with fail
      go_ret
      refine ⟨_, _, _, rfl, ?_, Nat.zero_le _, ext_⟩
      exact Ow.nil _ _
    · have h2 : 2 ≤ n := by omega
      have hs1 := Sw.split_lt h2
      have hs0 := Sw.split_pos n
      have hg := incl_big (N := N) (l := xs) (i := i) (by have := hl.out; omega)
      rw [← hl.out] at hg
      have Hg := Lib.hid hg
      clear hg
      have hnlt : ((n : Int) == 1) = false := by simp; omega
      have z3 : ¬ (c = Sw.split n) := by omega
      have z0 : (0 : Int) ≤ ↑(Sw.split n) := by omega
      have z1 : (↑(Sw.split n) : Int) ≤ ↑n := by omega
      have z2 : (↑(Sw.split n) : Int) ≤ ↑c := by omega
      by_cases hms : i < Sw.split n
      · go_enter Tryz.func123, Tryz.ntmps123
        go_wp2_with (first | (go_at_call 63; apply Calls.mono; apply iSplit_c; (first | assumption | omega); (first | assumption | omega); rintro E w' ⟨rfl, rfl⟩))
        (refine wp_name ?_; intro W0 hb0; have hst := xr hb0; (try simp only [zA, zC, zD, zN] at hst); obtain ⟨hc0, hf0, hz0⟩ := hst; go_region_held3 (fun w' => Held W0 w') ((first | with_reducible assumption | with_reducible exact Held.start _ | with_reducible exact Held.of (by assumption) | with_reducible exact Held.ex (by assumption) (by assumption) | ((repeat (first | with_reducible refine Held.set ?_ (by simp only [zA, zC, zD, zN]; omega) | with_reducible refine Held.alloc ?_ _ | with_reducible refine Held.drew ?_)); (first | with_reducible assumption | with_reducible exact Held.refl _ | with_reducible exact Held.of (by assumption) | with_reducible exact Held.ex (by assumption) (by assumption))) | exact Held.of (by exact ext_))) ((first | (go_at_call 123; apply Calls.mono; apply ih; omega; omega; (apply Rs.at0; apply RI_take hxs; omega; (exact kf_)); exact List.all_take hok; omega; rintro E w1 ⟨A3, c3, n3, rfl, ho3, hn3, hb⟩; have hst := xr hb; (try simp only [zA, zC, zD, zN] at hst); obtain ⟨hc, hf, hz⟩ := hst) | (go_at_call 64; apply Calls.mono; apply (iRoot_c 40); omega; (apply Rs.at0; apply RI_drop hxs; omega; (exact kf_)); omega; exact List.all_drop hok; rintro E w1 ⟨rfl, hb⟩; have hst := xr hb; (try simp only [zA, zC, zD, zN] at hst); obtain ⟨hc, hf, hz⟩ := hst) | (apply step_app el_I one_I rfl rfl rfl rfl; (first | assumption | exact Ow.nil _ _ | (apply Ow.keep; assumption; exact kf_) | (refine Ow.new [] (by (first | rfl | (simp only [zA, zC, zD, zN]; done) | omega)) rfl rfl (fun _ => rfl) (by exact sz_) (by omega))); (first | (refine Rs.new [Sw.root (xs.drop (Sw.split n))] (by (first | rfl | (simp only [zA, zC, zD, zN]; done) | omega)) rfl rfl (fun _ => rfl) (by omega))); omega; exact sz_; intro A1 c1 w2 ho1 hch1 hat1 hex1 hlow1; have hbx := hex1 (fun _ => False) W0 (And.right (by assumption : Held W0 _)) (by exact sz_); clear hex1 hlow1))); all_goals (have hb := And.right (by assumption : Held W0 _); have hst := xr hb; (try simp only [zA, zC, zD, zN] at hst); obtain ⟨hc, hf, hz⟩ := hst))
        go_wp2
        go_ret
        refine ⟨_, _, _, rfl, ?_, by omega, ext_⟩
        rw [Hg.out, if_pos hms]
        exact ho1.less (by exact sz_)
      · have y0 : IntKind.i64.wrap ((i : Int) - ↑(Sw.split n)) = ((i - Sw.split n : Nat) : Int) := by rw [IntWalk.i64_in _ (by omega)]; omega
        go_enter Tryz.func123, Tryz.ntmps123
        go_wp2_with (first | (go_at_call 63; apply Calls.mono; apply iSplit_c; (first | assumption | omega); (first | assumption | omega); rintro E w' ⟨rfl, rfl⟩))
        (refine wp_name ?_; intro W0 hb0; have hst := xr hb0; (try simp only [zA, zC, zD, zN] at hst); obtain ⟨hc0, hf0, hz0⟩ := hst; go_region_held3 (fun w' => Held W0 w') ((first | with_reducible assumption | with_reducible exact Held.start _ | with_reducible exact Held.of (by assumption) | with_reducible exact Held.ex (by assumption) (by assumption) | ((repeat (first | with_reducible refine Held.set ?_ (by simp only [zA, zC, zD, zN]; omega) | with_reducible refine Held.alloc ?_ _ | with_reducible refine Held.drew ?_)); (first | with_reducible assumption | with_reducible exact Held.refl _ | with_reducible exact Held.of (by assumption) | with_reducible exact Held.ex (by assumption) (by assumption))) | exact Held.of (by exact ext_))) ((first | (go_at_call 123; apply Calls.mono; apply ih; omega; omega; (apply Rs.at0; apply RI_drop hxs; omega; (exact kf_)); exact List.all_drop hok; omega; rintro E w1 ⟨A3, c3, n3, rfl, ho3, hn3, hb⟩; have hst := xr hb; (try simp only [zA, zC, zD, zN] at hst); obtain ⟨hc, hf, hz⟩ := hst) | (go_at_call 64; apply Calls.mono; apply (iRoot_c 40); omega; (apply Rs.at0; apply RI_take hxs; omega; (exact kf_)); omega; exact List.all_take hok; rintro E w1 ⟨rfl, hb⟩; have hst := xr hb; (try simp only [zA, zC, zD, zN] at hst); obtain ⟨hc, hf, hz⟩ := hst) | (apply step_app el_I one_I rfl rfl rfl rfl; (first | assumption | exact Ow.nil _ _ | (apply Ow.keep; assumption; exact kf_) | (refine Ow.new [] (by (first | rfl | (simp only [zA, zC, zD, zN]; done) | omega)) rfl rfl (fun _ => rfl) (by exact sz_) (by omega))); (first | (refine Rs.new [Sw.root (xs.take (Sw.split n))] (by (first | rfl | (simp only [zA, zC, zD, zN]; done) | omega)) rfl rfl (fun _ => rfl) (by omega))); omega; exact sz_; intro A1 c1 w2 ho1 hch1 hat1 hex1 hlow1; have hbx := hex1 (fun _ => False) W0 (And.right (by assumption : Held W0 _)) (by exact sz_); clear hex1 hlow1))); all_goals (have hb := And.right (by assumption : Held W0 _); have hst := xr hb; (try simp only [zA, zC, zD, zN] at hst); obtain ⟨hc, hf, hz⟩ := hst))
        go_wp2
        go_ret
        refine ⟨_, _, _, rfl, ?_, by omega, ext_⟩
        rw [Hg.out, if_neg hms]
        exact ho1.less (by exact sz_)
theorem incl_N : ∀ (N M : Nat) (xs : List Int) (i : Nat), xs.length ≤ N → xs.length ≤ M → Sw.incl N xs i = Sw.incl M xs i
  | 0, M, xs, i, h1, h2 => by rw [incl_small (by omega), incl_small (by omega)]
  | N + 1, 0, xs, i, h1, h2 => by rw [incl_small (by omega), incl_small (by omega)]
  | N + 1, M + 1, xs, i, h1, h2 => by
    by_cases e : xs.length ≤ 1
    · rw [incl_small e, incl_small e]
    · have s1 := Sw.split_lt (n := xs.length) (by omega)
      have s0 := Sw.split_pos xs.length
      rw [incl_big e, incl_big e, incl_N N M _ i (by rw [List.length_take]; omega) (by rw [List.length_take]; omega), incl_N N M _ (i - Sw.split xs.length) (by rw [List.length_drop]; omega) (by rw [List.length_drop]; omega)]
theorem sOwnProof_c (A : Option Addr) (c n : Nat) (xs : List Sw.Row) (t : Int) (w : World) (hxs : RR w 0 A c n xs) (hn : n ≤ 4194304) : Calls Tryz.prog 40 #[.slice A n c, .int .i64 t] w fun E w' => ∃ A' c' n', E = .returned (.slice A' n' c') ∧ OwI w' w.heap.size A' c' n' (Sw.ownProof xs t) ∧ Ex w w' := by
  have hl := Lib.hid hxs.1
  cases g1 : Sw.ownOk xs
  · have e : Sw.ownProof xs t = [] := by simp [Sw.ownProof, g1]
    rw [e]; clear e
    go_enter Tryz.func40, Tryz.ntmps40
    go_wp2_with (first | (go_at_call 106; apply Calls.mono; apply sOwnOk_c; ((first | (apply Rs.at0; assumption) | (apply Ow.rs0; assumption)); exact kf_); rintro E w1 ⟨rfl, hb⟩; have hst := xr hb; (try simp only [zA, zC, zD, zN] at hst); obtain ⟨hc, hf, hz⟩ := hst) | (go_at_call 107; refine (l1In_c _ _ _ _).mono ?_; rintro E w' ⟨rfl, rfl⟩))
    go_ret
    refine ⟨_, _, _, rfl, ?_, ext_⟩
    (refine Ow.new [] (by (first | rfl | (simp only [zA, zC, zD, zN]; done) | omega)) rfl rfl (fun _ => rfl) (by exact sz_) (by omega))
  cases g2 : Sw.inR t 0 7
  · have e : Sw.ownProof xs t = [] := by simp [Sw.ownProof, g2]
    rw [e]; clear e
    go_enter Tryz.func40, Tryz.ntmps40
    go_wp2_with (first | (go_at_call 106; apply Calls.mono; apply sOwnOk_c; ((first | (apply Rs.at0; assumption) | (apply Ow.rs0; assumption)); exact kf_); rintro E w1 ⟨rfl, hb⟩; have hst := xr hb; (try simp only [zA, zC, zD, zN] at hst); obtain ⟨hc, hf, hz⟩ := hst) | (go_at_call 107; refine (l1In_c _ _ _ _).mono ?_; rintro E w' ⟨rfl, rfl⟩))
    go_ret
    refine ⟨_, _, _, rfl, ?_, ext_⟩
    (refine Ow.new [] (by (first | rfl | (simp only [zA, zC, zD, zN]; done) | omega)) rfl rfl (fun _ => rfl) (by exact sz_) (by omega))
  have h8 := Sw.ownOk_len g1
  have hn8 : n = 8 := by have := hl.out; omega
  have ht := Sw.inR_iff.1 g2
  obtain ⟨k, rfl⟩ : ∃ k : Nat, t = k := ⟨t.toNat, by omega⟩
  have e : Sw.ownProof xs k = Sw.incl 8 (Sw.ownLeaves xs) k := by
    rw [Sw.ownProof, if_pos (by rw [g1, g2]; rfl), Sw.inclusion, Int.toNat_natCast, Sw.ownLeaves_len, h8]
  rw [e]
  have hmx := Sw.ownLeaves_mix xs
  subst hn8
  have hk : k ≤ 40 := by omega
  clear e h8 ht
  go_enter Tryz.func40, Tryz.ntmps40
  go_wp2_with (first | (go_at_call 106; apply Calls.mono; apply sOwnOk_c; ((first | (apply Rs.at0; assumption) | (apply Ow.rs0; assumption)); exact kf_); rintro E w1 ⟨rfl, hb⟩; have hst := xr hb; (try simp only [zA, zC, zD, zN] at hst); obtain ⟨hc, hf, hz⟩ := hst) | (go_at_call 107; refine (l1In_c _ _ _ _).mono ?_; rintro E w' ⟨rfl, rfl⟩) | (go_at_call 109; apply Calls.mono; apply (sLeaves_c (xs := xs)); (apply Rs.at0 hxs; (exact kf_)); (try omega); rintro E w1 ⟨A1, c1, rfl, ho1, hb⟩; have hst := xr hb; (try simp only [zA, zC, zD, zN] at hst); obtain ⟨hc, hf, hz⟩ := hst) | (go_at_call 108; apply Calls.mono; apply (sIncl_c 8 (xs := Sw.ownLeaves xs)); omega; omega; (apply Ow.rs0 ho1; (exact kf_)); exact hmx; omega; rintro E w2 ⟨A2, c2, n2, rfl, ho2, hn2, hb⟩; have hst := xr hb; (try simp only [zA, zC, zD, zN] at hst); obtain ⟨hc, hf, hz⟩ := hst))
  go_ret
  exact ⟨_, _, _, rfl, (ho2.keep kf_).less sz_, ext_⟩
theorem iTreProof_c (A : Option Addr) (c n : Nat) (xs : List Int) (i : Int) (w : World) (hxs : RI w 0 A c n xs) : Calls Tryz.prog 58 #[.slice A n c, .int .i64 i] w fun E w' => ∃ A' c' n', E = .returned (.slice A' n' c') ∧ OwI w' w.heap.size A' c' n' (Sw.treProof xs i) ∧ Ex w w' := by
  have hl := Lib.hid hxs.1
  have hbig := Rs.big hxs
  have t9 : IntKind.i64.wrap ((n : Int) - 1) = (n : Int) - 1 := IntWalk.i64_in _ (by omega)
  cases g1 : Sw.treOk xs
  · have e : Sw.treProof xs i = [] := by simp [Sw.treProof, g1]
    rw [e]; clear e
    go_enter Tryz.func58, Tryz.ntmps58
    go_wp2_with (first | (go_at_call 61; apply Calls.mono; apply iTreOk_c; ((first | (apply Rs.at0; assumption) | (apply Ow.rs0; assumption)); exact kf_); rintro E w' ⟨rfl, rfl⟩) | (go_at_call 114; refine (in_c _ _ _ _).mono ?_; rintro E w' ⟨rfl, rfl⟩))
    go_ret
    exact ⟨_, _, _, rfl, Ow.nil _ _, ext_⟩
  cases g2 : Sw.inR i 0 ((n : Int) - 1)
  · have e : Sw.treProof xs i = [] := by rw [Sw.treProof, if_neg (by rw [← hl.out, g2]; simp)]
    rw [e]; clear e
    go_enter Tryz.func58, Tryz.ntmps58
    go_wp2_with (first | (go_at_call 61; apply Calls.mono; apply iTreOk_c; ((first | (apply Rs.at0; assumption) | (apply Ow.rs0; assumption)); exact kf_); rintro E w' ⟨rfl, rfl⟩) | (go_at_call 114; refine (in_c _ _ _ _).mono ?_; rintro E w' ⟨rfl, rfl⟩))
    go_ret
    exact ⟨_, _, _, rfl, Ow.nil _ _, ext_⟩
  have hi := Sw.inR_iff.1 g2
  have h40 : n ≤ 40 := by have := hl.out; simp [Sw.treOk] at g1; omega
  have hall : xs.all Sw.mixOk = true := by simp only [Sw.treOk, Bool.and_eq_true] at g1; exact g1.2
  obtain ⟨k, rfl⟩ : ∃ k : Nat, i = k := ⟨i.toNat, by omega⟩
  have e : Sw.treProof xs k = Sw.incl 40 xs k := by
    rw [Sw.treProof, if_pos (by rw [g1, ← hl.out, g2]; rfl), Sw.inclusion, Int.toNat_natCast]
    exact incl_N _ _ _ _ (Nat.le_refl _) (by have := hl.out; omega)
  rw [e]; clear e
  have hk : k < n := by omega
  clear hi
  go_enter Tryz.func58, Tryz.ntmps58
  go_wp2_with (first | (go_at_call 61; apply Calls.mono; apply iTreOk_c; ((first | (apply Rs.at0; assumption) | (apply Ow.rs0; assumption)); exact kf_); rintro E w' ⟨rfl, rfl⟩) | (go_at_call 114; refine (in_c _ _ _ _).mono ?_; rintro E w' ⟨rfl, rfl⟩) | (go_at_call 123; apply Calls.mono; apply (iIncl_c 40 (xs := xs)); omega; omega; (apply Rs.at0 hxs; (exact kf_)); exact hall; omega; rintro E w2 ⟨A2, c2, n2, rfl, ho2, hn2, hb⟩; have hst := xr hb; (try simp only [zA, zC, zD, zN] at hst); obtain ⟨hc, hf, hz⟩ := hst))
  go_ret
  exact ⟨_, _, _, rfl, (ho2.keep kf_).less sz_, ext_⟩
theorem iOwnProof_c (A : Option Addr) (c n : Nat) (xs : List Sw.Row) (t : Int) (w : World) (hxs : RR w 0 A c n xs) (hn : n ≤ 4194304) : Calls Tryz.prog 13 #[.slice A n c, .int .i64 t] w fun E w' => ∃ A' c' n', E = .returned (.slice A' n' c') ∧ OwI w' w.heap.size A' c' n' (Sw.ownProof xs t) ∧ Ex w w' := by
  cases g1 : Sw.ownOk xs
  · have e : Sw.ownProof xs t = [] := by simp [Sw.ownProof, g1]
    rw [e]; clear e
    go_enter Tryz.func13, Tryz.ntmps13
    go_wp2_with (first | (go_at_call 56; apply Calls.mono; apply iOwnOk_c; ((first | (apply Rs.at0; assumption) | (apply Ow.rs0; assumption)); exact kf_); rintro E w1 ⟨rfl, hb⟩; have hst := xr hb; (try simp only [zA, zC, zD, zN] at hst); obtain ⟨hc, hf, hz⟩ := hst) | (go_at_call 57; refine (isTicket_c _ _).mono ?_; rintro E w' ⟨rfl, rfl⟩))
    go_ret
    exact ⟨_, _, _, rfl, Ow.nil _ _, ext_⟩
  cases g2 : Sw.inR t 0 7
  · have e : Sw.ownProof xs t = [] := by simp [Sw.ownProof, g2]
    rw [e]; clear e
    go_enter Tryz.func13, Tryz.ntmps13
    go_wp2_with (first | (go_at_call 56; apply Calls.mono; apply iOwnOk_c; ((first | (apply Rs.at0; assumption) | (apply Ow.rs0; assumption)); exact kf_); rintro E w1 ⟨rfl, hb⟩; have hst := xr hb; (try simp only [zA, zC, zD, zN] at hst); obtain ⟨hc, hf, hz⟩ := hst) | (go_at_call 57; refine (isTicket_c _ _).mono ?_; rintro E w' ⟨rfl, rfl⟩))
    go_ret
    exact ⟨_, _, _, rfl, Ow.nil _ _, ext_⟩
  have h8 := Sw.ownOk_len g1
  have ht := Sw.inR_iff.1 g2
  have e : Sw.ownProof xs t = Sw.treProof (Sw.ownLeaves xs) t := by
    have h1 : Sw.treOk (Sw.ownLeaves xs) = true := by
      rw [Sw.treOk, Sw.ownLeaves_mix, Sw.ownLeaves_len, h8]; rfl
    have h2 : Sw.inR t 0 (((Sw.ownLeaves xs).length : Int) - 1) = true := by rw [Sw.ownLeaves_len, h8]; exact Sw.inR_iff.2 (by omega)
    rw [Sw.ownProof, Sw.treProof, if_pos (by rw [g1, g2]; rfl), if_pos (by rw [h1, h2]; rfl)]
  rw [e]; clear e h8 ht
  go_enter Tryz.func13, Tryz.ntmps13
  go_wp2_with (first | (go_at_call 56; apply Calls.mono; apply iOwnOk_c; ((first | (apply Rs.at0; assumption) | (apply Ow.rs0; assumption)); exact kf_); rintro E w1 ⟨rfl, hb⟩; have hst := xr hb; (try simp only [zA, zC, zD, zN] at hst); obtain ⟨hc, hf, hz⟩ := hst) | (go_at_call 57; refine (isTicket_c _ _).mono ?_; rintro E w' ⟨rfl, rfl⟩) | (go_at_call 59; apply Calls.mono; apply (iLeaves_c (xs := xs)); (apply Rs.at0 hxs; (exact kf_)); (exact hn); rintro E w1 ⟨A1, c1, rfl, ho1, hb⟩; have hst := xr hb; (try simp only [zA, zC, zD, zN] at hst); obtain ⟨hc, hf, hz⟩ := hst) | (go_at_call 58; apply Calls.mono; apply (iTreProof_c (xs := Sw.ownLeaves xs)); (apply Ow.rs0 ho1; (exact kf_)); rintro E w2 ⟨A2, c2, n2, rfl, ho2, hb⟩; have hst := xr hb; (try simp only [zA, zC, zD, zN] at hst); obtain ⟨hc, hf, hz⟩ := hst))
  go_ret
  exact ⟨_, _, _, rfl, (ho2.keep kf_).less sz_, ext_⟩
end Go.Proofs.YtdbnbembjebfhaaGreat

