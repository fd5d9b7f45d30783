/-
  Texts joined: UpI, SortL.
-/
import Derived.Test.YtdbnbembjebfhaaGreatPz31
import Derived.Test.YtdbnbembjebfhaaGreatPz23
import Derived.Test.YtdbnbembjebfhaaGreatPz11
import Derived.Shelf.Sort.Plain
import Derived.Sort.OwnSortedInts
namespace Go.Proofs.YtdbnbembjebfhaaGreat
set_option maxRecDepth 100000
set_option linter.unusedSimpArgs false
set_option linter.unusedVariables false
open Go.RowKit Go
set_option maxHeartbeats 1000000

theorem iUp_c (N : Nat) (A : Option Addr) (c n m k : Nat) (leaf : Int) (xs : List Int) (w : World) (hN : n ≤ N) (hxs : RI w 0 A c n xs) (h40 : n ≤ 40) (hall : xs.all Sw.mixOk = true) (hleaf : Sw.mixOk leaf = true) (hm : 1 ≤ m) (hk : k < m) (hm40 : m ≤ 40) : Calls Tryz.prog 65 #[.int .i64 m, .int .i64 k, .int .i64 leaf, .slice A n c] w fun E w' => E = .returned (.tuple #[.int .i64 (Sw.upR m k leaf xs.reverse).1, .bool (Sw.upR m k leaf xs.reverse).2]) ∧ Ex w w' := by
  induction N generalizing A c n m k xs w with
  | zero =>
    have hl := hxs.1
    obtain rfl : n = 0 := by omega
    have hx : xs = [] := List.eq_nil_of_length_eq_zero (by omega)
    subst hx
    clear hl
    by_cases h1 : m = 1
    · subst h1
      go_enter Tryz.func65, Tryz.ntmps65
      go_wp2_with fail
      go_ret2
      exact ⟨by simp [Sw.upR], ext_⟩
    · have hb : ((m : Int) == 1) = false := by simp; omega
      have hb2 : decide ((m : Int) < 2) = false := by simp; omega
      go_enter Tryz.func65, Tryz.ntmps65
      go_wp2_with fail
      go_ret2
      exact ⟨by simp [Sw.upR, show ¬ m ≤ 1 by omega], ext_⟩
  | succ N ih =>
    have hl := Lib.hid hxs.1
    have hcap := hxs.2.le
    by_cases h0 : n = 0
    · subst h0
      have hx : xs = [] := List.eq_nil_of_length_eq_zero (by have := hl.out; omega)
      subst hx
      exact ih _ c 0 m k [] w (by omega) hxs (by omega) hall hm hk hm40
    · obtain ⟨p, rfl⟩ : ∃ p, n = p + 1 := ⟨n - 1, by omega⟩
      obtain ⟨g, off, y, rfl, hg0, hg, hd, hy, hc⟩ := at_I hxs (show p < p + 1 by omega)
      have hrev := rev_snoc (by have := hl.out; omega) hy
      have hyok : Sw.mixOk y = true := List.all_eq_true.1 hall y (List.mem_of_getElem? hy)
      rw [hrev]
      have Hy := Lib.hid hy
      clear hd hy hrev
      have w1 : IntKind.i64.wrap ((p : Int) + 1 - 1) = p := by rw [IntWalk.i64_in _ (by omega)]; omega
      have tp : (p : Int) < (p : Int) + 1 := by omega
      have hb0 : ((p : Int) + 1 == 0) = false := by simp; omega
      have hb1 : decide ((p : Int) < 0) = false := by simp
      by_cases h1 : m = 1
      · subst h1
        go_enter Tryz.func65, Tryz.ntmps65
        go_wp2_with fail
        go_ret2
        exact ⟨by simp [Sw.upR], ext_⟩
      · have h2 : 2 ≤ m := by omega
        have hs1 := Sw.split_lt h2
        have hs0 := Sw.split_pos m
        have hb : ((m : Int) == 1) = false := by simp; omega
        have hb2 : decide ((m : Int) < 2) = false := by simp; omega
        have hal := List.all_take (k := p) hall
        have hal' : (xs.take p).reverse.all Sw.mixOk = true := by rw [List.all_reverse]; exact hal
        by_cases hms : k < Sw.split m
        · have hms' : (k : Int) < (Sw.split m : Int) := by omega
          have e : Sw.upR m k leaf (y :: (xs.take p).reverse) = (Sw.pair (Sw.upR (Sw.split m) k leaf (xs.take p).reverse).1 y, (Sw.upR (Sw.split m) k leaf (xs.take p).reverse).2) := by
            rw [Sw.upR, if_neg (by omega), if_pos hms]
          have xok := upR_ok (xs.take p).reverse (Sw.split m) k leaf hleaf hal'
          rw [e]; clear e
          go_enter Tryz.func65, Tryz.ntmps65
          go_wp2_with (first | (go_at_call 63; apply Calls.mono; apply iSplit_c; (first | assumption | omega); (first | assumption | omega); rintro E w' ⟨rfl, rfl⟩) | (go_at_call 65; apply Calls.mono; apply ih; omega; (apply Rs.at0; apply RI_take hxs; omega; (exact kf_)); omega; exact hal; omega; omega; omega; rintro E w1 ⟨rfl, hb⟩; have hst := xr hb; (try simp only [zA, zC, zD, zN] at hst); obtain ⟨hc, hf, hz⟩ := hst) | (go_at_call 66; apply Calls.mono; apply pair_c; (first | assumption | omega); (first | assumption | omega); rintro E w' ⟨rfl, rfl⟩))
          all_goals (try (refine wp_name ?_; intro W0 hb0; have hst := xr hb0; (try simp only [zA, zC, zD, zN] at hst); obtain ⟨hc0, hf0, hz0⟩ := hst; go_region_held3 (fun w' => Held W0 w') ((first | with_reducible assumption | with_reducible exact Held.start _ | with_reducible exact Held.of (by assumption) | with_reducible exact Held.ex (by assumption) (by assumption) | ((repeat (first | with_reducible refine Held.set ?_ (by simp only [zA, zC, zD, zN]; omega) | with_reducible refine Held.alloc ?_ _ | with_reducible refine Held.drew ?_)); (first | with_reducible assumption | with_reducible exact Held.refl _ | with_reducible exact Held.of (by assumption) | with_reducible exact Held.ex (by assumption) (by assumption))) | exact Held.of (by exact ext_))) ((first | (go_at_call 66; apply Calls.mono; apply pair_c; (first | assumption | omega); (first | assumption | omega); rintro E w' ⟨rfl, rfl⟩))); all_goals (have hb := And.right (by assumption : Held W0 _); have hst := xr hb; (try simp only [zA, zC, zD, zN] at hst); obtain ⟨hc, hf, hz⟩ := hst)))
          all_goals (try go_wp2)
          go_ret2
          exact ⟨by rfl, ext_⟩
        · have hms' : ¬ (k : Int) < (Sw.split m : Int) := by omega
          have y0 : IntKind.i64.wrap ((k : Int) - ↑(Sw.split m)) = ((k - Sw.split m : Nat) : Int) := by rw [IntWalk.i64_in _ (by omega)]; omega
          have y1 : IntKind.i64.wrap ((m : Int) - ↑(Sw.split m)) = ((m - Sw.split m : Nat) : Int) := by rw [IntWalk.i64_in _ (by omega)]; omega
          have e : Sw.upR m k leaf (y :: (xs.take p).reverse) = (Sw.pair y (Sw.upR (m - Sw.split m) (k - Sw.split m) leaf (xs.take p).reverse).1, (Sw.upR (m - Sw.split m) (k - Sw.split m) leaf (xs.take p).reverse).2) := by
            rw [Sw.upR, if_neg (by omega), if_neg hms]
          have xok := upR_ok (xs.take p).reverse (m - Sw.split m) (k - Sw.split m) leaf hleaf hal'
          rw [e]; clear e
          go_enter Tryz.func65, Tryz.ntmps65
          go_wp2_with (first | (go_at_call 63; apply Calls.mono; apply iSplit_c; (first | assumption | omega); (first | assumption | omega); rintro E w' ⟨rfl, rfl⟩) | (go_at_call 65; apply Calls.mono; apply ih; omega; (apply Rs.at0; apply RI_take hxs; omega; (exact kf_)); omega; exact hal; omega; omega; omega; rintro E w1 ⟨rfl, hb⟩; have hst := xr hb; (try simp only [zA, zC, zD, zN] at hst); obtain ⟨hc, hf, hz⟩ := hst) | (go_at_call 66; apply Calls.mono; apply pair_c; (first | assumption | omega); (first | assumption | omega); rintro E w' ⟨rfl, rfl⟩))
          all_goals (try (refine wp_name ?_; intro W0 hb0; have hst := xr hb0; (try simp only [zA, zC, zD, zN] at hst); obtain ⟨hc0, hf0, hz0⟩ := hst; go_region_held3 (fun w' => Held W0 w') ((first | with_reducible assumption | with_reducible exact Held.start _ | with_reducible exact Held.of (by assumption) | with_reducible exact Held.ex (by assumption) (by assumption) | ((repeat (first | with_reducible refine Held.set ?_ (by simp only [zA, zC, zD, zN]; omega) | with_reducible refine Held.alloc ?_ _ | with_reducible refine Held.drew ?_)); (first | with_reducible assumption | with_reducible exact Held.refl _ | with_reducible exact Held.of (by assumption) | with_reducible exact Held.ex (by assumption) (by assumption))) | exact Held.of (by exact ext_))) ((first | (go_at_call 66; apply Calls.mono; apply pair_c; (first | assumption | omega); (first | assumption | omega); rintro E w' ⟨rfl, rfl⟩))); all_goals (have hb := And.right (by assumption : Held W0 _); have hst := xr hb; (try simp only [zA, zC, zD, zN] at hst); obtain ⟨hc, hf, hz⟩ := hst)))
          all_goals (try go_wp2)
          go_ret2
          exact ⟨by rfl, ext_⟩

theorem iTreUp_c (nn i leaf : Int) (A : Option Addr) (c n : Nat) (xs : List Int) (w : World) (hxs : RI w 0 A c n xs) : Calls Tryz.prog 126 #[.int .i64 nn, .int .i64 i, .int .i64 leaf, .slice A n c] w fun E w' => E = .returned (.tuple #[.int .i64 ((Sw.treUp nn i leaf xs).getD 0), .bool (Sw.treUp nn i leaf xs).isSome]) ∧ Ex w w' := by
  have hl := Lib.hid hxs.1
  cases g1 : Sw.inR nn 1 40
  case false => have e : Sw.treUp nn i leaf xs = none := by (simp [Sw.treUp, g1])
                rw [e]; go_enter Tryz.func126, Tryz.ntmps126; go_wp2_with (first | (go_at_call 114; refine (in_c _ _ _ _).mono ?_; rintro E w' ⟨rfl, rfl⟩)); go_ret2; exact ⟨rfl, ext_⟩
  obtain ⟨n0, n1⟩ := Sw.inR_iff.1 g1
  cases g2 : Sw.inR i 0 (nn - 1)
  case false => have e : Sw.treUp nn i leaf xs = none := by (simp [Sw.treUp, g2])
                rw [e]; go_enter Tryz.func126, Tryz.ntmps126; go_wp2_with (first | (go_at_call 114; refine (in_c _ _ _ _).mono ?_; rintro E w' ⟨rfl, rfl⟩)); go_ret2; exact ⟨rfl, ext_⟩
  obtain ⟨i0, i1⟩ := Sw.inR_iff.1 g2
  cases g3 : Sw.mixOk leaf
  case false => have e : Sw.treUp nn i leaf xs = none := by (simp [Sw.treUp, g3])
                rw [e]; go_enter Tryz.func126, Tryz.ntmps126; go_wp2_with (first | (go_at_call 114; refine (in_c _ _ _ _).mono ?_; rintro E w' ⟨rfl, rfl⟩) | (go_at_call 48; refine (iMixOk_c _ _).mono ?_; rintro E w' ⟨rfl, rfl⟩)); go_ret2; exact ⟨rfl, ext_⟩
  cases g4 : Sw.treOk xs
  case false => have e : Sw.treUp nn i leaf xs = none := by (simp [Sw.treUp, g4])
                rw [e]; go_enter Tryz.func126, Tryz.ntmps126; go_wp2_with (first | (go_at_call 114; refine (in_c _ _ _ _).mono ?_; rintro E w' ⟨rfl, rfl⟩) | (go_at_call 48; refine (iMixOk_c _ _).mono ?_; rintro E w' ⟨rfl, rfl⟩) | (go_at_call 61; apply Calls.mono; apply iTreOk_c; ((first | (apply Rs.at0; assumption) | (apply Ow.rs0; assumption)); exact kf_); rintro E w' ⟨rfl, rfl⟩)); go_ret2; exact ⟨rfl, ext_⟩
  obtain ⟨h40, hall⟩ := Sw.treOk_iff.1 g4
  have hn40 : n ≤ 40 := by have := hl.out; omega
  obtain ⟨m, rfl⟩ := Int.eq_ofNat_of_zero_le (show 0 ≤ nn by omega)
  obtain ⟨k, rfl⟩ := Int.eq_ofNat_of_zero_le i0
  have e : Sw.treUp m k leaf xs = if (Sw.upR m k leaf xs.reverse).2 then some (Sw.upR m k leaf xs.reverse).1 else none := by
    simp only [Sw.treUp, g1, g2, g3, g4, Bool.true_and, Sw.up, Int.toNat_natCast]
  rw [e]; clear e
  cases hu : (Sw.upR m k leaf xs.reverse).2
  all_goals
    go_enter Tryz.func126, Tryz.ntmps126
    go_wp2_with (first | (go_at_call 114; refine (in_c _ _ _ _).mono ?_; rintro E w' ⟨rfl, rfl⟩) | (go_at_call 48; refine (iMixOk_c _ _).mono ?_; rintro E w' ⟨rfl, rfl⟩) | (go_at_call 61; apply Calls.mono; apply iTreOk_c; ((first | (apply Rs.at0; assumption) | (apply Ow.rs0; assumption)); exact kf_); rintro E w' ⟨rfl, rfl⟩) | (go_at_call 65; apply Calls.mono; apply (iUp_c 40); omega; ((first | (apply Rs.at0; assumption) | (apply Ow.rs0; assumption)); exact kf_); omega; exact hall; exact g3; omega; omega; omega; rintro E w1 ⟨rfl, hb⟩; have hst := xr hb; (try simp only [zA, zC, zD, zN] at hst); obtain ⟨hc, hf, hz⟩ := hst))
    go_ret2
    exact ⟨rfl, ext_⟩
theorem iTreCheck_c (r nn i leaf : Int) (A : Option Addr) (c n : Nat) (xs : List Int) (w : World) (hxs : RI w 0 A c n xs) : Calls Tryz.prog 62 #[.int .i64 r, .int .i64 nn, .int .i64 i, .int .i64 leaf, .slice A n c] w fun E w' => E = .returned (.bool (Sw.treCheck r nn i leaf xs)) ∧ Ex w w' := by
  have e : Sw.treCheck r nn i leaf xs = ((Sw.treUp nn i leaf xs).isSome && ((Sw.treUp nn i leaf xs).getD 0 == r)) := by
    unfold Sw.treCheck
    cases Sw.treUp nn i leaf xs with
    | none => rfl
    | some v => rfl
  rw [e]; clear e
  cases hu : (Sw.treUp nn i leaf xs).isSome
  all_goals
    go_enter Tryz.func62, Tryz.ntmps62
    go_wp2_with (first | (go_at_call 126; apply Calls.mono; apply iTreUp_c; ((first | (apply Rs.at0; assumption) | (apply Ow.rs0; assumption)); exact kf_); rintro E w1 ⟨rfl, hb⟩; have hst := xr hb; (try simp only [zA, zC, zD, zN] at hst); obtain ⟨hc, hf, hz⟩ := hst))
    all_goals (go_ret; exact ⟨ret_b (by simp [*]), ext_⟩)
theorem iOwnCheck_c (root t : Int) (r : Sw.Row) (A : Option Addr) (c n : Nat) (xs : List Int) (w : World) (hxs : RI w 0 A c n xs) : Calls Tryz.prog 54 #[.int .i64 root, .int .i64 t, .agg #[.int .i64 r.who, .int .i64 r.face, .bool r.used], .slice A n c] w fun E w' => E = .returned (.bool (Sw.ownCheck root t r xs)) ∧ Ex w w' := by
  cases g1 : Sw.inR t 0 7
  all_goals
    go_enter Tryz.func54, Tryz.ntmps54
    go_wp2_with (first | (go_at_call 57; refine (isTicket_c _ _).mono ?_; rintro E w' ⟨rfl, rfl⟩) | (go_at_call 14; refine (iOwnLeaf_c _ _ _).mono ?_; rintro E w1 ⟨rfl, hb⟩; have hst := xr hb; (try simp only [zA, zC, zD, zN] at hst); obtain ⟨hc, hf, hz⟩ := hst) | (go_at_call 62; apply Calls.mono; apply iTreCheck_c; ((first | (apply Rs.at0; assumption) | (apply Ow.rs0; assumption)); exact kf_); rintro E w1 ⟨rfl, hb⟩; have hst := xr hb; (try simp only [zA, zC, zD, zN] at hst); obtain ⟨hc, hf, hz⟩ := hst))
    all_goals (go_ret; exact ⟨ret_b (by simp [Sw.ownCheck, g1]), ext_⟩)
end Go.Proofs.YtdbnbembjebfhaaGreat

namespace Go.Proofs.YtdbnbembjebfhaaGreat
set_option maxRecDepth 100000
set_option linter.unusedSimpArgs false
set_option linter.unusedVariables false
open Go.Shelf Go.Sort Go.RowKit Go
set_option maxHeartbeats 1000000

/-- The library's functions and types, by their numbers in the kit and in this program. -/
def sortRen : Ren := Ren.mk (fun x => match x with
  | 189 => 55
  | 125 => 121
  | 257 => 120
  | 128 => 196
  | 129 => 197
  | 294 => 187
  | 295 => 188
  | 296 => 189
  | 297 => 190
  | 298 => 191
  | 299 => 192
  | 216 => 193
  | 300 => 194
  | 301 => 195
  | 328 => 232
  | 329 => 233
  | 330 => 234
  | 331 => 235
  | 332 => 236
  | 215 => 237
  | 343 => 248
  | n => n)
  (fun x => match x with
  | 28 => 27
  | 3 => 3
  | 46 => 152
  | 0 => 0
  | 51 => 216
  | 53 => 218
  | 4 => 4
  | 183 => 209
  | 182 => 208
  | 131 => 112
  | 5 => 5
  | 9 => 9
  | 218 => 246
  | 222 => 250
  | 228 => 253
  | 229 => 254
  | n => n)
  (fun n => n)
theorem sortLays : Lays.n189 Tryz.prog sortRen where
  mixed := rfl
  f125 := Eq.trans Tryz.func121 (congrArg some (Eq.refl (Body.n125 sortRen)))
  f128 := Eq.trans Tryz.func196 (congrArg some (Eq.refl (Body.n128 sortRen)))
  f129 := Eq.trans Tryz.func197 (congrArg some (Eq.refl (Body.n129 sortRen)))
  f189 := Eq.trans Tryz.func55 (congrArg some (Eq.refl (Body.n189 sortRen)))
  f215 := Eq.trans Tryz.func237 (congrArg some (Eq.refl (Body.n215 sortRen)))
  f216 := Eq.trans Tryz.func193 (congrArg some (Eq.refl (Body.n216 sortRen)))
  f257 := Eq.trans Tryz.func120 (congrArg some (Eq.refl (Body.n257 sortRen)))
  f294 := Eq.trans Tryz.func187 (congrArg some (Eq.refl (Body.n294 sortRen)))
  f295 := Eq.trans Tryz.func188 (congrArg some (Eq.refl (Body.n295 sortRen)))
  f296 := Eq.trans Tryz.func189 (congrArg some (Eq.refl (Body.n296 sortRen)))
  f297 := Eq.trans Tryz.func190 (congrArg some (Eq.refl (Body.n297 sortRen)))
  f298 := Eq.trans Tryz.func191 (congrArg some (Eq.refl (Body.n298 sortRen)))
  f299 := Eq.trans Tryz.func192 (congrArg some (Eq.refl (Body.n299 sortRen)))
  f300 := Eq.trans Tryz.func194 (congrArg some (Eq.refl (Body.n300 sortRen)))
  f301 := Eq.trans Tryz.func195 (congrArg some (Eq.refl (Body.n301 sortRen)))
  f328 := Eq.trans Tryz.func232 (congrArg some (Eq.refl (Body.n328 sortRen)))
  f329 := Eq.trans Tryz.func233 (congrArg some (Eq.refl (Body.n329 sortRen)))
  f330 := Eq.trans Tryz.func234 (congrArg some (Eq.refl (Body.n330 sortRen)))
  f331 := Eq.trans Tryz.func235 (congrArg some (Eq.refl (Body.n331 sortRen)))
  f332 := Eq.trans Tryz.func236 (congrArg some (Eq.refl (Body.n332 sortRen)))
  f343 := Eq.trans Tryz.func248 (congrArg some (Eq.refl (Body.n343 sortRen)))
  t0 := Tryz.underlying0
  a0 := Tryz.isAgg0
  z0 := Tryz.sizeOf0
  v0 := Tryz.zeroValue0
  t3 := Tryz.underlying3
  a3 := Tryz.isAgg3
  z3 := Tryz.sizeOf3
  v3 := Tryz.zeroValue3
  t4 := Tryz.underlying4
  a4 := Tryz.isAgg4
  z4 := Tryz.sizeOf4
  v4 := Tryz.zeroValue4
  t5 := Tryz.underlying5
  a5 := Tryz.isAgg5
  z5 := Tryz.sizeOf5
  v5 := Tryz.zeroValue5
  t9 := Tryz.underlying9
  a9 := Tryz.isAgg9
  z9 := Tryz.sizeOf9
  v9 := Tryz.zeroValue9
  t28 := Tryz.underlying27
  a28 := Tryz.isAgg27
  z28 := Tryz.sizeOf27
  v28 := Tryz.zeroValue27
  t46 := Tryz.underlying152
  a46 := Tryz.isAgg152
  z46 := Tryz.sizeOf152
  v46 := Tryz.zeroValue152
  t51 := Tryz.underlying216
  a51 := Tryz.isAgg216
  z51 := Tryz.sizeOf216
  v51 := Tryz.zeroValue216
  t53 := Tryz.underlying218
  a53 := Tryz.isAgg218
  z53 := Tryz.sizeOf218
  v53 := Tryz.zeroValue218
  t131 := Tryz.underlying112
  a131 := Tryz.isAgg112
  z131 := Tryz.sizeOf112
  v131 := Tryz.zeroValue112
  t182 := Tryz.underlying208
  a182 := Tryz.isAgg208
  z182 := Tryz.sizeOf208
  v182 := Tryz.zeroValue208
  t183 := Tryz.underlying209
  a183 := Tryz.isAgg209
  z183 := Tryz.sizeOf209
  v183 := Tryz.zeroValue209
  t218 := Tryz.underlying246
  a218 := Tryz.isAgg246
  z218 := Tryz.sizeOf246
  v218 := Tryz.zeroValue246
  t222 := Tryz.underlying250
  a222 := Tryz.isAgg250
  z222 := Tryz.sizeOf250
  v222 := Tryz.zeroValue250
  t228 := Tryz.underlying253
  a228 := Tryz.isAgg253
  z228 := Tryz.sizeOf253
  v228 := Tryz.zeroValue253
  t229 := Tryz.underlying254
  a229 := Tryz.isAgg254
  z229 := Tryz.sizeOf254
  v229 := Tryz.zeroValue254

theorem flatI (xs : List Int) : xs.flatMap encI = xs.map (Value.int .i64) := by
  induction xs with
  | nil => rfl
  | cons x xs ih => rw [List.flatMap_cons, ih]; rfl
theorem iSort_c (A : Option Addr) (c n lo : Nat) (xs : List Int) (w : World) (h : OwI w lo A c n xs) (h0 : 0 < n) (hn : n ≤ 4194304) : Calls Tryz.prog 55 #[.slice A n c] w fun E w' => E = .returned (.tuple #[]) ∧ OwI w' lo A c n (xs.mergeSort fun x y => decide (x ≤ y)) ∧ Ch (atA A) w w' := by
  rcases h.form with ⟨h1, h2, _⟩ | ⟨g, cur, rfl, hlo, hlt, hb, hnc, hcm, hsz, htk⟩
  · omega
  obtain rfl := h.1
  rw [flatI, Nat.mul_one] at htk
  refine (Any.slices_Sort_int sortLays g 0 c xs w (holds_of_blockI hb htk) hlt (by omega)).mono ?_
  rintro E w' ⟨rfl, k, os, rfl⟩
  have hl : (xs.mergeSort fun x y => decide (x ≤ y)).length = xs.length := by simp
  refine ⟨rfl, ⟨hl.symm, ?_⟩, ?_⟩
  · have := ownsRow_sortedI (n := k) (os := os) hl hlo hb hnc hcm hsz
    rw [flatI]
    exact this
  · have := grownBy_sortedI (w := w) (g := g) (n := k) (os := os) (xs.mergeSort fun x y => decide (x ≤ y)).toArray
    exact ⟨this.os, this.tape, this.output, this.size, fun i hi hS => this.block i hi (fun e => hS ⟨_, rfl, Option.some.inj e⟩)⟩
end Go.Proofs.YtdbnbembjebfhaaGreat

