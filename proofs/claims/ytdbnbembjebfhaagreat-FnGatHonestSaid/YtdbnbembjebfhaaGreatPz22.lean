/-
  Texts joined: Draw5, Impl1, Impl2, Impl3.
-/
import Derived.Test.YtdbnbembjebfhaaGreatPz21
import Derived.Test.YtdbnbembjebfhaaGreatPz3
import Derived.Test.YtdbnbembjebfhaaGreatPz18
import Derived.Test.YtdbnbembjebfhaaGreatPz11
namespace Go.Proofs.YtdbnbembjebfhaaGreat
set_option maxRecDepth 100000
set_option linter.unusedSimpArgs false
set_option linter.unusedVariables false
open Go.RowKit Go
set_option maxHeartbeats 4000000

theorem sHedOfA_c (A : Option Addr) (c n : Nat) (xs : List Sw.Ent) (w : World) (hxs : RE w 0 A c n xs) : Calls Tryz.prog 9 #[.slice A n c] w fun E w' => ∃ p q r b, E = .returned (.tuple #[.agg #[.int .i64 p, .int .i64 q, .int .i64 r], .bool b]) ∧ True ∧ Ex w w' := by
  refine (sHedOf_c A c n xs w hxs).mono ?_
  rintro E w' ⟨rfl, hb⟩
  exact ⟨_, _, _, _, rfl, trivial, hb⟩
/-- A head in block g. -/
structure HAt (w : World) (g : Nat) (a b d : Int) : Prop where
  lt : g < w.heap.size
  c0 : w.cell? ⟨g, 0, none⟩ = some (.int .i64 a)
  c1 : w.cell? ⟨g, 1, none⟩ = some (.int .i64 b)
  c2 : w.cell? ⟨g, 2, none⟩ = some (.int .i64 d)
  free : ∀ i, w.frozen? ⟨g, i, none⟩ = false
end Go.Proofs.YtdbnbembjebfhaaGreat

namespace Go.Proofs.YtdbnbembjebfhaaGreat
set_option maxRecDepth 100000
set_option linter.unusedSimpArgs false
set_option linter.unusedVariables false
open Go.RowKit Go
set_option maxHeartbeats 400000

/-- Where the first one stands that is no leaf; -1 if there is none. -/
def badAt (xs : List Int) : Int := match xs.findIdx? (fun x => !Sw.mixOk x) with
  | some i => i
  | none => -1
theorem badAt_iff (xs : List Int) : decide (0 ≤ badAt xs) = !xs.all Sw.mixOk := by
  unfold badAt
  cases h : xs.findIdx? (fun x => !Sw.mixOk x) with
  | none =>
    rw [List.findIdx?_eq_none_iff] at h
    have : xs.all Sw.mixOk = true := by
      rw [List.all_eq_true]
      intro x hx
      have := h x hx
      simpa using this
    rw [this]; rfl
  | some i =>
    have : xs.all Sw.mixOk = false := by
      rw [List.findIdx?_eq_some_iff_getElem] at h
      obtain ⟨h1, h2, _⟩ := h
      rw [List.all_eq_false]
      exact ⟨xs[i], List.getElem_mem h1, by simpa using h2⟩
    rw [this]
    simp
theorem badAt_here {xs : List Int} {k : Nat} {y : Int} (hy : xs[k]? = some y) (h : ∀ j, j < k → ∀ z, xs[j]? = some z → Sw.mixOk z = true) (hm : Sw.mixOk y = false) : badAt xs = k := by
  unfold badAt
  have hk := (List.getElem?_eq_some_iff.1 hy)
  obtain ⟨hk, rfl⟩ := hk
  have : xs.findIdx? (fun x => !Sw.mixOk x) = some k := by
    rw [List.findIdx?_eq_some_iff_getElem]
    refine ⟨hk, by simp [hm], fun j hj => ?_⟩
    have := h j hj xs[j] (by simp)
    simp [this]
  rw [this]
theorem badAt_none {xs : List Int} {k : Nat} (hk : xs.length ≤ k) (h : ∀ j, j < k → ∀ z, xs[j]? = some z → Sw.mixOk z = true) : badAt xs = -1 := by
  unfold badAt
  have : xs.findIdx? (fun x => !Sw.mixOk x) = none := by
    rw [List.findIdx?_eq_none_iff]
    intro x hx
    obtain ⟨i, hi, rfl⟩ := List.getElem_of_mem hx
    have := h i (by omega) xs[i] (by simp)
    simp [this]
  rw [this]

theorem iBad_c (x : Int) (w : World) : Calls Tryz.prog 125 #[.int .i64 x] w fun E w' => E = .returned (.bool (!Sw.mixOk x)) ∧ w = w' := by
  go_enter Tryz.func125, Tryz.ntmps125
  go_wp2_with (first | (go_at_call 48; refine (iMixOk_c _ _).mono ?_; rintro E w' ⟨rfl, rfl⟩))
  go_ret
  exact ⟨ret_b rfl, rfl⟩

theorem iBadAt_c (A : Option Addr) (c n : Nat) (xs : List Int) (w : World) (hxs : RI w 0 A c n xs) : Calls Tryz.prog 198 #[.slice A n c, .func (.func 125) #[] #[]] w fun E w' => E = .returned (.int .i64 (badAt xs)) ∧ w = w' := by
  have hl := Lib.hid hxs.1
  have hm : n ≤ 9223372036854775807 := by have := hxs.2.le; have := hxs.2.cap; unfold maxLen at this; omega
  go_enter Tryz.func198, Tryz.ntmps198
  go_wp2
  go_loop [8] (fun i => ∃ k : Nat, k ≤ n ∧ i = .int .i64 k ∧ ∀ j, j < k → ∀ z, xs[j]? = some z → Sw.mixOk z = true) (fun i => n - (intOf i).toNat)
  case atStart => exact ⟨0, Nat.zero_le _, rfl, by omega⟩
  case round =>
    obtain ⟨k, hk, rfl, hrel⟩ := hrel
    have Hrel := Lib.hid hrel; clear hrel
    by_cases hlt : k < n
    · obtain ⟨g, off, y, rfl, hg0, hg, hd, hy, hc⟩ := at_I hxs hlt
      have Hy := Lib.hid hy; clear hd hy
      cases hmx : Sw.mixOk y
      · go_wp2_with (first | (go_at_call 125; refine (iBad_c _ _).mono ?_; rintro E w' ⟨rfl, rfl⟩))
        go_ret
        refine ⟨ret_i ?_, rfl⟩
        exact (badAt_here Hy.out Hrel.out hmx).symm
      · go_wp2_with (first | (go_at_call 125; refine (iBad_c _ _).mono ?_; rintro E w' ⟨rfl, rfl⟩))
        go_round
        case rel =>
          refine ⟨k + 1, by omega, by go_num, ?_⟩
          intro j hj z hz
          rcases Nat.lt_succ_iff_lt_or_eq.1 hj with hj' | rfl
          · exact Hrel.out j hj' z hz
          · rw [Hy.out] at hz; cases hz; exact hmx
        case measure => simp [intOf]; omega
    · go_wp2
      go_ret
      refine ⟨ret_i ?_, rfl⟩
      exact (badAt_none (by have := hl.out; omega) Hrel.out).symm

theorem iHasBad_c (A : Option Addr) (c n : Nat) (xs : List Int) (w : World) (hxs : RI w 0 A c n xs) : Calls Tryz.prog 124 #[.slice A n c, .func (.func 125) #[] #[]] w fun E w' => E = .returned (.bool (!xs.all Sw.mixOk)) ∧ w = w' := by
  have Hb := Lib.hid (badAt_iff xs)
  go_enter Tryz.func124, Tryz.ntmps124
  go_wp2_with (first | (go_at_call 198; apply Calls.mono; apply iBadAt_c; ((first | (apply Rs.at0; assumption) | (apply Ow.rs0; assumption)); exact kf_); rintro E w' ⟨rfl, rfl⟩))
  go_ret
  exact ⟨ret_b Hb.out, rfl⟩

theorem iTreOk_c (A : Option Addr) (c n : Nat) (xs : List Int) (w : World) (hxs : RI w 0 A c n xs) : Calls Tryz.prog 61 #[.slice A n c] w fun E w' => E = .returned (.bool (Sw.treOk xs)) ∧ w = w' := by
  have hl := Lib.hid hxs.1
  have hm : n ≤ 9223372036854775807 := by have := hxs.2.le; have := hxs.2.cap; unfold maxLen at this; omega
  have e : Sw.treOk xs = (decide (n ≤ 40) && xs.all Sw.mixOk) := by rw [Sw.treOk, ← hl.out]
  have He := Lib.hid e; clear e
  by_cases hn : n ≤ 40
  · go_enter Tryz.func61, Tryz.ntmps61
    go_wp2_with (first | (go_at_call 124; apply Calls.mono; apply iHasBad_c; ((first | (apply Rs.at0; assumption) | (apply Ow.rs0; assumption)); exact kf_); rintro E w' ⟨rfl, rfl⟩))
    go_ret
    exact ⟨ret_b (by rw [He.out]; simp [hn]), rfl⟩
  · go_enter Tryz.func61, Tryz.ntmps61
    go_wp2_with (first | (go_at_call 124; apply Calls.mono; apply iHasBad_c; ((first | (apply Rs.at0; assumption) | (apply Ow.rs0; assumption)); exact kf_); rintro E w' ⟨rfl, rfl⟩))
    go_ret
    exact ⟨ret_b (by rw [He.out]; simp [hn]), rfl⟩
end Go.Proofs.YtdbnbembjebfhaaGreat

namespace Go.Proofs.YtdbnbembjebfhaaGreat
set_option maxRecDepth 100000
set_option linter.unusedSimpArgs false
set_option linter.unusedVariables false
open Go.RowKit Go
set_option maxHeartbeats 400000

theorem iGrown_c (N : Nat) (A : Option Addr) (c n m k : Nat) (old : Int) (kn : Bool) (xs : List Int) (w : World) (hN : n ≤ N) (hxs : RI w 0 A c n xs) (h40 : n ≤ 40) (hall : xs.all Sw.mixOk = true) (hold : Sw.mixOk old = true) (hm : 1 ≤ m) (hmk : m ≤ k) (hk40 : k ≤ 40) : Calls Tryz.prog 264 #[.int .i64 m, .int .i64 k, .int .i64 old, .slice A n c, .bool kn] w fun E w' => ∃ a b, E = .returned (.tuple #[.agg #[.int .i64 a, .int .i64 b], .bool (Sw.grR m k old xs.reverse kn).isSome]) ∧ (∀ r, Sw.grR m k old xs.reverse kn = some r → r = (a, b)) ∧ Sw.mixOk a = true ∧ Sw.mixOk b = true ∧ Ex w w' := by
  induction N generalizing A c n m k kn xs w with
  | zero =>
    have hl := hxs.1
    obtain rfl : n = 0 := by omega
    have hx : xs = [] := List.eq_nil_of_length_eq_zero (by omega)
    subst hx
    clear hl
    by_cases hmk' : m = k
    · subst hmk'
      cases kn with
      | true =>
        go_enter Tryz.func264, Tryz.ntmps264
        go_wp2_with fail
        refine bodyPost_ret (v := .tuple #[.agg #[.int .i64 old, .int .i64 old], .bool true]) (by simp [results, Tryz.results264, go_sem, *]) rfl ?_
        exact ⟨old, old, by simp [Sw.grR], by simp [Sw.grR], hold, hold, ext_⟩
      | false =>
        go_enter Tryz.func264, Tryz.ntmps264
        go_wp2_with fail
        refine bodyPost_ret (v := .tuple #[.agg #[.int .i64 0, .int .i64 0], .bool false]) (by simp [results, Tryz.results264, go_sem, *]) rfl ?_
        exact ⟨0, 0, by simp [Sw.grR], by simp [Sw.grR], rfl, rfl, ext_⟩
    · have hb : ((m : Int) == k) = false := by simp; omega
      go_enter Tryz.func264, Tryz.ntmps264
      go_wp2_with fail
      refine bodyPost_ret (v := .tuple #[.agg #[.int .i64 0, .int .i64 0], .bool false]) (by simp [results, Tryz.results264, go_sem, *]) rfl ?_
      exact ⟨0, 0, by simp [Sw.grR, hmk'], by simp [Sw.grR, hmk'], rfl, rfl, ext_⟩
  | succ N ih =>
    have hl := Lib.hid hxs.1
    have hcap := hxs.2.le
    by_cases h0 : n = 0
    · subst h0
      have hx : xs = [] := List.eq_nil_of_length_eq_zero (by have := hl.out; omega)
      subst hx
      exact ih _ c 0 m k kn [] w (by omega) hxs (by omega) hall hm hmk hk40
    · obtain ⟨p, rfl⟩ : ∃ p, n = p + 1 := ⟨n - 1, by omega⟩
      obtain ⟨g, off, y, rfl, hg0, hg, hd, hy, hc⟩ := at_I hxs (show p < p + 1 by omega)
      have hrev := rev_snoc (by have := hl.out; omega) hy
      have hyok : Sw.mixOk y = true := List.all_eq_true.1 hall y (List.mem_of_getElem? hy)
      rw [hrev]
      have Hy := Lib.hid hy
      clear hd hy hrev
      have w1 : IntKind.i64.wrap ((p : Int) + 1 - 1) = p := by rw [IntWalk.i64_in _ (by omega)]; omega
      have tp : (p : Int) < (p : Int) + 1 := by omega
      by_cases hmk' : m = k
      · subst hmk'
        cases kn with
        | true =>
          have hb1 : decide ((p : Int) < 0) = false := by simp
          go_enter Tryz.func264, Tryz.ntmps264
          go_wp2_with fail
          refine bodyPost_ret (v := .tuple #[.agg #[.int .i64 old, .int .i64 old], .bool false]) (by simp [results, Tryz.results264, go_sem, *]) rfl ?_
          exact ⟨old, old, by simp [Sw.grR], by simp [Sw.grR], hold, hold, ext_⟩
        | false =>
          have hb1 : decide ((p : Int) < 0) = false := by simp
          obtain ⟨g', off', z, hA', hg0', hg', _, hz', hc'⟩ := at_I hxs (show 0 < p + 1 by omega)
          cases hA'
          simp only [Nat.add_zero] at hc'
          have hzok : Sw.mixOk z = true := List.all_eq_true.1 hall z (List.mem_of_getElem? hz')
          have Hz := Lib.hid hz'; clear hz'
          have t0 : (0 : Int) < (p : Int) + 1 := by omega
          go_enter Tryz.func264, Tryz.ntmps264
          go_wp2_with fail
          (refine wp_name ?_; intro W0 hb0; have hst := xr hb0; (try simp only [zA, zC, zD, zN] at hst); obtain ⟨hc0, hf0, hz0⟩ := hst; have hLb : Lb W0 (w.heap.size) 2 := Lb.ex (by exact lbc_) hb0; go_region_held3 (fun w' => HeldB (w.heap.size) 2 W0 w') ((first | with_reducible assumption | with_reducible exact HeldB.start hLb | with_reducible exact HeldB.of (by assumption) (by assumption) | ((repeat (first | with_reducible refine HeldB.set ?_ (by first | exact Or.inl rfl | exact Or.inr (by simp only [zA, zC, zD, zN]; omega) | exact Or.inr (by omega)) | with_reducible refine HeldB.alloc ?_ _ | with_reducible refine HeldB.drew ?_)); (first | with_reducible assumption | with_reducible exact HeldB.refl hLb | with_reducible exact HeldB.of (by assumption) (by assumption) | with_reducible exact HeldB.ex (by assumption) (by assumption))))) (fail); all_goals (rename HeldB (w.heap.size) 2 W0 _ => hHx; have hb := HeldB.ch hHx; have hst := xc hb; (try simp only [zA, zC, zD, zN] at hst); obtain ⟨hc, hf, hz⟩ := hst; have hLb3 := HeldB.lb hHx; (repeat (first | with_reducible replace hLb3 := Lb.unset hLb3 | with_reducible replace hLb3 := Lb.undrew hLb3)); obtain ⟨hcb, hfb⟩ := Lb.rules hLb3; clear hHx))
          go_wp2_with fail
          refine bodyPost_ret (v := .tuple #[.agg #[.int .i64 z, .int .i64 z], .bool ((p : Int) == 0)]) (by simp [results, Tryz.results264, go_sem, *]) rfl ?_
          have e : Sw.grR m m old (y :: (xs.take p).reverse) false = if p = 0 then some (y, y) else none := by
            rw [Sw.grR, if_pos rfl]
            simp only [Bool.false_eq_true, if_false, List.reverse_eq_nil_iff, List.take_eq_nil_iff]
            by_cases hp : p = 0
            · simp [hp]
            · have : xs ≠ [] := by rintro rfl; have := hl.out; simp at this
              simp [hp, this]
          rw [e]
          by_cases hp : p = 0
          · subst hp
            have : z = y := by have h1 := Hy.out; have h2 := Hz.out; rw [h1] at h2; exact (Option.some.inj h2).symm
            subst this
            exact ⟨z, z, by simp, by simp, hzok, hzok, ext_⟩
          · exact ⟨z, z, by simp [hp], by simp [hp], hzok, hzok, ext_⟩
      · have h2 : 2 ≤ k := by omega
        have hs1 := Sw.split_lt h2
        have hs0 := Sw.split_pos k
        have hb : ((m : Int) == k) = false := by simp; omega
        have hb1 : decide ((p : Int) < 0) = false := by simp
        by_cases hms : m ≤ Sw.split k
        · go_enter Tryz.func264, Tryz.ntmps264
          go_wp2_with (first | (go_at_call 63; apply Calls.mono; apply iSplit_c; (first | assumption | omega); (first | assumption | omega); rintro E w' ⟨rfl, rfl⟩) | (go_at_call 264; apply Calls.mono; apply ih; omega; (apply Rs.at0; apply RI_take hxs; omega; (exact kf_)); omega; exact List.all_take hall; omega; omega; omega; rintro E w1 ⟨a, b, rfl, hr, ha, hb', hb⟩; have hst := xr hb; (try simp only [zA, zC, zD, zN] at hst); obtain ⟨hc, hf, hz⟩ := hst))
          (refine wp_name ?_; intro W0 hb0; have hst := xr hb0; (try simp only [zA, zC, zD, zN] at hst); obtain ⟨hc0, hf0, hz0⟩ := hst; have hLb : Lb W0 (w.heap.size) 2 := Lb.ex (by exact lbc_) hb0; go_region_held3 (fun w' => HeldB (w.heap.size) 2 W0 w') ((first | with_reducible assumption | with_reducible exact HeldB.start hLb | with_reducible exact HeldB.of (by assumption) (by assumption) | ((repeat (first | with_reducible refine HeldB.set ?_ (by first | exact Or.inl rfl | exact Or.inr (by simp only [zA, zC, zD, zN]; omega) | exact Or.inr (by omega)) | with_reducible refine HeldB.alloc ?_ _ | with_reducible refine HeldB.drew ?_)); (first | with_reducible assumption | with_reducible exact HeldB.refl hLb | with_reducible exact HeldB.of (by assumption) (by assumption) | with_reducible exact HeldB.ex (by assumption) (by assumption))))) ((go_at_call 66; apply Calls.mono; apply pair_c; (first | assumption | omega); (first | assumption | omega); rintro E w' ⟨rfl, rfl⟩)); all_goals (rename HeldB (w.heap.size) 2 W0 _ => hHx; have hb := HeldB.ch hHx; have hst := xc hb; (try simp only [zA, zC, zD, zN] at hst); obtain ⟨hc, hf, hz⟩ := hst; have hLb3 := HeldB.lb hHx; (repeat (first | with_reducible replace hLb3 := Lb.unset hLb3 | with_reducible replace hLb3 := Lb.undrew hLb3)); obtain ⟨hcb, hfb⟩ := Lb.rules hLb3; clear hHx))
          go_wp2_with fail
          refine bodyPost_ret (v := .tuple #[.agg #[.int .i64 a, .int .i64 (Sw.pair b y)], .bool (Sw.grR m (Sw.split k) old (xs.take p).reverse kn).isSome]) (by simp [results, Tryz.results264, go_sem, *]) rfl ?_
          refine ⟨a, Sw.pair b y, ?_, ?_, ha, pair_ok _ _, ext_⟩
          · rw [Sw.grR, if_neg hmk', if_pos hms, Option.isSome_map]
          · intro r hr'
            rw [Sw.grR, if_neg hmk', if_pos hms, Option.map_eq_some_iff] at hr'
            obtain ⟨q, hq, rfl⟩ := hr'
            rw [hr q hq]
        · have y0 : IntKind.i64.wrap ((m : Int) - ↑(Sw.split k)) = ((m - Sw.split k : Nat) : Int) := by rw [IntWalk.i64_in _ (by omega)]; omega
          have y1 : IntKind.i64.wrap ((k : Int) - ↑(Sw.split k)) = ((k - Sw.split k : Nat) : Int) := by rw [IntWalk.i64_in _ (by omega)]; omega
          go_enter Tryz.func264, Tryz.ntmps264
          go_wp2_with (first | (go_at_call 63; apply Calls.mono; apply iSplit_c; (first | assumption | omega); (first | assumption | omega); rintro E w' ⟨rfl, rfl⟩) | (go_at_call 264; apply Calls.mono; apply ih; omega; (apply Rs.at0; apply RI_take hxs; omega; (exact kf_)); omega; exact List.all_take hall; omega; omega; omega; rintro E w1 ⟨a, b, rfl, hr, ha, hb', hb⟩; have hst := xr hb; (try simp only [zA, zC, zD, zN] at hst); obtain ⟨hc, hf, hz⟩ := hst))
          (refine wp_name ?_; intro W0 hb0; have hst := xr hb0; (try simp only [zA, zC, zD, zN] at hst); obtain ⟨hc0, hf0, hz0⟩ := hst; have hLb : Lb W0 (w.heap.size) 2 := Lb.ex (by exact lbc_) hb0; go_region_held3 (fun w' => HeldB (w.heap.size) 2 W0 w') ((first | with_reducible assumption | with_reducible exact HeldB.start hLb | with_reducible exact HeldB.of (by assumption) (by assumption) | ((repeat (first | with_reducible refine HeldB.set ?_ (by first | exact Or.inl rfl | exact Or.inr (by simp only [zA, zC, zD, zN]; omega) | exact Or.inr (by omega)) | with_reducible refine HeldB.alloc ?_ _ | with_reducible refine HeldB.drew ?_)); (first | with_reducible assumption | with_reducible exact HeldB.refl hLb | with_reducible exact HeldB.of (by assumption) (by assumption) | with_reducible exact HeldB.ex (by assumption) (by assumption))))) ((go_at_call 66; apply Calls.mono; apply pair_c; (first | assumption | omega); (first | assumption | omega); rintro E w' ⟨rfl, rfl⟩)); all_goals (rename HeldB (w.heap.size) 2 W0 _ => hHx; have hb := HeldB.ch hHx; have hst := xc hb; (try simp only [zA, zC, zD, zN] at hst); obtain ⟨hc, hf, hz⟩ := hst; have hLb3 := HeldB.lb hHx; (repeat (first | with_reducible replace hLb3 := Lb.unset hLb3 | with_reducible replace hLb3 := Lb.undrew hLb3)); obtain ⟨hcb, hfb⟩ := Lb.rules hLb3; clear hHx))
          go_wp2_with fail
          refine bodyPost_ret (v := .tuple #[.agg #[.int .i64 (Sw.pair y a), .int .i64 (Sw.pair y b)], .bool (Sw.grR (m - Sw.split k) (k - Sw.split k) old (xs.take p).reverse false).isSome]) (by simp [results, Tryz.results264, go_sem, *]) rfl ?_
          refine ⟨Sw.pair y a, Sw.pair y b, ?_, ?_, pair_ok _ _, pair_ok _ _, ext_⟩
          · rw [Sw.grR, if_neg hmk', if_neg hms, Option.isSome_map]
          · intro r hr'
            rw [Sw.grR, if_neg hmk', if_neg hms, Option.map_eq_some_iff] at hr'
            obtain ⟨q, hq, rfl⟩ := hr'
            rw [hr q hq]
end Go.Proofs.YtdbnbembjebfhaaGreat

namespace Go.Proofs.YtdbnbembjebfhaaGreat
set_option maxRecDepth 100000
set_option linter.unusedSimpArgs false
set_option linter.unusedVariables false
open Go.RowKit Go
set_option maxHeartbeats 400000

theorem iConCheck_c (m old nn r : Int) (A : Option Addr) (c n : Nat) (xs : List Int) (w : World) (hxs : RI w 0 A c n xs) : Calls Tryz.prog 247 #[.int .i64 m, .int .i64 old, .int .i64 nn, .int .i64 r, .slice A n c] w fun E w' => E = .returned (.bool (Sw.conCheck m old nn r xs)) ∧ Ex w w' := by
  have hl := Lib.hid hxs.1
  by_cases hg : (Sw.inR nn 1 40 && Sw.inR m 1 nn && Sw.mixOk old && Sw.mixOk r && Sw.treOk xs) = true
  · have hg' := hg
    simp only [Bool.and_eq_true] at hg'
    obtain ⟨⟨⟨⟨g1, g2⟩, g3⟩, g4⟩, g5⟩ := hg'
    have b1 : 1 ≤ nn ∧ nn ≤ 40 := by simpa [Sw.inR] using g1
    have b2 : 1 ≤ m ∧ m ≤ nn := by simpa [Sw.inR] using g2
    have h40 : n ≤ 40 := by have := hl.out; simp [Sw.treOk] at g5; omega
    have hall : xs.all Sw.mixOk = true := by simp only [Sw.treOk, Bool.and_eq_true] at g5; exact g5.2
    obtain ⟨k, rfl⟩ := Int.eq_ofNat_of_zero_le (show 0 ≤ nn by omega)
    obtain ⟨j, rfl⟩ := Int.eq_ofNat_of_zero_le (show 0 ≤ m by omega)
    have e : Sw.conCheck j old k r xs = (Sw.grR j k old xs.reverse true == some (old, r)) := by
      rw [Sw.conCheck, hg]; rfl
    have He := Lib.hid e
    clear e hg
    go_enter Tryz.func247, Tryz.ntmps247
    go_wp2_with (first | (go_at_call 114; refine (in_c _ _ _ _).mono ?_; rintro E w' ⟨rfl, rfl⟩) | (go_at_call 48; refine (iMixOk_c _ _).mono ?_; rintro E w' ⟨rfl, rfl⟩) | (go_at_call 61; apply Calls.mono; apply iTreOk_c; ((first | (apply Rs.at0; assumption) | (apply Ow.rs0; assumption)); exact kf_); rintro E w' ⟨rfl, rfl⟩) | (go_at_call 264; apply Calls.mono; apply (iGrown_c 40); omega; ((first | (apply Rs.at0; assumption) | (apply Ow.rs0; assumption)); exact kf_); omega; exact hall; exact g3; omega; omega; omega; rintro E w1 ⟨a, b, rfl, hr, ha, hb', hb⟩; have Hr := Lib.hid hr; clear hr; cases hs : Sw.grR j k old xs.reverse true))
    all_goals (go_ret; refine ⟨ret_b ?_, ext_⟩; rw [He.out, hs])
    · rfl
    all_goals
      obtain rfl := Hr.out _ hs
      rw [Bool.eq_iff_iff]
      simp [*]
  · have hg' : (Sw.inR nn 1 40 && Sw.inR m 1 nn && Sw.mixOk old && Sw.mixOk r && Sw.treOk xs) = false := by simpa using hg
    have e : Sw.conCheck m old nn r xs = false := by rw [Sw.conCheck, hg']; rfl
    rw [e]
    have Hg := Lib.hid hg'
    clear e hg hg'
    cases g1 : Sw.inR nn 1 40
    case false => go_enter Tryz.func247, Tryz.ntmps247; go_wp2_with (first | (go_at_call 114; refine (in_c _ _ _ _).mono ?_; rintro E w' ⟨rfl, rfl⟩)); go_ret; exact ⟨rfl, ext_⟩
    cases g2 : Sw.inR m 1 nn
    case false => go_enter Tryz.func247, Tryz.ntmps247; go_wp2_with (first | (go_at_call 114; refine (in_c _ _ _ _).mono ?_; rintro E w' ⟨rfl, rfl⟩)); go_ret; exact ⟨rfl, ext_⟩
    cases g3 : Sw.mixOk old
    case false => go_enter Tryz.func247, Tryz.ntmps247; go_wp2_with (first | (go_at_call 114; refine (in_c _ _ _ _).mono ?_; rintro E w' ⟨rfl, rfl⟩) | (go_at_call 48; refine (iMixOk_c _ _).mono ?_; rintro E w' ⟨rfl, rfl⟩)); go_ret; exact ⟨rfl, ext_⟩
    cases g4 : Sw.mixOk r
    case false => go_enter Tryz.func247, Tryz.ntmps247; go_wp2_with (first | (go_at_call 114; refine (in_c _ _ _ _).mono ?_; rintro E w' ⟨rfl, rfl⟩) | (go_at_call 48; refine (iMixOk_c _ _).mono ?_; rintro E w' ⟨rfl, rfl⟩)); go_ret; exact ⟨rfl, ext_⟩
    cases g5 : Sw.treOk xs
    case false => go_enter Tryz.func247, Tryz.ntmps247; go_wp2_with (first | (go_at_call 114; refine (in_c _ _ _ _).mono ?_; rintro E w' ⟨rfl, rfl⟩) | (go_at_call 48; refine (iMixOk_c _ _).mono ?_; rintro E w' ⟨rfl, rfl⟩) | (go_at_call 61; apply Calls.mono; apply iTreOk_c; ((first | (apply Rs.at0; assumption) | (apply Ow.rs0; assumption)); exact kf_); rintro E w' ⟨rfl, rfl⟩)); go_ret; exact ⟨rfl, ext_⟩
    have := Hg.out
    rw [g1, g2, g3, g4, g5] at this
    cases this

theorem iCloneInts_c (A : Option Addr) (c n : Nat) (xs : List Int) (w : World) (hxs : RI w 0 A c n xs) (hn : n ≤ 4194304) : Calls Tryz.prog 118 #[.slice A n c] w fun E w' => ∃ A' c', E = .returned (.slice A' n c') ∧ OwI w' w.heap.size A' c' n xs ∧ Ex w w' := by
  go_enter Tryz.func118, Tryz.ntmps118
  go_wp2_with (at_builtin; apply wpList_app (lo := w.heap.size) el_I one_I rfl rfl rfl rfl; (first | assumption | exact Ow.nil _ _ | (apply Ow.keep; assumption; exact kf_) | (refine Ow.new [] (by (first | rfl | (simp only [zA, zC, zD, zN]; done) | omega)) rfl rfl (fun _ => rfl) (by exact sz_) (by omega))); (first | ((first | (apply Rs.at0; assumption) | (apply Ow.rs0; assumption)); exact kf_)); omega; exact sz_; intro A1 c1 w2 ho1 hch1 hat1 hex1 hlow1; have hb := hex1 (fun _ => False) w (by exact ext_) (by exact sz_); have hz := hch1.size; (try simp only [zA, zC, zD, zN] at hz); obtain ⟨hc, hf⟩ := low_rules hlow1; clear hlow1 hex1)
  go_ret
  rw [Nat.zero_add, List.nil_append] at ho1
  exact ⟨A1, c1, rfl, ho1, ext_⟩
end Go.Proofs.YtdbnbembjebfhaaGreat

