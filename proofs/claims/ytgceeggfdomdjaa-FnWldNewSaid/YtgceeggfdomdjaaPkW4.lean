/-
  Texts joined: Impl2, Impl3, Impl4, ImpA, ImpB, Mon2, ImpC, Mon1, ImpD, MktA, Reg.
-/
import Derived.Test.YtgceeggfdomdjaaPkW3
import Derived.Test.YtgceeggfdomdjaaPkW2
import Derived.Deep.RegionHeld3
namespace Go.Proofs.Ytgceeggfdomdjaa
set_option maxRecDepth 100000
set_option linter.unusedSimpArgs false
set_option linter.unusedVariables false
open Go.RowKit Go
set_option maxHeartbeats 400000

theorem iGrown_c (N : Nat) (A : Option Addr) (c n m k : Nat) (old : Int) (kn : Bool) (xs : List Int) (w : World) (hN : n ≤ N) (hxs : RI w 0 A c n xs) (h40 : n ≤ 40) (hall : xs.all Sw.mixOk = true) (hold : Sw.mixOk old = true) (hm : 1 ≤ m) (hmk : m ≤ k) (hk40 : k ≤ 40) : Calls Try.prog 148 #[.int .i64 m, .int .i64 k, .int .i64 old, .slice A n c, .bool kn] w fun E w' => ∃ a b, E = .returned (.tuple #[.agg #[.int .i64 a, .int .i64 b], .bool (Sw.grR m k old xs.reverse kn).isSome]) ∧ (∀ r, Sw.grR m k old xs.reverse kn = some r → r = (a, b)) ∧ Sw.mixOk a = true ∧ Sw.mixOk b = true ∧ Ex w w' := by
  induction N generalizing A c n m k kn xs w with
  | zero =>
    have hl := hxs.1
    obtain rfl : n = 0 := by omega
    have hx : xs = [] := List.eq_nil_of_length_eq_zero (by omega)
    subst hx
    clear hl
    by_cases hmk' : m = k
    · subst hmk'
      cases kn with
      | true =>
        go_enter Try.func148, Try.ntmps148
        go_wp2_with fail
        refine bodyPost_ret (v := .tuple #[.agg #[.int .i64 old, .int .i64 old], .bool true]) (by simp [results, Try.results148, go_sem, *]) rfl ?_
        exact ⟨old, old, by simp [Sw.grR], by simp [Sw.grR], hold, hold, ext_⟩
      | false =>
        go_enter Try.func148, Try.ntmps148
        go_wp2_with fail
        refine bodyPost_ret (v := .tuple #[.agg #[.int .i64 0, .int .i64 0], .bool false]) (by simp [results, Try.results148, go_sem, *]) rfl ?_
        exact ⟨0, 0, by simp [Sw.grR], by simp [Sw.grR], rfl, rfl, ext_⟩
    · have hb : ((m : Int) == k) = false := by simp; omega
      go_enter Try.func148, Try.ntmps148
      go_wp2_with fail
      refine bodyPost_ret (v := .tuple #[.agg #[.int .i64 0, .int .i64 0], .bool false]) (by simp [results, Try.results148, go_sem, *]) rfl ?_
      exact ⟨0, 0, by simp [Sw.grR, hmk'], by simp [Sw.grR, hmk'], rfl, rfl, ext_⟩
  | succ N ih =>
    have hl := Lib.hid hxs.1
    have hcap := hxs.2.le
    by_cases h0 : n = 0
    · subst h0
      have hx : xs = [] := List.eq_nil_of_length_eq_zero (by have := hl.out; omega)
      subst hx
      exact ih _ c 0 m k kn [] w (by omega) hxs (by omega) hall hm hmk hk40
    · obtain ⟨p, rfl⟩ : ∃ p, n = p + 1 := ⟨n - 1, by omega⟩
      obtain ⟨g, off, y, rfl, hg0, hg, hd, hy, hc⟩ := at_I hxs (show p < p + 1 by omega)
      have hrev := rev_snoc (by have := hl.out; omega) hy
      have hyok : Sw.mixOk y = true := List.all_eq_true.1 hall y (List.mem_of_getElem? hy)
      rw [hrev]
      have Hy := Lib.hid hy
      clear hd hy hrev
      have w1 : IntKind.i64.wrap ((p : Int) + 1 - 1) = p := by rw [IntWalk.i64_in _ (by omega)]; omega
      have tp : (p : Int) < (p : Int) + 1 := by omega
      by_cases hmk' : m = k
      · subst hmk'
        cases kn with
        | true =>
          have hb1 : decide ((p : Int) < 0) = false := by simp
          go_enter Try.func148, Try.ntmps148
          go_wp2_with fail
          refine bodyPost_ret (v := .tuple #[.agg #[.int .i64 old, .int .i64 old], .bool false]) (by simp [results, Try.results148, go_sem, *]) rfl ?_
          exact ⟨old, old, by simp [Sw.grR], by simp [Sw.grR], hold, hold, ext_⟩
        | false =>
          have hb1 : decide ((p : Int) < 0) = false := by simp
          obtain ⟨g', off', z, hA', hg0', hg', _, hz', hc'⟩ := at_I hxs (show 0 < p + 1 by omega)
          cases hA'
          simp only [Nat.add_zero] at hc'
          have hzok : Sw.mixOk z = true := List.all_eq_true.1 hall z (List.mem_of_getElem? hz')
          have Hz := Lib.hid hz'; clear hz'
          have t0 : (0 : Int) < (p : Int) + 1 := by omega
          go_enter Try.func148, Try.ntmps148
          go_wp2_with fail
          (refine wp_name ?_; intro W0 hb0; have hst := xr hb0; (try simp only [zA, zC, zD, zN] at hst); obtain ⟨hc0, hf0, hz0⟩ := hst; have hLb : Lb W0 (w.heap.size) 2 := Lb.ex (by exact lbc_) hb0; go_region_held3 (fun w' => HeldB (w.heap.size) 2 W0 w') ((first | with_reducible assumption | with_reducible exact HeldB.start hLb | with_reducible exact HeldB.of (by assumption) (by assumption) | ((repeat (first | with_reducible refine HeldB.set ?_ (by first | exact Or.inl rfl | exact Or.inr (by simp only [zA, zC, zD, zN]; omega) | exact Or.inr (by omega)) | with_reducible refine HeldB.alloc ?_ _ | with_reducible refine HeldB.drew ?_)); (first | with_reducible assumption | with_reducible exact HeldB.refl hLb | with_reducible exact HeldB.of (by assumption) (by assumption) | with_reducible exact HeldB.ex (by assumption) (by assumption))))) (fail); all_goals (rename HeldB (w.heap.size) 2 W0 _ => hHx; have hb := HeldB.ch hHx; have hst := xc hb; (try simp only [zA, zC, zD, zN] at hst); obtain ⟨hc, hf, hz⟩ := hst; have hLb3 := HeldB.lb hHx; (repeat (first | with_reducible replace hLb3 := Lb.unset hLb3 | with_reducible replace hLb3 := Lb.undrew hLb3)); obtain ⟨hcb, hfb⟩ := Lb.rules hLb3; clear hHx))
          go_wp2_with fail
          refine bodyPost_ret (v := .tuple #[.agg #[.int .i64 z, .int .i64 z], .bool ((p : Int) == 0)]) (by simp [results, Try.results148, go_sem, *]) rfl ?_
          have e : Sw.grR m m old (y :: (xs.take p).reverse) false = if p = 0 then some (y, y) else none := by
            rw [Sw.grR, if_pos rfl]
            simp only [Bool.false_eq_true, if_false, List.reverse_eq_nil_iff, List.take_eq_nil_iff]
            by_cases hp : p = 0
            · simp [hp]
            · have : xs ≠ [] := by rintro rfl; have := hl.out; simp at this
              simp [hp, this]
          rw [e]
          by_cases hp : p = 0
          · subst hp
            have : z = y := by have h1 := Hy.out; have h2 := Hz.out; rw [h1] at h2; exact (Option.some.inj h2).symm
            subst this
            exact ⟨z, z, by simp, by simp, hzok, hzok, ext_⟩
          · exact ⟨z, z, by simp [hp], by simp [hp], hzok, hzok, ext_⟩
      · have h2 : 2 ≤ k := by omega
        have hs1 := Sw.split_lt h2
        have hs0 := Sw.split_pos k
        have hb : ((m : Int) == k) = false := by simp; omega
        have hb1 : decide ((p : Int) < 0) = false := by simp
        by_cases hms : m ≤ Sw.split k
        · go_enter Try.func148, Try.ntmps148
          go_wp2_with (first | (go_at_call 181; apply Calls.mono; apply iSplit_c; (first | assumption | omega); (first | assumption | omega); rintro E w' ⟨rfl, rfl⟩) | (go_at_call 148; apply Calls.mono; apply ih; omega; (apply Rs.at0; apply RI_take hxs; omega; (exact kf_)); omega; exact List.all_take hall; omega; omega; omega; rintro E w1 ⟨a, b, rfl, hr, ha, hb', hb⟩; have hst := xr hb; (try simp only [zA, zC, zD, zN] at hst); obtain ⟨hc, hf, hz⟩ := hst))
          (refine wp_name ?_; intro W0 hb0; have hst := xr hb0; (try simp only [zA, zC, zD, zN] at hst); obtain ⟨hc0, hf0, hz0⟩ := hst; have hLb : Lb W0 (w.heap.size) 2 := Lb.ex (by exact lbc_) hb0; go_region_held3 (fun w' => HeldB (w.heap.size) 2 W0 w') ((first | with_reducible assumption | with_reducible exact HeldB.start hLb | with_reducible exact HeldB.of (by assumption) (by assumption) | ((repeat (first | with_reducible refine HeldB.set ?_ (by first | exact Or.inl rfl | exact Or.inr (by simp only [zA, zC, zD, zN]; omega) | exact Or.inr (by omega)) | with_reducible refine HeldB.alloc ?_ _ | with_reducible refine HeldB.drew ?_)); (first | with_reducible assumption | with_reducible exact HeldB.refl hLb | with_reducible exact HeldB.of (by assumption) (by assumption) | with_reducible exact HeldB.ex (by assumption) (by assumption))))) ((go_at_call 182; apply Calls.mono; apply pair_c; (first | assumption | omega); (first | assumption | omega); rintro E w' ⟨rfl, rfl⟩)); all_goals (rename HeldB (w.heap.size) 2 W0 _ => hHx; have hb := HeldB.ch hHx; have hst := xc hb; (try simp only [zA, zC, zD, zN] at hst); obtain ⟨hc, hf, hz⟩ := hst; have hLb3 := HeldB.lb hHx; (repeat (first | with_reducible replace hLb3 := Lb.unset hLb3 | with_reducible replace hLb3 := Lb.undrew hLb3)); obtain ⟨hcb, hfb⟩ := Lb.rules hLb3; clear hHx))
          go_wp2_with fail
          refine bodyPost_ret (v := .tuple #[.agg #[.int .i64 a, .int .i64 (Sw.pair b y)], .bool (Sw.grR m (Sw.split k) old (xs.take p).reverse kn).isSome]) (by simp [results, Try.results148, go_sem, *]) rfl ?_
          refine ⟨a, Sw.pair b y, ?_, ?_, ha, pair_ok _ _, ext_⟩
          · rw [Sw.grR, if_neg hmk', if_pos hms, Option.isSome_map]
          · intro r hr'
            rw [Sw.grR, if_neg hmk', if_pos hms, Option.map_eq_some_iff] at hr'
            obtain ⟨q, hq, rfl⟩ := hr'
            rw [hr q hq]
        · have y0 : IntKind.i64.wrap ((m : Int) - ↑(Sw.split k)) = ((m - Sw.split k : Nat) : Int) := by rw [IntWalk.i64_in _ (by omega)]; omega
          have y1 : IntKind.i64.wrap ((k : Int) - ↑(Sw.split k)) = ((k - Sw.split k : Nat) : Int) := by rw [IntWalk.i64_in _ (by omega)]; omega
          go_enter Try.func148, Try.ntmps148
          go_wp2_with (first | (go_at_call 181; apply Calls.mono; apply iSplit_c; (first | assumption | omega); (first | assumption | omega); rintro E w' ⟨rfl, rfl⟩) | (go_at_call 148; apply Calls.mono; apply ih; omega; (apply Rs.at0; apply RI_take hxs; omega; (exact kf_)); omega; exact List.all_take hall; omega; omega; omega; rintro E w1 ⟨a, b, rfl, hr, ha, hb', hb⟩; have hst := xr hb; (try simp only [zA, zC, zD, zN] at hst); obtain ⟨hc, hf, hz⟩ := hst))
          (refine wp_name ?_; intro W0 hb0; have hst := xr hb0; (try simp only [zA, zC, zD, zN] at hst); obtain ⟨hc0, hf0, hz0⟩ := hst; have hLb : Lb W0 (w.heap.size) 2 := Lb.ex (by exact lbc_) hb0; go_region_held3 (fun w' => HeldB (w.heap.size) 2 W0 w') ((first | with_reducible assumption | with_reducible exact HeldB.start hLb | with_reducible exact HeldB.of (by assumption) (by assumption) | ((repeat (first | with_reducible refine HeldB.set ?_ (by first | exact Or.inl rfl | exact Or.inr (by simp only [zA, zC, zD, zN]; omega) | exact Or.inr (by omega)) | with_reducible refine HeldB.alloc ?_ _ | with_reducible refine HeldB.drew ?_)); (first | with_reducible assumption | with_reducible exact HeldB.refl hLb | with_reducible exact HeldB.of (by assumption) (by assumption) | with_reducible exact HeldB.ex (by assumption) (by assumption))))) ((go_at_call 182; apply Calls.mono; apply pair_c; (first | assumption | omega); (first | assumption | omega); rintro E w' ⟨rfl, rfl⟩)); all_goals (rename HeldB (w.heap.size) 2 W0 _ => hHx; have hb := HeldB.ch hHx; have hst := xc hb; (try simp only [zA, zC, zD, zN] at hst); obtain ⟨hc, hf, hz⟩ := hst; have hLb3 := HeldB.lb hHx; (repeat (first | with_reducible replace hLb3 := Lb.unset hLb3 | with_reducible replace hLb3 := Lb.undrew hLb3)); obtain ⟨hcb, hfb⟩ := Lb.rules hLb3; clear hHx))
          go_wp2_with fail
          refine bodyPost_ret (v := .tuple #[.agg #[.int .i64 (Sw.pair y a), .int .i64 (Sw.pair y b)], .bool (Sw.grR (m - Sw.split k) (k - Sw.split k) old (xs.take p).reverse false).isSome]) (by simp [results, Try.results148, go_sem, *]) rfl ?_
          refine ⟨Sw.pair y a, Sw.pair y b, ?_, ?_, pair_ok _ _, pair_ok _ _, ext_⟩
          · rw [Sw.grR, if_neg hmk', if_neg hms, Option.isSome_map]
          · intro r hr'
            rw [Sw.grR, if_neg hmk', if_neg hms, Option.map_eq_some_iff] at hr'
            obtain ⟨q, hq, rfl⟩ := hr'
            rw [hr q hq]
end Go.Proofs.Ytgceeggfdomdjaa

namespace Go.Proofs.Ytgceeggfdomdjaa
set_option maxRecDepth 100000
set_option linter.unusedSimpArgs false
set_option linter.unusedVariables false
open Go.RowKit Go
set_option maxHeartbeats 400000

theorem iConCheck_c (m old nn r : Int) (A : Option Addr) (c n : Nat) (xs : List Int) (w : World) (hxs : RI w 0 A c n xs) : Calls Try.prog 80 #[.int .i64 m, .int .i64 old, .int .i64 nn, .int .i64 r, .slice A n c] w fun E w' => E = .returned (.bool (Sw.conCheck m old nn r xs)) ∧ Ex w w' := by
  have hl := Lib.hid hxs.1
  by_cases hg : (Sw.inR nn 1 40 && Sw.inR m 1 nn && Sw.mixOk old && Sw.mixOk r && Sw.treOk xs) = true
  · have hg' := hg
    simp only [Bool.and_eq_true] at hg'
    obtain ⟨⟨⟨⟨g1, g2⟩, g3⟩, g4⟩, g5⟩ := hg'
    have b1 : 1 ≤ nn ∧ nn ≤ 40 := by simpa [Sw.inR] using g1
    have b2 : 1 ≤ m ∧ m ≤ nn := by simpa [Sw.inR] using g2
    have h40 : n ≤ 40 := by have := hl.out; simp [Sw.treOk] at g5; omega
    have hall : xs.all Sw.mixOk = true := by simp only [Sw.treOk, Bool.and_eq_true] at g5; exact g5.2
    obtain ⟨k, rfl⟩ := Int.eq_ofNat_of_zero_le (show 0 ≤ nn by omega)
    obtain ⟨j, rfl⟩ := Int.eq_ofNat_of_zero_le (show 0 ≤ m by omega)
    have e : Sw.conCheck j old k r xs = (Sw.grR j k old xs.reverse true == some (old, r)) := by
      rw [Sw.conCheck, hg]; rfl
    have He := Lib.hid e
    clear e hg
    go_enter Try.func80, Try.ntmps80
    go_wp2_with (first | (go_at_call 96; refine (in_c _ _ _ _).mono ?_; rintro E w' ⟨rfl, rfl⟩) | (go_at_call 79; refine (iMixOk_c _ _).mono ?_; rintro E w' ⟨rfl, rfl⟩) | (go_at_call 97; apply Calls.mono; apply iTreOk_c; ((first | (apply Rs.at0; assumption) | (apply Ow.rs0; assumption)); exact kf_); rintro E w' ⟨rfl, rfl⟩) | (go_at_call 148; apply Calls.mono; apply (iGrown_c 40); omega; ((first | (apply Rs.at0; assumption) | (apply Ow.rs0; assumption)); exact kf_); omega; exact hall; exact g3; omega; omega; omega; rintro E w1 ⟨a, b, rfl, hr, ha, hb', hb⟩; have Hr := Lib.hid hr; clear hr; cases hs : Sw.grR j k old xs.reverse true))
    all_goals (go_ret; refine ⟨ret_b ?_, ext_⟩; rw [He.out, hs])
    · rfl
    all_goals
      obtain rfl := Hr.out _ hs
      rw [Bool.eq_iff_iff]
      simp [*]
  · have hg' : (Sw.inR nn 1 40 && Sw.inR m 1 nn && Sw.mixOk old && Sw.mixOk r && Sw.treOk xs) = false := by simpa using hg
    have e : Sw.conCheck m old nn r xs = false := by rw [Sw.conCheck, hg']; rfl
    rw [e]
    have Hg := Lib.hid hg'
    clear e hg hg'
    cases g1 : Sw.inR nn 1 40
    case false => go_enter Try.func80, Try.ntmps80; go_wp2_with (first | (go_at_call 96; refine (in_c _ _ _ _).mono ?_; rintro E w' ⟨rfl, rfl⟩)); go_ret; exact ⟨rfl, ext_⟩
    cases g2 : Sw.inR m 1 nn
    case false => go_enter Try.func80, Try.ntmps80; go_wp2_with (first | (go_at_call 96; refine (in_c _ _ _ _).mono ?_; rintro E w' ⟨rfl, rfl⟩)); go_ret; exact ⟨rfl, ext_⟩
    cases g3 : Sw.mixOk old
    case false => go_enter Try.func80, Try.ntmps80; go_wp2_with (first | (go_at_call 96; refine (in_c _ _ _ _).mono ?_; rintro E w' ⟨rfl, rfl⟩) | (go_at_call 79; refine (iMixOk_c _ _).mono ?_; rintro E w' ⟨rfl, rfl⟩)); go_ret; exact ⟨rfl, ext_⟩
    cases g4 : Sw.mixOk r
    case false => go_enter Try.func80, Try.ntmps80; go_wp2_with (first | (go_at_call 96; refine (in_c _ _ _ _).mono ?_; rintro E w' ⟨rfl, rfl⟩) | (go_at_call 79; refine (iMixOk_c _ _).mono ?_; rintro E w' ⟨rfl, rfl⟩)); go_ret; exact ⟨rfl, ext_⟩
    cases g5 : Sw.treOk xs
    case false => go_enter Try.func80, Try.ntmps80; go_wp2_with (first | (go_at_call 96; refine (in_c _ _ _ _).mono ?_; rintro E w' ⟨rfl, rfl⟩) | (go_at_call 79; refine (iMixOk_c _ _).mono ?_; rintro E w' ⟨rfl, rfl⟩) | (go_at_call 97; apply Calls.mono; apply iTreOk_c; ((first | (apply Rs.at0; assumption) | (apply Ow.rs0; assumption)); exact kf_); rintro E w' ⟨rfl, rfl⟩)); go_ret; exact ⟨rfl, ext_⟩
    have := Hg.out
    rw [g1, g2, g3, g4, g5] at this
    cases this

theorem iCloneInts_c (A : Option Addr) (c n : Nat) (xs : List Int) (w : World) (hxs : RI w 0 A c n xs) (hn : n ≤ 4194304) : Calls Try.prog 86 #[.slice A n c] w fun E w' => ∃ A' c', E = .returned (.slice A' n c') ∧ OwI w' w.heap.size A' c' n xs ∧ Ex w w' := by
  go_enter Try.func86, Try.ntmps86
  go_wp2_with (at_builtin; apply wpList_app (lo := w.heap.size) el_I one_I rfl rfl rfl rfl; (first | assumption | exact Ow.nil _ _ | (apply Ow.keep; assumption; exact kf_) | (refine Ow.new [] (by (first | rfl | (simp only [zA, zC, zD, zN]; done) | omega)) rfl rfl (fun _ => rfl) (by exact sz_) (by omega))); (first | ((first | (apply Rs.at0; assumption) | (apply Ow.rs0; assumption)); exact kf_)); omega; exact sz_; intro A1 c1 w2 ho1 hch1 hat1 hex1 hlow1; have hb := hex1 (fun _ => False) w (by exact ext_) (by exact sz_); have hz := hch1.size; (try simp only [zA, zC, zD, zN] at hz); obtain ⟨hc, hf⟩ := low_rules hlow1; clear hlow1 hex1)
  go_ret
  rw [Nat.zero_add, List.nil_append] at ho1
  exact ⟨A1, c1, rfl, ho1, ext_⟩
end Go.Proofs.Ytgceeggfdomdjaa

namespace Go.Proofs.Ytgceeggfdomdjaa
set_option maxRecDepth 100000
set_option linter.unusedSimpArgs false
set_option linter.unusedVariables false
open Go.RowKit Go
set_option maxHeartbeats 400000

theorem iHedFollows_c (o t : Sw.Head) (A : Option Addr) (c n : Nat) (xs : List Int) (w : World) (hxs : RI w 0 A c n xs) : Calls Try.prog 22 #[.agg #[.int .i64 o.size, .int .i64 o.log, .int .i64 o.own], .agg #[.int .i64 t.size, .int .i64 t.log, .int .i64 t.own], .slice A n c] w fun E w' => E = .returned (.bool (Sw.hedFollows o t xs)) ∧ Ex w w' := by
  have hl := Lib.hid hxs.1
  cases g1 : Sw.hedOk o
  case false =>
    go_enter Try.func22, Try.ntmps22; go_wp2_with (first | (go_at_call 76; refine (iHedOk_c _ _).mono ?_; rintro E w1 ⟨rfl, hb⟩; have hst := xr hb; (try simp only [zA, zC, zD, zN] at hst); obtain ⟨hc, hf, hz⟩ := hst)); go_ret; exact ⟨ret_b (by simp [Sw.hedFollows, g1]), ext_⟩
  cases g2 : Sw.hedOk t
  case false =>
    go_enter Try.func22, Try.ntmps22; go_wp2_with (first | (go_at_call 76; refine (iHedOk_c _ _).mono ?_; rintro E w1 ⟨rfl, hb⟩; have hst := xr hb; (try simp only [zA, zC, zD, zN] at hst); obtain ⟨hc, hf, hz⟩ := hst)); go_ret; exact ⟨ret_b (by simp [Sw.hedFollows, g2]), ext_⟩
  by_cases g3 : o.size ≤ t.size
  case neg =>
    have e : Sw.hedFollows o t xs = false := by simp [Sw.hedFollows, g3]
    rw [e]; clear e
    have g3' : t.size < o.size := by omega
    go_enter Try.func22, Try.ntmps22; go_wp2_with (first | (go_at_call 76; refine (iHedOk_c _ _).mono ?_; rintro E w1 ⟨rfl, hb⟩; have hst := xr hb; (try simp only [zA, zC, zD, zN] at hst); obtain ⟨hc, hf, hz⟩ := hst)); go_ret; exact ⟨rfl, ext_⟩
  have n1 := g1; have n2 := g2
  simp only [Sw.hedOk, Sw.inR, Bool.and_eq_true, decide_eq_true_eq] at n1 n2
  obtain ⟨⟨⟨o0, _⟩, _⟩, _⟩ := n1
  obtain ⟨⟨⟨t0, _⟩, _⟩, _⟩ := n2
  have g3' : decide (t.size < o.size) = false := by simp; omega
  by_cases g4 : o.size = 0
  · have z0 : (o.size == 0) = true := by simp [g4]
    have hle : decide (o.size ≤ t.size) = true := by simp [g3]
    have e : Sw.hedFollows o t xs = ((decide (o.size ≠ t.size) || decide (o = t)) && xs.isEmpty) := by rw [Sw.hedFollows, g1, g2, hle, if_pos g4]; simp
    have He := Lib.hid e
    have G4 := Lib.hid g4
    clear e g4
    by_cases hn : n = 0
    · have hx : xs = [] := List.eq_nil_of_length_eq_zero (by have := hl.out; omega)
      subst hx
      subst hn
      clear hl
      go_enter Try.func22, Try.ntmps22
      go_wp2_with (first | (go_at_call 76; refine (iHedOk_c _ _).mono ?_; rintro E w1 ⟨rfl, hb⟩; have hst := xr hb; (try simp only [zA, zC, zD, zN] at hst); obtain ⟨hc, hf, hz⟩ := hst))
      all_goals (go_ret; refine ⟨ret_b ?_, ext_⟩; rw [He.out]; have g4 := G4.out; clear He G4; go_tidy; simp only [head_ext])
      all_goals (first | (simp [*]; done) | (simp [*]; omega) | (simp_all; done) | (simp_all; omega))
    · have hb : ((n : Int) == 0) = false := by simp; omega
      have hx : xs.isEmpty = false := by
        cases xs with
        | nil => exact absurd hl.out hn
        | cons _ _ => rfl
      go_enter Try.func22, Try.ntmps22
      go_wp2_with (first | (go_at_call 76; refine (iHedOk_c _ _).mono ?_; rintro E w1 ⟨rfl, hb⟩; have hst := xr hb; (try simp only [zA, zC, zD, zN] at hst); obtain ⟨hc, hf, hz⟩ := hst))
      all_goals (go_ret; exact ⟨ret_b (by rw [He.out, hx]; simp), ext_⟩)
  · have z0 : (o.size == 0) = false := by simp [g4]
    have hle : decide (o.size ≤ t.size) = true := by simp [g3]
    have e : Sw.hedFollows o t xs = ((decide (o.size ≠ t.size) || decide (o = t)) && Sw.conCheck o.size o.log t.size t.log xs) := by rw [Sw.hedFollows, g1, g2, hle, if_neg g4]; simp
    have He := Lib.hid e
    clear e g4
    go_enter Try.func22, Try.ntmps22
    go_wp2_with (first | (go_at_call 76; refine (iHedOk_c _ _).mono ?_; rintro E w1 ⟨rfl, hb⟩; have hst := xr hb; (try simp only [zA, zC, zD, zN] at hst); obtain ⟨hc, hf, hz⟩ := hst) | (go_at_call 80; apply Calls.mono; apply iConCheck_c; ((first | (apply Rs.at0; assumption) | (apply Ow.rs0; assumption)); exact kf_); rintro E w1 ⟨rfl, hb⟩; have hst := xr hb; (try simp only [zA, zC, zD, zN] at hst); obtain ⟨hc, hf, hz⟩ := hst))
    all_goals (go_ret; refine ⟨ret_b ?_, ext_⟩; rw [He.out]; clear He; go_tidy; simp only [head_ext])
    all_goals (first | (simp [*]; done) | (simp [*]; omega) | (simp_all; done) | (simp_all; omega))
end Go.Proofs.Ytgceeggfdomdjaa

namespace Go.Proofs.Ytgceeggfdomdjaa
set_option maxRecDepth 100000
set_option linter.unusedSimpArgs false
set_option linter.unusedVariables false
open Go.RowKit Go
set_option maxHeartbeats 400000

theorem isUser_c (n : Int) (w : World) : Calls Try.prog 150 #[.int .i64 n] w fun E w' => E = .returned (.bool (Sw.inR n 1 5)) ∧ w = w' := by
  go_enter Try.func150, Try.ntmps150
  go_wp2_with (first | (go_at_call 96; refine (in_c _ _ _ _).mono ?_; rintro E w' ⟨rfl, rfl⟩))
  all_goals (go_ret; exact ⟨rfl, rfl⟩)
theorem isFace_c (n : Int) (w : World) : Calls Try.prog 129 #[.int .i64 n] w fun E w' => E = .returned (.bool (Sw.inR n 1 50)) ∧ w = w' := by
  go_enter Try.func129, Try.ntmps129
  go_wp2_with (first | (go_at_call 96; refine (in_c _ _ _ _).mono ?_; rintro E w' ⟨rfl, rfl⟩))
  all_goals (go_ret; exact ⟨rfl, rfl⟩)
theorem iEntCap_c (f : Int) (w : World) : Calls Try.prog 58 #[.int .i64 f] w fun E w' => E = .returned (.int .i64 (Sw.entCap f)) ∧ w = w' := by
  by_cases h : Sw.inR f 1 50 = true
  · have h' : 1 ≤ f ∧ f ≤ 50 := by simpa [Sw.inR] using h
    obtain ⟨a, b⟩ := h'
    go_enter Try.func58, Try.ntmps58
    go_wp2_with (first | (go_at_call 129; refine (isFace_c _ _).mono ?_; rintro E w' ⟨rfl, rfl⟩))
    all_goals (go_ret; refine ⟨ret_i (by simp [Sw.entCap, h]), rfl⟩)
  · go_enter Try.func58, Try.ntmps58
    go_wp2_with (first | (go_at_call 129; refine (isFace_c _ _).mono ?_; rintro E w' ⟨rfl, rfl⟩))
    all_goals (go_ret; refine ⟨ret_i (by simp [Sw.entCap, h]), rfl⟩)
theorem iEntOk_c (e : Sw.Ent) (w : World) : Calls Try.prog 198 #[.agg #[.int .i64 e.kind, .int .i64 e.ticket, .int .i64 e.who, .int .i64 e.price]] w fun E w' => E = .returned (.bool (Sw.entOk e)) ∧ Ex w w' := by
  go_enter Try.func198, Try.ntmps198
  go_wp2_with (first | (go_at_call 75; refine (isTicket_c _ _).mono ?_; rintro E w' ⟨rfl, rfl⟩) | (go_at_call 150; refine (isUser_c _ _).mono ?_; rintro E w' ⟨rfl, rfl⟩) | (go_at_call 129; refine (isFace_c _ _).mono ?_; rintro E w' ⟨rfl, rfl⟩) | (go_at_call 96; refine (in_c _ _ _ _).mono ?_; rintro E w' ⟨rfl, rfl⟩) | (go_at_call 58; refine (iEntCap_c _ _).mono ?_; rintro E w' ⟨rfl, rfl⟩))
  all_goals (try (refine wp_name ?_; intro W0 hb0; have hst := xr hb0; (try simp only [zA, zC, zD, zN] at hst); obtain ⟨hc0, hf0, hz0⟩ := hst; go_region_held3 (fun w' => Held W0 w') ((first | with_reducible assumption | with_reducible exact Held.start _ | with_reducible exact Held.of (by assumption) | with_reducible exact Held.ex (by assumption) (by assumption) | ((repeat (first | with_reducible refine Held.set ?_ (by simp only [zA, zC, zD, zN]; omega) | with_reducible refine Held.alloc ?_ _ | with_reducible refine Held.drew ?_)); (first | with_reducible assumption | with_reducible exact Held.refl _ | with_reducible exact Held.of (by assumption) | with_reducible exact Held.ex (by assumption) (by assumption))) | exact Held.of (by exact ext_))) ((first | (go_at_call 75; refine (isTicket_c _ _).mono ?_; rintro E w' ⟨rfl, rfl⟩) | (go_at_call 150; refine (isUser_c _ _).mono ?_; rintro E w' ⟨rfl, rfl⟩) | (go_at_call 129; refine (isFace_c _ _).mono ?_; rintro E w' ⟨rfl, rfl⟩) | (go_at_call 96; refine (in_c _ _ _ _).mono ?_; rintro E w' ⟨rfl, rfl⟩) | (go_at_call 58; refine (iEntCap_c _ _).mono ?_; rintro E w' ⟨rfl, rfl⟩))); all_goals (have hb := And.right (by assumption : Held W0 _); have hst := xr hb; (try simp only [zA, zC, zD, zN] at hst); obtain ⟨hc, hf, hz⟩ := hst)))
  all_goals go_wp2
  all_goals (go_ret; refine ⟨ret_b ?_, (by first | rfl | exact ext_)⟩; go_tidy; (try simp only [Bool.not_eq_true', Bool.not_eq_false', Bool.not_eq_true, Bool.not_eq_false, beq_iff_eq, bne_iff_ne, ne_eq, beq_eq_false_iff_ne, bne_eq_false_iff_eq] at *); (first | rfl | (simp [Sw.entOk, Sw.entCap, show Sw.inR 50 1 50 = true from by decide, *]; done) | (simp [Sw.entOk, Sw.entCap, show Sw.inR 50 1 50 = true from by decide, *]; omega) | (simp [Sw.entOk, Sw.entCap, show Sw.inR 50 1 50 = true from by decide, beqI, *]; done) | (simp_all [Sw.entOk, Sw.entCap, show Sw.inR 50 1 50 = true from by decide, beqI]; done) | (simp_all [Sw.entOk, Sw.entCap, show Sw.inR 50 1 50 = true from by decide, beqI] <;> omega) | simp_all [Sw.entOk, Sw.entCap, show Sw.inR 50 1 50 = true from by decide, beqI]))

theorem iMixLeaf_c (A : Option Addr) (c n : Nat) (xs : List Int) (w : World) (h : RI w 0 A c n xs) (hn : n ≤ 4194304) : Calls Try.prog 205 #[.slice A n c] w fun E w' => E = .returned (.int .i64 (Sw.mixLeaf xs)) ∧ w = w' := by
  have hl := Lib.hid h.1
  go_enter Try.func205, Try.ntmps205
  go_wp2
  go_loop [3, 8] (fun m i => ∃ (k : Nat) (x : Int), k ≤ n ∧ i = .int .i64 k ∧ m = .int .i64 x ∧ 0 ≤ x ∧ x ≤ 65520 ∧ Sw.mixLeafFrom 7 xs = Sw.mixLeafFrom x (xs.drop k)) (fun _ i => n - (intOf i).toNat)
  case atStart => exact ⟨0, 7, Nat.zero_le _, rfl, rfl, by omega, by omega, rfl⟩
  case round =>
    obtain ⟨k, x, hk, rfl, rfl, x0, x1, hrel⟩ := hrel
    by_cases hlt : k < n
    · obtain ⟨g, off, y, rfl, hg0, hg, hd, hy, hc⟩ := at_I h hlt
      rw [hd] at hrel
      clear hd hy
      have Hrel := Lib.hid hrel; clear hrel
      obtain ⟨y0, y1⟩ := tmod_bd y
      have hbd := leafStep_bd x y
      by_cases hneg : y.tmod 65521 < 0
      · go_wp2
        go_round
        case rel => exact ⟨k + 1, Sw.leafStep x y, by omega, by go_num, int_i (by unfold Sw.leafStep; rw [Int.tmod_eq_emod] at *; split <;> omega), hbd.1, hbd.2, Hrel.out⟩
        case measure => simp [intOf]; omega
      · go_wp2
        go_round
        case rel => exact ⟨k + 1, Sw.leafStep x y, by omega, by go_num, int_i (by unfold Sw.leafStep; rw [Int.tmod_eq_emod] at *; split <;> omega), hbd.1, hbd.2, Hrel.out⟩
        case measure => simp [intOf]; omega
    · have Hrel := Lib.hid hrel; clear hrel
      go_wp2
      go_ret
      refine ⟨ret_i ?_, rfl⟩
      have := Hrel.out
      rw [List.drop_of_length_le (by have := hl.out; omega)] at this
      unfold Sw.mixLeaf
      rw [this, hl.out]
      rfl
theorem iEntLeaf_c (e : Sw.Ent) (w : World) : Calls Try.prog 184 #[.agg #[.int .i64 e.kind, .int .i64 e.ticket, .int .i64 e.who, .int .i64 e.price]] w fun E w' => E = .returned (.int .i64 (Sw.entLeaf e)) ∧ Ex w w' := by
  go_enter Try.func184, Try.ntmps184
  go_wp2_with (go_at_call 205; apply Calls.mono; apply (iMixLeaf_c (xs := [e.kind, e.ticket, e.who, e.price])); (refine Rs.new _ (by simp only [zA, zC, zD, zN]) rfl rfl (fun _ => rfl) (by omega)); omega; rintro E w' ⟨rfl, rfl⟩)
  go_ret
  exact ⟨rfl, ext_⟩
theorem iOwnLeaf_c (t : Int) (r : Sw.Row) (w : World) : Calls Try.prog 206 #[.int .i64 t, .agg #[.int .i64 r.who, .int .i64 r.face, .bool r.used]] w fun E w' => E = .returned (.int .i64 (Sw.ownLeaf t r)) ∧ Ex w w' := by
  by_cases h : Sw.inR t 0 7 = true
  · have h' : 0 ≤ t ∧ t ≤ 7 := by simpa [Sw.inR] using h
    obtain ⟨t0, t1⟩ := h'
    cases hu : r.used
    · go_enter Try.func206, Try.ntmps206
      go_wp2_with (first | (go_at_call 75; refine (isTicket_c _ _).mono ?_; rintro E w' ⟨rfl, rfl⟩) | (go_at_call 205; apply Calls.mono; apply (iMixLeaf_c (xs := [1000 + t, r.who, r.face, 0])); (refine Rs.new _ (by simp only [zA, zC, zD, zN]) rfl rfl (fun _ => rfl) (by omega)); omega; rintro E w' ⟨rfl, rfl⟩))
      go_ret
      exact ⟨ret_i (by simp [Sw.ownLeaf, h, hu]), ext_⟩
    · go_enter Try.func206, Try.ntmps206
      go_wp2_with (first | (go_at_call 75; refine (isTicket_c _ _).mono ?_; rintro E w' ⟨rfl, rfl⟩) | (go_at_call 205; apply Calls.mono; apply (iMixLeaf_c (xs := [1000 + t, r.who, r.face, 1])); (refine Rs.new _ (by simp only [zA, zC, zD, zN]) rfl rfl (fun _ => rfl) (by omega)); omega; rintro E w' ⟨rfl, rfl⟩))
      go_ret
      exact ⟨ret_i (by simp [Sw.ownLeaf, h, hu]), ext_⟩
  · go_enter Try.func206, Try.ntmps206
    go_wp2_with (first | (go_at_call 75; refine (isTicket_c _ _).mono ?_; rintro E w' ⟨rfl, rfl⟩))
    go_ret
    exact ⟨ret_i (by simp [Sw.ownLeaf, h]), ext_⟩

theorem iOwnOk_c (A : Option Addr) (c n : Nat) (xs : List Sw.Row) (w : World) (hxs : RR w 0 A c n xs) : Calls Try.prog 185 #[.slice A n c] w fun E w' => E = .returned (.bool (Sw.ownOk xs)) ∧ Ex w w' := by
  have hl := Lib.hid hxs.1
  have hbig := Rs.big hxs
  go_enter Try.func185, Try.ntmps185
  go_wp2_with fail
  go_loopw [7] (fun i wr => ∃ (k : Nat), k ≤ n ∧ i = .int .i64 k ∧ Ex w wr ∧ xs.all Sw.rowOk = (xs.drop k).all Sw.rowOk) (fun i _ => n - (intOf i).toNat)
  case atStart => exact ⟨0, Nat.zero_le _, rfl, ext_, rfl⟩
  case round =>
    obtain ⟨k, hk, rfl, hb, hrel⟩ := hrel
    have hst := Ex.rules hb rfl
    obtain ⟨hc, hf, hz⟩ := hst
    by_cases hlt : k < n
    · obtain ⟨g, off, y, rfl, hg0, hg, hd, hy, hc0, hc1, hc2⟩ := at_R hxs hlt
      rw [hd] at hrel
      have Hrel := Lib.hid hrel; clear hd hy hrel
      go_wp2_with (first | (go_at_call 150; refine (isUser_c _ _).mono ?_; rintro E w' ⟨rfl, rfl⟩) | (go_at_call 129; refine (isFace_c _ _).mono ?_; rintro E w' ⟨rfl, rfl⟩))
      all_goals (first | (refine ⟨⟨k + 1, by omega, by go_num, (by exact ext_), ?_⟩, by simp [intOf]; omega⟩; have hh := Hrel.out; clear Hrel; rw [List.all_cons] at hh; rw [hh]; clear hh; go_tidy; (try simp only [Bool.not_eq_true', Bool.not_eq_false', Bool.not_eq_true, Bool.not_eq_false, beq_iff_eq, bne_iff_ne, ne_eq, beq_eq_false_iff_ne, bne_eq_false_iff_eq] at *); have hp : Sw.rowOk y = true := (by (first | (simp [Sw.rowOk, show Sw.inR 0 1 5 = false from rfl, *]; done) | (simp [Sw.rowOk, show Sw.inR 0 1 5 = false from rfl, *]; omega) | (simp [Sw.rowOk, show Sw.inR 0 1 5 = false from rfl, *]; intros; simp_all; done) | (simp_all [Sw.rowOk, show Sw.inR 0 1 5 = false from rfl]; done))); simp [hp]) | (go_ret; refine ⟨ret_b ?_, (by first | rfl | exact ext_)⟩; have hh := Hrel.out; clear Hrel; rw [List.all_cons] at hh; unfold Sw.ownOk; rw [hh]; clear hh; go_tidy; (try simp only [Bool.not_eq_true', Bool.not_eq_false', Bool.not_eq_true, Bool.not_eq_false, beq_iff_eq, bne_iff_ne, ne_eq, beq_eq_false_iff_ne, bne_eq_false_iff_eq] at *); have hp : Sw.rowOk y = false := (by (first | (simp [Sw.rowOk, show Sw.inR 0 1 5 = false from rfl, *]; done) | (simp [Sw.rowOk, show Sw.inR 0 1 5 = false from rfl, *]; omega) | (simp [Sw.rowOk, show Sw.inR 0 1 5 = false from rfl, *]; intros; simp_all; done) | (simp_all [Sw.rowOk, show Sw.inR 0 1 5 = false from rfl]; done))); simp [hp]))
    · have Hrel := Lib.hid hrel; clear hrel
      go_wp2
      go_ret
      refine ⟨ret_b ?_, ext_⟩
      have := Hrel.out
      rw [List.drop_of_length_le (by have := hl.out; omega)] at this
      rw [Sw.ownOk, this, ← hl.out, show ((n : Int) == 8) = decide (n = 8) from by rw [beqI, decide_eq_decide]; omega]
      simp

theorem iFits_c (A : Option Addr) (c : Nat) (xs : List Sw.Row) (e : Sw.Ent) (w : World) (hxs : RR w 0 A c 8 xs) (ht0 : 0 ≤ e.ticket) (ht1 : e.ticket ≤ 7) : Calls Try.prog 199 #[.slice A 8 c, .agg #[.int .i64 e.kind, .int .i64 e.ticket, .int .i64 e.who, .int .i64 e.price]] w fun E w' => E = .returned (.bool (Sw.fitsRow (Sw.rowAt xs e.ticket) e)) ∧ Ex w w' := by
  have hl := Lib.hid hxs.1
  obtain ⟨t, ht'⟩ := Int.eq_ofNat_of_zero_le ht0
  have hlt : t < 8 := by omega
  obtain ⟨g, off, y, rfl, hg0, hg, hd, hy, hc0, hc1, hc2⟩ := at_R hxs hlt
  have hrow : Sw.rowAt xs e.ticket = y := by simp [Sw.rowAt, ht', hy]
  rw [hrow]
  clear hrow hd hy
  have Ht := Lib.hid ht'
  have ht2 : e.ticket < 8 := by omega
  have e0 : e.ticket.toNat = t := by omega
  clear ht'
  obtain ⟨yw, yf, yu⟩ := y
  dsimp only at hc0 hc1 hc2
  by_cases k1 : e.kind = 1
  · have hk1 : (e.kind == 1) = true := by simp [k1]
    have K1 := Lib.hid k1; clear k1
    go_enter Try.func199, Try.ntmps199
    go_wp2_with (first | (go_at_call 58; refine (iEntCap_c _ _).mono ?_; rintro E w' ⟨rfl, rfl⟩))
    go_ret
    exact ⟨ret_b (by simp [Sw.fitsRow, K1.out, beqI]), ext_⟩
  have hk1 : (e.kind == 1) = false := by simp [k1]
  by_cases k2 : e.kind = 2
  · have hk2 : (e.kind == 2) = true := by simp [k2]
    have K2 := Lib.hid k2; clear k2
    cases b1 : (yw == 0)
    case true =>
      have b1' : (yw != 0) = false := by rw [bne, b1]; rfl
      go_enter Try.func199, Try.ntmps199
      go_wp2_with fail
      go_quiet ((first | (go_at_call 58; exact Calls.quiet_same (iEntCap_c _ _))))
      go_wp2
      go_ret
      exact ⟨ret_b (by simp only [Sw.fitsRow, K2.out]; simp only [← beqI, decide_not, ne_eq, b1]; simp), ext_⟩
    have b1' : (yw != 0) = true := by rw [bne, b1]; rfl
    cases b2 : (yw == e.who)
    case true =>
      have b2' : (yw != e.who) = false := by rw [bne, b2]; rfl
      go_enter Try.func199, Try.ntmps199
      go_wp2_with fail
      go_quiet ((first | (go_at_call 58; exact Calls.quiet_same (iEntCap_c _ _))))
      go_wp2
      go_ret
      exact ⟨ret_b (by simp only [Sw.fitsRow, K2.out]; simp only [← beqI, decide_not, ne_eq, b2]; simp), ext_⟩
    have b2' : (yw != e.who) = true := by rw [bne, b2]; rfl
    cases yu
    all_goals
      go_enter Try.func199, Try.ntmps199
      go_wp2_with fail
      go_quiet ((first | (go_at_call 58; exact Calls.quiet_same (iEntCap_c _ _))))
      go_wp2
      go_ret
      exact ⟨ret_b (by simp only [Sw.fitsRow, K2.out]; simp only [← beqI, decide_not, ne_eq, b1, b2]; simp), ext_⟩
  have hk2 : (e.kind == 2) = false := by simp [k2]
  go_enter Try.func199, Try.ntmps199
  go_wp2_with (first | (go_at_call 58; refine (iEntCap_c _ _).mono ?_; rintro E w' ⟨rfl, rfl⟩))
  all_goals (go_ret; refine ⟨ret_b ?_, (by first | rfl | exact ext_)⟩; go_tidy; (try simp only [Bool.not_eq_true', Bool.not_eq_false', Bool.not_eq_true, Bool.not_eq_false, beq_iff_eq, bne_iff_ne, ne_eq, beq_eq_false_iff_ne, bne_eq_false_iff_eq] at *); (first | rfl | (simp [Sw.fitsRow, k1, k2, *]; done) | (simp [Sw.fitsRow, k1, k2, *]; omega) | (simp [Sw.fitsRow, k1, k2, beqI, *]; done) | (simp_all [Sw.fitsRow, k1, k2, beqI]; done) | (simp_all [Sw.fitsRow, k1, k2, beqI] <;> omega) | simp_all [Sw.fitsRow, k1, k2, beqI]))

theorem iOwnFits_c (A : Option Addr) (c n : Nat) (xs : List Sw.Row) (e : Sw.Ent) (w : World) (hxs : RR w 0 A c n xs) : Calls Try.prog 167 #[.slice A n c, .agg #[.int .i64 e.kind, .int .i64 e.ticket, .int .i64 e.who, .int .i64 e.price]] w fun E w' => E = .returned (.bool (Sw.ownFits xs e)) ∧ Ex w w' := by
  have hl := Lib.hid hxs.1
  cases h1 : Sw.ownOk xs
  case false =>
    go_enter Try.func167, Try.ntmps167; go_wp2_with (first | (go_at_call 185; apply Calls.mono; apply iOwnOk_c; ((first | (apply Rs.at0; assumption) | (apply Ow.rs0; assumption)); exact kf_); rintro E w1 ⟨rfl, hb⟩; have hst := xr hb; (try simp only [zA, zC, zD, zN] at hst); obtain ⟨hc, hf, hz⟩ := hst) | (go_at_call 198; refine (iEntOk_c _ _).mono ?_; rintro E w1 ⟨rfl, hb⟩; have hst := xr hb; (try simp only [zA, zC, zD, zN] at hst); obtain ⟨hc, hf, hz⟩ := hst)); go_ret; exact ⟨ret_b (by simp [Sw.ownFits, h1]), ext_⟩
  cases h2 : Sw.entOk e
  case false =>
    go_enter Try.func167, Try.ntmps167; go_wp2_with (first | (go_at_call 185; apply Calls.mono; apply iOwnOk_c; ((first | (apply Rs.at0; assumption) | (apply Ow.rs0; assumption)); exact kf_); rintro E w1 ⟨rfl, hb⟩; have hst := xr hb; (try simp only [zA, zC, zD, zN] at hst); obtain ⟨hc, hf, hz⟩ := hst) | (go_at_call 198; refine (iEntOk_c _ _).mono ?_; rintro E w1 ⟨rfl, hb⟩; have hst := xr hb; (try simp only [zA, zC, zD, zN] at hst); obtain ⟨hc, hf, hz⟩ := hst)); go_ret; exact ⟨ret_b (by simp [Sw.ownFits, h2]), ext_⟩
  obtain ⟨⟨t0, t7⟩, _⟩ := Sw.entOk_iff.1 h2
  have hn8 : n = 8 := by have := hl.out; have := Sw.ownOk_len h1; omega
  subst hn8
  go_enter Try.func167, Try.ntmps167
  go_wp2_with (first | (go_at_call 185; apply Calls.mono; apply iOwnOk_c; ((first | (apply Rs.at0; assumption) | (apply Ow.rs0; assumption)); exact kf_); rintro E w1 ⟨rfl, hb⟩; have hst := xr hb; (try simp only [zA, zC, zD, zN] at hst); obtain ⟨hc, hf, hz⟩ := hst) | (go_at_call 198; refine (iEntOk_c _ _).mono ?_; rintro E w1 ⟨rfl, hb⟩; have hst := xr hb; (try simp only [zA, zC, zD, zN] at hst); obtain ⟨hc, hf, hz⟩ := hst) | (go_at_call 199; apply Calls.mono; apply iFits_c; ((first | (apply Rs.at0; assumption) | (apply Ow.rs0; assumption)); exact kf_); (first | assumption | omega); (first | assumption | omega); rintro E w1 ⟨rfl, hb⟩; have hst := xr hb; (try simp only [zA, zC, zD, zN] at hst); obtain ⟨hc, hf, hz⟩ := hst))
  go_ret
  exact ⟨ret_b (by simp [Sw.ownFits, h1, h2]), ext_⟩

theorem iCloneRows_c (A : Option Addr) (c n : Nat) (xs : List Sw.Row) (w : World) (hxs : RR w 0 A c n xs) (hn : n ≤ 4194304) : Calls Try.prog 166 #[.slice A n c] w fun E w' => ∃ A' c', E = .returned (.slice A' n c') ∧ OwR w' w.heap.size A' c' n xs ∧ Ex w w' := by
  go_enter Try.func166, Try.ntmps166
  go_wp2_with (at_builtin; apply wpList_app (lo := w.heap.size) el_R one_R rfl rfl rfl rfl; (first | assumption | exact Ow.nil _ _ | (apply Ow.keep; assumption; exact kf_) | (refine Ow.new [] (by (first | rfl | (simp only [zA, zC, zD, zN]; done) | omega)) rfl rfl (fun _ => rfl) (by exact sz_) (by omega))); (first | ((first | (apply Rs.at0; assumption) | (apply Ow.rs0; assumption)); exact kf_)); omega; exact sz_; intro A1 c1 w2 ho1 hch1 hat1 hex1 hlow1; have hb := hex1 (fun _ => False) w (by exact ext_) (by exact sz_); have hz := hch1.size; (try simp only [zA, zC, zD, zN] at hz); obtain ⟨hc, hf⟩ := low_rules hlow1; clear hlow1 hex1)
  go_ret
  rw [Nat.zero_add, List.nil_append] at ho1
  exact ⟨A1, c1, rfl, ho1, ext_⟩
end Go.Proofs.Ytgceeggfdomdjaa

namespace Go.Proofs.Ytgceeggfdomdjaa
set_option maxRecDepth 100000
set_option linter.unusedSimpArgs false
set_option linter.unusedVariables false
open Go.RowKit Go
set_option maxHeartbeats 1000000

theorem iOwnPut_c (A : Option Addr) (c n : Nat) (xs : List Sw.Row) (e : Sw.Ent) (w : World) (hxs : RR w 0 A c n xs) (hn : n ≤ 4194304) : Calls Try.prog 128 #[.slice A n c, .agg #[.int .i64 e.kind, .int .i64 e.ticket, .int .i64 e.who, .int .i64 e.price]] w fun E w' => ∃ A' c', E = .returned (.tuple #[.slice A' n c', .bool (Sw.ownFits xs e)]) ∧ OwR w' w.heap.size A' c' n (Sw.ownPut xs e) ∧ Ex w w' := by
  by_cases hfit : Sw.ownFits xs e = true
  · have hl := Lib.hid hxs.1
    obtain ⟨h8, t0, t1, hk⟩ := fits_facts hfit
    obtain ⟨t, ht⟩ := Int.eq_ofNat_of_zero_le t0
    have e0 : e.ticket.toNat = t := by omega
    have Ht := Lib.hid ht
    have htn : t < n := by have := hl.out; omega
    have hn8 : n = 8 := by have := hl.out; omega
    subst hn8
    have Hk := Lib.hid hk
    have H8 := Lib.hid h8
    clear ht hk h8
    have key : ∀ (b1 b2 : Bool), (e.kind == 1) = b1 → (e.kind == 2) = b2 → Calls Try.prog 128 #[.slice A 8 c, .agg #[.int .i64 e.kind, .int .i64 e.ticket, .int .i64 e.who, .int .i64 e.price]] w fun E w' => ∃ A' c', E = .returned (.tuple #[.slice A' 8 c', .bool (Sw.ownFits xs e)]) ∧ OwR w' w.heap.size A' c' 8 (Sw.ownPut xs e) ∧ Ex w w' := by
      intro b1 b2 hb1 hb2
      go_enter Try.func128, Try.ntmps128
      go_wp2_with (go_at_call 166; apply Calls.mono; apply iCloneRows_c; ((first | (apply Rs.at0; assumption) | (apply Ow.rs0; assumption)); exact kf_); (first | assumption | omega); rintro E w1 ⟨A1, A1c, rfl, ho1, hb⟩; have hst := xr hb; (try simp only [zA, zC, zD, zN] at hst); obtain ⟨hc, hf, hz⟩ := hst)
      apply Calls.mono; apply iOwnFits_c; (first | assumption | ((first | (apply Rs.at0; assumption) | (apply Ow.rs0; assumption)); exact kf_) | omega); rintro E w3 ⟨rfl, hb3⟩; have hst := xr hb3; (try simp only [zA, zC, zD] at hst); obtain ⟨hc3, hf3, hz3⟩ := hst
      have ho3 := Ow.keep ho1 (KF.ex hb3 (KF.refl _ _))
      obtain ⟨g, x, hA, hlo, hlt, hx, c0, c1, c2, hfz⟩ := at_OR ho3 htn
      obtain ⟨ya, yb, yu⟩ := x
      have Hx := Lib.hid hx
      have hlo' : w.heap.size + 1 ≤ g := by exact sz_
      clear hx
      subst hA
      dsimp only at c0 c1 c2
      cases b1 with
      | true =>
        have hLg : Lb w3 g (A1c * 3) := ho3.lb rfl
        go_wp2_with fail
        (refine wp_name ?_; intro W0 hb0; have hst := xr hb0; (try simp only [zA, zC, zD, zN] at hst); obtain ⟨hc0, hf0, hz0⟩ := hst; have hLb : Lb W0 (g) (A1c * 3) := Lb.ex (by exact lbc_) hb0; go_region_held3 (fun w' => HeldB (g) (A1c * 3) W0 w') ((first | with_reducible assumption | with_reducible exact HeldB.start hLb | with_reducible exact HeldB.of (by assumption) (by assumption) | ((repeat (first | with_reducible refine HeldB.set ?_ (by first | exact Or.inl rfl | exact Or.inr (by simp only [zA, zC, zD, zN]; omega) | exact Or.inr (by omega)) | with_reducible refine HeldB.alloc ?_ _ | with_reducible refine HeldB.drew ?_)); (first | with_reducible assumption | with_reducible exact HeldB.refl hLb | with_reducible exact HeldB.of (by assumption) (by assumption) | with_reducible exact HeldB.ex (by assumption) (by assumption))))) (fail); all_goals (rename HeldB (g) (A1c * 3) W0 _ => hHx; have hb := HeldB.ch hHx; have hst := xc hb; (try simp only [zA, zC, zD, zN] at hst); obtain ⟨hc, hf, hz⟩ := hst; have hLb3 := HeldB.lb hHx; (repeat (first | with_reducible replace hLb3 := Lb.unset hLb3 | with_reducible replace hLb3 := Lb.undrew hLb3)); obtain ⟨hcb, hfb⟩ := Lb.rules hLb3; clear hHx))
        go_wp2
        go_ret2
        refine ⟨_, _, by rw [hfit]; rfl, ?_, ext_⟩
        have k1 : e.kind = 1 := by simpa using hb1
        rw [put_eq hfit Ht.out Hx.out]
        have hu := fits_fresh hfit k1 Ht.out Hx.out
        subst hu
        have hoW := Ow.keep ho3 (KF.ex hb0 (KF.refl _ _))
        have r := OR_set1 (OR_set0 hoW rfl Hx.out e.who) rfl (set_at Hx.out) e.price
        simp only [List.set_set] at r
        simp only [Sw.putRow, k1, if_true]
        exact (r.keep (kD (kR _ _))).less (by exact sz_)
      | false =>
        have k1 : ¬ e.kind = 1 := by simpa using hb1
        cases b2 with
        | true =>
          go_wp2_with fail
          go_ret2
          refine ⟨_, _, by rw [hfit]; rfl, ?_, ext_⟩
          have k2 : e.kind = 2 := by simpa using hb2
          rw [put_eq hfit Ht.out Hx.out]
          have r := OR_set0 ho3 rfl Hx.out e.who
          simp only [Sw.putRow, if_neg k1, k2, if_true]
          exact r.less (by exact sz_)
        | false =>
          go_wp2_with fail
          go_ret2
          refine ⟨_, _, by rw [hfit]; rfl, ?_, ext_⟩
          have k2 : ¬ e.kind = 2 := by simpa using hb2
          rw [put_eq hfit Ht.out Hx.out]
          have r := OR_set2 ho3 rfl Hx.out true
          simp only [Sw.putRow, if_neg k1, if_neg k2]
          exact r.less (by exact sz_)
    exact key _ _ rfl rfl
  · have hf0 : Sw.ownFits xs e = false := by simpa using hfit
    go_enter Try.func128, Try.ntmps128
    go_wp2_with (first | (go_at_call 166; apply Calls.mono; apply iCloneRows_c; ((first | (apply Rs.at0; assumption) | (apply Ow.rs0; assumption)); exact kf_); (first | assumption | omega); rintro E w1 ⟨A', c', rfl, hr, hb⟩; have hst := xr hb; (try simp only [zA, zC, zD, zN] at hst); obtain ⟨hc, hf, hz⟩ := hst) | (go_at_call 167; apply Calls.mono; apply iOwnFits_c; ((first | (apply Rs.at0; assumption) | (apply Ow.rs0; assumption)); exact kf_); rintro E w1 ⟨rfl, hb⟩; have hst := xr hb; (try simp only [zA, zC, zD, zN] at hst); obtain ⟨hc, hf, hz⟩ := hst))
    go_ret2
    refine ⟨_, _, by rw [hf0]; rfl, ?_, ext_⟩
    rw [show Sw.ownPut xs e = xs from by simp [Sw.ownPut, hf0]]
    exact (hr.keep (by (exact kf_))).less (by exact sz_)

theorem z_R : ∀ i z, Try.prog.info? 93 = some i → i.zero = some z → z.cells = (Sw.rowZ.enc).toArray := zero_law (z := .agg #[.int .i64 0, .int .i64 0, .bool false]) (by kernel_rfl) rfl
theorem iOwnFold_c (A : Option Addr) (c n : Nat) (xs : List Sw.Ent) (w : World) (hxs : RE w 0 A c n xs) : Calls Try.prog 57 #[.slice A n c] w fun E w' => ∃ A' c' n', E = .returned (.tuple #[.slice A' n' c', .bool (Sw.ownFold xs).isSome]) ∧ OwR w' w.heap.size A' c' n' ((Sw.ownFold xs).getD []) ∧ Ex w w' := by
  have hl := Lib.hid hxs.1
  have hbig := Rs.big hxs
  by_cases hn : n ≤ 40
  · have hn' : decide (40 < n) = false := by simp; omega
    have hmk : ∀ w, (Instr.makeSlice 89 (.int .i64 8) (.int .i64 8)).run Try.prog w = .ok (.slice (some ⟨w.heap.size, 0, none⟩) 8 8) (w.alloc (.cells (Sw.rows0.flatMap Sw.Row.enc).toArray 93)) := fun _ => by kernel_rfl
    go_enter Try.func57, Try.ntmps57
    go_wp2_with fail
    go_loopw [4, 15] (fun r i wr => ∃ (k : Nat) (B : Option Addr) (d : Nat) (rows : List Sw.Row), k ≤ n ∧ i = .int .i64 k ∧ r = .slice B 8 d ∧ Ex w wr ∧ OwR wr w.heap.size B d 8 rows ∧ Sw.ownFold xs = Sw.foldFrom rows (xs.drop k)) (fun _ i _ => n - (intOf i).toNat)
    case atStart => exact ⟨0, _, _, _, Nat.zero_le _, rfl, rfl, ext_, Ow.new _ rfl rfl rfl (fun _ => rfl) (Nat.le_refl _) (by omega), by rw [Sw.ownFold, if_pos (by have := hl.out; omega)]; rfl⟩
    case round =>
      clear hmk
      obtain ⟨k, B, d, rows, hk, rfl, rfl, hb, ho, hrel⟩ := hrel
      have hst := Ex.rules hb rfl
      obtain ⟨hc, hf, hz⟩ := hst
      by_cases hlt : k < n
      · obtain ⟨g, off, y, rfl, hg0, hg, hd, hy, hc0, hc1, hc2, hc3⟩ := at_E hxs hlt
        rw [hd, Sw.foldFrom] at hrel
        have Hrel := Lib.hid hrel
        clear hd hy hrel
        cases hfit : Sw.ownFits rows y
        case false =>
          go_wp2_with (first | (go_at_call 128; apply Calls.mono; apply iOwnPut_c; (apply Ow.rs0 ho; (exact kf_)); omega; rintro E w1 ⟨A1, c1, rfl, ho1, hb1⟩; have hst := Ex.rules hb1 rfl; obtain ⟨hc1', hf1', hz1'⟩ := hst))
          go_ret2
          have hh := Hrel.out
          rw [if_neg (by simp [hfit])] at hh
          refine ⟨_, _, _, by rw [hh]; rfl, ?_, ext_⟩
          rw [hh]
          exact Ow.nil _ _
        case true =>
          go_wp2_with (first | (go_at_call 128; apply Calls.mono; apply iOwnPut_c; (apply Ow.rs0 ho; (exact kf_)); omega; rintro E w1 ⟨A1, c1, rfl, ho1, hb1⟩; have hst := Ex.rules hb1 rfl; obtain ⟨hc1', hf1', hz1'⟩ := hst))
          have hh := Hrel.out
          rw [if_pos hfit] at hh
          refine ⟨⟨k + 1, _, _, _, by omega, by go_num, rfl, ext_, ho1.less (by exact sz_), ?_⟩, by simp [intOf]; omega⟩
          rw [hh, Sw.ownPut, if_pos hfit]
      · have Hrel := Lib.hid hrel; clear hrel
        go_wp2_with fail
        go_ret2
        obtain rfl : k = n := by omega
        have hh := Hrel.out
        rw [List.drop_of_length_le (by have := hl.out; omega)] at hh
        refine ⟨_, _, _, by rw [hh]; rfl, ?_, ext_⟩
        rw [hh]
        exact ho
  · have hn' : decide (40 < n) = true := by simp; omega
    go_enter Try.func57, Try.ntmps57
    go_wp2_with fail
    go_ret2
    have hh : Sw.ownFold xs = none := by rw [Sw.ownFold, if_neg (by have := hl.out; omega)]
    refine ⟨_, _, _, by rw [hh]; rfl, ?_, ext_⟩
    rw [hh]
    exact Ow.nil _ _

theorem iRoot_c (N : Nat) (A : Option Addr) (c n : Nat) (xs : List Int) (w : World) (hN : n ≤ N) (hxs : RI w 0 A c n xs) (h40 : n ≤ 40) (hok : xs.all Sw.mixOk = true) : Calls Try.prog 183 #[.slice A n c] w fun E w' => E = .returned (.int .i64 (Sw.root xs)) ∧ Ex w w' := by
  induction N generalizing A c n xs w with
  | zero =>
    have hl := hxs.1
    obtain rfl : n = 0 := by omega
    have hx : xs = [] := List.eq_nil_of_length_eq_zero (by omega)
    subst hx
    clear hl
    go_enter Try.func183, Try.ntmps183
    go_wp2_with fail
    go_ret
    exact ⟨ret_i (by simp [Sw.root]), ext_⟩
  | succ N ih =>
    have hl := Lib.hid hxs.1
    have hcap := hxs.2.le
    by_cases h0 : n = 0
    · subst h0
      have hx : xs = [] := List.eq_nil_of_length_eq_zero (by have := hl.out; omega)
      subst hx
      go_enter Try.func183, Try.ntmps183
      go_wp2_with fail
      go_ret
      exact ⟨ret_i (by simp [Sw.root]), ext_⟩
    by_cases h1 : n = 1
    · subst h1
      obtain ⟨g, off, y, rfl, hg0, hg, hd, hy, hc⟩ := at_I hxs (show 0 < 1 by omega)
      have hx : xs = [y] := by
        have := hl.out
        match xs, this, hy with
        | [z], _, hy => simpa using hy
      subst hx
      clear hd hy
      simp only [Nat.add_zero] at hc
      go_enter Try.func183, Try.ntmps183
      go_wp2_with fail
      go_ret
      exact ⟨ret_i (by simp [Sw.root]), ext_⟩
    have h2 : 2 ≤ n := by omega
    have hb0 : ((n : Int) == 0) = false := by simp; omega
    have hb1 : ((n : Int) == 1) = false := by simp; omega
    have hs1 := Sw.split_lt h2
    have hs0 := Sw.split_pos n
    have z3 : ¬ (c = Sw.split n) := by omega
    have z0 : (0 : Int) ≤ ↑(Sw.split n) := by omega
    have z1 : (↑(Sw.split n) : Int) ≤ ↑n := by omega
    have z2 : (↑(Sw.split n) : Int) ≤ ↑c := by omega
    have m1 := root_ok _ (List.all_take (k := Sw.split n) hok)
    have m2 := root_ok _ (List.all_drop (k := Sw.split n) hok)
    go_enter Try.func183, Try.ntmps183
    go_wp2_with (first | (go_at_call 181; apply Calls.mono; apply iSplit_c; (first | assumption | omega); (first | assumption | omega); rintro E w' ⟨rfl, rfl⟩))
    (refine wp_name ?_; intro W0 hb0; have hst := xr hb0; (try simp only [zA, zC, zD, zN] at hst); obtain ⟨hc0, hf0, hz0⟩ := hst; go_region_held3 (fun w' => Held W0 w') ((first | with_reducible assumption | with_reducible exact Held.start _ | with_reducible exact Held.of (by assumption) | with_reducible exact Held.ex (by assumption) (by assumption) | ((repeat (first | with_reducible refine Held.set ?_ (by simp only [zA, zC, zD, zN]; omega) | with_reducible refine Held.alloc ?_ _ | with_reducible refine Held.drew ?_)); (first | with_reducible assumption | with_reducible exact Held.refl _ | with_reducible exact Held.of (by assumption) | with_reducible exact Held.ex (by assumption) (by assumption))) | exact Held.of (by exact ext_))) ((first | (go_at_call 183; apply Calls.mono; apply ih; omega; (first | (apply Rs.at0; apply RI_take hxs; omega; (exact kf_)) | (apply Rs.at0; apply RI_drop hxs; omega; (exact kf_))); omega; (first | exact List.all_take hok | exact List.all_drop hok); rintro E w1 ⟨rfl, hb⟩) | (go_at_call 182; apply Calls.mono; apply pair_c; (first | assumption | omega); (first | assumption | omega); rintro E w' ⟨rfl, rfl⟩))); all_goals (have hb := And.right (by assumption : Held W0 _); have hst := xr hb; (try simp only [zA, zC, zD, zN] at hst); obtain ⟨hc, hf, hz⟩ := hst))
    go_wp2
    go_ret
    refine ⟨ret_i ?_, ext_⟩
    have e := root_two (xs := xs) (by have := hl.out; omega)
    rw [← hl.out] at e
    rw [e]

theorem iTreRoot_c (A : Option Addr) (c n : Nat) (xs : List Int) (w : World) (hxs : RI w 0 A c n xs) : Calls Try.prog 154 #[.slice A n c] w fun E w' => E = .returned (.int .i64 (Sw.treRoot xs)) ∧ Ex w w' := by
  have hl := Lib.hid hxs.1
  cases h1 : Sw.treOk xs
  case false =>
    go_enter Try.func154, Try.ntmps154; go_wp2_with (first | (go_at_call 97; apply Calls.mono; apply iTreOk_c; ((first | (apply Rs.at0; assumption) | (apply Ow.rs0; assumption)); exact kf_); rintro E w' ⟨rfl, rfl⟩)); go_ret; exact ⟨ret_i (by simp [Sw.treRoot, h1]), ext_⟩
  obtain ⟨h40, hall⟩ := Sw.treOk_iff.1 h1
  have hn40 : n ≤ 40 := by have := hl.out; omega
  go_enter Try.func154, Try.ntmps154
  go_wp2_with (first | (go_at_call 97; apply Calls.mono; apply iTreOk_c; ((first | (apply Rs.at0; assumption) | (apply Ow.rs0; assumption)); exact kf_); rintro E w' ⟨rfl, rfl⟩) | (go_at_call 183; apply Calls.mono; apply (iRoot_c 40); omega; ((first | (apply Rs.at0; assumption) | (apply Ow.rs0; assumption)); exact kf_); omega; exact hall; rintro E w1 ⟨rfl, hb⟩; have hst := xr hb; (try simp only [zA, zC, zD, zN] at hst); obtain ⟨hc, hf, hz⟩ := hst))
  go_ret
  exact ⟨ret_i (by simp [Sw.treRoot, h1]), ext_⟩

theorem iEntLeaves_c (A : Option Addr) (c n : Nat) (xs : List Sw.Ent) (w : World) (hxs : RE w 0 A c n xs) (hn : n ≤ 4194304) : Calls Try.prog 155 #[.slice A n c] w fun E w' => ∃ A' c', E = .returned (.slice A' n c') ∧ OwI w' w.heap.size A' c' n (xs.map Sw.entLeaf) ∧ Ex w w' := by
  have hl := Lib.hid hxs.1
  go_enter Try.func155, Try.ntmps155
  go_wp2_with fail
  go_loopw [3, 8] (fun o i wr => ∃ (k : Nat) (B : Option Addr) (d : Nat), k ≤ n ∧ i = .int .i64 k ∧ o = .slice B k d ∧ Ex w wr ∧ OwI wr w.heap.size B d k ((xs.take k).map Sw.entLeaf)) (fun _ i _ => n - (intOf i).toNat)
  case atStart => exact ⟨0, _, 0, Nat.zero_le _, rfl, rfl, ext_, Ow.nil _ _⟩
  case round =>
    obtain ⟨k, B, d, hk, rfl, rfl, hb, ho⟩ := hrel
    have hst := Ex.rules hb rfl
    obtain ⟨hc, hf, hz⟩ := hst
    by_cases hlt : k < n
    · obtain ⟨g, off, y, rfl, hg0, hg, hd, hy, hc0, hc1, hc2, hc3⟩ := at_E hxs hlt
      have Hd := Lib.hid hd; have Hy := Lib.hid hy; clear hd hy
      go_wp2_with (first | (go_at_call 184; refine (iEntLeaf_c _ _).mono ?_; rintro E w1 ⟨rfl, hb⟩; have hst := xr hb; (try simp only [zA, zC, zD, zN] at hst); obtain ⟨hc, hf, hz⟩ := hst) | (at_builtin; apply wpList_app (lo := w.heap.size) el_I one_I rfl rfl rfl rfl; (first | assumption | exact Ow.nil _ _ | (apply Ow.keep; assumption; exact kf_) | (refine Ow.new [] (by (first | rfl | (simp only [zA, zC, zD, zN]; done) | omega)) rfl rfl (fun _ => rfl) (by exact sz_) (by omega))); (first | (refine Rs.new [Sw.entLeaf y] (by (first | rfl | (simp only [zA, zC, zD, zN]; done) | omega)) rfl rfl (fun _ => rfl) (by omega))); omega; exact sz_; intro A1 c1 w2 ho1 hch1 hat1 hex1 hlow1; have hb := hex1 (fun _ => False) w (by exact ext_) (by exact sz_); have hz := hch1.size; (try simp only [zA, zC, zD, zN] at hz); obtain ⟨hc, hf⟩ := low_rules hlow1; clear hlow1 hex1))
      go_roundw
      case rel => exact ⟨k + 1, A1, c1, by omega, by go_num, rfl, hb, by rw [take_snoc Hy.out, List.map_append]; exact ho1⟩
      case measure => simp [intOf]; omega
    · go_wp2_with fail
      go_ret
      obtain rfl : k = n := by omega
      refine ⟨_, _, rfl, ?_, ext_⟩
      rw [List.take_of_length_le (by have := hl.out; omega)] at ho
      exact ho
theorem iLeaves_c (A : Option Addr) (c n : Nat) (xs : List Sw.Row) (w : World) (hxs : RR w 0 A c n xs) (hn : n ≤ 4194304) : Calls Try.prog 186 #[.slice A n c] w fun E w' => ∃ A' c', E = .returned (.slice A' n c') ∧ OwI w' w.heap.size A' c' n (Sw.ownLeaves xs) ∧ Ex w w' := by
  have hl := Lib.hid hxs.1
  go_enter Try.func186, Try.ntmps186
  go_wp2_with fail
  go_loopw [3, 8] (fun o i wr => ∃ (k : Nat) (B : Option Addr) (d : Nat), k ≤ n ∧ i = .int .i64 k ∧ o = .slice B k d ∧ Ex w wr ∧ OwI wr w.heap.size B d k (Sw.ownLeaves (xs.take k))) (fun _ i _ => n - (intOf i).toNat)
  case atStart => exact ⟨0, _, 0, Nat.zero_le _, rfl, rfl, ext_, Ow.nil _ _⟩
  case round =>
    obtain ⟨k, B, d, hk, rfl, rfl, hb, ho⟩ := hrel
    have hst := Ex.rules hb rfl
    obtain ⟨hc, hf, hz⟩ := hst
    by_cases hlt : k < n
    · obtain ⟨g, off, y, rfl, hg0, hg, hd, hy, hc0, hc1, hc2⟩ := at_R hxs hlt
      have Hy := Lib.hid hy; clear hd hy
      go_wp2_with (first | (go_at_call 206; refine (iOwnLeaf_c _ _ _).mono ?_; rintro E w1 ⟨rfl, hb⟩; have hst := xr hb; (try simp only [zA, zC, zD, zN] at hst); obtain ⟨hc, hf, hz⟩ := hst) | (at_builtin; apply wpList_app (lo := w.heap.size) el_I one_I rfl rfl rfl rfl; (first | assumption | exact Ow.nil _ _ | (apply Ow.keep; assumption; exact kf_) | (refine Ow.new [] (by (first | rfl | (simp only [zA, zC, zD, zN]; done) | omega)) rfl rfl (fun _ => rfl) (by exact sz_) (by omega))); (first | (refine Rs.new [Sw.ownLeaf k y] (by (first | rfl | (simp only [zA, zC, zD, zN]; done) | omega)) rfl rfl (fun _ => rfl) (by omega))); omega; exact sz_; intro A1 c1 w2 ho1 hch1 hat1 hex1 hlow1; have hb := hex1 (fun _ => False) w (by exact ext_) (by exact sz_); have hz := hch1.size; (try simp only [zA, zC, zD, zN] at hz); obtain ⟨hc, hf⟩ := low_rules hlow1; clear hlow1 hex1))
      go_roundw
      case rel =>
        refine ⟨k + 1, A1, c1, by omega, by go_num, rfl, hb, ?_⟩
        rw [take_snoc Hy.out]
        unfold Sw.ownLeaves at ho1 ⊢
        rw [leavesFrom_snoc, List.length_take, Nat.min_eq_left (by have := hl.out; omega), Int.zero_add]
        exact ho1
      case measure => simp [intOf]; omega
    · go_wp2_with fail
      go_ret
      obtain rfl : k = n := by omega
      refine ⟨_, _, rfl, ?_, ext_⟩
      rw [List.take_of_length_le (by have := hl.out; omega)] at ho
      exact ho

theorem treRoot_own {rows : List Sw.Row} (h : Sw.ownOk rows = true) : Sw.treRoot (Sw.ownLeaves rows) = Sw.root (Sw.ownLeaves rows) := by
  rw [Sw.treRoot, if_pos]
  exact Sw.treOk_iff.2 ⟨by rw [Sw.ownLeaves, leavesFrom_length, Sw.ownOk_len h]; omega, ownLeaves_ok _⟩
theorem treRoot_ent {es : List Sw.Ent} (h : es.length ≤ 40) : Sw.treRoot (es.map Sw.entLeaf) = Sw.root (es.map Sw.entLeaf) := by
  rw [Sw.treRoot, if_pos]
  exact Sw.treOk_iff.2 ⟨by rw [List.length_map]; omega, entLeaves_ok _⟩
theorem iOwnRoot_c (A : Option Addr) (c n : Nat) (xs : List Sw.Row) (w : World) (hxs : RR w 0 A c n xs) : Calls Try.prog 156 #[.slice A n c] w fun E w' => E = .returned (.int .i64 (Sw.ownRoot xs)) ∧ Ex w w' := by
  have hl := Lib.hid hxs.1
  cases hok : Sw.ownOk xs
  case false =>
    go_enter Try.func156, Try.ntmps156; go_wp2_with (first | (go_at_call 185; apply Calls.mono; apply iOwnOk_c; ((first | (apply Rs.at0; assumption) | (apply Ow.rs0; assumption)); exact kf_); rintro E w1 ⟨rfl, hb⟩; have hst := xr hb; (try simp only [zA, zC, zD, zN] at hst); obtain ⟨hc, hf, hz⟩ := hst)); go_ret; exact ⟨ret_i (by simp [Sw.ownRoot, hok]), ext_⟩
  have hn : n = 8 := by have := hl.out; have := Sw.ownOk_len hok; omega
  subst hn
  have e := Lib.hid (treRoot_own hok)
  go_enter Try.func156, Try.ntmps156
  go_wp2_with (first | (go_at_call 185; apply Calls.mono; apply iOwnOk_c; ((first | (apply Rs.at0; assumption) | (apply Ow.rs0; assumption)); exact kf_); rintro E w1 ⟨rfl, hb⟩; have hst := xr hb; (try simp only [zA, zC, zD, zN] at hst); obtain ⟨hc, hf, hz⟩ := hst) | (go_at_call 186; apply Calls.mono; apply iLeaves_c; ((first | (apply Rs.at0; assumption) | (apply Ow.rs0; assumption)); exact kf_); (first | assumption | omega); rintro E w1 ⟨A', c', rfl, hr, hb⟩; have hst := xr hb; (try simp only [zA, zC, zD, zN] at hst); obtain ⟨hc, hf, hz⟩ := hst) | (go_at_call 154; apply Calls.mono; apply iTreRoot_c; ((first | (apply Rs.at0; assumption) | (apply Ow.rs0; assumption)); exact kf_); rintro E w1 ⟨rfl, hb⟩; have hst := xr hb; (try simp only [zA, zC, zD, zN] at hst); obtain ⟨hc, hf, hz⟩ := hst))
  go_ret
  exact ⟨ret_i (by rw [e.out]; simp [Sw.ownRoot, hok]), ext_⟩
end Go.Proofs.Ytgceeggfdomdjaa

namespace Go.Proofs.Ytgceeggfdomdjaa
set_option maxRecDepth 100000
set_option linter.unusedSimpArgs false
set_option linter.unusedVariables false
open Go.RowKit Go
set_option maxHeartbeats 400000

theorem sMonOk_c (A : Option Addr) (c n : Nat) (xs : List Int) (w : World) (hxs : RI w 0 A c n xs) : Calls Try.prog 106 #[.slice A n c] w fun E w' => E = .returned (.bool (Sw.monOk xs)) ∧ w = w' := by
  have hl := Lib.hid hxs.1
  have hbig := Rs.big hxs
  by_cases hn : n = 5
  · subst hn
    go_enter Try.func106, Try.ntmps106
    go_wp2
    go_loop [3] (fun i => ∃ k : Nat, k ≤ 5 ∧ i = .int .i64 k ∧ xs.all (fun n => Sw.inR n 0 100000) = (xs.drop k).all (fun n => Sw.inR n 0 100000)) (fun i => 5 - (intOf i).toNat)
    case atStart => exact ⟨0, Nat.zero_le _, rfl, rfl⟩
    case round =>
      obtain ⟨k, hk, rfl, hrel⟩ := hrel
      by_cases hlt : k < 5
      · obtain ⟨g, off, y, rfl, hg0, hg, hd, hy, hc⟩ := at_I hxs hlt
        rw [hd] at hrel
        clear hd hy
        have Hrel := Lib.hid hrel; clear hrel
        cases hp : Sw.inR y 0 100000 with
        | true =>
          go_wp2_with (first | (go_at_call 78; refine (l1In_c _ _ _ _).mono ?_; rintro E w' ⟨rfl, rfl⟩))
          go_round
          case rel => exact ⟨k + 1, by omega, by go_num, by rw [Hrel.out, List.all_cons, hp, Bool.true_and]⟩
          case measure => simp [intOf]; omega
        | false =>
          go_wp2_with (first | (go_at_call 78; refine (l1In_c _ _ _ _).mono ?_; rintro E w' ⟨rfl, rfl⟩))
          go_ret
          exact ⟨ret_b (by rw [Sw.monOk, Hrel.out, List.all_cons, hp]; simp), rfl⟩
      · have Hrel := Lib.hid hrel; clear hrel
        go_wp2
        go_ret
        refine ⟨ret_b ?_, rfl⟩
        rw [Sw.monOk, Hrel.out, List.drop_of_length_le (by have := hl.out; omega), ← hl.out]
        rfl
  · have hb : decide (n = 5) = false := by simp [hn]
    go_enter Try.func106, Try.ntmps106
    go_wp2
    go_ret
    refine ⟨ret_b ?_, rfl⟩
    rw [Sw.monOk, ← hl.out, hb]
    rfl

theorem monTurn_y {xs : List Int} {who v : Int} (h : Sw.turnMay xs who v = true) : Sw.monTurn xs who v = Sw.turned xs who v := by simp [Sw.monTurn, h]
theorem monTurn_n {xs : List Int} {who v : Int} (h : Sw.turnMay xs who v = false) : Sw.monTurn xs who v = xs := by simp [Sw.monTurn, h]
theorem monOk_len {xs : List Int} (h : Sw.monOk xs = true) : xs.length = 5 := (Sw.monOk_iff.1 h).1
theorem purse_at {xs : List Int} {k : Nat} {y : Int} (h : xs[k]? = some y) : Sw.purse xs (k + 1) = y := by
  unfold Sw.purse
  rw [show ((k : Int) + 1 - 1).toNat = k from by omega, List.getD_eq_getElem?_getD, h]
  rfl

theorem sMonTurn_c (A : Option Addr) (c n : Nat) (xs : List Int) (who v : Int) (w : World) (hxs : RI w 0 A c n xs) (hn : n ≤ 4194304) : Calls Try.prog 159 #[.slice A n c, .int .i64 who, .int .i64 v] w fun E w' => ∃ A' c', E = .returned (.tuple #[.slice A' n c', .bool (Sw.turnMay xs who v)]) ∧ OwI w' w.heap.size A' c' n (Sw.monTurn xs who v) ∧ Ex w w' := by
  cases g1 : Sw.monOk xs
  case false =>
    have e : Sw.turnMay xs who v = false := by simp [Sw.turnMay, g1]
    rw [e, monTurn_n e]; clear e
    go_enter Try.func159, Try.ntmps159
    go_wp2_with (first | (at_builtin; apply wpList_app (lo := w.heap.size) el_I one_I rfl rfl rfl rfl; (first | assumption | exact Ow.nil _ _ | (apply Ow.keep; assumption; exact kf_) | (refine Ow.new [] (by (first | rfl | (simp only [zA, zC, zD, zN]; done) | omega)) rfl rfl (fun _ => rfl) (by exact sz_) (by omega))); (first | ((first | (apply Rs.at0; assumption) | (apply Ow.rs0; assumption)); exact kf_)); omega; exact sz_; intro A1 c1 w2 ho1 hch1 hat1 hex1 hlow1; have hb := hex1 (fun _ => False) w (by exact ext_) (by exact sz_); have hz := hch1.size; (try simp only [zA, zC, zD, zN] at hz); obtain ⟨hc, hf⟩ := low_rules hlow1; clear hlow1 hex1) | (go_at_call 106; apply Calls.mono; apply sMonOk_c; ((first | (apply Rs.at0; assumption) | (apply Ow.rs0; assumption)); exact kf_); rintro E w' ⟨rfl, rfl⟩))
    go_ret2
    exact ⟨A1, c1, by simp, by simpa using ho1, ext_⟩
  have h5 := monOk_len g1
  have hn5 : n = 5 := by rw [hxs.1, h5]
  subst hn5
  clear h5
  cases g2 : Sw.inR who 1 5
  case false =>
    have e : Sw.turnMay xs who v = false := by simp [Sw.turnMay, g2]
    rw [e, monTurn_n e]; clear e
    go_enter Try.func159, Try.ntmps159
    go_wp2_with (first | (at_builtin; apply wpList_app (lo := w.heap.size) el_I one_I rfl rfl rfl rfl; (first | assumption | exact Ow.nil _ _ | (apply Ow.keep; assumption; exact kf_) | (refine Ow.new [] (by (first | rfl | (simp only [zA, zC, zD, zN]; done) | omega)) rfl rfl (fun _ => rfl) (by exact sz_) (by omega))); (first | ((first | (apply Rs.at0; assumption) | (apply Ow.rs0; assumption)); exact kf_)); omega; exact sz_; intro A1 c1 w2 ho1 hch1 hat1 hex1 hlow1; have hb := hex1 (fun _ => False) w (by exact ext_) (by exact sz_); have hz := hch1.size; (try simp only [zA, zC, zD, zN] at hz); obtain ⟨hc, hf⟩ := low_rules hlow1; clear hlow1 hex1) | (go_at_call 106; apply Calls.mono; apply sMonOk_c; ((first | (apply Rs.at0; assumption) | (apply Ow.rs0; assumption)); exact kf_); rintro E w' ⟨rfl, rfl⟩) | (go_at_call 78; refine (l1In_c _ _ _ _).mono ?_; rintro E w' ⟨rfl, rfl⟩))
    go_ret2
    exact ⟨A1, c1, by simp, by simpa using ho1, ext_⟩
  cases g3 : Sw.inR v (-100000) 100000
  case false =>
    have e : Sw.turnMay xs who v = false := by simp [Sw.turnMay, g3]
    rw [e, monTurn_n e]; clear e
    go_enter Try.func159, Try.ntmps159
    go_wp2_with (first | (at_builtin; apply wpList_app (lo := w.heap.size) el_I one_I rfl rfl rfl rfl; (first | assumption | exact Ow.nil _ _ | (apply Ow.keep; assumption; exact kf_) | (refine Ow.new [] (by (first | rfl | (simp only [zA, zC, zD, zN]; done) | omega)) rfl rfl (fun _ => rfl) (by exact sz_) (by omega))); (first | ((first | (apply Rs.at0; assumption) | (apply Ow.rs0; assumption)); exact kf_)); omega; exact sz_; intro A1 c1 w2 ho1 hch1 hat1 hex1 hlow1; have hb := hex1 (fun _ => False) w (by exact ext_) (by exact sz_); have hz := hch1.size; (try simp only [zA, zC, zD, zN] at hz); obtain ⟨hc, hf⟩ := low_rules hlow1; clear hlow1 hex1) | (go_at_call 106; apply Calls.mono; apply sMonOk_c; ((first | (apply Rs.at0; assumption) | (apply Ow.rs0; assumption)); exact kf_); rintro E w' ⟨rfl, rfl⟩) | (go_at_call 78; refine (l1In_c _ _ _ _).mono ?_; rintro E w' ⟨rfl, rfl⟩))
    go_ret2
    exact ⟨A1, c1, by simp, by simpa using ho1, ext_⟩
  have hw := Sw.inR_iff.1 g2
  have hv := Sw.inR_iff.1 g3
  obtain ⟨k, rfl⟩ : ∃ k : Nat, who = k + 1 := ⟨(who - 1).toNat, by omega⟩
  have hk : k < 5 := by omega
  obtain ⟨g, off, y, rfl, hg0, hg, hd, hy, hc0⟩ := at_I hxs hk
  have hyb : 0 ≤ y ∧ y ≤ 100000 := (Sw.monOk_iff.1 g1).2 y (List.mem_of_getElem? hy)
  have hpu := purse_at hy
  have Hpu := Lib.hid hpu
  have Hy := Lib.hid hy
  clear hd hy hpu
  obtain ⟨y0, y1⟩ := hyb
  obtain ⟨v0, v1⟩ := hv
  clear hw
  have t2 : IntKind.i64.wrap ((k : Int) + 1 - 1) = k := by rw [IntWalk.i64_in _ (by omega)]; omega
  cases g4 : Sw.inR (y + v) 0 100000
  case false =>
    have e : Sw.turnMay xs (k + 1) v = false := by simp [Sw.turnMay, Hpu.out, g4]
    rw [e, monTurn_n e]; clear e
    go_enter Try.func159, Try.ntmps159
    go_wp2_with (first | (at_builtin; apply wpList_app (lo := w.heap.size) el_I one_I rfl rfl rfl rfl; (first | assumption | exact Ow.nil _ _ | (apply Ow.keep; assumption; exact kf_) | (refine Ow.new [] (by (first | rfl | (simp only [zA, zC, zD, zN]; done) | omega)) rfl rfl (fun _ => rfl) (by exact sz_) (by omega))); (first | ((first | (apply Rs.at0; assumption) | (apply Ow.rs0; assumption)); exact kf_)); omega; exact sz_; intro A1 c1 w2 ho1 hch1 hat1 hex1 hlow1; have hb := hex1 (fun _ => False) w (by exact ext_) (by exact sz_); have hz := hch1.size; (try simp only [zA, zC, zD, zN] at hz); obtain ⟨hc, hf⟩ := low_rules hlow1; clear hlow1 hex1) | (go_at_call 106; apply Calls.mono; apply sMonOk_c; ((first | (apply Rs.at0; assumption) | (apply Ow.rs0; assumption)); exact kf_); rintro E w' ⟨rfl, rfl⟩) | (go_at_call 78; refine (l1In_c _ _ _ _).mono ?_; rintro E w' ⟨rfl, rfl⟩))
    go_ret2
    exact ⟨A1, c1, by simp, by simpa using ho1, ext_⟩
  have e : Sw.turnMay xs (k + 1) v = true := by simp [Sw.turnMay, g1, g2, g3, Hpu.out, g4]
  rw [e, monTurn_y e]; clear e
  go_enter Try.func159, Try.ntmps159
  go_wp2_with (first | (at_builtin; apply wpList_app (lo := w.heap.size) el_I one_I rfl rfl rfl rfl; (first | assumption | exact Ow.nil _ _ | (apply Ow.keep; assumption; exact kf_) | (refine Ow.new [] (by (first | rfl | (simp only [zA, zC, zD, zN]; done) | omega)) rfl rfl (fun _ => rfl) (by exact sz_) (by omega))); (first | ((first | (apply Rs.at0; assumption) | (apply Ow.rs0; assumption)); exact kf_)); omega; exact sz_; intro A1 c1 w2 ho1 hch1 hat1 hex1 hlow1; have hb := hex1 (fun _ => False) w (by exact ext_) (by exact sz_); have hz := hch1.size; (try simp only [zA, zC, zD, zN] at hz); obtain ⟨hc, hf⟩ := low_rules hlow1; clear hlow1 hex1))
  simp only [Nat.zero_add, List.nil_append] at ho1
  apply Calls.mono; apply sMonOk_c; (first | assumption | ((first | (apply Rs.at0; assumption) | (apply Ow.rs0; assumption)); exact kf_) | omega); rintro E w3 ⟨rfl, rfl⟩
  obtain ⟨g', x', hA, hlo, hlt, hx, hcx, hfz⟩ := at_OI ho1 hk
  obtain rfl : x' = y := by have := Hy.out; rw [hx] at this; exact Option.some.inj this
  subst hA
  clear hx
  go_wp2_with (first | (go_at_call 78; refine (l1In_c _ _ _ _).mono ?_; rintro E w' ⟨rfl, rfl⟩))
  go_ret2
  refine ⟨_, _, rfl, ?_, ext_⟩
  have r := OI_set ho1 rfl Hy.out (x' + v)
  rw [Sw.turned, Hpu.out, show ((k : Int) + 1 - 1).toNat = k from by omega]
  exact r

theorem sMonMove_c (A : Option Addr) (c n : Nat) (xs : List Int) (a b v : Int) (w : World) (hxs : RI w 0 A c n xs) (hn : n ≤ 4194304) : Calls Try.prog 207 #[.slice A n c, .int .i64 a, .int .i64 b, .int .i64 v] w fun E w' => ∃ A' c', E = .returned (.tuple #[.slice A' n c', .bool (Sw.moveMay xs a b v)]) ∧ OwI w' w.heap.size A' c' n (Sw.monMove xs a b v) ∧ Ex w w' := by
  cases g1 : Sw.inR v 0 100000
  case false =>
    have e : Sw.moveMay xs a b v = false := by simp [Sw.moveMay, g1]
    have e2 : Sw.monMove xs a b v = xs := by simp [Sw.monMove, e]
    rw [e, e2]; clear e e2
    go_enter Try.func207, Try.ntmps207
    go_wp2_with (first | (at_builtin; apply wpList_app (lo := w.heap.size) el_I one_I rfl rfl rfl rfl; (first | assumption | exact Ow.nil _ _ | (apply Ow.keep; assumption; exact kf_) | (refine Ow.new [] (by (first | rfl | (simp only [zA, zC, zD, zN]; done) | omega)) rfl rfl (fun _ => rfl) (by exact sz_) (by omega))); (first | ((first | (apply Rs.at0; assumption) | (apply Ow.rs0; assumption)); exact kf_)); omega; exact sz_; intro A1 c1 w2 ho1 hch1 hat1 hex1 hlow1; have hb := hex1 (fun _ => False) w (by exact ext_) (by exact sz_); have hz := hch1.size; (try simp only [zA, zC, zD, zN] at hz); obtain ⟨hc, hf⟩ := low_rules hlow1; clear hlow1 hex1) | (go_at_call 78; refine (l1In_c _ _ _ _).mono ?_; rintro E w' ⟨rfl, rfl⟩))
    go_ret2
    exact ⟨A1, c1, by simp, by simpa using ho1, ext_⟩
  have hv := Sw.inR_iff.1 g1
  obtain ⟨v0, v1⟩ := hv
  by_cases g2 : a = b
  case pos =>
    have hab : (a == b) = true := by simp [g2]
    have e : Sw.moveMay xs a b v = false := by simp [Sw.moveMay, g2]
    have e2 : Sw.monMove xs a b v = xs := by simp [Sw.monMove, e]
    rw [e, e2]; clear e e2 g2
    go_enter Try.func207, Try.ntmps207
    go_wp2_with (first | (at_builtin; apply wpList_app (lo := w.heap.size) el_I one_I rfl rfl rfl rfl; (first | assumption | exact Ow.nil _ _ | (apply Ow.keep; assumption; exact kf_) | (refine Ow.new [] (by (first | rfl | (simp only [zA, zC, zD, zN]; done) | omega)) rfl rfl (fun _ => rfl) (by exact sz_) (by omega))); (first | ((first | (apply Rs.at0; assumption) | (apply Ow.rs0; assumption)); exact kf_)); omega; exact sz_; intro A1 c1 w2 ho1 hch1 hat1 hex1 hlow1; have hb := hex1 (fun _ => False) w (by exact ext_) (by exact sz_); have hz := hch1.size; (try simp only [zA, zC, zD, zN] at hz); obtain ⟨hc, hf⟩ := low_rules hlow1; clear hlow1 hex1) | (go_at_call 78; refine (l1In_c _ _ _ _).mono ?_; rintro E w' ⟨rfl, rfl⟩))
    go_ret2
    exact ⟨A1, c1, by simp, by simpa using ho1, ext_⟩
  have hab : (a == b) = false := by simp [g2]
  cases g3 : Sw.turnMay xs a (-v)
  case false =>
    have e : Sw.moveMay xs a b v = false := by simp [Sw.moveMay, g3]
    have e2 : Sw.monMove xs a b v = xs := by simp [Sw.monMove, e]
    rw [e, e2]; clear e e2 g2
    go_enter Try.func207, Try.ntmps207
    go_wp2_with (first | (at_builtin; apply wpList_app (lo := w.heap.size) el_I one_I rfl rfl rfl rfl; (first | assumption | exact Ow.nil _ _ | (apply Ow.keep; assumption; exact kf_) | (refine Ow.new [] (by (first | rfl | (simp only [zA, zC, zD, zN]; done) | omega)) rfl rfl (fun _ => rfl) (by exact sz_) (by omega))); (first | ((first | (apply Rs.at0; assumption) | (apply Ow.rs0; assumption)); exact kf_)); omega; exact sz_; intro A1 c1 w2 ho1 hch1 hat1 hex1 hlow1; have hb := hex1 (fun _ => False) w (by exact ext_) (by exact sz_); have hz := hch1.size; (try simp only [zA, zC, zD, zN] at hz); obtain ⟨hc, hf⟩ := low_rules hlow1; clear hlow1 hex1) | (go_at_call 78; refine (l1In_c _ _ _ _).mono ?_; rintro E w' ⟨rfl, rfl⟩) | (go_at_call 159; apply Calls.mono; apply sMonTurn_c; (first | assumption | ((first | (apply Rs.at0; assumption) | (apply Ow.rs0; assumption)); exact kf_) | omega); omega; rintro E w3 ⟨A3, c3, rfl, ho3, hb3⟩; have hst := Ex.rules hb3 rfl; obtain ⟨hc3, hf3, hz3⟩ := hst))
    go_ret2
    exact ⟨A1, c1, by simp, (by simpa using ho1.less (by omega)), ext_⟩
  have e3 := monTurn_y g3
  have E3 := Lib.hid e3; clear e3
  cases g4 : Sw.turnMay (Sw.turned xs a (-v)) b v
  case false =>
    have e : Sw.moveMay xs a b v = false := by simp [Sw.moveMay, g4]
    have e2 : Sw.monMove xs a b v = xs := by simp [Sw.monMove, e]
    rw [e, e2]; clear e e2 g2
    go_enter Try.func207, Try.ntmps207
    go_wp2_with (first | (at_builtin; apply wpList_app (lo := w.heap.size) el_I one_I rfl rfl rfl rfl; (first | assumption | exact Ow.nil _ _ | (apply Ow.keep; assumption; exact kf_) | (refine Ow.new [] (by (first | rfl | (simp only [zA, zC, zD, zN]; done) | omega)) rfl rfl (fun _ => rfl) (by exact sz_) (by omega))); (first | ((first | (apply Rs.at0; assumption) | (apply Ow.rs0; assumption)); exact kf_)); omega; exact sz_; intro A1 c1 w2 ho1 hch1 hat1 hex1 hlow1; have hb := hex1 (fun _ => False) w (by exact ext_) (by exact sz_); have hz := hch1.size; (try simp only [zA, zC, zD, zN] at hz); obtain ⟨hc, hf⟩ := low_rules hlow1; clear hlow1 hex1) | (go_at_call 78; refine (l1In_c _ _ _ _).mono ?_; rintro E w' ⟨rfl, rfl⟩) | (go_at_call 159; apply Calls.mono; apply (sMonTurn_c (xs := Sw.turned xs a (-v))); (first | assumption | ((first | (apply Rs.at0; assumption) | (apply Ow.rs0; assumption)); exact kf_) | omega); omega; rintro E w4 ⟨A4, c4, rfl, ho4, hb4⟩; have hst := Ex.rules hb4 rfl; obtain ⟨hc4, hf4, hz4⟩ := hst) | (go_at_call 159; apply Calls.mono; apply (sMonTurn_c (xs := xs)); (first | assumption | ((first | (apply Rs.at0; assumption) | (apply Ow.rs0; assumption)); exact kf_) | omega); omega; rintro E w3 ⟨A3, c3, rfl, ho3, hb3⟩; rw [E3.out] at ho3; have hst := Ex.rules hb3 rfl; obtain ⟨hc3, hf3, hz3⟩ := hst))
    go_ret2
    exact ⟨A1, c1, by simp, (by simpa using ho1.less (by omega)), ext_⟩
  have e : Sw.moveMay xs a b v = true := by simp [Sw.moveMay, g1, g2, g3, g4]
  have e2 : Sw.monMove xs a b v = Sw.turned (Sw.turned xs a (-v)) b v := by simp [Sw.monMove, e]
  have e4 := monTurn_y g4
  have E4 := Lib.hid e4; clear e4
  rw [e, e2]; clear e e2 g2
  go_enter Try.func207, Try.ntmps207
  go_wp2_with (first | (go_at_call 78; refine (l1In_c _ _ _ _).mono ?_; rintro E w' ⟨rfl, rfl⟩) | (go_at_call 159; apply Calls.mono; apply (sMonTurn_c (xs := Sw.turned xs a (-v))); (first | assumption | ((first | (apply Rs.at0; assumption) | (apply Ow.rs0; assumption)); exact kf_) | omega); omega; rintro E w4 ⟨A4, c4, rfl, ho4, hb4⟩; rw [E4.out] at ho4; have hst := Ex.rules hb4 rfl; obtain ⟨hc4, hf4, hz4⟩ := hst) | (go_at_call 159; apply Calls.mono; apply (sMonTurn_c (xs := xs)); (first | assumption | ((first | (apply Rs.at0; assumption) | (apply Ow.rs0; assumption)); exact kf_) | omega); omega; rintro E w3 ⟨A3, c3, rfl, ho3, hb3⟩; rw [E3.out] at ho3; have hst := Ex.rules hb3 rfl; obtain ⟨hc3, hf3, hz3⟩ := hst))
  go_ret2
  exact ⟨A4, c4, rfl, ho4.less (by omega), ext_⟩
end Go.Proofs.Ytgceeggfdomdjaa

namespace Go.Proofs.Ytgceeggfdomdjaa
set_option maxRecDepth 100000
set_option linter.unusedSimpArgs false
set_option linter.unusedVariables false
open Go.RowKit Go
set_option maxHeartbeats 1000000

theorem hedOf_n {xs : List Sw.Ent} (h : Sw.ownFold xs = none) : Sw.hedOf xs = none := by simp [Sw.hedOf, h]
theorem hedOf_y {xs : List Sw.Ent} {rows : List Sw.Row} (h : Sw.ownFold xs = some rows) : Sw.hedOf xs = some ⟨xs.length, Sw.root (xs.map Sw.entLeaf), Sw.ownRoot rows⟩ := by simp [Sw.hedOf, h]
theorem iHedOf_c (A : Option Addr) (c n : Nat) (xs : List Sw.Ent) (w : World) (hxs : RE w 0 A c n xs) : Calls Try.prog 98 #[.slice A n c] w fun E w' => E = .returned (.tuple #[.agg #[.int .i64 ((Sw.hedOf xs).getD Sw.headZ).size, .int .i64 ((Sw.hedOf xs).getD Sw.headZ).log, .int .i64 ((Sw.hedOf xs).getD Sw.headZ).own], .bool (Sw.hedOf xs).isSome]) ∧ Ex w w' := by
  have hl := Lib.hid hxs.1
  cases hf : Sw.ownFold xs with
  | none =>
    have hs : (Sw.ownFold xs).isSome = false := by simp [hf]
    have HH := Lib.hid (hedOf_n hf); clear hf
    go_enter Try.func98, Try.ntmps98
    go_wp2_with (first | (go_at_call 57; apply Calls.mono; apply iOwnFold_c; ((first | (apply Rs.at0; assumption) | (apply Ow.rs0; assumption)); exact kf_); rintro E w1 ⟨A', c', n', rfl, hr, hb⟩; have hst := xr hb; (try simp only [zA, zC, zD, zN] at hst); obtain ⟨hc, hf, hz⟩ := hst))
    refine bodyPost_ret (v := .tuple #[.agg #[.int .i64 0, .int .i64 0, .int .i64 0], .bool false]) (by simp [results, Try.results98, go_sem, *]) rfl ?_
    exact ⟨by rw [HH.out]; rfl, ext_⟩
  | some rows =>
    have hn : n ≤ 40 := by have := hl.out; have := (Sw.ownFold_some.1 hf).1; omega
    have hs : (Sw.ownFold xs).isSome = true := by simp [hf]
    have hg : (Sw.ownFold xs).getD [] = rows := by simp [hf]
    have HT := Lib.hid (treRoot_ent (Sw.ownFold_some.1 hf).1)
    have HH := Lib.hid (hedOf_y hf); have HG := Lib.hid hg; clear hf hg
    go_enter Try.func98, Try.ntmps98
    go_wp2_with (first | (go_at_call 57; apply Calls.mono; apply iOwnFold_c; (first | assumption | ((first | (apply Rs.at0; assumption) | (apply Ow.rs0; assumption)); exact kf_) | omega); rintro E w1 ⟨A1, c1, n1, rfl, ho1, hb⟩; rw [HG.out] at ho1; have hst := xr hb; (try simp only [zA, zC, zD, zN] at hst); obtain ⟨hc, hf, hz⟩ := hst) | (go_at_call 155; apply Calls.mono; apply iEntLeaves_c; ((first | (apply Rs.at0; assumption) | (apply Ow.rs0; assumption)); exact kf_); (first | assumption | omega); rintro E w1 ⟨A', c', rfl, ho2, hb⟩; have hst := xr hb; (try simp only [zA, zC, zD, zN] at hst); obtain ⟨hc, hf, hz⟩ := hst) | (go_at_call 154; apply Calls.mono; apply iTreRoot_c; ((first | (apply Rs.at0; assumption) | (apply Ow.rs0; assumption)); exact kf_); rintro E w1 ⟨rfl, hb⟩; have hst := xr hb; (try simp only [zA, zC, zD, zN] at hst); obtain ⟨hc, hf, hz⟩ := hst) | (go_at_call 156; apply Calls.mono; apply iOwnRoot_c; ((first | (apply Rs.at0; assumption) | (apply Ow.rs0; assumption)); exact kf_); rintro E w1 ⟨rfl, hb⟩; have hst := xr hb; (try simp only [zA, zC, zD, zN] at hst); obtain ⟨hc, hf, hz⟩ := hst))
    all_goals (try (refine wp_name ?_; intro W0 hb0; have hst := xr hb0; (try simp only [zA, zC, zD, zN] at hst); obtain ⟨hc0, hf0, hz0⟩ := hst; have hLb : Lb W0 (w.heap.size) 3 := Lb.ex (by exact lbc_) hb0; go_region_held3 (fun w' => HeldB (w.heap.size) 3 W0 w') ((first | with_reducible assumption | with_reducible exact HeldB.start hLb | with_reducible exact HeldB.of (by assumption) (by assumption) | ((repeat (first | with_reducible refine HeldB.set ?_ (by first | exact Or.inl rfl | exact Or.inr (by simp only [zA, zC, zD, zN]; omega) | exact Or.inr (by omega)) | with_reducible refine HeldB.alloc ?_ _ | with_reducible refine HeldB.drew ?_)); (first | with_reducible assumption | with_reducible exact HeldB.refl hLb | with_reducible exact HeldB.of (by assumption) (by assumption) | with_reducible exact HeldB.ex (by assumption) (by assumption))))) ((first | (go_at_call 155; apply Calls.mono; apply iEntLeaves_c; ((first | (apply Rs.at0; assumption) | (apply Ow.rs0; assumption)); exact kf_); (first | assumption | omega); rintro E w1 ⟨A', c', rfl, ho2, hb⟩; have hst := xr hb; (try simp only [zA, zC, zD, zN] at hst); obtain ⟨hc, hf, hz⟩ := hst) | (go_at_call 154; apply Calls.mono; apply iTreRoot_c; ((first | (apply Rs.at0; assumption) | (apply Ow.rs0; assumption)); exact kf_); rintro E w1 ⟨rfl, hb⟩; have hst := xr hb; (try simp only [zA, zC, zD, zN] at hst); obtain ⟨hc, hf, hz⟩ := hst) | (go_at_call 156; apply Calls.mono; apply iOwnRoot_c; ((first | (apply Rs.at0; assumption) | (apply Ow.rs0; assumption)); exact kf_); rintro E w1 ⟨rfl, hb⟩; have hst := xr hb; (try simp only [zA, zC, zD, zN] at hst); obtain ⟨hc, hf, hz⟩ := hst))); all_goals (rename HeldB (w.heap.size) 3 W0 _ => hHx; have hb := HeldB.ch hHx; have hst := xc hb; (try simp only [zA, zC, zD, zN] at hst); obtain ⟨hc, hf, hz⟩ := hst; have hLb3 := HeldB.lb hHx; (repeat (first | with_reducible replace hLb3 := Lb.unset hLb3 | with_reducible replace hLb3 := Lb.undrew hLb3)); obtain ⟨hcb, hfb⟩ := Lb.rules hLb3; clear hHx)))
    all_goals (try go_wp2)
    refine bodyPost_ret (v := .tuple #[.agg #[.int .i64 n, .int .i64 (Sw.treRoot (xs.map Sw.entLeaf)), .int .i64 (Sw.ownRoot rows)], .bool true]) (by simp [results, Try.results98, go_sem, *]) rfl ?_
    exact ⟨by rw [HH.out, ← hl.out, HT.out]; rfl, ext_⟩
theorem iHedFork_c (a b : Sw.Head) (w : World) : Calls Try.prog 27 #[.agg #[.int .i64 a.size, .int .i64 a.log, .int .i64 a.own], .agg #[.int .i64 b.size, .int .i64 b.log, .int .i64 b.own]] w fun E w' => E = .returned (.bool (Sw.hedFork a b)) ∧ Ex w w' := by
  have e : Sw.hedFork a b = (Sw.hedOk a && Sw.hedOk b && decide (a.size = b.size) && !decide (a.size = b.size ∧ a.log = b.log ∧ a.own = b.own)) := by
    unfold Sw.hedFork; rw [show decide (a ≠ b) = !decide (a = b) from decide_not ..]; simp only [head_ext]
  rw [e]; clear e
  go_enter Try.func27, Try.ntmps27
  go_wp2_with (first | (go_at_call 76; refine (iHedOk_c _ _).mono ?_; rintro E w1 ⟨rfl, hb⟩; have hst := xr hb; (try simp only [zA, zC, zD, zN] at hst); obtain ⟨hc, hf, hz⟩ := hst))
  all_goals (go_ret; refine ⟨ret_b ?_, ext_⟩; go_tidy)
  all_goals (first | (simp [*]; done) | (simp_all; done))
theorem sHedFork_c (a b : Sw.Head) (w : World) : Calls Try.prog 83 #[.agg #[.int .i64 a.size, .int .i64 a.log, .int .i64 a.own], .agg #[.int .i64 b.size, .int .i64 b.log, .int .i64 b.own]] w fun E w' => E = .returned (.bool (Sw.hedFork a b)) ∧ Ex w w' := by
  have e : Sw.hedFork a b = (Sw.hedOk a && Sw.hedOk b && decide (a.size = b.size) && !decide (a.size = b.size ∧ a.log = b.log ∧ a.own = b.own)) := by
    unfold Sw.hedFork; rw [show decide (a ≠ b) = !decide (a = b) from decide_not ..]; simp only [head_ext]
  rw [e]; clear e
  go_enter Try.func83, Try.ntmps83
  go_wp2_with (first | (go_at_call 77; refine (sHedOk_c _ _).mono ?_; rintro E w1 ⟨rfl, hb⟩; have hst := xr hb; (try simp only [zA, zC, zD, zN] at hst); obtain ⟨hc, hf, hz⟩ := hst))
  all_goals (go_ret; refine ⟨ret_b ?_, ext_⟩; go_tidy)
  all_goals (first | (simp [*]; done) | (simp_all; done))
theorem iGatNew_c (w : World) : Calls Try.prog 36 #[] w fun E w' => E = .returned (.agg #[.int .i64 ((Sw.hedOf []).getD Sw.headZ).size, .int .i64 ((Sw.hedOf []).getD Sw.headZ).log, .int .i64 ((Sw.hedOf []).getD Sw.headZ).own, .slice none 0 0]) ∧ Ex w w' := by
  go_enter Try.func36, Try.ntmps36
  go_wp2_with (first | (go_at_call 98; apply Calls.mono; apply (iHedOf_c (xs := [])); exact (Ow.nil (enc := Sw.Ent.enc) (sz := 4) (e := 134) _ 0).rs; rintro E w1 ⟨rfl, hb⟩; have hst := xr hb; (try simp only [zA, zC, zD, zN] at hst); obtain ⟨hc, hf, hz⟩ := hst))
  refine bodyPost_ret (v := .agg #[.int .i64 ((Sw.hedOf []).getD Sw.headZ).size, .int .i64 ((Sw.hedOf []).getD Sw.headZ).log, .int .i64 ((Sw.hedOf []).getD Sw.headZ).own, .slice none 0 0]) (by simp [results, Try.results36, go_sem, *]) rfl ?_
  exact ⟨rfl, ext_⟩

/-! ### the first one of which something holds -/
def hitAt {α : Type} (p : α → Bool) (xs : List α) : Int := match xs.findIdx? p with
  | some i => i
  | none => -1
theorem hitAt_iff {α : Type} (p : α → Bool) (xs : List α) : decide (0 ≤ hitAt p xs) = xs.any p := by
  unfold hitAt
  cases h : xs.findIdx? p with
  | none =>
    rw [List.findIdx?_eq_none_iff] at h
    rw [show xs.any p = false from List.any_eq_false.2 fun x hx => by simp [h x hx]]; rfl
  | some i =>
    rw [List.findIdx?_eq_some_iff_getElem] at h
    obtain ⟨h1, h2, _⟩ := h
    rw [show xs.any p = true from List.any_eq_true.2 ⟨xs[i], List.getElem_mem h1, h2⟩]
    simp
theorem hitAt_here {α : Type} {p : α → Bool} {xs : List α} {k : Nat} {y : α} (hy : xs[k]? = some y) (h : ∀ j, j < k → ∀ z, xs[j]? = some z → p z = false) (hm : p y = true) : hitAt p xs = k := by
  unfold hitAt
  obtain ⟨hk, rfl⟩ := List.getElem?_eq_some_iff.1 hy
  have : xs.findIdx? p = some k := by
    rw [List.findIdx?_eq_some_iff_getElem]
    exact ⟨hk, hm, fun j hj => by simp [h j hj xs[j] (by simp)]⟩
  rw [this]
theorem hitAt_none {α : Type} {p : α → Bool} {xs : List α} {k : Nat} (hk : xs.length ≤ k) (h : ∀ j, j < k → ∀ z, xs[j]? = some z → p z = false) : hitAt p xs = -1 := by
  unfold hitAt
  have : xs.findIdx? p = none := by
    rw [List.findIdx?_eq_none_iff]
    intro x hx
    obtain ⟨i, hi, rfl⟩ := List.getElem_of_mem hx
    exact h i (by omega) xs[i] (by simp)
  rw [this]
theorem notHit_step {α : Type} {p : α → Bool} {xs : List α} {k : Nat} {y : α} (hy : xs[k]? = some y) (h : ∀ j, j < k → ∀ z, xs[j]? = some z → p z = false) (hm : p y = false) : ∀ j, j < k + 1 → ∀ z, xs[j]? = some z → p z = false := by
  intro j hj z hz
  rcases Nat.lt_succ_iff_lt_or_eq.1 hj with hj' | rfl
  · exact h j hj' z hz
  · rw [hy] at hz; cases hz; exact hm

def monBad (n : Int) : Bool := !Sw.inR n 0 100000
theorem iMonBad_c (x : Int) (w : World) : Calls Try.prog 131 #[.int .i64 x] w fun E w' => E = .returned (.bool (monBad x)) ∧ w = w' := by
  go_enter Try.func131, Try.ntmps131
  go_wp2_with (first | (go_at_call 96; refine (in_c _ _ _ _).mono ?_; rintro E w' ⟨rfl, rfl⟩))
  go_ret
  exact ⟨ret_b rfl, rfl⟩
theorem iMonBadAt_c (A : Option Addr) (c n : Nat) (xs : List Int) (w : World) (hxs : RI w 0 A c n xs) : Calls Try.prog 168 #[.slice A n c, .func (.func 131) #[] #[]] w fun E w' => E = .returned (.int .i64 (hitAt monBad xs)) ∧ Ex w w' := by

  have hl := Lib.hid hxs.1
  have hbig := Rs.big hxs
  go_enter Try.func168, Try.ntmps168
  go_wp2_with fail
  go_loopw [8] (fun i wr => ∃ k : Nat, k ≤ n ∧ i = .int .i64 k ∧ Ex w wr ∧ ∀ j, j < k → ∀ z, xs[j]? = some z → monBad z = false) (fun i _ => n - (intOf i).toNat)
  case atStart => exact ⟨0, Nat.zero_le _, rfl, (by exact ext_), by omega⟩
  case round =>
    obtain ⟨k, hk, rfl, hb2, hrel⟩ := hrel
    have Hrel := Lib.hid hrel; clear hrel
    have hst := xr hb2
    (try simp only [zA, zC, zD, zN] at hst)
    obtain ⟨hc2, hf2, hz2⟩ := hst
    by_cases hlt : k < n
    · obtain ⟨g, off, y, rfl, hg0, hg, hd, hy, hca0⟩ := at_I hxs hlt
      have Hy := Lib.hid hy; clear hd hy
      cases hmx : monBad y
      case true =>
        go_wp2_with (first | (go_at_call 131; refine (iMonBad_c _ _).mono ?_; rintro E w' ⟨rfl, rfl⟩))
        go_ret
        exact ⟨ret_i (hitAt_here Hy.out Hrel.out hmx).symm, (by exact ext_)⟩
      case false =>
        go_wp2_with (first | (go_at_call 131; refine (iMonBad_c _ _).mono ?_; rintro E w' ⟨rfl, rfl⟩))
        go_roundw
        case rel => exact ⟨k + 1, by omega, by go_num, (by exact ext_), notHit_step Hy.out Hrel.out hmx⟩
        case measure => simp [intOf]; omega
    · go_wp2_with fail
      go_ret
      exact ⟨ret_i (hitAt_none (by have := hl.out; omega) Hrel.out).symm, (by exact ext_)⟩

theorem iMonHasBad_c (A : Option Addr) (c n : Nat) (xs : List Int) (w : World) (hxs : RI w 0 A c n xs) : Calls Try.prog 130 #[.slice A n c, .func (.func 131) #[] #[]] w fun E w' => E = .returned (.bool (xs.any monBad)) ∧ Ex w w' := by
  have Hb := Lib.hid (hitAt_iff monBad xs)
  go_enter Try.func130, Try.ntmps130
  go_wp2_with (first | (go_at_call 168; apply Calls.mono; apply iMonBadAt_c; ((first | (apply Rs.at0; assumption) | (apply Ow.rs0; assumption)); exact kf_); rintro E w1 ⟨rfl, hb⟩; have hst := xr hb; (try simp only [zA, zC, zD, zN] at hst); obtain ⟨hc, hf, hz⟩ := hst))
  go_ret
  exact ⟨ret_b Hb.out, ext_⟩
theorem any_not {α : Type} (p : α → Bool) (xs : List α) : (!xs.any (fun x => !p x)) = xs.all p := by
  rw [List.all_eq_not_any_not]
theorem iMonOk_c (A : Option Addr) (c n : Nat) (xs : List Int) (w : World) (hxs : RI w 0 A c n xs) : Calls Try.prog 59 #[.slice A n c] w fun E w' => E = .returned (.bool (Sw.monOk xs)) ∧ Ex w w' := by
  have hl := Lib.hid hxs.1
  have hbig := Rs.big hxs
  have e : Sw.monOk xs = (decide (n = 5) && !xs.any monBad) := by
    rw [Sw.monOk, ← hl.out, ← any_not]; rfl
  have He := Lib.hid e; clear e
  by_cases hn : n = 5
  · subst hn
    go_enter Try.func59, Try.ntmps59
    go_wp2_with (first | (go_at_call 130; apply Calls.mono; apply iMonHasBad_c; ((first | (apply Rs.at0; assumption) | (apply Ow.rs0; assumption)); exact kf_); rintro E w1 ⟨rfl, hb⟩; have hst := xr hb; (try simp only [zA, zC, zD, zN] at hst); obtain ⟨hc, hf, hz⟩ := hst))
    go_ret
    exact ⟨ret_b (by rw [He.out]; simp), ext_⟩
  · have hb : ((n : Int) == 5) = false := by simp; omega
    go_enter Try.func59, Try.ntmps59
    go_wp2_with (first | (go_at_call 130; apply Calls.mono; apply iMonHasBad_c; ((first | (apply Rs.at0; assumption) | (apply Ow.rs0; assumption)); exact kf_); rintro E w1 ⟨rfl, hb⟩; have hst := xr hb; (try simp only [zA, zC, zD, zN] at hst); obtain ⟨hc, hf, hz⟩ := hst))
    go_ret
    exact ⟨ret_b (by rw [He.out]; simp [hn]), ext_⟩
end Go.Proofs.Ytgceeggfdomdjaa

namespace Go.Proofs.Ytgceeggfdomdjaa
set_option maxRecDepth 100000
set_option linter.unusedSimpArgs false
set_option linter.unusedVariables false
open Go.RowKit Go
set_option maxHeartbeats 400000

theorem sumFrom_cons (s x : Int) (xs : List Int) : Sw.sumFrom s (x :: xs) = Sw.sumFrom (wrap64 (s + x)) xs := rfl
theorem heldFrom_cons (s : Int) (d : Sw.Deal) (ds : List Sw.Deal) : Sw.heldFrom s (d :: ds) = Sw.heldFrom (Sw.heldStep s d) ds := rfl
theorem heldStep_y {s : Int} {d : Sw.Deal} (h : 0 < d.buyer) : Sw.heldStep s d = wrap64 (s + d.price) := by simp [Sw.heldStep, Sw.held, h]
theorem heldStep_n {s : Int} {d : Sw.Deal} (h : ¬ 0 < d.buyer) : Sw.heldStep s d = s := by simp [Sw.heldStep, Sw.held, h]

theorem sMonSum_c (A : Option Addr) (c n : Nat) (xs : List Int) (w : World) (hxs : RI w 0 A c n xs) : Calls Try.prog 108 #[.slice A n c] w fun E w' => E = .returned (.int .i64 (Sw.monSum xs)) ∧ w = w' := by
  have hl := Lib.hid hxs.1
  have hbig := Rs.big hxs
  go_enter Try.func108, Try.ntmps108
  go_wp2
  go_loop [3, 4] (fun v i => ∃ (k : Nat) (s : Int), k ≤ n ∧ i = .int .i64 k ∧ v = .int .i64 s ∧ Sw.monSum xs = Sw.sumFrom s (xs.drop k)) (fun _ i => n - (intOf i).toNat)
  case atStart => exact ⟨0, 0, Nat.zero_le _, rfl, rfl, rfl⟩
  case round =>
    obtain ⟨k, s, hk, rfl, rfl, hrel⟩ := hrel
    by_cases hlt : k < n
    · obtain ⟨g, off, y, rfl, hg0, hg, hd, hy, hc⟩ := at_I hxs hlt
      rw [hd, sumFrom_cons] at hrel
      have Hrel := Lib.hid hrel; clear hrel hd hy
      go_wp2
      go_round
      case rel => exact ⟨k + 1, _, by omega, by go_num, rfl, Hrel.out⟩
      case measure => simp [intOf]; omega
    · have Hrel := Lib.hid hrel; clear hrel
      go_wp2
      go_ret
      refine ⟨ret_i ?_, rfl⟩
      rw [Hrel.out, List.drop_of_length_le (by have := hl.out; omega)]
      rfl
theorem iMonSum_c (A : Option Addr) (c n : Nat) (xs : List Int) (w : World) (hxs : RI w 0 A c n xs) : Calls Try.prog 40 #[.slice A n c] w fun E w' => E = .returned (.int .i64 (Sw.monSum xs)) ∧ w = w' := by
  have hl := Lib.hid hxs.1
  have hbig := Rs.big hxs
  go_enter Try.func40, Try.ntmps40
  go_wp2
  go_loop [3, 8] (fun v i => ∃ (k : Nat) (s : Int), k ≤ n ∧ i = .int .i64 k ∧ v = .int .i64 s ∧ Sw.monSum xs = Sw.sumFrom s (xs.drop k)) (fun _ i => n - (intOf i).toNat)
  case atStart => exact ⟨0, 0, Nat.zero_le _, rfl, rfl, rfl⟩
  case round =>
    obtain ⟨k, s, hk, rfl, rfl, hrel⟩ := hrel
    by_cases hlt : k < n
    · obtain ⟨g, off, y, rfl, hg0, hg, hd, hy, hc⟩ := at_I hxs hlt
      rw [hd, sumFrom_cons] at hrel
      have Hrel := Lib.hid hrel; clear hrel hd hy
      go_wp2
      go_round
      case rel => exact ⟨k + 1, _, by omega, by go_num, rfl, Hrel.out⟩
      case measure => simp [intOf]; omega
    · have Hrel := Lib.hid hrel; clear hrel
      go_wp2
      go_ret
      refine ⟨ret_i ?_, rfl⟩
      rw [Hrel.out, List.drop_of_length_le (by have := hl.out; omega)]
      rfl

theorem iHeld_c (d : Sw.Deal) (w : World) : Calls Try.prog 104 #[.agg #[.int .i64 d.ticket, .int .i64 d.seller, .int .i64 d.price, .int .i64 d.buyer, .int .i64 d.due]] w fun E w' => E = .returned (.bool (Sw.held d)) ∧ Ex w w' := by
  go_enter Try.func104, Try.ntmps104
  go_wp2_with fail
  go_ret
  exact ⟨rfl, ext_⟩

theorem sMktHeld_c (aL : Option Addr) (aLc aLn : Nat) (aP : Option Addr) (aPc aPn : Nat) (aD : Option Addr) (aDc aDn : Nat) (aN : Option Addr) (aNc aNn : Nat) (aS : Option Addr) (aSc aSn : Nat) (m : Sw.Mkt) (w : World) (hm : RM w 0 aL aLc aLn aP aPc aPn aD aDc aDn aN aNc aNn aS aSc aSn m) : Calls Try.prog 109 #[.agg #[.slice aL aLn aLc, .slice aP aPn aPc, .slice aD aDn aDc, .int .i64 m.clock, .slice aN aNn aNc, .slice aS aSn aSc]] w fun E w' => E = .returned (.int .i64 (Sw.mktHeld m)) ∧ Ex w w' := by
  have hxs := hm.deals
  clear hm
  have hl := Lib.hid hxs.1
  have hbig := Rs.big hxs
  go_enter Try.func109, Try.ntmps109
  go_wp2_with fail
  go_loop [3, 4] (fun v i => ∃ (k : Nat) (s : Int), k ≤ aDn ∧ i = .int .i64 k ∧ v = .int .i64 s ∧ Sw.mktHeld m = Sw.heldFrom s (m.deals.drop k)) (fun _ i => aDn - (intOf i).toNat)
  case atStart => exact ⟨0, 0, Nat.zero_le _, rfl, rfl, rfl⟩
  case round =>
    obtain ⟨k, s, hk, rfl, rfl, hrel⟩ := hrel
    by_cases hlt : k < aDn
    · obtain ⟨g, off, y, rfl, hg0, hg, hd, hy, q0, q1, q2, q3, q4⟩ := at_D hxs hlt
      rw [hd, heldFrom_cons] at hrel
      have Hrel := Lib.hid hrel; clear hrel hd hy
      by_cases hb : 0 < y.buyer
      · go_wp2
        go_round
        case rel => exact ⟨k + 1, _, by omega, by go_num, rfl, by rw [Hrel.out, heldStep_y hb]⟩
        case measure => simp [intOf]; omega
      · go_wp2
        go_round
        case rel => exact ⟨k + 1, _, by omega, by go_num, rfl, by rw [Hrel.out, heldStep_n hb]⟩
        case measure => simp [intOf]; omega
    · have Hrel := Lib.hid hrel; clear hrel
      go_wp2
      go_ret
      refine ⟨ret_i ?_, ext_⟩
      rw [Hrel.out, List.drop_of_length_le (by have := hl.out; omega)]
      rfl
theorem iMktHeld_c (aL : Option Addr) (aLc aLn : Nat) (aP : Option Addr) (aPc aPn : Nat) (aD : Option Addr) (aDc aDn : Nat) (aN : Option Addr) (aNc aNn : Nat) (aS : Option Addr) (aSc aSn : Nat) (m : Sw.Mkt) (w : World) (hm : RM w 0 aL aLc aLn aP aPc aPn aD aDc aDn aN aNc aNn aS aSc aSn m) : Calls Try.prog 44 #[.agg #[.slice aL aLn aLc, .slice aP aPn aPc, .slice aD aDn aDc, .int .i64 m.clock, .slice aN aNn aNc, .slice aS aSn aSc]] w fun E w' => E = .returned (.int .i64 (Sw.mktHeld m)) ∧ Ex w w' := by
  have hxs := hm.deals
  clear hm
  have hl := Lib.hid hxs.1
  have hbig := Rs.big hxs
  go_enter Try.func44, Try.ntmps44
  go_wp2_with fail
  go_loopw [3, 9] (fun v i wr => ∃ (k : Nat) (s : Int), k ≤ aDn ∧ i = .int .i64 k ∧ v = .int .i64 s ∧ Ex w wr ∧ Sw.mktHeld m = Sw.heldFrom s (m.deals.drop k)) (fun _ i _ => aDn - (intOf i).toNat)
  case atStart => exact ⟨0, 0, Nat.zero_le _, rfl, rfl, ext_, rfl⟩
  case round =>
    obtain ⟨k, s, hk, rfl, rfl, hb2, hrel⟩ := hrel
    have hst := Ex.rules hb2 rfl
    obtain ⟨hc2, hf2, hz2⟩ := hst
    by_cases hlt : k < aDn
    · obtain ⟨g, off, y, rfl, hg0, hg, hd, hy, q0, q1, q2, q3, q4⟩ := at_D hxs hlt
      rw [hd, heldFrom_cons] at hrel
      have Hrel := Lib.hid hrel; clear hrel hd hy
      cases hb : Sw.held y with
      | true =>
        go_wp2_with (go_at_call 104; apply Calls.mono; apply (iHeld_c y); rintro E w1 ⟨rfl, hb⟩; have hst := xr hb; (try simp only [zA, zC, zD, zN] at hst); obtain ⟨hc, hf, hz⟩ := hst)
        go_roundw
        case rel => exact ⟨k + 1, _, by omega, by go_num, rfl, ext_, by rw [Hrel.out, Sw.heldStep, if_pos (by assumption)]⟩
        case measure => simp [intOf]; omega
      | false =>
        go_wp2_with (go_at_call 104; apply Calls.mono; apply (iHeld_c y); rintro E w1 ⟨rfl, hb⟩; have hst := xr hb; (try simp only [zA, zC, zD, zN] at hst); obtain ⟨hc, hf, hz⟩ := hst)
        go_roundw
        case rel => exact ⟨k + 1, _, by omega, by go_num, rfl, ext_, by rw [Hrel.out, Sw.heldStep, if_neg (by simp [*])]⟩
        case measure => simp [intOf]; omega
    · have Hrel := Lib.hid hrel; clear hrel
      go_wp2_with fail
      go_ret
      refine ⟨ret_i ?_, ext_⟩
      rw [Hrel.out, List.drop_of_length_le (by have := hl.out; omega)]
      rfl
theorem iWldMoney_c (aF : Option Addr) (aFc aFn : Nat) (aL : Option Addr) (aLc aLn : Nat) (aP : Option Addr) (aPc aPn : Nat) (aD : Option Addr) (aDc aDn : Nat) (aN : Option Addr) (aNc aNn : Nat) (aS : Option Addr) (aSc aSn : Nat) (aI : Option Addr) (aIc aIn : Nat) (aG : Option Addr) (aGc aGn : Nat) (aB : Option Addr) (aBc aBn : Nat) (x : Sw.World) (w : World) (hx : RW w 0 aF aFc aFn aL aLc aLn aP aPc aPn aD aDc aDn aN aNc aNn aS aSc aSn aI aIc aIn aG aGc aGn aB aBc aBn x) : Calls Try.prog 39 #[.agg #[.slice aF aFn aFc, .slice aL aLn aLc, .slice aP aPn aPc, .slice aD aDn aDc, .int .i64 x.market.clock, .slice aN aNn aNc, .slice aS aSn aSc, .slice aI aIn aIc, .slice aG aGn aGc, .slice aB aBn aBc]] w fun E w' => E = .returned (.int .i64 (Sw.wldMoney x)) ∧ Ex w w' := by
  have hm := hx.mkt
  have hp := hm.purses
  clear hx
  go_enter Try.func39, Try.ntmps39
  go_wp2_with (first | (go_at_call 40; apply Calls.mono; apply iMonSum_c; ((first | (apply Rs.at0; assumption) | (apply Ow.rs0; assumption)); exact kf_); rintro E w' ⟨rfl, rfl⟩) | (go_at_call 44; apply Calls.mono; apply iMktHeld_c; ((first | (apply RM.at0; assumption)); exact kf_); rintro E w1 ⟨rfl, hb⟩; have hst := xr hb; (try simp only [zA, zC, zD, zN] at hst); obtain ⟨hc, hf, hz⟩ := hst))
  try (refine wp_name ?_; intro W0 hb0; have hst := xr hb0; (try simp only [zA, zC, zD, zN] at hst); obtain ⟨hc0, hf0, hz0⟩ := hst; go_region_held3 (fun w' => Held W0 w') ((first | with_reducible assumption | with_reducible exact Held.start _ | with_reducible exact Held.of (by assumption) | with_reducible exact Held.ex (by assumption) (by assumption) | ((repeat (first | with_reducible refine Held.set ?_ (by simp only [zA, zC, zD, zN]; omega) | with_reducible refine Held.alloc ?_ _ | with_reducible refine Held.drew ?_)); (first | with_reducible assumption | with_reducible exact Held.refl _ | with_reducible exact Held.of (by assumption) | with_reducible exact Held.ex (by assumption) (by assumption))) | exact Held.of (by exact ext_))) ((first | (go_at_call 40; apply Calls.mono; apply iMonSum_c; ((first | (apply Rs.at0; assumption) | (apply Ow.rs0; assumption)); exact kf_); rintro E w' ⟨rfl, rfl⟩) | (go_at_call 44; apply Calls.mono; apply iMktHeld_c; ((first | (apply RM.at0; assumption)); exact kf_); rintro E w1 ⟨rfl, hb⟩; have hst := xr hb; (try simp only [zA, zC, zD, zN] at hst); obtain ⟨hc, hf, hz⟩ := hst))); all_goals (have hb := And.right (by assumption : Held W0 _); have hst := xr hb; (try simp only [zA, zC, zD, zN] at hst); obtain ⟨hc, hf, hz⟩ := hst))
  go_wp2
  go_ret
  exact ⟨ret_i (IntWalk.i64_left _), ext_⟩
end Go.Proofs.Ytgceeggfdomdjaa

namespace Go.Proofs.Ytgceeggfdomdjaa
set_option maxRecDepth 100000
set_option linter.unusedSimpArgs false
set_option linter.unusedVariables false
open Go.RowKit Go
set_option maxHeartbeats 1000000

theorem iMonTurn_c (A : Option Addr) (c n : Nat) (xs : List Int) (who v : Int) (w : World) (hxs : RI w 0 A c n xs) (hn : n ≤ 4194304) : Calls Try.prog 158 #[.slice A n c, .int .i64 who, .int .i64 v] w fun E w' => ∃ A' c', E = .returned (.tuple #[.slice A' n c', .bool (Sw.turnMay xs who v)]) ∧ OwI w' w.heap.size A' c' n (Sw.monTurn xs who v) ∧ Ex w w' := by
  cases g1 : Sw.monOk xs
  case false =>
    have e : Sw.turnMay xs who v = false := by simp [Sw.turnMay, g1]
    rw [e, monTurn_n e]; clear e
    go_enter Try.func158, Try.ntmps158
    go_wp2_with (first | (go_at_call 86; apply Calls.mono; apply iCloneInts_c; ((first | (apply Rs.at0; assumption) | (apply Ow.rs0; assumption) | (apply OwT.rs0; assumption)); exact kf_); (first | assumption | omega); rintro E w1 ⟨A1, c1, rfl, ho1, hb⟩; have hst := xr hb; (try simp only [zA, zC, zD, zN] at hst); obtain ⟨hc, hf, hz⟩ := hst) | (go_at_call 59; apply Calls.mono; apply iMonOk_c; ((first | (apply Rs.at0; assumption) | (apply Ow.rs0; assumption) | (apply OwT.rs0; assumption)); exact kf_); rintro E w1 ⟨rfl, hb⟩; have hst := xr hb; (try simp only [zA, zC, zD, zN] at hst); obtain ⟨hc, hf, hz⟩ := hst))
    go_ret2
    exact ⟨A1, c1, rfl, (ho1.keep (by (exact kf_))).less (by exact sz_), ext_⟩
  have h5 := monOk_len g1
  have hn5 : n = 5 := by rw [hxs.1, h5]
  subst hn5
  clear h5
  cases g2 : Sw.inR who 1 5
  case false =>
    have e : Sw.turnMay xs who v = false := by simp [Sw.turnMay, g2]
    rw [e, monTurn_n e]; clear e
    go_enter Try.func158, Try.ntmps158
    go_wp2_with (first | (go_at_call 86; apply Calls.mono; apply iCloneInts_c; ((first | (apply Rs.at0; assumption) | (apply Ow.rs0; assumption) | (apply OwT.rs0; assumption)); exact kf_); (first | assumption | omega); rintro E w1 ⟨A1, c1, rfl, ho1, hb⟩; have hst := xr hb; (try simp only [zA, zC, zD, zN] at hst); obtain ⟨hc, hf, hz⟩ := hst) | (go_at_call 59; apply Calls.mono; apply iMonOk_c; ((first | (apply Rs.at0; assumption) | (apply Ow.rs0; assumption) | (apply OwT.rs0; assumption)); exact kf_); rintro E w1 ⟨rfl, hb⟩; have hst := xr hb; (try simp only [zA, zC, zD, zN] at hst); obtain ⟨hc, hf, hz⟩ := hst) | (go_at_call 150; refine (isUser_c _ _).mono ?_; rintro E w' ⟨rfl, rfl⟩) | (go_at_call 96; refine (in_c _ _ _ _).mono ?_; rintro E w' ⟨rfl, rfl⟩))
    go_ret2
    exact ⟨A1, c1, rfl, (ho1.keep (by (exact kf_))).less (by exact sz_), ext_⟩
  cases g3 : Sw.inR v (-100000) 100000
  case false =>
    have e : Sw.turnMay xs who v = false := by simp [Sw.turnMay, g3]
    rw [e, monTurn_n e]; clear e
    go_enter Try.func158, Try.ntmps158
    go_wp2_with (first | (go_at_call 86; apply Calls.mono; apply iCloneInts_c; ((first | (apply Rs.at0; assumption) | (apply Ow.rs0; assumption) | (apply OwT.rs0; assumption)); exact kf_); (first | assumption | omega); rintro E w1 ⟨A1, c1, rfl, ho1, hb⟩; have hst := xr hb; (try simp only [zA, zC, zD, zN] at hst); obtain ⟨hc, hf, hz⟩ := hst) | (go_at_call 59; apply Calls.mono; apply iMonOk_c; ((first | (apply Rs.at0; assumption) | (apply Ow.rs0; assumption) | (apply OwT.rs0; assumption)); exact kf_); rintro E w1 ⟨rfl, hb⟩; have hst := xr hb; (try simp only [zA, zC, zD, zN] at hst); obtain ⟨hc, hf, hz⟩ := hst) | (go_at_call 150; refine (isUser_c _ _).mono ?_; rintro E w' ⟨rfl, rfl⟩) | (go_at_call 96; refine (in_c _ _ _ _).mono ?_; rintro E w' ⟨rfl, rfl⟩))
    go_ret2
    exact ⟨A1, c1, rfl, (ho1.keep (by (exact kf_))).less (by exact sz_), ext_⟩
  have hw := Sw.inR_iff.1 g2
  have hv := Sw.inR_iff.1 g3
  obtain ⟨k, rfl⟩ : ∃ k : Nat, who = k + 1 := ⟨(who - 1).toNat, by omega⟩
  have hk : k < 5 := by omega
  obtain ⟨g, off, y, rfl, hg0, hg, hd, hy, hc0⟩ := at_I hxs hk
  have hyb : 0 ≤ y ∧ y ≤ 100000 := (Sw.monOk_iff.1 g1).2 y (List.mem_of_getElem? hy)
  have hpu := purse_at hy
  have Hpu := Lib.hid hpu
  have Hy := Lib.hid hy
  clear hd hy hpu
  obtain ⟨y0, y1⟩ := hyb
  obtain ⟨v0, v1⟩ := hv
  clear hw
  have t2 : IntKind.i64.wrap ((k : Int) + 1 - 1) = k := by rw [IntWalk.i64_in _ (by omega)]; omega
  cases g4 : Sw.inR (y + v) 0 100000
  case false =>
    have e : Sw.turnMay xs (k + 1) v = false := by simp [Sw.turnMay, Hpu.out, g4]
    rw [e, monTurn_n e]; clear e
    go_enter Try.func158, Try.ntmps158
    go_wp2_with (go_at_call 86; apply Calls.mono; apply iCloneInts_c; ((first | (apply Rs.at0; assumption) | (apply Ow.rs0; assumption) | (apply OwT.rs0; assumption)); exact kf_); (first | assumption | omega); rintro E w1 ⟨A1, c1, rfl, ho1, hb⟩; have hst := xr hb; (try simp only [zA, zC, zD, zN] at hst); obtain ⟨hc, hf, hz⟩ := hst)
    obtain ⟨g', x', hA, hlo, hlt, hx, hcx, hfz⟩ := at_OI ho1 hk
    obtain rfl : x' = y := by have := Hy.out; rw [hx] at this; exact Option.some.inj this
    subst hA
    clear hx
    go_wp2_with (first | (go_at_call 59; apply Calls.mono; apply iMonOk_c; ((first | (apply Rs.at0; assumption) | (apply Ow.rs0; assumption) | (apply OwT.rs0; assumption)); exact kf_); rintro E w1 ⟨rfl, hb⟩; have hst := xr hb; (try simp only [zA, zC, zD, zN] at hst); obtain ⟨hc, hf, hz⟩ := hst) | (go_at_call 150; refine (isUser_c _ _).mono ?_; rintro E w' ⟨rfl, rfl⟩) | (go_at_call 96; refine (in_c _ _ _ _).mono ?_; rintro E w' ⟨rfl, rfl⟩))
    go_ret2
    exact ⟨_, c1, rfl, (ho1.keep (by (exact kf_))).less (by exact sz_), ext_⟩
  have e : Sw.turnMay xs (k + 1) v = true := by simp [Sw.turnMay, g1, g2, g3, Hpu.out, g4]
  rw [e, monTurn_y e]; clear e
  go_enter Try.func158, Try.ntmps158
  go_wp2_with (go_at_call 86; apply Calls.mono; apply iCloneInts_c; ((first | (apply Rs.at0; assumption) | (apply Ow.rs0; assumption) | (apply OwT.rs0; assumption)); exact kf_); (first | assumption | omega); rintro E w1 ⟨A1, c1, rfl, ho1, hb⟩; have hst := xr hb; (try simp only [zA, zC, zD, zN] at hst); obtain ⟨hc, hf, hz⟩ := hst)
  obtain ⟨g', x', hA, hlo, hlt, hx, hcx, hfz⟩ := at_OI ho1 hk
  obtain rfl : x' = y := by have := Hy.out; rw [hx] at this; exact Option.some.inj this
  subst hA
  clear hx
  apply Calls.mono; apply iMonOk_c; (first | assumption | ((first | (apply Rs.at0; assumption) | (apply Ow.rs0; assumption) | (apply OwT.rs0; assumption)); exact kf_) | omega); rintro E w3 ⟨rfl, hb3⟩; have hst := xr hb3; (try simp only [zA, zC, zD] at hst); obtain ⟨hc3, hf3, hz3⟩ := hst
  have ho3 := Ow.keep ho1 (KF.ex hb3 (KF.refl _ _))
  go_wp2_with (first | (go_at_call 150; refine (isUser_c _ _).mono ?_; rintro E w' ⟨rfl, rfl⟩) | (go_at_call 96; refine (in_c _ _ _ _).mono ?_; rintro E w' ⟨rfl, rfl⟩))
  go_ret2
  refine ⟨_, _, rfl, ?_, ext_⟩
  have r := OI_set ho3 rfl Hy.out (x' + v)
  rw [Sw.turned, Hpu.out, show ((k : Int) + 1 - 1).toNat = k from by omega]
  exact r.less (by omega)

theorem iMonMove_c (A : Option Addr) (c n : Nat) (xs : List Int) (a b v : Int) (w : World) (hxs : RI w 0 A c n xs) (hn : n ≤ 4194304) : Calls Try.prog 211 #[.slice A n c, .int .i64 a, .int .i64 b, .int .i64 v] w fun E w' => ∃ A' c', E = .returned (.tuple #[.slice A' n c', .bool (Sw.moveMay xs a b v)]) ∧ OwI w' w.heap.size A' c' n (Sw.monMove xs a b v) ∧ Ex w w' := by
  cases g1 : Sw.inR v 0 100000
  case false =>
    have e : Sw.moveMay xs a b v = false := by simp [Sw.moveMay, g1]
    have e2 : Sw.monMove xs a b v = xs := by simp [Sw.monMove, e]
    rw [e, e2]; clear e e2
    go_enter Try.func211, Try.ntmps211
    go_wp2_with (first | (go_at_call 86; apply Calls.mono; apply iCloneInts_c; ((first | (apply Rs.at0; assumption) | (apply Ow.rs0; assumption) | (apply OwT.rs0; assumption)); exact kf_); (first | assumption | omega); rintro E w1 ⟨A1, c1, rfl, ho1, hb⟩; have hst := xr hb; (try simp only [zA, zC, zD, zN] at hst); obtain ⟨hc, hf, hz⟩ := hst) | (go_at_call 96; refine (in_c _ _ _ _).mono ?_; rintro E w' ⟨rfl, rfl⟩))
    go_ret2
    exact ⟨A1, c1, rfl, (ho1.keep (by (exact kf_))).less (by exact sz_), ext_⟩
  have hv := Sw.inR_iff.1 g1
  obtain ⟨v0, v1⟩ := hv
  by_cases g2 : a = b
  case pos =>
    have hab : (a == b) = true := by simp [g2]
    have e : Sw.moveMay xs a b v = false := by simp [Sw.moveMay, g2]
    have e2 : Sw.monMove xs a b v = xs := by simp [Sw.monMove, e]
    rw [e, e2]; clear e e2 g2
    go_enter Try.func211, Try.ntmps211
    go_wp2_with (first | (go_at_call 86; apply Calls.mono; apply iCloneInts_c; ((first | (apply Rs.at0; assumption) | (apply Ow.rs0; assumption) | (apply OwT.rs0; assumption)); exact kf_); (first | assumption | omega); rintro E w1 ⟨A1, c1, rfl, ho1, hb⟩; have hst := xr hb; (try simp only [zA, zC, zD, zN] at hst); obtain ⟨hc, hf, hz⟩ := hst) | (go_at_call 96; refine (in_c _ _ _ _).mono ?_; rintro E w' ⟨rfl, rfl⟩))
    go_ret2
    exact ⟨A1, c1, rfl, (ho1.keep (by (exact kf_))).less (by exact sz_), ext_⟩
  have hab : (a == b) = false := by simp [g2]
  cases g3 : Sw.turnMay xs a (-v)
  case false =>
    have e : Sw.moveMay xs a b v = false := by simp [Sw.moveMay, g3]
    have e2 : Sw.monMove xs a b v = xs := by simp [Sw.monMove, e]
    rw [e, e2]; clear e e2 g2
    go_enter Try.func211, Try.ntmps211
    go_wp2_with (first | (go_at_call 86; apply Calls.mono; apply iCloneInts_c; ((first | (apply Rs.at0; assumption) | (apply Ow.rs0; assumption) | (apply OwT.rs0; assumption)); exact kf_); (first | assumption | omega); rintro E w1 ⟨A1, c1, rfl, ho1, hb⟩; have hst := xr hb; (try simp only [zA, zC, zD, zN] at hst); obtain ⟨hc, hf, hz⟩ := hst) | (go_at_call 96; refine (in_c _ _ _ _).mono ?_; rintro E w' ⟨rfl, rfl⟩) | (go_at_call 158; apply Calls.mono; apply iMonTurn_c; ((first | (apply Rs.at0; assumption) | (apply Ow.rs0; assumption) | (apply OwT.rs0; assumption)); exact kf_); (first | assumption | omega); rintro E w1 ⟨A3, c3, rfl, ho3, hb⟩; have hst := xr hb; (try simp only [zA, zC, zD, zN] at hst); obtain ⟨hc, hf, hz⟩ := hst))
    go_ret2
    exact ⟨A1, c1, rfl, (ho1.keep (by (exact kf_))).less (by exact sz_), ext_⟩
  have e3 := monTurn_y g3
  have E3 := Lib.hid e3; clear e3
  cases g4 : Sw.turnMay (Sw.turned xs a (-v)) b v
  case false =>
    have e : Sw.moveMay xs a b v = false := by simp [Sw.moveMay, g4]
    have e2 : Sw.monMove xs a b v = xs := by simp [Sw.monMove, e]
    rw [e, e2]; clear e e2 g2
    go_enter Try.func211, Try.ntmps211
    go_wp2_with (first | (go_at_call 86; apply Calls.mono; apply iCloneInts_c; ((first | (apply Rs.at0; assumption) | (apply Ow.rs0; assumption) | (apply OwT.rs0; assumption)); exact kf_); (first | assumption | omega); rintro E w1 ⟨A1, c1, rfl, ho1, hb⟩; have hst := xr hb; (try simp only [zA, zC, zD, zN] at hst); obtain ⟨hc, hf, hz⟩ := hst) | (go_at_call 96; refine (in_c _ _ _ _).mono ?_; rintro E w' ⟨rfl, rfl⟩) | (go_at_call 158; apply Calls.mono; apply (iMonTurn_c (xs := Sw.turned xs a (-v))); (first | assumption | ((first | (apply Rs.at0; assumption) | (apply Ow.rs0; assumption) | (apply OwT.rs0; assumption)); exact kf_) | omega); omega; rintro E w4 ⟨A4, c4, rfl, ho4, hb⟩; have hst := xr hb; (try simp only [zA, zC, zD, zN] at hst); obtain ⟨hc, hf, hz⟩ := hst) | (go_at_call 158; apply Calls.mono; apply (iMonTurn_c (xs := xs)); (first | assumption | ((first | (apply Rs.at0; assumption) | (apply Ow.rs0; assumption) | (apply OwT.rs0; assumption)); exact kf_) | omega); omega; rintro E w3 ⟨A3, c3, rfl, ho3, hb⟩; rw [E3.out] at ho3; have hst := xr hb; (try simp only [zA, zC, zD, zN] at hst); obtain ⟨hc, hf, hz⟩ := hst))
    go_ret2
    exact ⟨A1, c1, rfl, (ho1.keep (by (exact kf_))).less (by exact sz_), ext_⟩
  have e : Sw.moveMay xs a b v = true := by simp [Sw.moveMay, g1, g2, g3, g4]
  have e2 : Sw.monMove xs a b v = Sw.turned (Sw.turned xs a (-v)) b v := by simp [Sw.monMove, e]
  have e4 := monTurn_y g4
  have E4 := Lib.hid e4; clear e4
  rw [e, e2]; clear e e2 g2
  go_enter Try.func211, Try.ntmps211
  go_wp2_with (first | (go_at_call 96; refine (in_c _ _ _ _).mono ?_; rintro E w' ⟨rfl, rfl⟩) | (go_at_call 158; apply Calls.mono; apply (iMonTurn_c (xs := Sw.turned xs a (-v))); (first | assumption | ((first | (apply Rs.at0; assumption) | (apply Ow.rs0; assumption) | (apply OwT.rs0; assumption)); exact kf_) | omega); omega; rintro E w4 ⟨A4, c4, rfl, ho4, hb⟩; rw [E4.out] at ho4; have hst := xr hb; (try simp only [zA, zC, zD, zN] at hst); obtain ⟨hc, hf, hz⟩ := hst) | (go_at_call 158; apply Calls.mono; apply (iMonTurn_c (xs := xs)); (first | assumption | ((first | (apply Rs.at0; assumption) | (apply Ow.rs0; assumption) | (apply OwT.rs0; assumption)); exact kf_) | omega); omega; rintro E w3 ⟨A3, c3, rfl, ho3, hb⟩; rw [E3.out] at ho3; have hst := xr hb; (try simp only [zA, zC, zD, zN] at hst); obtain ⟨hc, hf, hz⟩ := hst))
  go_ret2
  exact ⟨A4, c4, rfl, (ho4.keep (by (exact kf_))).less (by exact sz_), ext_⟩

theorem iReqOk_c (r : Sw.Req) (w : World) : Calls Try.prog 91 #[.agg #[.int .i64 r.user, .int .i64 r.n, .int .i64 r.kind, .int .i64 r.ticket, .int .i64 r.who, .int .i64 r.price]] w fun E w' => E = .returned (.bool (Sw.reqOk r)) ∧ Ex w w' := by
  cases g1 : Sw.inR r.user 1 5
  case false => go_enter Try.func91, Try.ntmps91; go_wp2_with (first | (go_at_call 96; refine (in_c _ _ _ _).mono ?_; rintro E w' ⟨rfl, rfl⟩) | (go_at_call 150; refine (isUser_c _ _).mono ?_; rintro E w' ⟨rfl, rfl⟩) | (go_at_call 75; refine (isTicket_c _ _).mono ?_; rintro E w' ⟨rfl, rfl⟩) | (go_at_call 129; refine (isFace_c _ _).mono ?_; rintro E w' ⟨rfl, rfl⟩)); go_ret; exact ⟨ret_b (by simp [Sw.reqOk, g1]), ext_⟩
  cases g2 : Sw.inR r.n 1 99999
  case false => go_enter Try.func91, Try.ntmps91; go_wp2_with (first | (go_at_call 96; refine (in_c _ _ _ _).mono ?_; rintro E w' ⟨rfl, rfl⟩) | (go_at_call 150; refine (isUser_c _ _).mono ?_; rintro E w' ⟨rfl, rfl⟩) | (go_at_call 75; refine (isTicket_c _ _).mono ?_; rintro E w' ⟨rfl, rfl⟩) | (go_at_call 129; refine (isFace_c _ _).mono ?_; rintro E w' ⟨rfl, rfl⟩)); go_ret; exact ⟨ret_b (by simp [Sw.reqOk, g2]), ext_⟩
  cases g3 : Sw.inR r.kind 1 6
  case false => go_enter Try.func91, Try.ntmps91; go_wp2_with (first | (go_at_call 96; refine (in_c _ _ _ _).mono ?_; rintro E w' ⟨rfl, rfl⟩) | (go_at_call 150; refine (isUser_c _ _).mono ?_; rintro E w' ⟨rfl, rfl⟩) | (go_at_call 75; refine (isTicket_c _ _).mono ?_; rintro E w' ⟨rfl, rfl⟩) | (go_at_call 129; refine (isFace_c _ _).mono ?_; rintro E w' ⟨rfl, rfl⟩)); go_ret; exact ⟨ret_b (by simp [Sw.reqOk, g3]), ext_⟩
  cases g4 : Sw.inR r.ticket 0 7
  case false => go_enter Try.func91, Try.ntmps91; go_wp2_with (first | (go_at_call 96; refine (in_c _ _ _ _).mono ?_; rintro E w' ⟨rfl, rfl⟩) | (go_at_call 150; refine (isUser_c _ _).mono ?_; rintro E w' ⟨rfl, rfl⟩) | (go_at_call 75; refine (isTicket_c _ _).mono ?_; rintro E w' ⟨rfl, rfl⟩) | (go_at_call 129; refine (isFace_c _ _).mono ?_; rintro E w' ⟨rfl, rfl⟩)); go_ret; exact ⟨ret_b (by simp [Sw.reqOk, g4]), ext_⟩
  have e : Sw.reqOk r = (if r.kind = 1 then Sw.inR r.who 1 5 && Sw.inR r.price 1 50 else decide (r.who = 0) && (if r.kind = 2 then Sw.inR r.price 1 999 else decide (r.price = 0))) := by simp [Sw.reqOk, g1, g2, g3, g4]
  have He := Lib.hid e; clear e
  by_cases k1 : r.kind = 1
  · have k1' : (r.kind == 1) = true := by simp [k1]
    have K1 := Lib.hid k1; clear k1
    cases g5 : Sw.inR r.who 1 5
    all_goals
      go_enter Try.func91, Try.ntmps91
      go_wp2_with (first | (go_at_call 96; refine (in_c _ _ _ _).mono ?_; rintro E w' ⟨rfl, rfl⟩) | (go_at_call 150; refine (isUser_c _ _).mono ?_; rintro E w' ⟨rfl, rfl⟩) | (go_at_call 75; refine (isTicket_c _ _).mono ?_; rintro E w' ⟨rfl, rfl⟩) | (go_at_call 129; refine (isFace_c _ _).mono ?_; rintro E w' ⟨rfl, rfl⟩))
      go_ret
      exact ⟨ret_b (by rw [He.out, if_pos K1.out]; simp [g5]), ext_⟩
  have k1' : (r.kind == 1) = false := by simp [k1]
  cases g5 : (r.who == 0)
  all_goals
    by_cases k2 : r.kind = 2
    · have k2' : (r.kind == 2) = true := by simp [k2]
      have K2 := Lib.hid k2; clear k2
      cases g6 : Sw.inR r.price 1 999
      all_goals
        go_enter Try.func91, Try.ntmps91
        go_wp2_with (first | (go_at_call 96; refine (in_c _ _ _ _).mono ?_; rintro E w' ⟨rfl, rfl⟩) | (go_at_call 150; refine (isUser_c _ _).mono ?_; rintro E w' ⟨rfl, rfl⟩) | (go_at_call 75; refine (isTicket_c _ _).mono ?_; rintro E w' ⟨rfl, rfl⟩) | (go_at_call 129; refine (isFace_c _ _).mono ?_; rintro E w' ⟨rfl, rfl⟩))
        go_ret
        exact ⟨ret_b (by rw [He.out, if_neg k1, if_pos K2.out]; rw [← beqI, g5, g6]; rfl), ext_⟩
    have k2' : (r.kind == 2) = false := by simp [k2]
    cases g6 : (r.price == 0)
    all_goals
      go_enter Try.func91, Try.ntmps91
      go_wp2_with (first | (go_at_call 96; refine (in_c _ _ _ _).mono ?_; rintro E w' ⟨rfl, rfl⟩) | (go_at_call 150; refine (isUser_c _ _).mono ?_; rintro E w' ⟨rfl, rfl⟩) | (go_at_call 75; refine (isTicket_c _ _).mono ?_; rintro E w' ⟨rfl, rfl⟩) | (go_at_call 129; refine (isFace_c _ _).mono ?_; rintro E w' ⟨rfl, rfl⟩))
      go_ret
      exact ⟨ret_b (by rw [He.out, if_neg k1, if_neg k2]; rw [← beqI, ← beqI, g5, g6]; rfl), ext_⟩

theorem iDealOk_c (aL : Option Addr) (aLc aLn : Nat) (aP : Option Addr) (aPc aPn : Nat) (aD : Option Addr) (aDc aDn : Nat) (aN : Option Addr) (aNc aNn : Nat) (aS : Option Addr) (aSc aSn : Nat) (m : Sw.Mkt) (d : Sw.Deal) (A : Option Addr) (c : Nat) (rows : List Sw.Row) (w : World) (hrr : RR w 0 A c 8 rows) (hck0 : 0 ≤ m.clock) (hck1 : m.clock ≤ 99999) : Calls Try.prog 110 #[.agg #[.slice aL aLn aLc, .slice aP aPn aPc, .slice aD aDn aDc, .int .i64 m.clock, .slice aN aNn aNc, .slice aS aSn aSc], .agg #[.int .i64 d.ticket, .int .i64 d.seller, .int .i64 d.price, .int .i64 d.buyer, .int .i64 d.due], .slice A 8 c] w fun E w' => E = .returned (.bool (Sw.dealOk m.clock rows d)) ∧ Ex w w' := by
  cases c1 : Sw.inR d.ticket 0 7
  case false =>
    go_enter Try.func110, Try.ntmps110; go_wp2_with (first | (go_at_call 75; refine (isTicket_c _ _).mono ?_; rintro E w' ⟨rfl, rfl⟩) | (go_at_call 150; refine (isUser_c _ _).mono ?_; rintro E w' ⟨rfl, rfl⟩)); go_ret; exact ⟨ret_b (by simp [Sw.dealOk, c1]), ext_⟩
  cases c2 : Sw.inR d.seller 1 5
  case false =>
    go_enter Try.func110, Try.ntmps110; go_wp2_with (first | (go_at_call 75; refine (isTicket_c _ _).mono ?_; rintro E w' ⟨rfl, rfl⟩) | (go_at_call 150; refine (isUser_c _ _).mono ?_; rintro E w' ⟨rfl, rfl⟩)); go_ret; exact ⟨ret_b (by simp [Sw.dealOk, c2]), ext_⟩
  obtain ⟨y0, y7⟩ := Sw.inR_iff.1 c1
  obtain ⟨t, ht⟩ := Int.eq_ofNat_of_zero_le y0
  have e0 : d.ticket.toNat = t := by omega
  have ht8 : t < 8 := by omega
  have y8 : d.ticket < 8 := by omega
  have HT := Lib.hid ht
  clear ht
  obtain ⟨gr, offr, r, rfl, hgr0, hgr, hdr, hyr, r0, r1, r2⟩ := at_R hrr ht8
  have hrow : Sw.rowAt rows d.ticket = r := by simp [Sw.rowAt, e0, hyr]
  have e : Sw.dealOk m.clock rows d = (decide (r.who = d.seller) && !r.used && Sw.inR d.price 1 (Sw.entCap r.face) && (if d.buyer = 0 then decide (d.due = 0) else Sw.inR d.buyer 1 5 && decide (d.buyer ≠ d.seller) && Sw.inR d.due m.clock (m.clock + 5))) := by
    rw [Sw.dealOk, hrow, c1, c2]; simp
  have He := Lib.hid e
  clear hdr hyr hrow e
  obtain ⟨rw_, rf, ru⟩ := r
  dsimp only at r0 r1 r2
  cases c3 : (rw_ == d.seller)
  case false =>
    have c3' : (rw_ != d.seller) = true := by rw [bne, c3]; rfl
    go_enter Try.func110, Try.ntmps110; go_wp2_with (first | (go_at_call 75; refine (isTicket_c _ _).mono ?_; rintro E w' ⟨rfl, rfl⟩) | (go_at_call 150; refine (isUser_c _ _).mono ?_; rintro E w' ⟨rfl, rfl⟩)); go_quiet ((first | (go_at_call 58; exact Calls.quiet_same (iEntCap_c _ _)) | (go_at_call 96; exact Calls.quiet_same (in_c _ _ _ _)))); go_wp2_with (first | (go_at_call 150; refine (isUser_c _ _).mono ?_; rintro E w' ⟨rfl, rfl⟩) | (go_at_call 96; refine (in_c _ _ _ _).mono ?_; rintro E w' ⟨rfl, rfl⟩)); go_ret; exact ⟨ret_b (by rw [He.out, ← beqI, c3]; simp), ext_⟩
  have c3' : (rw_ != d.seller) = false := by rw [bne, c3]; rfl
  cases ru
  case true =>
    go_enter Try.func110, Try.ntmps110; go_wp2_with (first | (go_at_call 75; refine (isTicket_c _ _).mono ?_; rintro E w' ⟨rfl, rfl⟩) | (go_at_call 150; refine (isUser_c _ _).mono ?_; rintro E w' ⟨rfl, rfl⟩)); go_quiet ((first | (go_at_call 58; exact Calls.quiet_same (iEntCap_c _ _)) | (go_at_call 96; exact Calls.quiet_same (in_c _ _ _ _)))); go_wp2_with (first | (go_at_call 150; refine (isUser_c _ _).mono ?_; rintro E w' ⟨rfl, rfl⟩) | (go_at_call 96; refine (in_c _ _ _ _).mono ?_; rintro E w' ⟨rfl, rfl⟩)); go_ret; exact ⟨ret_b (by rw [He.out]; simp), ext_⟩
  cases c6 : Sw.inR d.price 1 (Sw.entCap rf)
  case false =>
    go_enter Try.func110, Try.ntmps110; go_wp2_with (first | (go_at_call 75; refine (isTicket_c _ _).mono ?_; rintro E w' ⟨rfl, rfl⟩) | (go_at_call 150; refine (isUser_c _ _).mono ?_; rintro E w' ⟨rfl, rfl⟩)); go_quiet ((first | (go_at_call 58; exact Calls.quiet_same (iEntCap_c _ _)) | (go_at_call 96; exact Calls.quiet_same (in_c _ _ _ _)))); go_wp2_with (first | (go_at_call 150; refine (isUser_c _ _).mono ?_; rintro E w' ⟨rfl, rfl⟩) | (go_at_call 96; refine (in_c _ _ _ _).mono ?_; rintro E w' ⟨rfl, rfl⟩)); go_ret; exact ⟨ret_b (by rw [He.out]; simp [c6]), ext_⟩
  by_cases b0 : d.buyer = 0
  · have b1 : (d.buyer == 0) = true := by simp [b0]
    have B0 := Lib.hid b0; clear b0
    go_enter Try.func110, Try.ntmps110; go_wp2_with (first | (go_at_call 75; refine (isTicket_c _ _).mono ?_; rintro E w' ⟨rfl, rfl⟩) | (go_at_call 150; refine (isUser_c _ _).mono ?_; rintro E w' ⟨rfl, rfl⟩)); go_quiet ((first | (go_at_call 58; exact Calls.quiet_same (iEntCap_c _ _)) | (go_at_call 96; exact Calls.quiet_same (in_c _ _ _ _)))); go_wp2_with (first | (go_at_call 150; refine (isUser_c _ _).mono ?_; rintro E w' ⟨rfl, rfl⟩) | (go_at_call 96; refine (in_c _ _ _ _).mono ?_; rintro E w' ⟨rfl, rfl⟩)); go_ret; exact ⟨ret_b (by rw [He.out, if_pos B0.out, ← beqI, c3, c6, ← beqI]; simp), ext_⟩
  have b1 : (d.buyer == 0) = false := by simp [b0]
  have B0 := Lib.hid b0; clear b0
  cases c7 : Sw.inR d.buyer 1 5
  case false =>
    go_enter Try.func110, Try.ntmps110; go_wp2_with (first | (go_at_call 75; refine (isTicket_c _ _).mono ?_; rintro E w' ⟨rfl, rfl⟩) | (go_at_call 150; refine (isUser_c _ _).mono ?_; rintro E w' ⟨rfl, rfl⟩)); go_quiet ((first | (go_at_call 58; exact Calls.quiet_same (iEntCap_c _ _)) | (go_at_call 96; exact Calls.quiet_same (in_c _ _ _ _)))); go_wp2_with (first | (go_at_call 150; refine (isUser_c _ _).mono ?_; rintro E w' ⟨rfl, rfl⟩) | (go_at_call 96; refine (in_c _ _ _ _).mono ?_; rintro E w' ⟨rfl, rfl⟩)); go_ret; exact ⟨ret_b (by rw [He.out, if_neg B0.out, c7]; simp), ext_⟩
  cases c8 : (d.buyer == d.seller)
  case true =>
    have c8' : (d.buyer != d.seller) = false := by rw [bne, c8]; rfl
    go_enter Try.func110, Try.ntmps110; go_wp2_with (first | (go_at_call 75; refine (isTicket_c _ _).mono ?_; rintro E w' ⟨rfl, rfl⟩) | (go_at_call 150; refine (isUser_c _ _).mono ?_; rintro E w' ⟨rfl, rfl⟩)); go_quiet ((first | (go_at_call 58; exact Calls.quiet_same (iEntCap_c _ _)) | (go_at_call 96; exact Calls.quiet_same (in_c _ _ _ _)))); go_wp2_with (first | (go_at_call 150; refine (isUser_c _ _).mono ?_; rintro E w' ⟨rfl, rfl⟩) | (go_at_call 96; refine (in_c _ _ _ _).mono ?_; rintro E w' ⟨rfl, rfl⟩)); go_ret; exact ⟨ret_b (by rw [He.out, if_neg B0.out, decide_not, ← beqI d.buyer, c8]; simp), ext_⟩
  have c8' : (d.buyer != d.seller) = true := by rw [bne, c8]; rfl
  go_enter Try.func110, Try.ntmps110; go_wp2_with (first | (go_at_call 75; refine (isTicket_c _ _).mono ?_; rintro E w' ⟨rfl, rfl⟩) | (go_at_call 150; refine (isUser_c _ _).mono ?_; rintro E w' ⟨rfl, rfl⟩)); go_quiet ((first | (go_at_call 58; exact Calls.quiet_same (iEntCap_c _ _)) | (go_at_call 96; exact Calls.quiet_same (in_c _ _ _ _)))); go_wp2_with (first | (go_at_call 150; refine (isUser_c _ _).mono ?_; rintro E w' ⟨rfl, rfl⟩) | (go_at_call 96; refine (in_c _ _ _ _).mono ?_; rintro E w' ⟨rfl, rfl⟩)); go_ret; exact ⟨ret_b (by rw [He.out, if_neg B0.out, decide_not, ← beqI d.buyer, c8, ← beqI, c3, c6, c7]; simp), ext_⟩
end Go.Proofs.Ytgceeggfdomdjaa

namespace Go.Proofs.Ytgceeggfdomdjaa
set_option maxRecDepth 100000
set_option linter.unusedSimpArgs false
set_option linter.unusedVariables false
open Go.RowKit Go
set_option maxHeartbeats 8000000

theorem sReqOk_c (r : Sw.Req) (w : World) : Calls Try.prog 63 #[.agg #[.int .i64 r.user, .int .i64 r.n, .int .i64 r.kind, .int .i64 r.ticket, .int .i64 r.who, .int .i64 r.price]] w fun E w' => E = .returned (.bool (Sw.reqOk r)) ∧ Ex w w' := by
  cases g1 : Sw.inR r.user 1 5
  case false => go_enter Try.func63, Try.ntmps63; go_wp2_with (first | (go_at_call 78; refine (l1In_c _ _ _ _).mono ?_; rintro E w' ⟨rfl, rfl⟩)); go_ret; exact ⟨ret_b (by simp [Sw.reqOk, g1]), ext_⟩
  cases g2 : Sw.inR r.n 1 99999
  case false => go_enter Try.func63, Try.ntmps63; go_wp2_with (first | (go_at_call 78; refine (l1In_c _ _ _ _).mono ?_; rintro E w' ⟨rfl, rfl⟩)); go_ret; exact ⟨ret_b (by simp [Sw.reqOk, g2]), ext_⟩
  cases g3 : Sw.inR r.kind 1 6
  case false => go_enter Try.func63, Try.ntmps63; go_wp2_with (first | (go_at_call 78; refine (l1In_c _ _ _ _).mono ?_; rintro E w' ⟨rfl, rfl⟩)); go_ret; exact ⟨ret_b (by simp [Sw.reqOk, g3]), ext_⟩
  cases g4 : Sw.inR r.ticket 0 7
  case false => go_enter Try.func63, Try.ntmps63; go_wp2_with (first | (go_at_call 78; refine (l1In_c _ _ _ _).mono ?_; rintro E w' ⟨rfl, rfl⟩)); go_ret; exact ⟨ret_b (by simp [Sw.reqOk, g4]), ext_⟩
  have e : Sw.reqOk r = (if r.kind = 1 then Sw.inR r.who 1 5 && Sw.inR r.price 1 50 else decide (r.who = 0) && (if r.kind = 2 then Sw.inR r.price 1 999 else decide (r.price = 0))) := by simp [Sw.reqOk, g1, g2, g3, g4]
  have He := Lib.hid e; clear e
  by_cases k1 : r.kind = 1
  · have k1' : (r.kind == 1) = true := by simp [k1]
    have K1 := Lib.hid k1; clear k1
    cases g5 : Sw.inR r.who 1 5
    all_goals
      go_enter Try.func63, Try.ntmps63
      go_wp2_with (first | (go_at_call 78; refine (l1In_c _ _ _ _).mono ?_; rintro E w' ⟨rfl, rfl⟩))
      go_ret
      exact ⟨ret_b (by rw [He.out, if_pos K1.out]; simp [g5]), ext_⟩
  have k1' : (r.kind == 1) = false := by simp [k1]
  cases g5 : (r.who == 0)
  case false =>
    go_enter Try.func63, Try.ntmps63
    go_wp2_with (first | (go_at_call 78; refine (l1In_c _ _ _ _).mono ?_; rintro E w' ⟨rfl, rfl⟩))
    go_ret
    exact ⟨ret_b (by rw [He.out, if_neg k1]; rw [← beqI, g5]; rfl), ext_⟩
  by_cases k2 : r.kind = 2
  · have k2' : (r.kind == 2) = true := by simp [k2]
    have k2'' : (r.kind != 2) = false := by simp [k2]
    have K2 := Lib.hid k2; clear k2
    cases g6 : Sw.inR r.price 1 999
    all_goals
      go_enter Try.func63, Try.ntmps63
      go_wp2_with (first | (go_at_call 78; refine (l1In_c _ _ _ _).mono ?_; rintro E w' ⟨rfl, rfl⟩))
      go_ret
      exact ⟨ret_b (by rw [He.out, if_neg k1, if_pos K2.out]; rw [← beqI, g5, g6]; rfl), ext_⟩
  have k2' : (r.kind == 2) = false := by simp [k2]
  have k2'' : (r.kind != 2) = true := by simp [k2]
  cases g6 : (r.price == 0)
  all_goals
    go_enter Try.func63, Try.ntmps63
    go_wp2_with (first | (go_at_call 78; refine (l1In_c _ _ _ _).mono ?_; rintro E w' ⟨rfl, rfl⟩))
    go_ret
    exact ⟨ret_b (by rw [He.out, if_neg k1, if_neg k2]; rw [← beqI, ← beqI, g5, g6]; rfl), ext_⟩

/-! ### a deal, as the reference asks -/
def buyerOk (clock : Int) (d : Sw.Deal) : Bool := if d.buyer = 0 then decide (d.due = 0) else Sw.inR d.buyer 1 5 && decide (d.buyer ≠ d.seller) && Sw.inR d.due clock (clock + 5)
theorem dealOk_b {clock : Int} {rows : List Sw.Row} {d : Sw.Deal} {r : Sw.Row} (ho : Sw.ownOk rows = true) (hr : Sw.rowAt rows d.ticket = r) :
    Sw.dealOk clock rows d = (Sw.inR d.ticket 0 7 && decide (r.who = d.seller) && decide (d.seller ≠ 0) && !r.used && Sw.inR d.price 1 (Sw.entCap r.face) && buyerOk clock d) := by
  have h1 := Sw.rowAt_ok ho d.ticket
  rw [hr, Sw.rowOk_iff] at h1
  unfold Sw.dealOk
  rw [hr]
  unfold buyerOk
  by_cases hs : r.who = d.seller
  · by_cases h0 : d.seller = 0
    · have : Sw.inR d.seller 1 5 = false := by rw [h0]; rfl
      have this0 : Sw.inR 0 1 5 = false := rfl
      simp [this0, h0]
    · have : Sw.inR d.seller 1 5 = true := Sw.inR_iff.2 (by omega)
      simp [this, h0]
  · simp [hs]
theorem dealsOk_cons {clock : Int} {rows : List Sw.Row} {p : Int} {d : Sw.Deal} {ds : List Sw.Deal} : Sw.dealsOk clock rows p (d :: ds) = (Sw.dealOk clock rows d && decide (p < d.ticket) && Sw.dealsOk clock rows d.ticket ds) := rfl
/-- Behind k deals: the last one's ticket. -/
def LastAt (xs : List Sw.Deal) (k : Nat) (p : Int) : Prop := k = 0 ∧ p = -1 ∨ ∃ j y, k = j + 1 ∧ xs[j]? = some y ∧ y.ticket = p ∧ 0 ≤ p
/-- What a market is asked first. -/
def mktGate (m : Sw.Mkt) : Bool := (Sw.ownFold m.log).isSome && Sw.monOk m.purses && decide (m.deals.length ≤ 8) && Sw.inR m.clock 0 99999 && decide (m.nums.length = 5) && decide (m.said.length = 5)
theorem mktOk_parts (m : Sw.Mkt) : Sw.mktOk m = (mktGate m && Sw.dealsOk m.clock (Sw.mktRows m) (-1) m.deals && Sw.numsOk m.nums m.said && decide (Sw.monSum m.purses + Sw.mktHeld m ≤ 100000)) := by
  simp [Sw.mktOk, mktGate]
theorem numsOk_at {ns ss : List Int} {k : Nat} {a b : Int} (ha : ns.drop k = a :: ns.drop (k + 1)) (hb : ss.drop k = b :: ss.drop (k + 1)) : Sw.numsOk (ns.drop k) (ss.drop k) = (Sw.numOk a b && Sw.numsOk (ns.drop (k + 1)) (ss.drop (k + 1))) := by rw [ha, hb]; rfl

end Go.Proofs.Ytgceeggfdomdjaa

namespace Go.Proofs.Ytgceeggfdomdjaa
set_option maxRecDepth 100000
set_option linter.unusedSimpArgs false
set_option linter.unusedVariables false
open Go
section
variable {P : Program} {ops : Array Oper} {Q : Exit → Act → World → Prop} {md : Region.Mode} {S : World → Prop}
/-- An operation that is not wanted. -/
theorem regU (i d : Nat) {oi : Oper} {fuel : Nat} {listed : Array Bool} {a : Act} {w : World} (hi : ops[i]? = some oi) (hd : oi.dst = some d)
    (hs : Region.noSelect ops = true) (hf : Region.free md ops listed i = true) (hr : (Region.ready md ops listed).contains i = true)
    (hQ : ∀ c a w, Q (.panic c) (a.put (some d) undef) w → Q (.panic c) a w) (hw : Region.wanted oi (yielded ops a.tmps) = false) (hS : S w)
    (h : wpAnyH P md ops Q S fuel (listed.setIfInBounds i true) (a.put (some d) undef) w) : wpAnyH P md ops Q S (fuel + 1) listed a w :=
  wpAnyH_take (v := undef) hi hs hf hr (by rw [hd]; exact hQ) (Or.inr ⟨hw, rfl⟩) hS (by rw [hd]; exact h)
/-- One that is wanted, and yields v wherever S holds. -/
theorem regT (i d : Nat) {v : Value} {oi : Oper} {fuel : Nat} {listed : Array Bool} {a : Act} {w : World} (hi : ops[i]? = some oi) (hd : oi.dst = some d)
    (hs : Region.noSelect ops = true) (hf : Region.free md ops listed i = true) (hr : (Region.ready md ops listed).contains i = true)
    (hQ : ∀ c a w, Q (.panic c) (a.put (some d) v) w → Q (.panic c) a w) (hw : Region.wanted oi (yielded ops a.tmps) = true) (hy : ∀ w, S w → (execOp a.eval oi).run P w = .ok (.value v) w) (hS : S w)
    (h : wpAnyH P md ops Q S fuel (listed.setIfInBounds i true) (a.put (some d) v) w) : wpAnyH P md ops Q S (fuel + 1) listed a w :=
  wpAnyH_take (v := v) hi hs hf hr (by rw [hd]; exact hQ) (Or.inl ⟨hw, hy⟩) hS (by rw [hd]; exact h)
/-- A region walked by what holds behind so many more operations, in whatever order they come up. -/
theorem wpAnyH_inv {Inv : Nat → Array Bool → Act → World → Prop} {k : Nat}
    (h0 : ∀ l a w, Inv 0 l a w → wpAnyH P md ops Q S k l a w)
    (hd : ∀ n l a w, Inv (n + 1) l a w → Region.ready md ops l ≠ [])
    (hs : ∀ n l a w, Inv (n + 1) l a w → ∀ i ∈ Region.ready md ops l, wpOp P ops Q i (fun a' w' => S w' ∧ Inv n (l.setIfInBounds i true) a' w') a w) :
    ∀ n l a w, Inv n l a w → wpAnyH P md ops Q S (n + k) l a w
  | 0, l, a, w, h => by rw [Nat.zero_add]; exact h0 l a w h
  | n + 1, l, a, w, h => by
    rw [show n + 1 + k = n + k + 1 by omega]
    exact ⟨fun he => absurd he (hd n l a w h), fun i hi => wpOp_mono (fun a' w' h' => ⟨h'.1, wpAnyH_inv h0 hd hs n _ _ _ h'.2⟩) (hs n l a w h i hi)⟩
end
end Go.Proofs.Ytgceeggfdomdjaa

