/-
  Texts joined: Gate4, Impl5.
-/
import Derived.Test.YtdbnbembjebfhaaGreatPz19
import Derived.Test.YtdbnbembjebfhaaGreatPz23
namespace Go.Proofs.YtdbnbembjebfhaaGreat
set_option maxRecDepth 100000
set_option linter.unusedSimpArgs false
set_option linter.unusedVariables false
open Go.RowKit Go
set_option maxHeartbeats 400000

theorem sGatSync_c (t u : Sw.Head) (A : Option Addr) (c n : Nat) (xs : List Int) (B : Option Addr) (d m : Nat) (ps : List Int) (w : World) (hxs : RI w 0 A c n xs) (hps : RI w 0 B d m ps) : Calls Tryz.prog 206 #[.agg #[.int .i64 t.size, .int .i64 t.log, .int .i64 t.own, .slice A n c], .agg #[.int .i64 u.size, .int .i64 u.log, .int .i64 u.own], .slice B m d] w fun E w' => ∃ A' c' n', E = .returned (.tuple #[.agg #[.int .i64 (Sw.gatSync ⟨t, xs⟩ u ps).1.head.size, .int .i64 (Sw.gatSync ⟨t, xs⟩ u ps).1.head.log, .int .i64 (Sw.gatSync ⟨t, xs⟩ u ps).1.head.own, .slice A' n' c'], .bool (Sw.gatSync ⟨t, xs⟩ u ps).2]) ∧ OwI w' w.heap.size A' c' n' (Sw.gatSync ⟨t, xs⟩ u ps).1.done ∧ Ex w w' := by
  have hl := Lib.hid hxs.1
  cases g1 : Sw.gatOk ⟨t, xs⟩
  case false =>
    have e : Sw.gatSync ⟨t, xs⟩ u ps = (Sw.gateZ, false) := by simp [Sw.gatSync, g1]
    have He := Lib.hid e; clear e
    go_enter Tryz.func206, Tryz.ntmps206
    go_wp2_with (first | (go_at_call 134; apply Calls.mono; apply sGatOk_c; ((first | (apply Rs.at0; assumption) | (apply Ow.rs0; assumption)); exact kf_); rintro E w1 ⟨rfl, hb⟩; have hst := xr hb; (try simp only [zA, zC, zD, zN] at hst); obtain ⟨hc, hf, hz⟩ := hst))
    refine bodyPost_ret (v := .tuple #[.agg #[.int .i64 0, .int .i64 0, .int .i64 0, .slice none 0 0], .bool false]) (by simp [results, Tryz.results206, go_sem, *]) rfl ?_
    exact ⟨none, 0, 0, by rw [He.out]; rfl, by rw [He.out]; exact Ow.nil _ _, ext_⟩
  have h8 : n ≤ 8 := by have := gatOk_len g1; have := hl.out; simp at *; omega
  cases g2 : Sw.hedFollows t u ps
  case false =>
    have e : Sw.gatSync ⟨t, xs⟩ u ps = (⟨t, xs⟩, false) := by simp [Sw.gatSync, g1, g2]
    have He := Lib.hid e; clear e
    go_enter Tryz.func206, Tryz.ntmps206
    go_wp2_with (first | (go_at_call 134; apply Calls.mono; apply sGatOk_c; ((first | (apply Rs.at0; assumption) | (apply Ow.rs0; assumption)); exact kf_); rintro E w1 ⟨rfl, hb⟩; have hst := xr hb; (try simp only [zA, zC, zD, zN] at hst); obtain ⟨hc, hf, hz⟩ := hst) | (go_at_call 145; apply Calls.mono; apply sCopy_c; ((first | (apply Rs.at0; assumption) | (apply Ow.rs0; assumption)); exact kf_); (first | assumption | omega); rintro E w1 ⟨A', c', rfl, hr, hb⟩; have hst := xr hb; (try simp only [zA, zC, zD, zN] at hst); obtain ⟨hc, hf, hz⟩ := hst) | (go_at_call 241; apply Calls.mono; apply sHedFollows_c; ((first | (apply Rs.at0; assumption) | (apply Ow.rs0; assumption)); exact kf_); rintro E w1 ⟨rfl, hb⟩; have hst := xr hb; (try simp only [zA, zC, zD, zN] at hst); obtain ⟨hc, hf, hz⟩ := hst))
    refine bodyPost_ret (v := .tuple #[.agg #[.int .i64 t.size, .int .i64 t.log, .int .i64 t.own, .slice A' n c'], .bool false]) (by simp [results, Tryz.results206, go_sem, *]) rfl ?_
    exact ⟨A', c', n, by rw [He.out], by rw [He.out]; exact (hr.keep (by (exact kf_))).less (by exact sz_), ext_⟩
  have e : Sw.gatSync ⟨t, xs⟩ u ps = (⟨u, xs⟩, true) := by simp [Sw.gatSync, g1, g2]
  have He := Lib.hid e; clear e
  go_enter Tryz.func206, Tryz.ntmps206
  go_wp2_with (first | (go_at_call 134; apply Calls.mono; apply sGatOk_c; ((first | (apply Rs.at0; assumption) | (apply Ow.rs0; assumption)); exact kf_); rintro E w1 ⟨rfl, hb⟩; have hst := xr hb; (try simp only [zA, zC, zD, zN] at hst); obtain ⟨hc, hf, hz⟩ := hst) | (go_at_call 145; apply Calls.mono; apply sCopy_c; ((first | (apply Rs.at0; assumption) | (apply Ow.rs0; assumption)); exact kf_); (first | assumption | omega); rintro E w1 ⟨A', c', rfl, hr, hb⟩; have hst := xr hb; (try simp only [zA, zC, zD, zN] at hst); obtain ⟨hc, hf, hz⟩ := hst) | (go_at_call 241; apply Calls.mono; apply sHedFollows_c; ((first | (apply Rs.at0; assumption) | (apply Ow.rs0; assumption)); exact kf_); rintro E w1 ⟨rfl, hb⟩; have hst := xr hb; (try simp only [zA, zC, zD, zN] at hst); obtain ⟨hc, hf, hz⟩ := hst))
  refine bodyPost_ret (v := .tuple #[.agg #[.int .i64 u.size, .int .i64 u.log, .int .i64 u.own, .slice A' n c'], .bool true]) (by simp [results, Tryz.results206, go_sem, *]) rfl ?_
  exact ⟨A', c', n, by rw [He.out], by rw [He.out]; exact (hr.keep (by (exact kf_))).less (by exact sz_), ext_⟩
end Go.Proofs.YtdbnbembjebfhaaGreat

namespace Go.Proofs.YtdbnbembjebfhaaGreat
set_option maxRecDepth 100000
set_option linter.unusedSimpArgs false
set_option linter.unusedVariables false
open Go.RowKit Go
set_option maxHeartbeats 400000

theorem iGatOk_c (t : Sw.Head) (A : Option Addr) (c n : Nat) (xs : List Int) (w : World) (hxs : RI w 0 A c n xs) : Calls Tryz.prog 50 #[.agg #[.int .i64 t.size, .int .i64 t.log, .int .i64 t.own, .slice A n c]] w fun E w' => E = .returned (.bool (Sw.gatOk ⟨t, xs⟩)) ∧ Ex w w' := by
  have hl := Lib.hid hxs.1
  have hcap := hxs.2.le
  have hbig : n ≤ 9223372036854775807 := by have := hxs.2.cap; unfold maxLen at this; omega
  have e : Sw.gatOk ⟨t, xs⟩ = (Sw.hedOk t && Sw.risesFrom (-1) xs) := rfl
  rw [e]; clear e
  go_enter Tryz.func50, Tryz.ntmps50
  go_wp2_with fail
  go_loopw [8] (fun i wr => ∃ (k : Nat) (p : Int), k ≤ n ∧ i = .int .i64 k ∧ Ex (w.alloc (.cells #[.int .i64 t.size, .int .i64 t.log, .int .i64 t.own, .slice A n c] 29)) wr ∧ (k = 0 ∧ p = -1 ∨ ∃ j, k = j + 1 ∧ xs[j]? = some p ∧ 0 ≤ p) ∧ Sw.risesFrom (-1) xs = Sw.risesFrom p (xs.drop k)) (fun i _ => n - (intOf i).toNat)
  case atStart => exact ⟨0, -1, Nat.zero_le _, rfl, Ch.refl _ _, .inl ⟨rfl, rfl⟩, rfl⟩
  case round =>
    obtain ⟨k, p, hk, rfl, hb2, hp, hrel⟩ := hrel
    have hst := Ex.rules hb2 rfl
    simp only [World.size_alloc] at hst
    obtain ⟨hc2, hf2, hz2⟩ := hst
    by_cases hlt : k < n
    · obtain ⟨g, off, y, rfl, hg0, hg, hd, hy, hcy⟩ := at_I hxs hlt
      rw [hd, Sw.risesFrom] at hrel
      have Hrel := Lib.hid hrel
      have Hy := Lib.hid hy
      clear hd hy hrel
      cases hin : Sw.inR y 0 7
      case false =>
        go_wp2_with (first | (go_at_call 57; refine (isTicket_c _ _).mono ?_; rintro E w' ⟨rfl, rfl⟩))
        go_ret
        exact ⟨ret_b (by rw [Hrel.out, hin]; simp), ext_⟩
      have hy7 : 0 ≤ y ∧ y ≤ 7 := by simpa [Sw.inR] using hin
      obtain ⟨y0, y7⟩ := hy7
      rcases hp with ⟨rfl, rfl⟩ | ⟨j, rfl, hj, hj0⟩
      · simp only [Nat.add_zero] at hcy
        go_wp2_with (first | (go_at_call 57; refine (isTicket_c _ _).mono ?_; rintro E w' ⟨rfl, rfl⟩))
        go_roundw
        case rel => exact ⟨0 + 1, y, by omega, by go_num, ext_, .inr ⟨0, rfl, Hy.out, y0⟩, by rw [Hrel.out, hin]; simp; omega⟩
        case measure => simp [intOf]; omega
      · obtain ⟨g', off', p', hA', _, _, _, hp', hcp⟩ := at_I hxs (show j < n by omega)
        cases hA'
        obtain rfl : p' = p := by rw [hj] at hp'; exact (Option.some.inj hp').symm
        clear hj hp'
        have t1 : ((j : Int) + 1).toNat = j + 1 := by omega
        have t2 : IntKind.i64.wrap ((j : Int) + 1 - 1) = j := by rw [IntWalk.i64_in _ (by omega)]; omega
        have t3 : (0 : Int) ≤ (j : Int) + 1 := by omega
        have t4 : (j : Int) + 1 < (n : Int) := by omega
        have t5 : (j : Int) < (n : Int) := by omega
        have t6 : (0 : Int) < (j : Int) + 1 := by omega
        by_cases hpy : p' < y
        · have hpy' : decide (y ≤ p') = false := by simp; omega
          go_wp2_with (first | (go_at_call 57; refine (isTicket_c _ _).mono ?_; rintro E w' ⟨rfl, rfl⟩))
          go_roundw
          case rel => exact ⟨j + 1 + 1, y, by omega, by go_num, ext_, .inr ⟨j + 1, rfl, Hy.out, y0⟩, by rw [Hrel.out, hin]; simp [hpy]⟩
          case measure => simp [intOf]; omega
        · have hpy' : y ≤ p' := by omega
          go_wp2_with (first | (go_at_call 57; refine (isTicket_c _ _).mono ?_; rintro E w' ⟨rfl, rfl⟩))
          go_ret
          have hlt' : decide (p' < y) = false := by rw [decide_eq_false_iff_not]; omega
          exact ⟨ret_b (by rw [Hrel.out, hin, hlt']; simp), ext_⟩
    · have Hrel := Lib.hid hrel; clear hrel hp
      go_wp2_with (first | (go_at_call 117; refine (iHedOk_c _ _).mono ?_; rintro E w1 ⟨rfl, hb⟩; have hst := xr hb; (try simp only [zA, zC, zD, zN] at hst); obtain ⟨hc, hf, hz⟩ := hst))
      go_ret
      refine ⟨ret_b ?_, ext_⟩
      have hh := Hrel.out
      rw [List.drop_of_length_le (by have := hl.out; omega)] at hh
      rw [hh]; simp [Sw.risesFrom]

theorem iClone_c (t : Sw.Head) (A : Option Addr) (c n : Nat) (xs : List Int) (w : World) (hxs : RI w 0 A c n xs) (hn : n ≤ 4194304) : Calls Tryz.prog 51 #[.agg #[.int .i64 t.size, .int .i64 t.log, .int .i64 t.own, .slice A n c]] w fun E w' => ∃ A' c', E = .returned (.agg #[.int .i64 t.size, .int .i64 t.log, .int .i64 t.own, .slice A' n c']) ∧ OwI w' w.heap.size A' c' n xs ∧ Ex w w' := by
  go_enter Tryz.func51, Tryz.ntmps51
  go_wp2_with fail
  (refine wp_name ?_; intro W0 hb0; have hst := xr hb0; (try simp only [zA, zC, zD, zN] at hst); obtain ⟨hc0, hf0, hz0⟩ := hst; have hLb : Lb W0 (w.heap.size + 1) 4 := Lb.ex (by exact lbc_) hb0; go_region_held3 (fun w' => HeldB (w.heap.size + 1) 4 W0 w') ((first | with_reducible assumption | with_reducible exact HeldB.start hLb | with_reducible exact HeldB.of (by assumption) (by assumption) | ((repeat (first | with_reducible refine HeldB.set ?_ (by first | exact Or.inl rfl | exact Or.inr (by simp only [zA, zC, zD, zN]; omega) | exact Or.inr (by omega)) | with_reducible refine HeldB.alloc ?_ _ | with_reducible refine HeldB.drew ?_)); (first | with_reducible assumption | with_reducible exact HeldB.refl hLb | with_reducible exact HeldB.of (by assumption) (by assumption) | with_reducible exact HeldB.ex (by assumption) (by assumption))))) ((go_at_call 118; apply Calls.mono; apply iCloneInts_c; ((first | (apply Rs.at0; assumption) | (apply Ow.rs0; assumption)); exact kf_); (first | assumption | omega); rintro E w1 ⟨A', c', rfl, ho1, hb⟩; have hst := xr hb; (try simp only [zA, zC, zD, zN] at hst); obtain ⟨hc, hf, hz⟩ := hst)); all_goals (rename HeldB (w.heap.size + 1) 4 W0 _ => hHx; have hb := HeldB.ch hHx; have hst := xc hb; (try simp only [zA, zC, zD, zN] at hst); obtain ⟨hc, hf, hz⟩ := hst; have hLb3 := HeldB.lb hHx; (repeat (first | with_reducible replace hLb3 := Lb.unset hLb3 | with_reducible replace hLb3 := Lb.undrew hLb3)); obtain ⟨hcb, hfb⟩ := Lb.rules hLb3; clear hHx))
  go_wp2
  refine bodyPost_ret (v := .agg #[.int .i64 t.size, .int .i64 t.log, .int .i64 t.own, .slice A' n c']) (by simp [results, Tryz.results51, go_sem, *]) rfl ?_
  exact ⟨A', c', rfl, (ho1.keep (by (exact kf_))).less (by exact sz_), ext_⟩

theorem iGatSync_c (t u : Sw.Head) (A : Option Addr) (c n : Nat) (xs : List Int) (B : Option Addr) (d m : Nat) (ps : List Int) (w : World) (hxs : RI w 0 A c n xs) (hps : RI w 0 B d m ps) : Calls Tryz.prog 168 #[.agg #[.int .i64 t.size, .int .i64 t.log, .int .i64 t.own, .slice A n c], .agg #[.int .i64 u.size, .int .i64 u.log, .int .i64 u.own], .slice B m d] w fun E w' => ∃ A' c' n', E = .returned (.tuple #[.agg #[.int .i64 (Sw.gatSync ⟨t, xs⟩ u ps).1.head.size, .int .i64 (Sw.gatSync ⟨t, xs⟩ u ps).1.head.log, .int .i64 (Sw.gatSync ⟨t, xs⟩ u ps).1.head.own, .slice A' n' c'], .bool (Sw.gatSync ⟨t, xs⟩ u ps).2]) ∧ OwI w' w.heap.size A' c' n' (Sw.gatSync ⟨t, xs⟩ u ps).1.done ∧ Ex w w' := by
  have hl := Lib.hid hxs.1
  cases g1 : Sw.gatOk ⟨t, xs⟩
  case false =>
    have e : Sw.gatSync ⟨t, xs⟩ u ps = (Sw.gateZ, false) := by simp [Sw.gatSync, g1]
    have He := Lib.hid e; clear e
    go_enter Tryz.func168, Tryz.ntmps168
    go_wp2_with (first | (go_at_call 50; apply Calls.mono; apply iGatOk_c; ((first | (apply Rs.at0; assumption) | (apply Ow.rs0; assumption)); exact kf_); rintro E w1 ⟨rfl, hb⟩; have hst := xr hb; (try simp only [zA, zC, zD, zN] at hst); obtain ⟨hc, hf, hz⟩ := hst))
    refine bodyPost_ret (v := .tuple #[.agg #[.int .i64 0, .int .i64 0, .int .i64 0, .slice none 0 0], .bool false]) (by simp [results, Tryz.results168, go_sem, *]) rfl ?_
    exact ⟨none, 0, 0, by rw [He.out]; rfl, by rw [He.out]; exact Ow.nil _ _, ext_⟩
  have h8 : n ≤ 8 := by have := gatOk_len g1; have := hl.out; simp at *; omega
  cases g2 : Sw.hedFollows t u ps
  case false =>
    have e : Sw.gatSync ⟨t, xs⟩ u ps = (⟨t, xs⟩, false) := by simp [Sw.gatSync, g1, g2]
    have He := Lib.hid e; clear e
    go_enter Tryz.func168, Tryz.ntmps168
    go_wp2_with (first | (go_at_call 50; apply Calls.mono; apply iGatOk_c; ((first | (apply Rs.at0; assumption) | (apply Ow.rs0; assumption)); exact kf_); rintro E w1 ⟨rfl, hb⟩; have hst := xr hb; (try simp only [zA, zC, zD, zN] at hst); obtain ⟨hc, hf, hz⟩ := hst) | (go_at_call 51; apply Calls.mono; apply iClone_c; ((first | (apply Rs.at0; assumption) | (apply Ow.rs0; assumption)); exact kf_); (first | assumption | omega); rintro E w1 ⟨A', c', rfl, hr, hb⟩; have hst := xr hb; (try simp only [zA, zC, zD, zN] at hst); obtain ⟨hc, hf, hz⟩ := hst) | (go_at_call 225; apply Calls.mono; apply iHedFollows_c; ((first | (apply Rs.at0; assumption) | (apply Ow.rs0; assumption)); exact kf_); rintro E w1 ⟨rfl, hb⟩; have hst := xr hb; (try simp only [zA, zC, zD, zN] at hst); obtain ⟨hc, hf, hz⟩ := hst))
    refine bodyPost_ret (v := .tuple #[.agg #[.int .i64 t.size, .int .i64 t.log, .int .i64 t.own, .slice A' n c'], .bool false]) (by simp [results, Tryz.results168, go_sem, *]) rfl ?_
    exact ⟨A', c', n, by rw [He.out], by rw [He.out]; exact (hr.keep (by (exact kf_))).less (by exact sz_), ext_⟩
  have e : Sw.gatSync ⟨t, xs⟩ u ps = (⟨u, xs⟩, true) := by simp [Sw.gatSync, g1, g2]
  have He := Lib.hid e; clear e
  go_enter Tryz.func168, Tryz.ntmps168
  go_wp2_with (first | (go_at_call 50; apply Calls.mono; apply iGatOk_c; ((first | (apply Rs.at0; assumption) | (apply Ow.rs0; assumption)); exact kf_); rintro E w1 ⟨rfl, hb⟩; have hst := xr hb; (try simp only [zA, zC, zD, zN] at hst); obtain ⟨hc, hf, hz⟩ := hst) | (go_at_call 51; apply Calls.mono; apply iClone_c; ((first | (apply Rs.at0; assumption) | (apply Ow.rs0; assumption)); exact kf_); (first | assumption | omega); rintro E w1 ⟨A', c', rfl, hr, hb⟩; have hst := xr hb; (try simp only [zA, zC, zD, zN] at hst); obtain ⟨hc, hf, hz⟩ := hst) | (go_at_call 225; apply Calls.mono; apply iHedFollows_c; ((first | (apply Rs.at0; assumption) | (apply Ow.rs0; assumption)); exact kf_); rintro E w1 ⟨rfl, hb⟩; have hst := xr hb; (try simp only [zA, zC, zD, zN] at hst); obtain ⟨hc, hf, hz⟩ := hst))
  refine bodyPost_ret (v := .tuple #[.agg #[.int .i64 u.size, .int .i64 u.log, .int .i64 u.own, .slice A' n c'], .bool true]) (by simp [results, Tryz.results168, go_sem, *]) rfl ?_
  exact ⟨A', c', n, by rw [He.out], by rw [He.out]; exact (hr.keep (by (exact kf_))).less (by exact sz_), ext_⟩
end Go.Proofs.YtdbnbembjebfhaaGreat

