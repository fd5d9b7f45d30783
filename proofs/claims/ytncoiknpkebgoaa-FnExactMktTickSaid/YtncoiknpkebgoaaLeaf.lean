/-
  Walks: the small functions on numbers.
-/
import Derived.Test.YtncoiknpkebgoaaProg
import Derived.Test.YtncoiknpkebgoaaTyped
namespace Go.Proofs.Ytncoiknpkebgoaa
set_option maxRecDepth 100000
set_option linter.unusedSimpArgs false
set_option linter.unusedVariables false
open Go.RowKit Go

theorem beqI (a b : Int) : (a == b) = decide (a = b) := rfl
theorem ret_b {a b : Bool} (h : a = b) : Ending.returned (.bool a) = .returned (.bool b) := by rw [h]
theorem ret_i {k : IntKind} {a b : Int} (h : a = b) : Ending.returned (.int k a) = .returned (.int k b) := by rw [h]
theorem int_i {k : IntKind} {a b : Int} (h : a = b) : Value.int k a = .int k b := by rw [h]

set_option maxHeartbeats 400000
theorem in_c (n lo top : Int) (w : World) : Calls Try.prog 113 #[.int .i64 n, .int .i64 lo, .int .i64 top] w fun E w' => E = .returned (.bool (Sw.inR n lo top)) ∧ w = w' := by
  go_enter Try.func113, Try.ntmps113
  go_wp2
  all_goals (go_ret; refine ⟨ret_b (by simp [Sw.inR]; omega), rfl⟩)

theorem l1In_c (n lo top : Int) (w : World) : Calls Try.prog 94 #[.int .i64 n, .int .i64 lo, .int .i64 top] w fun E w' => E = .returned (.bool (Sw.inR n lo top)) ∧ w = w' := by
  go_enter Try.func94, Try.ntmps94
  go_wp2
  all_goals (go_ret; refine ⟨ret_b (by simp [Sw.inR]; omega), rfl⟩)

theorem iMixOk_c (n : Int) (w : World) : Calls Try.prog 95 #[.int .i64 n] w fun E w' => E = .returned (.bool (Sw.mixOk n)) ∧ w = w' := by
  go_enter Try.func95, Try.ntmps95
  go_wp2_with (first | (go_at_call 113; refine (in_c _ _ _ _).mono ?_; rintro E w' ⟨rfl, rfl⟩))
  all_goals (go_ret; refine ⟨ret_b (by simp [Sw.mixOk]), rfl⟩)

theorem sMixOk_c (n : Int) (w : World) : Calls Try.prog 172 #[.int .i64 n] w fun E w' => E = .returned (.bool (Sw.mixOk n)) ∧ w = w' := by
  go_enter Try.func172, Try.ntmps172
  go_wp2_with (first | (go_at_call 94; refine (l1In_c _ _ _ _).mono ?_; rintro E w' ⟨rfl, rfl⟩))
  all_goals (go_ret; refine ⟨ret_b (by simp [Sw.mixOk]), rfl⟩)

theorem isTicket_c (n : Int) (w : World) : Calls Try.prog 91 #[.int .i64 n] w fun E w' => E = .returned (.bool (Sw.inR n 0 7)) ∧ w = w' := by
  go_enter Try.func91, Try.ntmps91
  go_wp2_with (first | (go_at_call 113; refine (in_c _ _ _ _).mono ?_; rintro E w' ⟨rfl, rfl⟩))
  all_goals (go_ret; exact ⟨rfl, rfl⟩)

theorem mul_bd {a b : Int} (ha : 0 ≤ a ∧ a ≤ 65520) (hb : 0 ≤ b ∧ b ≤ 65520) : 0 ≤ a * b ∧ a * b ≤ 4292870400 :=
  ⟨Int.mul_nonneg ha.1 hb.1, Int.le_trans (Int.mul_le_mul ha.2 hb.2 hb.1 (by omega)) (by decide)⟩
theorem mixOk_bd {a : Int} : Sw.mixOk a = true ↔ 0 ≤ a ∧ a ≤ 65520 := by simp [Sw.mixOk, Sw.inR]

theorem pair_c (a b : Int) (w : World) (ha : Sw.mixOk a = true) (hb : Sw.mixOk b = true) : Calls Try.prog 213 #[.int .i64 a, .int .i64 b] w fun E w' => E = .returned (.int .i64 (Sw.pair a b)) ∧ w = w' := by
  rw [mixOk_bd] at ha hb
  obtain ⟨a0, a1⟩ := ha
  obtain ⟨b0, b1⟩ := hb
  obtain ⟨c0, c1⟩ := mul_bd ⟨a0, a1⟩ ⟨b0, b1⟩
  go_enter Try.func213, Try.ntmps213
  go_wp2
  all_goals (go_ret; refine ⟨ret_i (by simp [Sw.pair]), rfl⟩)

theorem sMixPair_c (a b : Int) (w : World) : Calls Try.prog 206 #[.int .i64 a, .int .i64 b] w fun E w' => E = .returned (.int .i64 (Sw.mixPair a b)) ∧ w = w' := by
  by_cases ha : Sw.mixOk a = true <;> by_cases hb : Sw.mixOk b = true
  · have ha' := mixOk_bd.1 ha
    have hb' := mixOk_bd.1 hb
    obtain ⟨a0, a1⟩ := ha'
    obtain ⟨b0, b1⟩ := hb'
    obtain ⟨c0, c1⟩ := mul_bd ⟨a0, a1⟩ ⟨b0, b1⟩
    go_enter Try.func206, Try.ntmps206
    go_wp2_with (first | (go_at_call 172; refine (sMixOk_c _ _).mono ?_; rintro E w' ⟨rfl, rfl⟩))
    all_goals (go_ret; refine ⟨ret_i (by simp [Sw.mixPair, Sw.pair, ha, hb]; omega), rfl⟩)
  all_goals
    go_enter Try.func206, Try.ntmps206
    go_wp2_with (first | (go_at_call 172; refine (sMixOk_c _ _).mono ?_; rintro E w' ⟨rfl, rfl⟩))
    all_goals (go_ret; refine ⟨ret_i (by simp [Sw.mixPair, *]), rfl⟩)

theorem sEntCap_c (f : Int) (w : World) : Calls Try.prog 145 #[.int .i64 f] w fun E w' => E = .returned (.int .i64 (Sw.entCap f)) ∧ w = w' := by
  by_cases h : Sw.inR f 1 50 = true
  · have h' : 1 ≤ f ∧ f ≤ 50 := by simpa [Sw.inR] using h
    obtain ⟨a, b⟩ := h'
    go_enter Try.func145, Try.ntmps145
    go_wp2_with (first | (go_at_call 94; refine (l1In_c _ _ _ _).mono ?_; rintro E w' ⟨rfl, rfl⟩))
    all_goals (go_ret; refine ⟨ret_i (by simp [Sw.entCap, h]), rfl⟩)
  · go_enter Try.func145, Try.ntmps145
    go_wp2_with (first | (go_at_call 94; refine (l1In_c _ _ _ _).mono ?_; rintro E w' ⟨rfl, rfl⟩))
    all_goals (go_ret; refine ⟨ret_i (by simp [Sw.entCap, h]), rfl⟩)

/-! ### a list of numbers mixed -/
theorem leafStep_bd (x n : Int) : 0 ≤ Sw.leafStep x n ∧ Sw.leafStep x n ≤ 65520 := by unfold Sw.leafStep; omega
theorem tmod_bd (y : Int) : -65520 ≤ y.tmod 65521 ∧ y.tmod 65521 ≤ 65520 := by
  rw [Int.tmod_eq_emod]; split <;> omega
theorem leafStep_eq (x y : Int) : (x * 4099 + y.tmod 65521 % 65521 + 11) % 65521 = Sw.leafStep x y := by
  unfold Sw.leafStep
  rw [Int.tmod_eq_emod]; split <;> omega

theorem sMixLeaf_c (A : Option Addr) (c n : Nat) (xs : List Int) (w : World) (h : RI w 0 A c n xs) (hn : n ≤ 4194304) : Calls Try.prog 220 #[.slice A n c] w fun E w' => E = .returned (.int .i64 (Sw.mixLeaf xs)) ∧ w = w' := by
  have hl := Lib.hid h.1
  go_enter Try.func220, Try.ntmps220
  go_wp2
  go_loop [3, 4] (fun m i => ∃ (k : Nat) (x : Int), k ≤ n ∧ i = .int .i64 k ∧ m = .int .i64 x ∧ 0 ≤ x ∧ x ≤ 65520 ∧ Sw.mixLeafFrom 7 xs = Sw.mixLeafFrom x (xs.drop k)) (fun _ i => n - (intOf i).toNat)
  case atStart => exact ⟨0, 7, Nat.zero_le _, rfl, rfl, by omega, by omega, rfl⟩
  case round =>
    obtain ⟨k, x, hk, rfl, rfl, x0, x1, hrel⟩ := hrel
    by_cases hlt : k < n
    · obtain ⟨g, off, y, rfl, hg0, hg, hd, hy, hc⟩ := at_I h hlt
      rw [hd] at hrel
      clear hd hy
      have Hrel := Lib.hid hrel; clear hrel
      obtain ⟨y0, y1⟩ := tmod_bd y
      have hbd := leafStep_bd x y
      go_wp2
      go_round
      case rel => exact ⟨k + 1, Sw.leafStep x y, by omega, by go_num, int_i (leafStep_eq x y), hbd.1, hbd.2, Hrel.out⟩
      case measure => simp [intOf]; omega
    · have Hrel := Lib.hid hrel; clear hrel
      go_wp2
      go_ret
      refine ⟨ret_i ?_, rfl⟩
      have := Hrel.out
      rw [List.drop_of_length_le (by have := hl.out; omega)] at this
      unfold Sw.mixLeaf
      rw [this, hl.out]
      rfl
end Go.Proofs.Ytncoiknpkebgoaa
