/-
  Texts joined: Typed, Leaf, Small, Tree, Model2, Plain1.
-/
import Derived.Test.YtdbnbembjebfhaaPg1
import Derived.Test.YtdbnbembjebfhaaProg
namespace Go.Proofs.Ytdbnbembjebfhaa
set_option maxRecDepth 100000
set_option linter.unusedSimpArgs false
set_option linter.unusedVariables false
open Go.RowKit Go

theorem Rd.at0 {w0 W : World} {lo c sz n : Nat} {A : Option Addr} {cs : List Value} (h : Rd w0 lo A c sz n cs) (hk : KF lo w0 W) : Rd W 0 A c sz n cs := (h.keep hk).less (Nat.zero_le _)

/-- A slice of elements of type α, an element's cells by enc. -/
def Rs {α : Type} (enc : α → List Value) (sz : Nat) (w : World) (lo : Nat) (A : Option Addr) (c n : Nat) (xs : List α) : Prop :=
  n = xs.length ∧ Rd w lo A c sz n (xs.flatMap enc)

section
variable {α : Type} {enc : α → List Value} {sz : Nat} {w w0 W : World} {lo lo' c n : Nat} {A : Option Addr} {xs : List α}
theorem Rs.at0 (h : Rs enc sz w0 lo A c n xs) (hk : KF lo w0 W) : Rs enc sz W 0 A c n xs := ⟨h.1, h.2.at0 hk⟩
theorem Rs.keep (h : Rs enc sz w0 lo A c n xs) (hk : KF lo w0 W) : Rs enc sz W lo A c n xs := ⟨h.1, h.2.keep hk⟩
theorem Rs.less (h : Rs enc sz w0 lo A c n xs) (hl : lo' ≤ lo) : Rs enc sz w0 lo' A c n xs := ⟨h.1, h.2.less hl⟩

theorem flat_get (hsz : ∀ x, (enc x).length = sz) : ∀ (xs : List α) (k j : Nat) (hk : k < xs.length), j < sz → (xs.flatMap enc)[k * sz + j]? = (enc xs[k])[j]? := by
  intro xs
  induction xs with
  | nil => intro k j h; simp at h
  | cons x xs ih =>
    intro k j h hj
    cases k with
    | zero =>
      simp only [List.flatMap_cons, Nat.zero_mul, Nat.zero_add, List.getElem_cons_zero]
      rw [List.getElem?_append_left (by rw [hsz]; exact hj)]
    | succ k =>
      simp only [List.flatMap_cons, List.getElem_cons_succ]
      rw [List.getElem?_append_right (by rw [hsz]; simp only [Nat.succ_mul]; omega)]
      rw [show (k + 1) * sz + j - (enc x).length = k * sz + j from by rw [hsz]; simp only [Nat.succ_mul]; omega]
      exact ih k j (by simpa using h) hj

/-- Element k: where it lies, and what its cells hold. -/
theorem Rs.at_ (h : Rs enc sz w lo A c n xs) (hsz : ∀ x, (enc x).length = sz) {k : Nat} (hk : k < n) :
    ∃ g off x, A = some ⟨g, off, none⟩ ∧ lo ≤ g ∧ g < w.heap.size ∧ xs.drop k = x :: xs.drop (k + 1) ∧ xs[k]? = some x ∧
      ∀ j u, j < sz → (enc x)[j]? = some u → w.cell? ⟨g, off + (k * sz + j), none⟩ = some u := by
  obtain ⟨rfl, h⟩ := h
  cases A with
  | none => have := h.nil rfl; have := h.le; omega
  | some a =>
    obtain ⟨h1, h2, h3, h4⟩ := h.cells a rfl (by omega)
    obtain ⟨g, off, spot⟩ := a
    dsimp only at h1 h2 h3 h4
    subst h1
    refine ⟨g, off, xs[k], rfl, h2, h3, List.drop_eq_getElem_cons hk, List.getElem?_eq_getElem hk, fun j u hj hu => h4 (k * sz + j) u ?_⟩
    rw [flat_get hsz xs k j hk hj]
    exact hu
end

/-- A slice that has just been written out. -/
theorem Rs.new {α : Type} {enc : α → List Value} {sz : Nat} {w : World} {cs : Array Value} {T : TypeId} {g n : Nat} (xs : List α) (hg : g = w.heap.size) (hcs : cs = (xs.flatMap enc).toArray) (hn : n = xs.length)
    (hsz : ∀ x, (enc x).length = sz) (hm : n ≤ 4194304) : Rs enc sz (w.alloc (.cells cs T)) 0 (some ⟨g, 0, none⟩) n n xs := by
  subst hg hcs hn
  refine ⟨rfl, ?_, Nat.le_refl _, (by unfold maxLen; omega), (fun h => by cases h), fun a ha _ => ?_⟩
  · clear hm
    induction xs with
    | nil => simp
    | cons x xs ih => simp only [List.flatMap_cons, List.length_append, hsz, ih, List.length_cons, Nat.succ_mul]; omega
  · obtain rfl := Option.some.inj ha
    refine ⟨rfl, Nat.zero_le _, by simp, fun j u hu => ?_⟩
    simpa using hu

def encI (x : Int) : List Value := [.int .i64 x]
def encB (x : Int) : List Value := [.int .u8 x]
def Sw.Ent.enc (e : Sw.Ent) : List Value := [.int .i64 e.kind, .int .i64 e.ticket, .int .i64 e.who, .int .i64 e.price]
def Sw.Row.enc (r : Sw.Row) : List Value := [.int .i64 r.who, .int .i64 r.face, .bool r.used]
def Sw.Head.enc (h : Sw.Head) : List Value := [.int .i64 h.size, .int .i64 h.log, .int .i64 h.own]
abbrev RI := Rs encI 1
abbrev RB := Rs encB 1
abbrev RE := Rs Sw.Ent.enc 4
abbrev RR := Rs Sw.Row.enc 3
abbrev RH := Rs Sw.Head.enc 3

section
variable {w : World} {lo c n k : Nat} {A : Option Addr}
theorem at_I {xs : List Int} (h : RI w lo A c n xs) (hk : k < n) :
    ∃ g off x, A = some ⟨g, off, none⟩ ∧ lo ≤ g ∧ g < w.heap.size ∧ xs.drop k = x :: xs.drop (k + 1) ∧ xs[k]? = some x ∧ w.cell? ⟨g, off + k, none⟩ = some (.int .i64 x) := by
  obtain ⟨g, off, x, h1, h2, h3, h4, h5, h6⟩ := Rs.at_ h (fun _ => rfl) hk
  exact ⟨g, off, x, h1, h2, h3, h4, h5, by simpa using h6 0 _ (by omega) rfl⟩
theorem at_B {xs : List Int} (h : RB w lo A c n xs) (hk : k < n) :
    ∃ g off x, A = some ⟨g, off, none⟩ ∧ lo ≤ g ∧ g < w.heap.size ∧ xs.drop k = x :: xs.drop (k + 1) ∧ xs[k]? = some x ∧ w.cell? ⟨g, off + k, none⟩ = some (.int .u8 x) := by
  obtain ⟨g, off, x, h1, h2, h3, h4, h5, h6⟩ := Rs.at_ h (fun _ => rfl) hk
  exact ⟨g, off, x, h1, h2, h3, h4, h5, by simpa using h6 0 _ (by omega) rfl⟩
theorem at_E {xs : List Sw.Ent} (h : RE w lo A c n xs) (hk : k < n) :
    ∃ g off x, A = some ⟨g, off, none⟩ ∧ lo ≤ g ∧ g < w.heap.size ∧ xs.drop k = x :: xs.drop (k + 1) ∧ xs[k]? = some x ∧
      w.cell? ⟨g, off + k * 4, none⟩ = some (.int .i64 x.kind) ∧ w.cell? ⟨g, off + k * 4 + 1, none⟩ = some (.int .i64 x.ticket) ∧
      w.cell? ⟨g, off + k * 4 + 2, none⟩ = some (.int .i64 x.who) ∧ w.cell? ⟨g, off + k * 4 + 3, none⟩ = some (.int .i64 x.price) := by
  obtain ⟨g, off, x, h1, h2, h3, h4, h5, h6⟩ := Rs.at_ h (fun _ => rfl) hk
  exact ⟨g, off, x, h1, h2, h3, h4, h5, by simpa using h6 0 _ (by omega) rfl, h6 1 _ (by omega) rfl, h6 2 _ (by omega) rfl, h6 3 _ (by omega) rfl⟩
theorem at_R {xs : List Sw.Row} (h : RR w lo A c n xs) (hk : k < n) :
    ∃ g off x, A = some ⟨g, off, none⟩ ∧ lo ≤ g ∧ g < w.heap.size ∧ xs.drop k = x :: xs.drop (k + 1) ∧ xs[k]? = some x ∧
      w.cell? ⟨g, off + k * 3, none⟩ = some (.int .i64 x.who) ∧ w.cell? ⟨g, off + k * 3 + 1, none⟩ = some (.int .i64 x.face) ∧
      w.cell? ⟨g, off + k * 3 + 2, none⟩ = some (.bool x.used) := by
  obtain ⟨g, off, x, h1, h2, h3, h4, h5, h6⟩ := Rs.at_ h (fun _ => rfl) hk
  exact ⟨g, off, x, h1, h2, h3, h4, h5, by simpa using h6 0 _ (by omega) rfl, h6 1 _ (by omega) rfl, h6 2 _ (by omega) rfl⟩
theorem at_H {xs : List Sw.Head} (h : RH w lo A c n xs) (hk : k < n) :
    ∃ g off x, A = some ⟨g, off, none⟩ ∧ lo ≤ g ∧ g < w.heap.size ∧ xs.drop k = x :: xs.drop (k + 1) ∧ xs[k]? = some x ∧
      w.cell? ⟨g, off + k * 3, none⟩ = some (.int .i64 x.size) ∧ w.cell? ⟨g, off + k * 3 + 1, none⟩ = some (.int .i64 x.log) ∧
      w.cell? ⟨g, off + k * 3 + 2, none⟩ = some (.int .i64 x.own) := by
  obtain ⟨g, off, x, h1, h2, h3, h4, h5, h6⟩ := Rs.at_ h (fun _ => rfl) hk
  exact ⟨g, off, x, h1, h2, h3, h4, h5, by simpa using h6 0 _ (by omega) rfl, h6 1 _ (by omega) rfl, h6 2 _ (by omega) rfl⟩
end

theorem head_ext {a b : Sw.Head} : a = b ↔ a.size = b.size ∧ a.log = b.log ∧ a.own = b.own := by
  cases a; cases b; simp
theorem b_ne {x : Bool} (h : ¬ x = true) : x = false := by simpa using h

theorem rises_len : ∀ (xs : List Int) (p : Int), Sw.risesFrom p xs = true → -1 ≤ p → p ≤ 7 → (xs.length : Int) ≤ 7 - p
  | [], p, h, hp, hq => by simp only [List.length_nil]; omega
  | x :: xs, p, h, hp, hq => by
    simp only [Sw.risesFrom, Bool.and_eq_true, decide_eq_true_eq, Sw.inR] at h
    have := rises_len xs x h.2 (by omega) (by omega)
    simp only [List.length_cons]
    omega

theorem gatOk_len {g : Sw.Gate} (h : Sw.gatOk g = true) : g.done.length ≤ 8 := by
  simp only [Sw.gatOk, Bool.and_eq_true] at h
  have := rises_len g.done (-1) h.2 (by omega) (by omega)
  omega

end Go.Proofs.Ytdbnbembjebfhaa

namespace Go.Proofs.Ytdbnbembjebfhaa
set_option maxRecDepth 100000
set_option linter.unusedSimpArgs false
set_option linter.unusedVariables false
open Go.RowKit Go

theorem beqI (a b : Int) : (a == b) = decide (a = b) := rfl
theorem ret_b {a b : Bool} (h : a = b) : Ending.returned (.bool a) = .returned (.bool b) := by rw [h]
theorem ret_i {k : IntKind} {a b : Int} (h : a = b) : Ending.returned (.int k a) = .returned (.int k b) := by rw [h]
theorem int_i {k : IntKind} {a b : Int} (h : a = b) : Value.int k a = .int k b := by rw [h]

set_option maxHeartbeats 400000
theorem in_c (n lo top : Int) (w : World) : Calls Try.prog 81 #[.int .i64 n, .int .i64 lo, .int .i64 top] w fun E w' => E = .returned (.bool (Sw.inR n lo top)) ∧ w = w' := by
  go_enter Try.func81, Try.ntmps81
  go_wp2
  all_goals (go_ret; refine ⟨ret_b (by simp [Sw.inR]; omega), rfl⟩)

theorem l1In_c (n lo top : Int) (w : World) : Calls Try.prog 41 #[.int .i64 n, .int .i64 lo, .int .i64 top] w fun E w' => E = .returned (.bool (Sw.inR n lo top)) ∧ w = w' := by
  go_enter Try.func41, Try.ntmps41
  go_wp2
  all_goals (go_ret; refine ⟨ret_b (by simp [Sw.inR]; omega), rfl⟩)

theorem iMixOk_c (n : Int) (w : World) : Calls Try.prog 47 #[.int .i64 n] w fun E w' => E = .returned (.bool (Sw.mixOk n)) ∧ w = w' := by
  go_enter Try.func47, Try.ntmps47
  go_wp2_with (first | (go_at_call 81; refine (in_c _ _ _ _).mono ?_; rintro E w' ⟨rfl, rfl⟩))
  all_goals (go_ret; refine ⟨ret_b (by simp [Sw.mixOk]), rfl⟩)

theorem sMixOk_c (n : Int) (w : World) : Calls Try.prog 87 #[.int .i64 n] w fun E w' => E = .returned (.bool (Sw.mixOk n)) ∧ w = w' := by
  go_enter Try.func87, Try.ntmps87
  go_wp2_with (first | (go_at_call 41; refine (l1In_c _ _ _ _).mono ?_; rintro E w' ⟨rfl, rfl⟩))
  all_goals (go_ret; refine ⟨ret_b (by simp [Sw.mixOk]), rfl⟩)

theorem isTicket_c (n : Int) (w : World) : Calls Try.prog 48 #[.int .i64 n] w fun E w' => E = .returned (.bool (Sw.inR n 0 7)) ∧ w = w' := by
  go_enter Try.func48, Try.ntmps48
  go_wp2_with (first | (go_at_call 81; refine (in_c _ _ _ _).mono ?_; rintro E w' ⟨rfl, rfl⟩))
  all_goals (go_ret; exact ⟨rfl, rfl⟩)

theorem mul_bd {a b : Int} (ha : 0 ≤ a ∧ a ≤ 65520) (hb : 0 ≤ b ∧ b ≤ 65520) : 0 ≤ a * b ∧ a * b ≤ 4292870400 :=
  ⟨Int.mul_nonneg ha.1 hb.1, Int.le_trans (Int.mul_le_mul ha.2 hb.2 hb.1 (by omega)) (by decide)⟩
theorem mixOk_bd {a : Int} : Sw.mixOk a = true ↔ 0 ≤ a ∧ a ≤ 65520 := by simp [Sw.mixOk, Sw.inR]

theorem pair_c (a b : Int) (w : World) (ha : Sw.mixOk a = true) (hb : Sw.mixOk b = true) : Calls Try.prog 157 #[.int .i64 a, .int .i64 b] w fun E w' => E = .returned (.int .i64 (Sw.pair a b)) ∧ w = w' := by
  rw [mixOk_bd] at ha hb
  obtain ⟨a0, a1⟩ := ha
  obtain ⟨b0, b1⟩ := hb
  obtain ⟨c0, c1⟩ := mul_bd ⟨a0, a1⟩ ⟨b0, b1⟩
  go_enter Try.func157, Try.ntmps157
  go_wp2
  all_goals (go_ret; refine ⟨ret_i (by simp [Sw.pair]), rfl⟩)

theorem sMixPair_c (a b : Int) (w : World) : Calls Try.prog 146 #[.int .i64 a, .int .i64 b] w fun E w' => E = .returned (.int .i64 (Sw.mixPair a b)) ∧ w = w' := by
  by_cases ha : Sw.mixOk a = true <;> by_cases hb : Sw.mixOk b = true
  · have ha' := mixOk_bd.1 ha
    have hb' := mixOk_bd.1 hb
    obtain ⟨a0, a1⟩ := ha'
    obtain ⟨b0, b1⟩ := hb'
    obtain ⟨c0, c1⟩ := mul_bd ⟨a0, a1⟩ ⟨b0, b1⟩
    go_enter Try.func146, Try.ntmps146
    go_wp2_with (first | (go_at_call 87; refine (sMixOk_c _ _).mono ?_; rintro E w' ⟨rfl, rfl⟩))
    all_goals (go_ret; refine ⟨ret_i (by simp [Sw.mixPair, Sw.pair, ha, hb]; omega), rfl⟩)
  all_goals
    go_enter Try.func146, Try.ntmps146
    go_wp2_with (first | (go_at_call 87; refine (sMixOk_c _ _).mono ?_; rintro E w' ⟨rfl, rfl⟩))
    all_goals (go_ret; refine ⟨ret_i (by simp [Sw.mixPair, *]), rfl⟩)

theorem sEntCap_c (f : Int) (w : World) : Calls Try.prog 71 #[.int .i64 f] w fun E w' => E = .returned (.int .i64 (Sw.entCap f)) ∧ w = w' := by
  by_cases h : Sw.inR f 1 50 = true
  · have h' : 1 ≤ f ∧ f ≤ 50 := by simpa [Sw.inR] using h
    obtain ⟨a, b⟩ := h'
    go_enter Try.func71, Try.ntmps71
    go_wp2_with (first | (go_at_call 41; refine (l1In_c _ _ _ _).mono ?_; rintro E w' ⟨rfl, rfl⟩))
    all_goals (go_ret; refine ⟨ret_i (by simp [Sw.entCap, h]), rfl⟩)
  · go_enter Try.func71, Try.ntmps71
    go_wp2_with (first | (go_at_call 41; refine (l1In_c _ _ _ _).mono ?_; rintro E w' ⟨rfl, rfl⟩))
    all_goals (go_ret; refine ⟨ret_i (by simp [Sw.entCap, h]), rfl⟩)

/-! ### a list of numbers mixed -/
theorem leafStep_bd (x n : Int) : 0 ≤ Sw.leafStep x n ∧ Sw.leafStep x n ≤ 65520 := by unfold Sw.leafStep; omega
theorem tmod_bd (y : Int) : -65520 ≤ y.tmod 65521 ∧ y.tmod 65521 ≤ 65520 := by
  rw [Int.tmod_eq_emod]; split <;> omega
theorem leafStep_eq (x y : Int) : (x * 4099 + y.tmod 65521 % 65521 + 11) % 65521 = Sw.leafStep x y := by
  unfold Sw.leafStep
  rw [Int.tmod_eq_emod]; split <;> omega

theorem sMixLeaf_c (A : Option Addr) (c n : Nat) (xs : List Int) (w : World) (h : RI w 0 A c n xs) (hn : n ≤ 4194304) : Calls Try.prog 122 #[.slice A n c] w fun E w' => E = .returned (.int .i64 (Sw.mixLeaf xs)) ∧ w = w' := by
  have hl := Lib.hid h.1
  go_enter Try.func122, Try.ntmps122
  go_wp2
  go_loop [3, 4] (fun m i => ∃ (k : Nat) (x : Int), k ≤ n ∧ i = .int .i64 k ∧ m = .int .i64 x ∧ 0 ≤ x ∧ x ≤ 65520 ∧ Sw.mixLeafFrom 7 xs = Sw.mixLeafFrom x (xs.drop k)) (fun _ i => n - (intOf i).toNat)
  case atStart => exact ⟨0, 7, Nat.zero_le _, rfl, rfl, by omega, by omega, rfl⟩
  case round =>
    obtain ⟨k, x, hk, rfl, rfl, x0, x1, hrel⟩ := hrel
    by_cases hlt : k < n
    · obtain ⟨g, off, y, rfl, hg0, hg, hd, hy, hc⟩ := at_I h hlt
      rw [hd] at hrel
      clear hd hy
      have Hrel := Lib.hid hrel; clear hrel
      obtain ⟨y0, y1⟩ := tmod_bd y
      have hbd := leafStep_bd x y
      go_wp2
      go_round
      case rel => exact ⟨k + 1, Sw.leafStep x y, by omega, by go_num, int_i (leafStep_eq x y), hbd.1, hbd.2, Hrel.out⟩
      case measure => simp [intOf]; omega
    · have Hrel := Lib.hid hrel; clear hrel
      go_wp2
      go_ret
      refine ⟨ret_i ?_, rfl⟩
      have := Hrel.out
      rw [List.drop_of_length_le (by have := hl.out; omega)] at this
      unfold Sw.mixLeaf
      rw [this, hl.out]
      rfl
end Go.Proofs.Ytdbnbembjebfhaa

namespace Go.Proofs.Ytdbnbembjebfhaa
set_option maxRecDepth 100000
set_option linter.unusedSimpArgs false
set_option linter.unusedVariables false
open Go.RowKit Go
set_option maxHeartbeats 400000

theorem sEntLeaf_c (e : Sw.Ent) (w : World) : Calls Try.prog 171 #[.agg #[.int .i64 e.kind, .int .i64 e.ticket, .int .i64 e.who, .int .i64 e.price]] w fun E w' => E = .returned (.int .i64 (Sw.entLeaf e)) ∧ Ex w w' := by
  go_enter Try.func171, Try.ntmps171
  go_wp2_with (go_at_call 122; apply Calls.mono; apply (sMixLeaf_c (xs := [e.kind, e.ticket, e.who, e.price])); (refine Rs.new _ (by simp only [zA, zC, zD, zN]) rfl rfl (fun _ => rfl) (by omega)); omega; rintro E w' ⟨rfl, rfl⟩)
  go_ret
  exact ⟨rfl, ((Ch.refl _ _).alloc _).alloc _⟩

theorem sOwnLeaf_c (t : Int) (r : Sw.Row) (w : World) : Calls Try.prog 86 #[.int .i64 t, .agg #[.int .i64 r.who, .int .i64 r.face, .bool r.used]] w fun E w' => E = .returned (.int .i64 (Sw.ownLeaf t r)) ∧ Ex w w' := by
  by_cases h : Sw.inR t 0 7 = true
  · have h' : 0 ≤ t ∧ t ≤ 7 := by simpa [Sw.inR] using h
    obtain ⟨t0, t1⟩ := h'
    cases hu : r.used
    · go_enter Try.func86, Try.ntmps86
      go_wp2_with (first | (go_at_call 41; refine (l1In_c _ _ _ _).mono ?_; rintro E w' ⟨rfl, rfl⟩) | (go_at_call 122; apply Calls.mono; apply (sMixLeaf_c (xs := [1000 + t, r.who, r.face, 0])); (refine Rs.new _ (by simp only [zA, zC, zD, zN]) rfl rfl (fun _ => rfl) (by omega)); omega; rintro E w' ⟨rfl, rfl⟩))
      go_ret
      exact ⟨ret_i (by simp [Sw.ownLeaf, h, hu]), ((Ch.refl _ _).alloc _).alloc _⟩
    · go_enter Try.func86, Try.ntmps86
      go_wp2_with (first | (go_at_call 41; refine (l1In_c _ _ _ _).mono ?_; rintro E w' ⟨rfl, rfl⟩) | (go_at_call 122; apply Calls.mono; apply (sMixLeaf_c (xs := [1000 + t, r.who, r.face, 1])); (refine Rs.new _ (by simp only [zA, zC, zD, zN]) rfl rfl (fun _ => rfl) (by omega)); omega; rintro E w' ⟨rfl, rfl⟩))
      go_ret
      exact ⟨ret_i (by simp [Sw.ownLeaf, h, hu]), ((Ch.refl _ _).alloc _).alloc _⟩
  · go_enter Try.func86, Try.ntmps86
    go_wp2_with (first | (go_at_call 41; refine (l1In_c _ _ _ _).mono ?_; rintro E w' ⟨rfl, rfl⟩))
    go_ret
    exact ⟨ret_i (by simp [Sw.ownLeaf, h]), (Ch.refl _ _).alloc _⟩

theorem sEntOk_c (e : Sw.Ent) (w : World) : Calls Try.prog 143 #[.agg #[.int .i64 e.kind, .int .i64 e.ticket, .int .i64 e.who, .int .i64 e.price]] w fun E w' => E = .returned (.bool (Sw.entOk e)) ∧ Ex w w' := by
  go_enter Try.func143, Try.ntmps143
  go_wp2_with (first | (go_at_call 41; refine (l1In_c _ _ _ _).mono ?_; rintro E w' ⟨rfl, rfl⟩) | (go_at_call 71; refine (sEntCap_c _ _).mono ?_; rintro E w' ⟨rfl, rfl⟩))
  all_goals (try (refine wp_name ?_; intro W0 hb0; have hst := xr hb0; (try simp only [zA, zC, zD, zN] at hst); obtain ⟨hc0, hf0, hz0⟩ := hst; go_region_held3 (fun w' => Held W0 w') ((first | with_reducible assumption | with_reducible exact Held.start _ | with_reducible exact Held.of (by assumption) | with_reducible exact Held.ex (by assumption) (by assumption) | ((repeat (first | with_reducible refine Held.set ?_ (by simp only [zA, zC, zD, zN]; omega) | with_reducible refine Held.alloc ?_ _ | with_reducible refine Held.drew ?_)); (first | with_reducible assumption | with_reducible exact Held.refl _ | with_reducible exact Held.of (by assumption) | with_reducible exact Held.ex (by assumption) (by assumption))) | exact Held.of (by exact ext_))) ((first | (go_at_call 41; refine (l1In_c _ _ _ _).mono ?_; rintro E w' ⟨rfl, rfl⟩) | (go_at_call 71; refine (sEntCap_c _ _).mono ?_; rintro E w' ⟨rfl, rfl⟩))); all_goals (have hb := And.right (by assumption : Held W0 _); have hst := xr hb; (try simp only [zA, zC, zD, zN] at hst); obtain ⟨hc, hf, hz⟩ := hst)))
  go_wp2
  all_goals (go_ret; refine ⟨ret_b ?_, (by first | rfl | exact ext_)⟩; go_tidy; (try simp only [Bool.not_eq_true', Bool.not_eq_false', Bool.not_eq_true, Bool.not_eq_false, beq_iff_eq, bne_iff_ne, ne_eq, beq_eq_false_iff_ne, bne_eq_false_iff_eq] at *); (first | rfl | (simp [Sw.entOk, Sw.entCap, show Sw.inR 50 1 50 = true from by decide, *]; done) | (simp [Sw.entOk, Sw.entCap, show Sw.inR 50 1 50 = true from by decide, *]; omega) | (simp [Sw.entOk, Sw.entCap, show Sw.inR 50 1 50 = true from by decide, beqI, *]; done) | (simp_all [Sw.entOk, Sw.entCap, show Sw.inR 50 1 50 = true from by decide, beqI]; done) | (simp_all [Sw.entOk, Sw.entCap, show Sw.inR 50 1 50 = true from by decide, beqI] <;> omega) | simp_all [Sw.entOk, Sw.entCap, show Sw.inR 50 1 50 = true from by decide, beqI]))

theorem sHedOk_c (t : Sw.Head) (w : World) : Calls Try.prog 46 #[.agg #[.int .i64 t.size, .int .i64 t.log, .int .i64 t.own]] w fun E w' => E = .returned (.bool (Sw.hedOk t)) ∧ Ex w w' := by
  go_enter Try.func46, Try.ntmps46
  go_wp2_with (first | (go_at_call 41; refine (l1In_c _ _ _ _).mono ?_; rintro E w' ⟨rfl, rfl⟩) | (go_at_call 87; refine (sMixOk_c _ _).mono ?_; rintro E w' ⟨rfl, rfl⟩))
  all_goals (go_ret; refine ⟨ret_b (by simp [Sw.hedOk, *]), (Ch.refl _ _).alloc _⟩)

theorem iHedOk_c (t : Sw.Head) (w : World) : Calls Try.prog 51 #[.agg #[.int .i64 t.size, .int .i64 t.log, .int .i64 t.own]] w fun E w' => E = .returned (.bool (Sw.hedOk t)) ∧ Ex w w' := by
  go_enter Try.func51, Try.ntmps51
  go_wp2_with (first | (go_at_call 81; refine (in_c _ _ _ _).mono ?_; rintro E w' ⟨rfl, rfl⟩) | (go_at_call 47; refine (iMixOk_c _ _).mono ?_; rintro E w' ⟨rfl, rfl⟩))
  all_goals (go_ret; refine ⟨ret_b (by simp [Sw.hedOk, *]), (Ch.refl _ _).alloc _⟩)

theorem sTreOk_c (A : Option Addr) (c n : Nat) (xs : List Int) (w : World) (h : RI w 0 A c n xs) : Calls Try.prog 153 #[.slice A n c] w fun E w' => E = .returned (.bool (Sw.treOk xs)) ∧ w = w' := by
  have hl := Lib.hid h.1
  have hm : n ≤ 9223372036854775807 := by have := h.2.le; have := h.2.cap; unfold maxLen at this; omega
  by_cases hn : n ≤ 40
  · have hb : decide (40 < n) = false := by simp; omega
    go_enter Try.func153, Try.ntmps153
    go_wp2
    go_loop [3] (fun i => ∃ k : Nat, k ≤ n ∧ i = .int .i64 k ∧ xs.all Sw.mixOk = (xs.drop k).all Sw.mixOk) (fun i => n - (intOf i).toNat)
    case atStart => exact ⟨0, Nat.zero_le _, rfl, rfl⟩
    case round =>
      obtain ⟨k, hk, rfl, hrel⟩ := hrel
      by_cases hlt : k < n
      · obtain ⟨g, off, y, rfl, hg0, hg, hd, hy, hc⟩ := at_I h hlt
        rw [hd] at hrel
        clear hd hy
        have Hrel := Lib.hid hrel; clear hrel
        go_wp2_with (first | (go_at_call 87; refine (sMixOk_c _ _).mono ?_; rintro E w' ⟨rfl, rfl⟩))
        all_goals (first | (refine ⟨⟨k + 1, by omega, by go_num, ?_⟩, by simp [intOf]; omega⟩; have hh := Hrel.out; clear Hrel; rw [List.all_cons] at hh; rw [hh]; clear hh; go_tidy; (try simp only [Bool.not_eq_true', Bool.not_eq_false', Bool.not_eq_true, Bool.not_eq_false, beq_iff_eq, bne_iff_ne, ne_eq, beq_eq_false_iff_ne, bne_eq_false_iff_eq] at *); have hp : Sw.mixOk y = true := (by (first | (simp [Sw.mixOk, *]; done) | (simp [Sw.mixOk, *]; omega) | (simp [Sw.mixOk, *]; intros; simp_all; done) | (simp_all [Sw.mixOk]; done))); simp [hp]) | (go_ret; refine ⟨ret_b ?_, rfl⟩; have hh := Hrel.out; clear Hrel; rw [List.all_cons] at hh; unfold Sw.treOk; rw [hh]; clear hh; go_tidy; (try simp only [Bool.not_eq_true', Bool.not_eq_false', Bool.not_eq_true, Bool.not_eq_false, beq_iff_eq, bne_iff_ne, ne_eq, beq_eq_false_iff_ne, bne_eq_false_iff_eq] at *); have hp : Sw.mixOk y = false := (by (first | (simp [Sw.mixOk, *]; done) | (simp [Sw.mixOk, *]; omega) | (simp [Sw.mixOk, *]; intros; simp_all; done) | (simp_all [Sw.mixOk]; done))); simp [hp]))
      · have Hrel := Lib.hid hrel; clear hrel
        go_wp2
        go_ret
        refine ⟨ret_b ?_, rfl⟩
        have := Hrel.out
        rw [List.drop_of_length_le (by have := hl.out; omega)] at this
        rw [Sw.treOk, this, ← hl.out]
        simp [hn]
  · go_enter Try.func153, Try.ntmps153
    go_wp2
    go_ret
    refine ⟨ret_b ?_, rfl⟩
    rw [Sw.treOk, ← hl.out]
    simp [hn]
end Go.Proofs.Ytdbnbembjebfhaa

namespace Go.Proofs.Ytdbnbembjebfhaa
set_option maxRecDepth 100000
set_option linter.unusedSimpArgs false
set_option linter.unusedVariables false
open Go.RowKit Go
set_option maxHeartbeats 400000

theorem split_eq {n j : Nat} (h1 : 2 ^ j < n) (h2 : n ≤ 2 * 2 ^ j) : Sw.split n = 2 ^ j := by
  unfold Sw.split
  have : (n - 1).log2 = j := (Nat.log2_eq_iff (by omega)).2 ⟨by omega, by rw [Nat.pow_succ]; omega⟩
  rw [this]

theorem sTreSplit_c (n : Nat) (w : World) (h2 : 2 ≤ n) (h40 : n ≤ 40) : Calls Try.prog 108 #[.int .i64 n] w fun E w' => E = .returned (.int .i64 (Sw.split n)) ∧ w = w' := by
  have hin : Sw.inR n 2 40 = true := by simp [Sw.inR]; omega
  go_enter Try.func108, Try.ntmps108
  go_wp2_with (first | (go_at_call 41; refine (l1In_c _ _ _ _).mono ?_; rintro E w' ⟨rfl, rfl⟩))
  go_loop [3] (fun k => ∃ p : Nat, k = .int .i64 p ∧ (∃ j, p = 2 ^ j) ∧ 1 ≤ p ∧ p < n) (fun k => n - (intOf k).toNat)
  case atStart => exact ⟨1, rfl, ⟨0, rfl⟩, by omega, by omega⟩
  case round =>
    obtain ⟨p, rfl, hj, hp1, hpn⟩ := hrel
    have Hj := Lib.hid hj; clear hj
    by_cases hlt : 2 * p < n
    · go_wp2
      go_round
      case rel => exact ⟨2 * p, by go_num, by obtain ⟨j, rfl⟩ := Hj.out; exact ⟨j + 1, by rw [Nat.pow_succ]; omega⟩, by omega, hlt⟩
      case measure => simp [intOf]; omega
    · go_wp2
      go_ret
      obtain ⟨j, rfl⟩ := Hj.out
      exact ⟨ret_i (by rw [split_eq hpn (by omega)]), rfl⟩

theorem iSplit_c (n : Nat) (w : World) (h2 : 2 ≤ n) (h40 : n ≤ 40) : Calls Try.prog 156 #[.int .i64 n] w fun E w' => E = .returned (.int .i64 (Sw.split n)) ∧ w = w' := by
  go_enter Try.func156, Try.ntmps156
  go_wp2
  go_loop [3] (fun k => ∃ p : Nat, k = .int .i64 p ∧ (∃ j, p = 2 ^ j) ∧ 1 ≤ p ∧ p < n) (fun k => n - (intOf k).toNat)
  case atStart => exact ⟨1, rfl, ⟨0, rfl⟩, by omega, by omega⟩
  case round =>
    obtain ⟨p, rfl, hj, hp1, hpn⟩ := hrel
    have Hj := Lib.hid hj; clear hj
    by_cases hlt : 2 * p < n
    · go_wp2
      go_round
      case rel => exact ⟨2 * p, by go_num, by obtain ⟨j, rfl⟩ := Hj.out; exact ⟨j + 1, by rw [Nat.pow_succ]; omega⟩, by omega, hlt⟩
      case measure => simp [intOf]; omega
    · go_wp2
      go_ret
      obtain ⟨j, rfl⟩ := Hj.out
      exact ⟨ret_i (by rw [split_eq hpn (by omega)]), rfl⟩

/-! ### parts of a slice -/
theorem Rs.take {α : Type} {enc : α → List Value} {sz : Nat} {w : World} {lo c n : Nat} {A : Option Addr} {xs : List α} (h : Rs enc sz w lo A c n xs) (hsz : ∀ x, (enc x).length = sz) {k : Nat} (hk : k ≤ n) :
    Rs enc sz w lo A c k (xs.take k) := by
  obtain ⟨rfl, h⟩ := h
  have hf : ∀ (xs : List α) (k : Nat), k ≤ xs.length → (xs.take k).flatMap enc = (xs.flatMap enc).take (k * sz) := by
    intro xs
    induction xs with
    | nil => intro k hk; simp
    | cons x xs ih =>
      intro k hk
      cases k with
      | zero => simp
      | succ k =>
        simp only [List.take_succ_cons, List.flatMap_cons]
        have hx : (enc x).length ≤ (k + 1) * sz := by rw [hsz, Nat.succ_mul]; omega
        rw [ih k (by simpa using hk), List.take_append, List.take_of_length_le hx, hsz]
        rw [show (k + 1) * sz - sz = k * sz from by rw [Nat.succ_mul]; omega]
  have hl : ((xs.take k).flatMap enc).length = k * sz := by
    rw [hf xs k hk, List.length_take, h.len]
    exact Nat.min_eq_left (Nat.mul_le_mul_right _ hk)
  refine ⟨by simp; omega, hl, Nat.le_trans hk h.le, h.cap, h.nil, fun a ha hk0 => ?_⟩
  obtain ⟨h1, h2, h3, h4⟩ := h.cells a ha (by omega)
  refine ⟨h1, h2, h3, fun j u hu => h4 j u ?_⟩
  rw [hf xs k hk, List.getElem?_take] at hu
  split at hu
  · exact hu
  · cases hu
theorem Rs.drop {α : Type} {enc : α → List Value} {sz : Nat} {w : World} {lo c n : Nat} {A : Option Addr} {xs : List α} (h : Rs enc sz w lo A c n xs) (hsz : ∀ x, (enc x).length = sz) {k : Nat} (hk : k ≤ n) :
    Rs enc sz w lo (if c = k then A else A.map (·.add (k * sz))) (c - k) (n - k) (xs.drop k) := by
  obtain ⟨rfl, h⟩ := h
  have hf : ∀ (xs : List α) (k : Nat), k ≤ xs.length → (xs.drop k).flatMap enc = (xs.flatMap enc).drop (k * sz) := by
    intro xs
    induction xs with
    | nil => intro k hk; simp
    | cons x xs ih =>
      intro k hk
      cases k with
      | zero => simp
      | succ k =>
        simp only [List.drop_succ_cons, List.flatMap_cons]
        have hx : (enc x).length ≤ (k + 1) * sz := by rw [hsz, Nat.succ_mul]; omega
        rw [ih k (by simpa using hk), List.drop_append, List.drop_of_length_le hx, hsz]
        rw [show (k + 1) * sz - sz = k * sz from by rw [Nat.succ_mul]; omega]
        simp
  have hl : ((xs.drop k).flatMap enc).length = (xs.length - k) * sz := by
    rw [hf xs k hk, List.length_drop, h.len, Nat.sub_mul]
  have hle := h.le
  refine ⟨by simp, hl, by omega, Nat.le_trans (Nat.sub_le _ _) h.cap, fun hA => ?_, fun a ha hn0 => ?_⟩
  · cases A with
    | none => have := h.nil rfl; omega
    | some a => by_cases hck : c = k <;> simp [hck] at hA
  · by_cases hc : c = k
    · omega
    · rw [if_neg hc] at ha
      cases A with
      | none => simp at ha
      | some a0 =>
        obtain ⟨g, off, spot⟩ := a0
        obtain ⟨h1, h2, h3, h4⟩ := h.cells _ rfl (by omega)
        dsimp only at h1 h2 h3 h4
        subst h1
        simp only [Option.map_some, Addr.add_lit] at ha
        obtain rfl := Option.some.inj ha
        refine ⟨rfl, h2, h3, fun j u hu => ?_⟩
        rw [hf xs k hk, List.getElem?_drop] at hu
        have := h4 _ u hu
        rw [← Nat.add_assoc] at this
        exact this

theorem RI_drop {w : World} {lo c n k : Nat} {A : Option Addr} {xs : List Int} (h : RI w lo A c n xs) (hk : k < n) : RI w lo (A.map (fun x => x.add k)) (c - k) (n - k) (xs.drop k) := by
  have := Rs.drop h (fun _ => rfl) (Nat.le_of_lt hk)
  rw [if_neg (by have := h.2.le; omega)] at this
  simpa using this
theorem RI_take {w : World} {lo c n k : Nat} {A : Option Addr} {xs : List Int} (h : RI w lo A c n xs) (hk : k ≤ n) : RI w lo A c k (xs.take k) := Rs.take h (fun _ => rfl) hk

theorem root_two {xs : List Int} (h : 2 ≤ xs.length) : Sw.root xs = Sw.pair (Sw.root (xs.take (Sw.split xs.length))) (Sw.root (xs.drop (Sw.split xs.length))) := by
  match xs, h with
  | x :: y :: r, _ => rw [Sw.root]; rfl
theorem List.all_take {p : Int → Bool} {xs : List Int} {k : Nat} (h : xs.all p = true) : (xs.take k).all p = true := by
  rw [List.all_eq_true] at *; exact fun x hx => h x (List.mem_of_mem_take hx)
theorem List.all_drop {p : Int → Bool} {xs : List Int} {k : Nat} (h : xs.all p = true) : (xs.drop k).all p = true := by
  rw [List.all_eq_true] at *; exact fun x hx => h x (List.mem_of_mem_drop hx)
theorem pair_ok (a b : Int) : Sw.mixOk (Sw.pair a b) = true := by
  rw [mixOk_bd]; unfold Sw.pair
  exact ⟨Int.emod_nonneg _ (by omega), by have := Int.emod_lt_of_pos (a * 8191 + b * 127 + a * b + 31) (show (0 : Int) < 65521 by omega); omega⟩
theorem root_ok : ∀ (xs : List Int), xs.all Sw.mixOk = true → Sw.mixOk (Sw.root xs) = true
  | [], _ => by simp [Sw.root]; decide
  | [x], h => by simpa [Sw.root] using h
  | x :: y :: r, _ => by rw [Sw.root]; exact pair_ok _ _
theorem mixPair_ok {a b : Int} (ha : Sw.mixOk a = true) (hb : Sw.mixOk b = true) : Sw.mixPair a b = Sw.pair a b := by simp [Sw.mixPair, ha, hb]

theorem sRoot_c (N : Nat) (A : Option Addr) (c n : Nat) (xs : List Int) (w : World) (hN : n ≤ N) (hxs : RI w 0 A c n xs) (h40 : n ≤ 40) (hok : xs.all Sw.mixOk = true) : Calls Try.prog 109 #[.slice A n c] w fun E w' => E = .returned (.int .i64 (Sw.root xs)) ∧ Ex w w' := by
  induction N generalizing A c n xs w with
  | zero =>
    have hl := hxs.1
    obtain rfl : n = 0 := by omega
    have hx : xs = [] := List.eq_nil_of_length_eq_zero (by omega)
    subst hx
    clear hl
    go_enter Try.func109, Try.ntmps109
    go_wp2_with fail
    go_ret
    exact ⟨ret_i (by simp [Sw.root]), Ch.refl _ _⟩
  | succ N ih =>
    have hl := Lib.hid hxs.1
    have hcap := hxs.2.le
    by_cases h0 : n = 0
    · subst h0
      have hx : xs = [] := List.eq_nil_of_length_eq_zero (by have := hl.out; omega)
      subst hx
      go_enter Try.func109, Try.ntmps109
      go_wp2_with fail
      go_ret
      exact ⟨ret_i (by simp [Sw.root]), Ch.refl _ _⟩
    by_cases h1 : n = 1
    · subst h1
      obtain ⟨g, off, y, rfl, hg0, hg, hd, hy, hc⟩ := at_I hxs (show 0 < 1 by omega)
      have hx : xs = [y] := by
        have := hl.out
        match xs, this, hy with
        | [z], _, hy => simpa using hy
      subst hx
      clear hd hy
      simp only [Nat.add_zero] at hc
      go_enter Try.func109, Try.ntmps109
      go_wp2_with fail
      go_ret
      exact ⟨ret_i (by simp [Sw.root]), Ch.refl _ _⟩
    have h2 : 2 ≤ n := by omega
    have hb0 : decide (n = 0) = false := by simp [h0]
    have hb1 : decide (n = 1) = false := by simp [h1]
    have hs1 := Sw.split_lt h2
    have hs0 := Sw.split_pos n
    have z3 : ¬ (c = Sw.split n) := by omega
    have z0 : (0 : Int) ≤ ↑(Sw.split n) := by omega
    have z1 : (↑(Sw.split n) : Int) ≤ ↑n := by omega
    have z2 : (↑(Sw.split n) : Int) ≤ ↑c := by omega
    go_enter Try.func109, Try.ntmps109
    go_wp2_with (first | (go_at_call 108; apply Calls.mono; apply sTreSplit_c; (first | assumption | omega); (first | assumption | omega); rintro E w' ⟨rfl, rfl⟩))
    (refine wp_name ?_; intro W0 hb0; have hst := xr hb0; (try simp only [zA, zC, zD, zN] at hst); obtain ⟨hc0, hf0, hz0⟩ := hst; go_region_held3 (fun w' => Held W0 w') ((first | with_reducible assumption | with_reducible exact Held.start _ | with_reducible exact Held.of (by assumption) | with_reducible exact Held.ex (by assumption) (by assumption) | ((repeat (first | with_reducible refine Held.set ?_ (by simp only [zA, zC, zD, zN]; omega) | with_reducible refine Held.alloc ?_ _ | with_reducible refine Held.drew ?_)); (first | with_reducible assumption | with_reducible exact Held.refl _ | with_reducible exact Held.of (by assumption) | with_reducible exact Held.ex (by assumption) (by assumption))) | exact Held.of (by exact ext_))) ((first | (go_at_call 109; apply Calls.mono; apply ih; omega; (first | (apply Rs.at0; apply RI_take hxs; omega; (exact kf_)) | (apply Rs.at0; apply RI_drop hxs; omega; (exact kf_))); omega; (first | exact List.all_take hok | exact List.all_drop hok); rintro E w1 ⟨rfl, hb⟩) | (go_at_call 146; refine (sMixPair_c _ _ _).mono ?_; rintro E w' ⟨rfl, rfl⟩))); all_goals (have hb := And.right (by assumption : Held W0 _); have hst := xr hb; (try simp only [zA, zC, zD, zN] at hst); obtain ⟨hc, hf, hz⟩ := hst))
    go_wp2
    go_ret
    refine ⟨ret_i ?_, ext_⟩
    have e := root_two (xs := xs) (by have := hl.out; omega)
    rw [← hl.out] at e
    rw [mixPair_ok (root_ok _ (List.all_take hok)) (root_ok _ (List.all_drop hok)), e]
end Go.Proofs.Ytdbnbembjebfhaa

namespace Go.Proofs.Ytdbnbembjebfhaa.Sw
set_option maxRecDepth 100000
set_option linter.unusedSimpArgs false
set_option linter.unusedVariables false
open Go.RowKit (wrap64)

/-! ### money -/
def monOk (p : List Int) : Bool := decide (p.length = 5) && p.all (fun n => inR n 0 100000)
def purse (p : List Int) (who : Int) : Int := p.getD (who - 1).toNat 0
def monHas (p : List Int) (who : Int) : Int := if monOk p && inR who 1 5 then purse p who else 0
def turnMay (p : List Int) (who n : Int) : Bool := monOk p && inR who 1 5 && inR n (-100000) 100000 && inR (purse p who + n) 0 100000
def turned (p : List Int) (who n : Int) : List Int := p.set (who - 1).toNat (purse p who + n)
def monTurn (p : List Int) (who n : Int) : List Int := if turnMay p who n then turned p who n else p
def moveMay (p : List Int) (a b n : Int) : Bool := inR n 0 100000 && decide (a ≠ b) && turnMay p a (-n) && turnMay (turned p a (-n)) b n
def monMove (p : List Int) (a b n : Int) : List Int := if moveMay p a b n then turned (turned p a (-n)) b n else p
def sumFrom (s : Int) (p : List Int) : Int := p.foldl (fun s n => wrap64 (s + n)) s
def monSum (p : List Int) : Int := sumFrom 0 p

/-! ### the market -/
structure Deal where
  ticket : Int
  seller : Int
  price : Int
  buyer : Int
  due : Int
  deriving DecidableEq
structure Req where
  user : Int
  n : Int
  kind : Int
  ticket : Int
  who : Int
  price : Int
  deriving DecidableEq
structure Mkt where
  log : List Ent
  purses : List Int
  deals : List Deal
  clock : Int
  nums : List Int
  said : List Int
  deriving DecidableEq
def dealZ : Deal := ⟨0, 0, 0, 0, 0⟩
def reqZ : Req := ⟨0, 0, 0, 0, 0, 0⟩
def mktZ : Mkt := ⟨[], [], [], 0, [], []⟩
def mktNew (p : List Int) : Mkt :=
  if monOk p && decide (monSum p ≤ 100000) then ⟨[], p, [], 0, [0, 0, 0, 0, 0], [0, 0, 0, 0, 0]⟩ else mktZ
def held (d : Deal) : Bool := decide (0 < d.buyer)
def heldStep (s : Int) (d : Deal) : Int := if held d then wrap64 (s + d.price) else s
def heldFrom (s : Int) (ds : List Deal) : Int := ds.foldl heldStep s
def heldOf (ds : List Deal) : Int := heldFrom 0 ds
def mktHeld (m : Mkt) : Int := heldOf m.deals
def dealOk (clock : Int) (rows : List Row) (d : Deal) : Bool :=
  inR d.ticket 0 7 && inR d.seller 1 5 && decide ((rowAt rows d.ticket).who = d.seller) && !(rowAt rows d.ticket).used &&
    inR d.price 1 (entCap (rowAt rows d.ticket).face) &&
    (if d.buyer = 0 then decide (d.due = 0) else inR d.buyer 1 5 && decide (d.buyer ≠ d.seller) && inR d.due clock (clock + 5))
/-- Deals that are ok, of rising tickets behind a number. -/
def dealsOk (clock : Int) (rows : List Row) : Int → List Deal → Bool
  | _, [] => true
  | p, d :: ds => dealOk clock rows d && decide (p < d.ticket) && dealsOk clock rows d.ticket ds
def numOk (n s : Int) : Bool := inR n 0 99999 && inR s 0 6 && (decide (n = 0) == decide (s = 0))
def numsOk : List Int → List Int → Bool
  | [], _ => true
  | _ :: _, [] => false
  | n :: ns, s :: ss => numOk n s && numsOk ns ss
def mktRows (m : Mkt) : List Row := (ownFold m.log).getD []
def mktOk (m : Mkt) : Bool :=
  (ownFold m.log).isSome && monOk m.purses && decide (m.deals.length ≤ 8) && inR m.clock 0 99999 && decide (m.nums.length = 5) && decide (m.said.length = 5) &&
    dealsOk m.clock (mktRows m) (-1) m.deals && numsOk m.nums m.said && decide (monSum m.purses + mktHeld m ≤ 100000)
def dealAt (ds : List Deal) (t : Int) : Option Nat := ds.findIdx? (fun d => decide (d.ticket = t))
def dealIx (ds : List Deal) (t : Int) : Int := match dealAt ds t with
  | some k => k
  | none => -1
def dealOf (ds : List Deal) (t : Int) : Option Deal := ds.find? (fun d => decide (d.ticket = t))
def reqOk (r : Req) : Bool :=
  inR r.user 1 5 && inR r.n 1 99999 && inR r.kind 1 6 && inR r.ticket 0 7 &&
    (if r.kind = 1 then inR r.who 1 5 && inR r.price 1 50 else decide (r.who = 0) && (if r.kind = 2 then inR r.price 1 999 else decide (r.price = 0)))
def insertDeal (d : Deal) : List Deal → List Deal
  | [] => [d]
  | x :: xs => if d.ticket < x.ticket then d :: x :: xs else x :: insertDeal d xs
/-- What a request does to the log, the purses and the deals, and its answer; row: how its ticket stands; k: the deal about it. -/
def issue (m : Mkt) (r : Req) (row : Row) : Mkt × Int :=
  if r.user ≠ 1 ∨ r.who = 1 then (m, 2)
  else if row.who ≠ 0 then (m, 3)
  else if m.log.length = 40 then (m, 6)
  else if moveMay m.purses r.who 1 r.price then ({ m with purses := turned (turned m.purses r.who (-r.price)) 1 r.price, log := m.log ++ [⟨1, r.ticket, r.who, r.price⟩] }, 1)
  else (m, 5)
def offer (m : Mkt) (r : Req) (row : Row) (k : Option Nat) : Mkt × Int :=
  if row.who ≠ r.user then (m, 2)
  else if k.isSome ∨ row.used = true then (m, 3)
  else if entCap row.face < r.price then (m, 4)
  else ({ m with deals := insertDeal ⟨r.ticket, r.user, r.price, 0, 0⟩ m.deals }, 1)
def dropIt (m : Mkt) (r : Req) (row : Row) (k : Option Nat) : Mkt × Int :=
  if row.who ≠ r.user then (m, 2)
  else match k with
  | none => (m, 3)
  | some k => if held (m.deals.getD k dealZ) then (m, 3) else ({ m with deals := m.deals.eraseIdx k }, 1)
def fund (m : Mkt) (r : Req) (k : Option Nat) : Mkt × Int :=
  match k with
  | none => (m, 3)
  | some k =>
    if held (m.deals.getD k dealZ) then (m, 3)
    else if (m.deals.getD k dealZ).seller = r.user then (m, 2)
    else if turnMay m.purses r.user (-(m.deals.getD k dealZ).price) then
      ({ m with purses := turned m.purses r.user (-(m.deals.getD k dealZ).price), deals := m.deals.set k { m.deals.getD k dealZ with buyer := r.user, due := m.clock + 5 } }, 1)
    else (m, 5)
def settle (m : Mkt) (r : Req) (k : Option Nat) : Mkt × Int :=
  match k with
  | none => (m, 3)
  | some k =>
    if held (m.deals.getD k dealZ) = false then (m, 3)
    else if (m.deals.getD k dealZ).seller ≠ r.user then (m, 2)
    else if m.log.length = 40 then (m, 6)
    else ({ m with purses := monTurn m.purses (m.deals.getD k dealZ).seller (m.deals.getD k dealZ).price,
                   log := m.log ++ [⟨2, r.ticket, (m.deals.getD k dealZ).buyer, (m.deals.getD k dealZ).price⟩],
                   deals := m.deals.eraseIdx k }, 1)
def enter (m : Mkt) (r : Req) (row : Row) (k : Option Nat) : Mkt × Int :=
  if row.who ≠ r.user then (m, 2)
  else if row.used = true ∨ k.isSome then (m, 3)
  else if m.log.length = 40 then (m, 6)
  else ({ m with log := m.log ++ [⟨3, r.ticket, r.user, 0⟩] }, 1)
def effect (m : Mkt) (r : Req) : Mkt × Int :=
  if r.kind = 1 then issue m r (rowAt (mktRows m) r.ticket)
  else if r.kind = 2 then offer m r (rowAt (mktRows m) r.ticket) (dealAt m.deals r.ticket)
  else if r.kind = 3 then dropIt m r (rowAt (mktRows m) r.ticket) (dealAt m.deals r.ticket)
  else if r.kind = 4 then fund m r (dealAt m.deals r.ticket)
  else if r.kind = 5 then settle m r (dealAt m.deals r.ticket)
  else enter m r (rowAt (mktRows m) r.ticket) (dealAt m.deals r.ticket)
def lastOf (l : List Int) (user : Int) : Int := l.getD (user - 1).toNat 0
def noted (m : Mkt) (r : Req) (a : Int) : Mkt := { m with nums := m.nums.set (r.user - 1).toNat r.n, said := m.said.set (r.user - 1).toNat a }
/-- A request that is ok, of a market that is. -/
def doIt (m : Mkt) (r : Req) : Mkt × Int :=
  if r.n = lastOf m.nums r.user then (m, lastOf m.said r.user)
  else if r.n < lastOf m.nums r.user then (m, 7)
  else (noted (effect m r).1 r (effect m r).2, (effect m r).2)
def mktDo (m : Mkt) (r : Req) : Mkt × Int := if mktOk m && reqOk r then doIt m r else (mktZ, 0)
/-- What is held longer than may be goes back: purses and deals. -/
def backDeal (clock : Int) (d : Deal) : Deal := if held d && decide (d.due < clock) then { d with buyer := 0, due := 0 } else d
def backPurse (clock : Int) (p : List Int) (d : Deal) : List Int := if held d && decide (d.due < clock) then monTurn p d.buyer d.price else p
def tick (m : Mkt) : Mkt := { m with clock := m.clock + 1, purses := m.deals.foldl (backPurse (m.clock + 1)) m.purses, deals := m.deals.map (backDeal (m.clock + 1)) }
def mktTick (m : Mkt) : Mkt × Bool := if mktOk m then (if m.clock = 99999 then (m, false) else (tick m, true)) else (mktZ, false)
def mktOffers (m : Mkt) : List Int := (m.deals.filter fun d => !held d).map (·.ticket)
def mktFor (m : Mkt) (who : Int) : List Int := (m.deals.filter fun d => held d && decide (d.buyer = who)).map (·.ticket)

/-! ### watching -/
def watFrom : Int → List Head → Bool
  | _, [] => true
  | p, h :: hs => hedOk h && decide (p < h.size) && watFrom h.size hs
def watOk (l : List Head) : Bool := decide (l.length ≤ 12) && watFrom (-1) l
def insertHead (h : Head) : List Head → List Head
  | [] => [h]
  | x :: xs => if h.size < x.size then h :: x :: xs else x :: insertHead h xs
def watSee (l : List Head) (h : Head) : List Head × Head × Bool :=
  if watOk l && hedOk h then
    match l.find? (fun x => decide (x.size = h.size)) with
    | some x => (l, x, hedFork x h)
    | none => if l.length = 12 then (l, headZ, false) else (insertHead h l, headZ, false)
  else (l, headZ, false)
def forkIn (a : Head) (l : List Head) : Option (Head × Head) := (l.find? (fun b => hedFork a b)).map fun b => (a, b)
def watMeet (a b : List Head) : Option (Head × Head) := if watOk a && watOk b then a.findSome? (fun x => forkIn x b) else none
def watAll (l : List Head) (log : List Ent) : Bool := watOk l && l.all (fun h => decide (hedAt log h.size = some h))

/-! ### the world -/
structure Msg where
  gate : Int
  head : Head
  proof : List Int
  deriving DecidableEq
structure World where
  first : List Int
  market : Mkt
  lines : List Req
  gates : List Gate
  bag : List Msg
  deriving DecidableEq
structure Ev where
  kind : Int
  req : Req
  at_ : Int
  ticket : Int
  who : Int
  deriving DecidableEq
def worldZ : World := ⟨[], mktZ, [], [], []⟩
def gatNew : Gate := ⟨(hedOf []).getD headZ, []⟩
def wldNew (p : List Int) : World := if monOk p && decide (monSum p ≤ 100000) then ⟨p, mktNew p, [], [gatNew, gatNew], []⟩ else worldZ
def lineOk (r : Req) : Bool := decide (r = reqZ) || reqOk r
def msgOk (x : Msg) : Bool := inR x.gate 0 1 && hedOk x.head && treOk x.proof
def wldOk (w : World) : Bool :=
  mktOk w.market && monOk w.first && decide (w.lines.length ≤ 300) && decide (w.gates.length = 2) && decide (w.bag.length ≤ 6) &&
    w.lines.all lineOk && w.gates.all gatOk && w.bag.all msgOk
def foldLines : Mkt → List Req → Option Mkt
  | m, [] => some m
  | m, r :: rs =>
    if r = reqZ then (if m.clock = 99999 then none else foldLines (tick m) rs)
    else if reqOk r then foldLines (doIt m r).1 rs else none
def wldFold (first : List Int) (lines : List Req) : Option Mkt :=
  if monOk first && decide (monSum first ≤ 100000) && decide (lines.length ≤ 300) then foldLines (mktNew first) lines else none
def ask (w : World) (r : Req) : World × Int :=
  if reqOk r && decide (w.lines.length < 300) then ({ w with market := (doIt w.market r).1, lines := w.lines ++ [r] }, (doIt w.market r).2) else (w, 0)
def tickW (w : World) : World :=
  if decide (w.market.clock ≠ 99999) && decide (w.lines.length < 300) then { w with market := tick w.market, lines := w.lines ++ [reqZ] } else w
def fall (w : World) : World := { w with market := (wldFold w.first w.lines).getD w.market, bag := [] }
def gateAt (w : World) (k : Int) : Gate := w.gates.getD k.toNat gateZ
def send (w : World) (k : Int) : World :=
  if inR k 0 1 && decide (w.bag.length < 6) then { w with bag := w.bag ++ [⟨k, (hedOf w.market.log).getD headZ, hedProof w.market.log (gateAt w k).head.size⟩] } else w
def msgZ : Msg := ⟨0, headZ, []⟩
def msgAt (w : World) (i : Int) : Msg := w.bag.getD i.toNat msgZ
def lose (w : World) (i : Int) : World := { w with bag := w.bag.eraseIdx i.toNat }
def heard (w : World) (x : Msg) : World := { w with gates := w.gates.set x.gate.toNat (gatSync (gateAt w x.gate) x.head x.proof).1 }
def hear (w : World) (i : Int) : World := heard (lose w i) (msgAt w i)
def twice (w : World) (i : Int) : World := if w.bag.length < 6 then { w with bag := w.bag ++ [msgAt w i] } else w
def showIt (w : World) (k t who : Int) : World × Int :=
  if inR k 0 1 && inR t 0 7 && decide ((gateAt w k).head.size ≤ w.market.log.length) then
    match ownFold (w.market.log.take (gateAt w k).head.size.toNat) with
    | none => (w, 0)
    | some rows =>
      if (gatShow (gateAt w k) t who (rowAt rows t) (ownProof rows t)).2 then
        ({ w with gates := w.gates.set k.toNat (gatShow (gateAt w k) t who (rowAt rows t) (ownProof rows t)).1 }, 1)
      else (w, 3)
  else (w, 0)
def tellOne (w : World) (t : Int) : World :=
  if decide (0 < (rowAt (mktRows w.market) t).who) && !(rowAt (mktRows w.market) t).used && decide (lastOf w.market.nums (rowAt (mktRows w.market) t).who < 99999) then
    (ask w ⟨(rowAt (mktRows w.market) t).who, lastOf w.market.nums (rowAt (mktRows w.market) t).who + 1, 6, t, 0, 0⟩).1
  else w
def tell (w : World) (k : Int) : World := if inR k 0 1 then (gateAt w k).done.foldl tellOne w else w
/-- One event, of a world that is ok. -/
def step (w : World) (e : Ev) : World × Int :=
  if e.kind = 1 then ask w e.req
  else if e.kind = 2 then (tickW w, 0)
  else if e.kind = 3 then (fall w, 0)
  else if e.kind = 4 then (send w e.at_, 0)
  else if e.kind = 5 then (if inR e.at_ 0 (w.bag.length - 1) then hear w e.at_ else w, 0)
  else if e.kind = 6 then (if inR e.at_ 0 (w.bag.length - 1) then lose w e.at_ else w, 0)
  else if e.kind = 7 then (if inR e.at_ 0 (w.bag.length - 1) then twice w e.at_ else w, 0)
  else if e.kind = 8 then showIt w e.at_ e.ticket e.who
  else if e.kind = 9 then (tell w e.at_, 0)
  else (w, 0)
def wldStep (w : World) (e : Ev) : World × Int := if wldOk w then step w e else (worldZ, 0)
def runFrom (w : World) (es : List Ev) : World := es.foldl (fun w e => (step w e).1) w
def wldRun (w : World) (es : List Ev) : World := if wldOk w && decide (es.length ≤ 300) then runFrom w es else worldZ
def wldMoney (w : World) : Int := wrap64 (monSum w.market.purses + mktHeld w.market)
end Go.Proofs.Ytdbnbembjebfhaa.Sw

namespace Go.Proofs.Ytdbnbembjebfhaa.Sw
set_option maxRecDepth 100000
set_option linter.unusedSimpArgs false
set_option linter.unusedVariables false
open Go.RowKit (wrap64)

theorem inR_iff {n a b : Int} : inR n a b = true ↔ a ≤ n ∧ n ≤ b := by simp [inR]
theorem inR_no {n a b : Int} : inR n a b = false ↔ n < a ∨ b < n := by simp [inR]; omega

/-! ### rows -/
theorem rowAt_ok {rows : List Row} (h : ownOk rows = true) (t : Int) : rowOk (rowAt rows t) = true := by
  simp only [ownOk, Bool.and_eq_true] at h
  unfold rowAt
  rw [List.getD_eq_getElem?_getD]
  cases he : rows[t.toNat]? with
  | none => rfl
  | some r => exact List.all_eq_true.1 h.1 r (List.mem_of_getElem? he)
theorem ownOk_len {rows : List Row} (h : ownOk rows = true) : rows.length = 8 := by
  simp only [ownOk, Bool.and_eq_true, decide_eq_true_eq] at h; exact h.2
theorem entOk_iff {e : Ent} : entOk e = true ↔ (0 ≤ e.ticket ∧ e.ticket ≤ 7) ∧ (1 ≤ e.who ∧ e.who ≤ 5) ∧ ((e.kind = 1 ∧ 1 ≤ e.price ∧ e.price ≤ 50) ∨ (e.kind = 2 ∧ 1 ≤ e.price ∧ e.price ≤ 60) ∨ (e.kind = 3 ∧ e.price = 0)) := by
  unfold entOk
  rw [Bool.and_eq_true, Bool.and_eq_true, inR_iff, inR_iff, and_assoc]
  refine and_congr_right fun _ => and_congr_right fun _ => ?_
  split
  · rw [inR_iff]; omega
  · split
    · rw [inR_iff]; omega
    · simp only [Bool.and_eq_true, decide_eq_true_eq]; omega
theorem rowOk_iff {r : Row} : rowOk r = true ↔ (r.who = 0 ∧ r.face = 0 ∧ r.used = false) ∨ ((1 ≤ r.who ∧ r.who ≤ 5) ∧ 1 ≤ r.face ∧ r.face ≤ 50) := by
  unfold rowOk
  rw [Bool.or_eq_true, Bool.and_eq_true, Bool.and_eq_true, Bool.and_eq_true, inR_iff, inR_iff]
  simp [and_assoc]
theorem fitsRow_iff {r : Row} {e : Ent} (hk : e.kind = 1 ∨ e.kind = 2 ∨ e.kind = 3) : fitsRow r e = true ↔
    (e.kind = 1 ∧ r.who = 0) ∨ (e.kind = 2 ∧ r.who ≠ 0 ∧ r.who ≠ e.who ∧ r.used = false ∧ e.price ≤ entCap r.face) ∨ (e.kind = 3 ∧ r.who = e.who ∧ r.used = false) := by
  unfold fitsRow
  rcases hk with h | h | h <;> simp [h, and_assoc]
theorem ownFits_iff {rows : List Row} {e : Ent} : ownFits rows e = true ↔ ownOk rows = true ∧ entOk e = true ∧ fitsRow (rowAt rows e.ticket) e = true := by
  simp [ownFits, and_assoc]
theorem putRow_ok {r : Row} {e : Ent} (hr : rowOk r = true) (he : entOk e = true) (hf : fitsRow r e = true) : rowOk (putRow r e) = true := by
  have he' := entOk_iff.1 he
  have hk : e.kind = 1 ∨ e.kind = 2 ∨ e.kind = 3 := by omega
  rw [fitsRow_iff hk] at hf
  rw [rowOk_iff] at hr
  rw [rowOk_iff]
  unfold putRow
  rcases hk with h | h | h <;> simp only [h] at hf he' ⊢ <;> simp <;> omega
theorem putRows_ok {rows : List Row} {e : Ent} (h : ownFits rows e = true) : ownOk (putRows rows e) = true := by
  rw [ownFits_iff] at h
  obtain ⟨h1, h2, h3⟩ := h
  have hr := putRow_ok (rowAt_ok h1 e.ticket) h2 h3
  have h8 := ownOk_len h1
  simp only [ownOk, Bool.and_eq_true, decide_eq_true_eq, putRows, List.length_set] at h1 ⊢
  refine ⟨?_, h8⟩
  rw [List.all_eq_true] at h1 ⊢
  intro x hx
  rcases List.mem_or_eq_of_mem_set hx with hx | rfl
  · exact h1.1 x hx
  · exact hr
theorem rows0_ok : ownOk rows0 = true := by decide
theorem foldFrom_ok : ∀ (es : List Ent) (rows r : List Row), foldFrom rows es = some r → ownOk rows = true → ownOk r = true
  | [], rows, r, h, h8 => by simp [foldFrom] at h; rw [← h]; exact h8
  | e :: es, rows, r, h, h8 => by
    rw [foldFrom] at h
    split at h
    · exact foldFrom_ok es _ r h (putRows_ok ‹_›)
    · cases h
theorem ownFold_some {es : List Ent} {rows : List Row} : ownFold es = some rows ↔ es.length ≤ 40 ∧ foldFrom rows0 es = some rows := by
  unfold ownFold
  split <;> simp [*]
theorem ownFold_ok {es : List Ent} {rows : List Row} (h : ownFold es = some rows) : ownOk rows = true := foldFrom_ok es _ _ (ownFold_some.1 h).2 rows0_ok
theorem foldFrom_append : ∀ (es fs : List Ent) (rows : List Row), foldFrom rows (es ++ fs) = (foldFrom rows es).bind fun r => foldFrom r fs
  | [], fs, rows => rfl
  | e :: es, fs, rows => by
    rw [List.cons_append, foldFrom, foldFrom]
    split
    · exact foldFrom_append es fs _
    · rfl
theorem ownFold_snoc {es : List Ent} {rows : List Row} {e : Ent} (h : ownFold es = some rows) (hl : es.length < 40) (hf : ownFits rows e = true) : ownFold (es ++ [e]) = some (putRows rows e) := by
  rw [ownFold_some] at h ⊢
  refine ⟨by simp; omega, ?_⟩
  rw [foldFrom_append, h.2]
  simp [foldFrom, hf]
theorem ownFold_take {es : List Ent} {rows : List Row} (h : ownFold es = some rows) (k : Nat) : ∃ r, ownFold (es.take k) = some r := by
  rw [ownFold_some] at h
  obtain ⟨h1, h2⟩ := h
  rw [← List.take_append_drop k es, foldFrom_append] at h2
  cases hh : foldFrom rows0 (es.take k) with
  | none => rw [hh] at h2; cases h2
  | some r => exact ⟨r, ownFold_some.2 ⟨by rw [List.length_take]; omega, hh⟩⟩
theorem rowAt_put {rows : List Row} {e : Ent} {t : Int} (h8 : rows.length = 8) (he : 0 ≤ e.ticket ∧ e.ticket ≤ 7) (ht : 0 ≤ t) : rowAt (putRows rows e) t = if t = e.ticket then putRow (rowAt rows e.ticket) e else rowAt rows t := by
  unfold rowAt putRows
  rw [List.getD_eq_getElem?_getD, List.getElem?_set]
  by_cases h : t = e.ticket
  · subst h
    rw [if_pos rfl, if_pos rfl, if_pos (by omega)]
    rfl
  · rw [if_neg (by omega), if_neg h, List.getD_eq_getElem?_getD]

/-! ### money -/
theorem wrap64_in {n : Int} (h : -9223372036854775808 ≤ n ∧ n ≤ 9223372036854775807) : wrap64 n = n := by unfold wrap64; omega
theorem monOk_iff {p : List Int} : monOk p = true ↔ p.length = 5 ∧ ∀ n ∈ p, 0 ≤ n ∧ n ≤ 100000 := by
  simp [monOk, List.all_eq_true, inR_iff]
theorem sum_bd : ∀ (p : List Int) (b : Int), 0 ≤ b → (∀ n ∈ p, 0 ≤ n ∧ n ≤ b) → 0 ≤ p.sum ∧ p.sum ≤ b * p.length
  | [], b, hb, h => by simp
  | x :: xs, b, hb, h => by
    have h1 := h x (List.mem_cons_self ..)
    have h2 := sum_bd xs b hb (fun n hn => h n (List.mem_cons_of_mem _ hn))
    have e : b * ((x :: xs).length : Int) = b * (xs.length : Int) + b := by rw [List.length_cons, Int.natCast_add, Int.mul_add]; simp
    rw [e, List.sum_cons]
    omega
theorem sumFrom_eq : ∀ (p : List Int) (s : Int), 0 ≤ s → s + 100000 * p.length ≤ 9223372036854775807 → (∀ n ∈ p, 0 ≤ n ∧ n ≤ 100000) → sumFrom s p = s + p.sum
  | [], s, _, _, _ => by simp [sumFrom]
  | x :: xs, s, h0, h1, h => by
    have hx := h x (List.mem_cons_self ..)
    have e : (100000 : Int) * ((x :: xs).length : Int) = 100000 * (xs.length : Int) + 100000 := by rw [List.length_cons, Int.natCast_add, Int.mul_add]; simp
    rw [e] at h1
    have := sumFrom_eq xs (s + x) (by omega) (by omega) (fun n hn => h n (List.mem_cons_of_mem _ hn))
    unfold sumFrom at this ⊢
    rw [List.foldl_cons, wrap64_in (by omega), this, List.sum_cons]
    omega
theorem monSum_eq {p : List Int} (h : monOk p = true) : monSum p = p.sum := by
  rw [monOk_iff] at h
  have := sumFrom_eq p 0 (by omega) (by rw [h.1]; decide) h.2
  rw [monSum, this]; omega
theorem monSum_bd {p : List Int} (h : monOk p = true) : 0 ≤ monSum p ∧ monSum p ≤ 500000 := by
  rw [monSum_eq h]
  rw [monOk_iff] at h
  have := sum_bd p 100000 (by omega) h.2
  rw [h.1] at this
  omega
theorem sum_set : ∀ (p : List Int) (k : Nat) (v : Int), k < p.length → (p.set k v).sum = p.sum - p.getD k 0 + v
  | [], k, v, h => by simp at h
  | x :: xs, 0, v, h => by simp; omega
  | x :: xs, k + 1, v, h => by
    have := sum_set xs k v (by simpa using h)
    simp only [List.set_cons_succ, List.sum_cons, this, List.getD_cons_succ]
    omega
theorem turnMay_iff {p : List Int} {who n : Int} : turnMay p who n = true ↔ monOk p = true ∧ (1 ≤ who ∧ who ≤ 5) ∧ (-100000 ≤ n ∧ n ≤ 100000) ∧ (0 ≤ purse p who + n ∧ purse p who + n ≤ 100000) := by
  simp [turnMay, inR_iff, and_assoc]
theorem turned_ok {p : List Int} {who n : Int} (h : turnMay p who n = true) : monOk (turned p who n) = true := by
  rw [turnMay_iff] at h
  obtain ⟨h1, h2, h3, h4⟩ := h
  rw [monOk_iff] at h1 ⊢
  refine ⟨by simp [turned, h1.1], fun x hx => ?_⟩
  rcases List.mem_or_eq_of_mem_set hx with hx | rfl
  · exact h1.2 x hx
  · exact h4
theorem turned_sum {p : List Int} {who n : Int} (h : turnMay p who n = true) : (turned p who n).sum = p.sum + n := by
  rw [turnMay_iff, monOk_iff] at h
  rw [turned, sum_set p _ _ (by omega)]
  unfold purse
  omega
theorem purse_turned {p : List Int} {who n u : Int} (h : turnMay p who n = true) (hu : 1 ≤ u) : purse (turned p who n) u = if u = who then purse p who + n else purse p u := by
  rw [turnMay_iff, monOk_iff] at h
  unfold turned purse
  rw [List.getD_eq_getElem?_getD, List.getElem?_set]
  by_cases hw : u = who
  · subst hw
    rw [if_pos rfl, if_pos rfl, if_pos (by omega)]
    rfl
  · rw [if_neg (by omega), if_neg hw, List.getD_eq_getElem?_getD]
theorem purse_bd {p : List Int} (h : monOk p = true) (who : Int) : 0 ≤ purse p who ∧ purse p who ≤ 100000 := by
  rw [monOk_iff] at h
  unfold purse
  rw [List.getD_eq_getElem?_getD]
  cases he : p[(who - 1).toNat]? with
  | none => simp
  | some x => exact h.2 x (List.mem_of_getElem? he)
/-- One purse is no more than all together. -/
theorem purse_le_sum {p : List Int} (h : monOk p = true) (who : Int) : purse p who ≤ p.sum := by
  rw [monOk_iff] at h
  have key : ∀ (l : List Int) (k : Nat), (∀ n ∈ l, 0 ≤ n) → l.getD k 0 ≤ l.sum := by
    intro l
    induction l with
    | nil => intro k _; simp
    | cons x xs ih =>
      intro k hl
      have h1 := hl x (List.mem_cons_self ..)
      have h2 : 0 ≤ xs.sum := by
        clear ih
        induction xs with
        | nil => simp
        | cons y ys ih2 =>
          have := hl y (by simp)
          have := ih2 (fun n hn => hl n (by
            rcases List.mem_cons.1 hn with rfl | hn
            · exact List.mem_cons_self ..
            · exact List.mem_cons_of_mem _ (List.mem_cons_of_mem _ hn)))
          rw [List.sum_cons]; omega
      cases k with
      | zero => simp only [List.getD_cons_zero, List.sum_cons]; omega
      | succ k =>
        have := ih k (fun n hn => hl n (List.mem_cons_of_mem _ hn))
        simp only [List.getD_cons_succ, List.sum_cons]; omega
  exact key p _ (fun n hn => (h.2 n hn).1)
theorem turnMay_in {p : List Int} {who n : Int} (h : monOk p = true) (hw : 1 ≤ who ∧ who ≤ 5) (hn : 0 ≤ n) (hs : p.sum + n ≤ 100000) : turnMay p who n = true := by
  rw [turnMay_iff]
  have h1 := purse_bd h who
  have h2 := purse_le_sum h who
  have h3 := sum_bd p 100000 (by omega) (monOk_iff.1 h).2
  exact ⟨h, hw, by omega, by omega⟩
theorem moveMay_iff {p : List Int} {a b n : Int} : moveMay p a b n = true ↔ (0 ≤ n ∧ n ≤ 100000) ∧ a ≠ b ∧ turnMay p a (-n) = true ∧ turnMay (turned p a (-n)) b n = true := by
  simp [moveMay, inR_iff, and_assoc]
end Go.Proofs.Ytdbnbembjebfhaa.Sw

