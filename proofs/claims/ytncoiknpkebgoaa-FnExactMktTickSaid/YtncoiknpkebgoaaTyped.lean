/-
  Typed readings: slices of numbers, entries, rows and so on.
-/
import Derived.Test.YtncoiknpkebgoaaBase
import Derived.Test.YtncoiknpkebgoaaModel
namespace Go.Proofs.Ytncoiknpkebgoaa
set_option maxRecDepth 100000
set_option linter.unusedSimpArgs false
set_option linter.unusedVariables false
open Go.RowKit Go

theorem Rd.at0 {w0 W : World} {lo c sz n : Nat} {A : Option Addr} {cs : List Value} (h : Rd w0 lo A c sz n cs) (hk : KF lo w0 W) : Rd W 0 A c sz n cs := (h.keep hk).less (Nat.zero_le _)

/-- A slice of elements of type α, an element's cells by enc. -/
def Rs {α : Type} (enc : α → List Value) (sz : Nat) (w : World) (lo : Nat) (A : Option Addr) (c n : Nat) (xs : List α) : Prop :=
  n = xs.length ∧ Rd w lo A c sz n (xs.flatMap enc)

section
variable {α : Type} {enc : α → List Value} {sz : Nat} {w w0 W : World} {lo lo' c n : Nat} {A : Option Addr} {xs : List α}
theorem Rs.at0 (h : Rs enc sz w0 lo A c n xs) (hk : KF lo w0 W) : Rs enc sz W 0 A c n xs := ⟨h.1, h.2.at0 hk⟩
theorem Rs.keep (h : Rs enc sz w0 lo A c n xs) (hk : KF lo w0 W) : Rs enc sz W lo A c n xs := ⟨h.1, h.2.keep hk⟩
theorem Rs.less (h : Rs enc sz w0 lo A c n xs) (hl : lo' ≤ lo) : Rs enc sz w0 lo' A c n xs := ⟨h.1, h.2.less hl⟩

theorem flat_get (hsz : ∀ x, (enc x).length = sz) : ∀ (xs : List α) (k j : Nat) (hk : k < xs.length), j < sz → (xs.flatMap enc)[k * sz + j]? = (enc xs[k])[j]? := by
  intro xs
  induction xs with
  | nil => intro k j h; simp at h
  | cons x xs ih =>
    intro k j h hj
    cases k with
    | zero =>
      simp only [List.flatMap_cons, Nat.zero_mul, Nat.zero_add, List.getElem_cons_zero]
      rw [List.getElem?_append_left (by rw [hsz]; exact hj)]
    | succ k =>
      simp only [List.flatMap_cons, List.getElem_cons_succ]
      rw [List.getElem?_append_right (by rw [hsz]; simp only [Nat.succ_mul]; omega)]
      rw [show (k + 1) * sz + j - (enc x).length = k * sz + j from by rw [hsz]; simp only [Nat.succ_mul]; omega]
      exact ih k j (by simpa using h) hj

/-- Element k: where it lies, and what its cells hold. -/
theorem Rs.at_ (h : Rs enc sz w lo A c n xs) (hsz : ∀ x, (enc x).length = sz) {k : Nat} (hk : k < n) :
    ∃ g off x, A = some ⟨g, off, none⟩ ∧ lo ≤ g ∧ g < w.heap.size ∧ xs.drop k = x :: xs.drop (k + 1) ∧ xs[k]? = some x ∧
      ∀ j u, j < sz → (enc x)[j]? = some u → w.cell? ⟨g, off + (k * sz + j), none⟩ = some u := by
  obtain ⟨rfl, h⟩ := h
  cases A with
  | none => have := h.nil rfl; have := h.le; omega
  | some a =>
    obtain ⟨h1, h2, h3, h4⟩ := h.cells a rfl (by omega)
    obtain ⟨g, off, spot⟩ := a
    dsimp only at h1 h2 h3 h4
    subst h1
    refine ⟨g, off, xs[k], rfl, h2, h3, List.drop_eq_getElem_cons hk, List.getElem?_eq_getElem hk, fun j u hj hu => h4 (k * sz + j) u ?_⟩
    rw [flat_get hsz xs k j hk hj]
    exact hu
end

/-- A slice that has just been written out. -/
theorem Rs.new {α : Type} {enc : α → List Value} {sz : Nat} {w : World} {cs : Array Value} {T : TypeId} {g n : Nat} (xs : List α) (hg : g = w.heap.size) (hcs : cs = (xs.flatMap enc).toArray) (hn : n = xs.length)
    (hsz : ∀ x, (enc x).length = sz) (hm : n ≤ 4194304) : Rs enc sz (w.alloc (.cells cs T)) 0 (some ⟨g, 0, none⟩) n n xs := by
  subst hg hcs hn
  refine ⟨rfl, ?_, Nat.le_refl _, (by unfold maxLen; omega), (fun h => by cases h), fun a ha _ => ?_⟩
  · clear hm
    induction xs with
    | nil => simp
    | cons x xs ih => simp only [List.flatMap_cons, List.length_append, hsz, ih, List.length_cons, Nat.succ_mul]; omega
  · obtain rfl := Option.some.inj ha
    refine ⟨rfl, Nat.zero_le _, by simp, fun j u hu => ?_⟩
    simpa using hu

def encI (x : Int) : List Value := [.int .i64 x]
def encB (x : Int) : List Value := [.int .u8 x]
def Sw.Ent.enc (e : Sw.Ent) : List Value := [.int .i64 e.kind, .int .i64 e.ticket, .int .i64 e.who, .int .i64 e.price]
def Sw.Row.enc (r : Sw.Row) : List Value := [.int .i64 r.who, .int .i64 r.face, .bool r.used]
def Sw.Head.enc (h : Sw.Head) : List Value := [.int .i64 h.size, .int .i64 h.log, .int .i64 h.own]
abbrev RI := Rs encI 1
abbrev RB := Rs encB 1
abbrev RE := Rs Sw.Ent.enc 4
abbrev RR := Rs Sw.Row.enc 3
abbrev RH := Rs Sw.Head.enc 3

section
variable {w : World} {lo c n k : Nat} {A : Option Addr}
theorem at_I {xs : List Int} (h : RI w lo A c n xs) (hk : k < n) :
    ∃ g off x, A = some ⟨g, off, none⟩ ∧ lo ≤ g ∧ g < w.heap.size ∧ xs.drop k = x :: xs.drop (k + 1) ∧ xs[k]? = some x ∧ w.cell? ⟨g, off + k, none⟩ = some (.int .i64 x) := by
  obtain ⟨g, off, x, h1, h2, h3, h4, h5, h6⟩ := Rs.at_ h (fun _ => rfl) hk
  exact ⟨g, off, x, h1, h2, h3, h4, h5, by simpa using h6 0 _ (by omega) rfl⟩
theorem at_B {xs : List Int} (h : RB w lo A c n xs) (hk : k < n) :
    ∃ g off x, A = some ⟨g, off, none⟩ ∧ lo ≤ g ∧ g < w.heap.size ∧ xs.drop k = x :: xs.drop (k + 1) ∧ xs[k]? = some x ∧ w.cell? ⟨g, off + k, none⟩ = some (.int .u8 x) := by
  obtain ⟨g, off, x, h1, h2, h3, h4, h5, h6⟩ := Rs.at_ h (fun _ => rfl) hk
  exact ⟨g, off, x, h1, h2, h3, h4, h5, by simpa using h6 0 _ (by omega) rfl⟩
theorem at_E {xs : List Sw.Ent} (h : RE w lo A c n xs) (hk : k < n) :
    ∃ g off x, A = some ⟨g, off, none⟩ ∧ lo ≤ g ∧ g < w.heap.size ∧ xs.drop k = x :: xs.drop (k + 1) ∧ xs[k]? = some x ∧
      w.cell? ⟨g, off + k * 4, none⟩ = some (.int .i64 x.kind) ∧ w.cell? ⟨g, off + k * 4 + 1, none⟩ = some (.int .i64 x.ticket) ∧
      w.cell? ⟨g, off + k * 4 + 2, none⟩ = some (.int .i64 x.who) ∧ w.cell? ⟨g, off + k * 4 + 3, none⟩ = some (.int .i64 x.price) := by
  obtain ⟨g, off, x, h1, h2, h3, h4, h5, h6⟩ := Rs.at_ h (fun _ => rfl) hk
  exact ⟨g, off, x, h1, h2, h3, h4, h5, by simpa using h6 0 _ (by omega) rfl, h6 1 _ (by omega) rfl, h6 2 _ (by omega) rfl, h6 3 _ (by omega) rfl⟩
theorem at_R {xs : List Sw.Row} (h : RR w lo A c n xs) (hk : k < n) :
    ∃ g off x, A = some ⟨g, off, none⟩ ∧ lo ≤ g ∧ g < w.heap.size ∧ xs.drop k = x :: xs.drop (k + 1) ∧ xs[k]? = some x ∧
      w.cell? ⟨g, off + k * 3, none⟩ = some (.int .i64 x.who) ∧ w.cell? ⟨g, off + k * 3 + 1, none⟩ = some (.int .i64 x.face) ∧
      w.cell? ⟨g, off + k * 3 + 2, none⟩ = some (.bool x.used) := by
  obtain ⟨g, off, x, h1, h2, h3, h4, h5, h6⟩ := Rs.at_ h (fun _ => rfl) hk
  exact ⟨g, off, x, h1, h2, h3, h4, h5, by simpa using h6 0 _ (by omega) rfl, h6 1 _ (by omega) rfl, h6 2 _ (by omega) rfl⟩
theorem at_H {xs : List Sw.Head} (h : RH w lo A c n xs) (hk : k < n) :
    ∃ g off x, A = some ⟨g, off, none⟩ ∧ lo ≤ g ∧ g < w.heap.size ∧ xs.drop k = x :: xs.drop (k + 1) ∧ xs[k]? = some x ∧
      w.cell? ⟨g, off + k * 3, none⟩ = some (.int .i64 x.size) ∧ w.cell? ⟨g, off + k * 3 + 1, none⟩ = some (.int .i64 x.log) ∧
      w.cell? ⟨g, off + k * 3 + 2, none⟩ = some (.int .i64 x.own) := by
  obtain ⟨g, off, x, h1, h2, h3, h4, h5, h6⟩ := Rs.at_ h (fun _ => rfl) hk
  exact ⟨g, off, x, h1, h2, h3, h4, h5, by simpa using h6 0 _ (by omega) rfl, h6 1 _ (by omega) rfl, h6 2 _ (by omega) rfl⟩
end

theorem head_ext {a b : Sw.Head} : a = b ↔ a.size = b.size ∧ a.log = b.log ∧ a.own = b.own := by
  cases a; cases b; simp
theorem b_ne {x : Bool} (h : ¬ x = true) : x = false := by simpa using h

theorem rises_len : ∀ (xs : List Int) (p : Int), Sw.risesFrom p xs = true → -1 ≤ p → p ≤ 7 → (xs.length : Int) ≤ 7 - p
  | [], p, h, hp, hq => by simp only [List.length_nil]; omega
  | x :: xs, p, h, hp, hq => by
    simp only [Sw.risesFrom, Bool.and_eq_true, decide_eq_true_eq, Sw.inR] at h
    have := rises_len xs x h.2 (by omega) (by omega)
    simp only [List.length_cons]
    omega

theorem gatOk_len {g : Sw.Gate} (h : Sw.gatOk g = true) : g.done.length ≤ 8 := by
  simp only [Sw.gatOk, Bool.and_eq_true] at h
  have := rises_len g.done (-1) h.2 (by omega) (by omega)
  omega

end Go.Proofs.Ytncoiknpkebgoaa
