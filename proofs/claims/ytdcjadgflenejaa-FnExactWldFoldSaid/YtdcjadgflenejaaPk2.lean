/-
  Texts joined: Model, Typed, Leaf, Small.
-/
import Derived.RowKit
import Derived.Test.YtdcjadgflenejaaPk1
import Derived.Test.YtdcjadgflenejaaProg
namespace Go.Proofs.Ytdcjadgflenejaa.Sw
set_option maxRecDepth 100000
set_option linter.unusedSimpArgs false
set_option linter.unusedVariables false
open Go.RowKit (wrap64)

/-! ### numbers -/
def inR (n lo hi : Int) : Bool := decide (lo ≤ n) && decide (n ≤ hi)
def mixOk (n : Int) : Bool := inR n 0 65520
def pair (a b : Int) : Int := (a * 8191 + b * 127 + a * b + 31) % 65521
def mixPair (a b : Int) : Int := if mixOk a && mixOk b then pair a b else 0
def leafStep (x n : Int) : Int := (x * 4099 + n % 65521 + 11) % 65521
def mixLeafFrom (x : Int) (l : List Int) : Int := l.foldl leafStep x
def mixLeaf (l : List Int) : Int := (mixLeafFrom 7 l * 31 + l.length) % 65521

/-! ### trees -/
def treOk (l : List Int) : Bool := decide (l.length ≤ 40) && l.all mixOk
def split (n : Nat) : Nat := 2 ^ Nat.log2 (n - 1)
def treSplit (n : Int) : Int := if inR n 2 40 then split n.toNat else 0
theorem split_lt {n : Nat} (h : 2 ≤ n) : split n < n := by
  unfold split
  have := Nat.log2_self_le (n := n - 1) (by omega)
  omega
theorem split_pos (n : Nat) : 0 < split n := by unfold split; exact Nat.two_pow_pos _
def root : List Int → Int
  | [] => 5
  | [x] => x
  | x :: y :: r =>
    pair (root ((x :: y :: r).take (split (r.length + 2)))) (root ((x :: y :: r).drop (split (r.length + 2))))
termination_by l => l.length
decreasing_by
  · have := split_lt (n := r.length + 2) (by omega); simp only [List.length_take, List.length_cons]; omega
  · have := split_pos (r.length + 2); simp only [List.length_drop, List.length_cons]; omega
def treRoot (l : List Int) : Int := if treOk l then root l else 0
/-- The proof of leaf i; n bounds the length. -/
def incl : Nat → List Int → Nat → List Int
  | 0, _, _ => []
  | n + 1, l, i =>
    if l.length ≤ 1 then []
    else if i < split l.length then incl n (l.take (split l.length)) i ++ [root (l.drop (split l.length))]
    else incl n (l.drop (split l.length)) (i - split l.length) ++ [root (l.take (split l.length))]
def inclusion (l : List Int) (i : Nat) : List Int := incl l.length l i
def treProof (l : List Int) (i : Int) : List Int := if treOk l && inR i 0 (l.length - 1) then inclusion l i.toNat else []
/-- What a leaf leads to; the proof from its end. -/
def upR : Nat → Nat → Int → List Int → Int × Bool
  | n, _, leaf, [] => if n ≤ 1 then (leaf, true) else (0, false)
  | n, i, leaf, last :: rest =>
    if n ≤ 1 then (leaf, false)
    else if i < split n then (pair (upR (split n) i leaf rest).1 last, (upR (split n) i leaf rest).2)
    else (pair last (upR (n - split n) (i - split n) leaf rest).1, (upR (n - split n) (i - split n) leaf rest).2)
def up (n i : Nat) (leaf : Int) (proof : List Int) : Int × Bool := upR n i leaf proof.reverse
def treUp (n i leaf : Int) (proof : List Int) : Option Int :=
  if inR n 1 40 && inR i 0 (n - 1) && mixOk leaf && treOk proof && (up n.toNat i.toNat leaf proof).2 then some (up n.toNat i.toNat leaf proof).1 else none
def treCheck (r n i leaf : Int) (proof : List Int) : Bool := treUp n i leaf proof == some r

/-! ### growth -/
def grow : Nat → List Int → Nat → Bool → List Int
  | 0, _, _, _ => []
  | n + 1, l, m, known =>
    if m = l.length then (if known then [] else [root l])
    else if m ≤ split l.length then grow n (l.take (split l.length)) m known ++ [root (l.drop (split l.length))]
    else grow n (l.drop (split l.length)) (m - split l.length) false ++ [root (l.take (split l.length))]
def growth (l : List Int) (m : Nat) (known : Bool) : List Int := grow l.length l m known
def conProof (l : List Int) (m : Int) : List Int := if treOk l && inR m 1 l.length then growth l m.toNat true else []
/-- The old root and the new one that a proof, from its end, leads to. -/
def grR : Nat → Nat → Int → List Int → Bool → Option (Int × Int)
  | m, n, old, [], known => if m = n ∧ known = true then some (old, old) else none
  | m, n, old, last :: rest, known =>
    if m = n then (if known = true then none else if rest = [] then some (last, last) else none)
    else if m ≤ split n then (grR m (split n) old rest known).map fun r => (r.1, pair r.2 last)
    else (grR (m - split n) (n - split n) old rest false).map fun r => (pair last r.1, pair last r.2)
def conCheck (m old n r : Int) (proof : List Int) : Bool :=
  inR n 1 40 && inR m 1 n && mixOk old && mixOk r && treOk proof && grR m.toNat n.toNat old proof.reverse true == some (old, r)

/-! ### entries and rows -/
structure Ent where
  kind : Int
  ticket : Int
  who : Int
  price : Int
  deriving DecidableEq
structure Row where
  who : Int
  face : Int
  used : Bool
  deriving DecidableEq
def rowZ : Row := ⟨0, 0, false⟩
def entCap (f : Int) : Int := if inR f 1 50 then f + f / 5 else 0
def entOk (e : Ent) : Bool :=
  inR e.ticket 0 7 && inR e.who 1 5 &&
    (if e.kind = 1 then inR e.price 1 50 else if e.kind = 2 then inR e.price 1 60 else decide (e.kind = 3) && decide (e.price = 0))
def entLeaf (e : Ent) : Int := mixLeaf [e.kind, e.ticket, e.who, e.price]
def rowOk (r : Row) : Bool := (decide (r.who = 0) && decide (r.face = 0) && !r.used) || (inR r.who 1 5 && inR r.face 1 50)
def ownOk (rows : List Row) : Bool := rows.all rowOk && decide (rows.length = 8)
def rowAt (rows : List Row) (t : Int) : Row := rows.getD t.toNat rowZ
def fitsRow (r : Row) (e : Ent) : Bool :=
  if e.kind = 1 then decide (r.who = 0)
  else if e.kind = 2 then decide (r.who ≠ 0) && decide (r.who ≠ e.who) && !r.used && decide (e.price ≤ entCap r.face)
  else decide (r.who = e.who) && !r.used
def ownFits (rows : List Row) (e : Ent) : Bool := ownOk rows && entOk e && fitsRow (rowAt rows e.ticket) e
def putRow (r : Row) (e : Ent) : Row :=
  if e.kind = 1 then ⟨e.who, e.price, r.used⟩ else if e.kind = 2 then ⟨e.who, r.face, r.used⟩ else ⟨r.who, r.face, true⟩
def putRows (rows : List Row) (e : Ent) : List Row := rows.set e.ticket.toNat (putRow (rowAt rows e.ticket) e)
def ownPut (rows : List Row) (e : Ent) : List Row := if ownFits rows e then putRows rows e else rows
def rows0 : List Row := List.replicate 8 rowZ
def foldFrom : List Row → List Ent → Option (List Row)
  | rows, [] => some rows
  | rows, e :: es => if ownFits rows e then foldFrom (putRows rows e) es else none
def ownFold (l : List Ent) : Option (List Row) := if l.length ≤ 40 then foldFrom rows0 l else none
def ownLeaf (t : Int) (r : Row) : Int := if inR t 0 7 then mixLeaf [1000 + t, r.who, r.face, if r.used then 1 else 0] else 0
def leavesFrom : Int → List Row → List Int
  | _, [] => []
  | t, r :: rs => ownLeaf t r :: leavesFrom (t + 1) rs
def ownLeaves (rows : List Row) : List Int := leavesFrom 0 rows
def ownRoot (rows : List Row) : Int := if ownOk rows then root (ownLeaves rows) else 0
def ownProof (rows : List Row) (t : Int) : List Int := if ownOk rows && inR t 0 7 then inclusion (ownLeaves rows) t.toNat else []
def ownCheck (r t : Int) (row : Row) (proof : List Int) : Bool := inR t 0 7 && treCheck r 8 t (ownLeaf t row) proof

/-! ### heads -/
structure Head where
  size : Int
  log : Int
  own : Int
  deriving DecidableEq
def headZ : Head := ⟨0, 0, 0⟩
def hedOk (h : Head) : Bool := inR h.size 0 40 && mixOk h.log && mixOk h.own
def hedOf (l : List Ent) : Option Head := (ownFold l).map fun rows => ⟨l.length, root (l.map entLeaf), ownRoot rows⟩
def hedFork (a b : Head) : Bool := hedOk a && hedOk b && decide (a.size = b.size) && decide (a ≠ b)
def hedFollows (old h : Head) (proof : List Int) : Bool :=
  hedOk old && hedOk h && decide (old.size ≤ h.size) && (decide (old.size ≠ h.size) || decide (old = h)) &&
    (if old.size = 0 then proof.isEmpty else conCheck old.size old.log h.size h.log proof)
def hedProof (l : List Ent) (size : Int) : List Int := if decide (l.length ≤ 40) then conProof (l.map entLeaf) size else []
def hedAt (l : List Ent) (size : Int) : Option Head := if inR size 0 l.length then hedOf (l.take size.toNat) else none

/-! ### gates -/
structure Gate where
  head : Head
  done : List Int
  deriving DecidableEq
def gateZ : Gate := ⟨headZ, []⟩
/-- Rising tickets behind a number. -/
def risesFrom : Int → List Int → Bool
  | _, [] => true
  | p, x :: xs => inR x 0 7 && decide (p < x) && risesFrom x xs
def gatOk (g : Gate) : Bool := hedOk g.head && risesFrom (-1) g.done
def gatSync (g : Gate) (h : Head) (proof : List Int) : Gate × Bool :=
  if gatOk g then (if hedFollows g.head h proof then (⟨h, g.done⟩, true) else (g, false)) else (gateZ, false)
def insert (x : Int) : List Int → List Int
  | [] => [x]
  | y :: ys => if x < y then x :: y :: ys else y :: insert x ys
def gatMay (g : Gate) (t who : Int) (r : Row) (proof : List Int) : Bool :=
  inR who 1 5 && decide (who = r.who) && !r.used && !g.done.contains t && ownCheck g.head.own t r proof
def gatShow (g : Gate) (t who : Int) (r : Row) (proof : List Int) : Gate × Bool :=
  if gatOk g then (if gatMay g t who r proof then (⟨g.head, insert t g.done⟩, true) else (g, false)) else (gateZ, false)

end Go.Proofs.Ytdcjadgflenejaa.Sw

namespace Go.Proofs.Ytdcjadgflenejaa
set_option maxRecDepth 100000
set_option linter.unusedSimpArgs false
set_option linter.unusedVariables false
open Go.RowKit Go

theorem Rd.at0 {w0 W : World} {lo c sz n : Nat} {A : Option Addr} {cs : List Value} (h : Rd w0 lo A c sz n cs) (hk : KF lo w0 W) : Rd W 0 A c sz n cs := (h.keep hk).less (Nat.zero_le _)

/-- A slice of elements of type α, an element's cells by enc. -/
def Rs {α : Type} (enc : α → List Value) (sz : Nat) (w : World) (lo : Nat) (A : Option Addr) (c n : Nat) (xs : List α) : Prop :=
  n = xs.length ∧ Rd w lo A c sz n (xs.flatMap enc)

section
variable {α : Type} {enc : α → List Value} {sz : Nat} {w w0 W : World} {lo lo' c n : Nat} {A : Option Addr} {xs : List α}
theorem Rs.at0 (h : Rs enc sz w0 lo A c n xs) (hk : KF lo w0 W) : Rs enc sz W 0 A c n xs := ⟨h.1, h.2.at0 hk⟩
theorem Rs.keep (h : Rs enc sz w0 lo A c n xs) (hk : KF lo w0 W) : Rs enc sz W lo A c n xs := ⟨h.1, h.2.keep hk⟩
theorem Rs.less (h : Rs enc sz w0 lo A c n xs) (hl : lo' ≤ lo) : Rs enc sz w0 lo' A c n xs := ⟨h.1, h.2.less hl⟩

theorem flat_get (hsz : ∀ x, (enc x).length = sz) : ∀ (xs : List α) (k j : Nat) (hk : k < xs.length), j < sz → (xs.flatMap enc)[k * sz + j]? = (enc xs[k])[j]? := by
  intro xs
  induction xs with
  | nil => intro k j h; simp at h
  | cons x xs ih =>
    intro k j h hj
    cases k with
    | zero =>
      simp only [List.flatMap_cons, Nat.zero_mul, Nat.zero_add, List.getElem_cons_zero]
      rw [List.getElem?_append_left (by rw [hsz]; exact hj)]
    | succ k =>
      simp only [List.flatMap_cons, List.getElem_cons_succ]
      rw [List.getElem?_append_right (by rw [hsz]; simp only [Nat.succ_mul]; omega)]
      rw [show (k + 1) * sz + j - (enc x).length = k * sz + j from by rw [hsz]; simp only [Nat.succ_mul]; omega]
      exact ih k j (by simpa using h) hj

/-- Element k: where it lies, and what its cells hold. -/
theorem Rs.at_ (h : Rs enc sz w lo A c n xs) (hsz : ∀ x, (enc x).length = sz) {k : Nat} (hk : k < n) :
    ∃ g off x, A = some ⟨g, off, none⟩ ∧ lo ≤ g ∧ g < w.heap.size ∧ xs.drop k = x :: xs.drop (k + 1) ∧ xs[k]? = some x ∧
      ∀ j u, j < sz → (enc x)[j]? = some u → w.cell? ⟨g, off + (k * sz + j), none⟩ = some u := by
  obtain ⟨rfl, h⟩ := h
  cases A with
  | none => have := h.nil rfl; have := h.le; omega
  | some a =>
    obtain ⟨h1, h2, h3, h4⟩ := h.cells a rfl (by omega)
    obtain ⟨g, off, spot⟩ := a
    dsimp only at h1 h2 h3 h4
    subst h1
    refine ⟨g, off, xs[k], rfl, h2, h3, List.drop_eq_getElem_cons hk, List.getElem?_eq_getElem hk, fun j u hj hu => h4 (k * sz + j) u ?_⟩
    rw [flat_get hsz xs k j hk hj]
    exact hu
end

/-- A slice that has just been written out. -/
theorem Rs.new {α : Type} {enc : α → List Value} {sz : Nat} {w : World} {cs : Array Value} {T : TypeId} {g n : Nat} (xs : List α) (hg : g = w.heap.size) (hcs : cs = (xs.flatMap enc).toArray) (hn : n = xs.length)
    (hsz : ∀ x, (enc x).length = sz) (hm : n ≤ 4194304) : Rs enc sz (w.alloc (.cells cs T)) 0 (some ⟨g, 0, none⟩) n n xs := by
  subst hg hcs hn
  refine ⟨rfl, ?_, Nat.le_refl _, (by unfold maxLen; omega), (fun h => by cases h), fun a ha _ => ?_⟩
  · clear hm
    induction xs with
    | nil => simp
    | cons x xs ih => simp only [List.flatMap_cons, List.length_append, hsz, ih, List.length_cons, Nat.succ_mul]; omega
  · obtain rfl := Option.some.inj ha
    refine ⟨rfl, Nat.zero_le _, by simp, fun j u hu => ?_⟩
    simpa using hu

def encI (x : Int) : List Value := [.int .i64 x]
def encB (x : Int) : List Value := [.int .u8 x]
def Sw.Ent.enc (e : Sw.Ent) : List Value := [.int .i64 e.kind, .int .i64 e.ticket, .int .i64 e.who, .int .i64 e.price]
def Sw.Row.enc (r : Sw.Row) : List Value := [.int .i64 r.who, .int .i64 r.face, .bool r.used]
def Sw.Head.enc (h : Sw.Head) : List Value := [.int .i64 h.size, .int .i64 h.log, .int .i64 h.own]
abbrev RI := Rs encI 1
abbrev RB := Rs encB 1
abbrev RE := Rs Sw.Ent.enc 4
abbrev RR := Rs Sw.Row.enc 3
abbrev RH := Rs Sw.Head.enc 3

section
variable {w : World} {lo c n k : Nat} {A : Option Addr}
theorem at_I {xs : List Int} (h : RI w lo A c n xs) (hk : k < n) :
    ∃ g off x, A = some ⟨g, off, none⟩ ∧ lo ≤ g ∧ g < w.heap.size ∧ xs.drop k = x :: xs.drop (k + 1) ∧ xs[k]? = some x ∧ w.cell? ⟨g, off + k, none⟩ = some (.int .i64 x) := by
  obtain ⟨g, off, x, h1, h2, h3, h4, h5, h6⟩ := Rs.at_ h (fun _ => rfl) hk
  exact ⟨g, off, x, h1, h2, h3, h4, h5, by simpa using h6 0 _ (by omega) rfl⟩
theorem at_B {xs : List Int} (h : RB w lo A c n xs) (hk : k < n) :
    ∃ g off x, A = some ⟨g, off, none⟩ ∧ lo ≤ g ∧ g < w.heap.size ∧ xs.drop k = x :: xs.drop (k + 1) ∧ xs[k]? = some x ∧ w.cell? ⟨g, off + k, none⟩ = some (.int .u8 x) := by
  obtain ⟨g, off, x, h1, h2, h3, h4, h5, h6⟩ := Rs.at_ h (fun _ => rfl) hk
  exact ⟨g, off, x, h1, h2, h3, h4, h5, by simpa using h6 0 _ (by omega) rfl⟩
theorem at_E {xs : List Sw.Ent} (h : RE w lo A c n xs) (hk : k < n) :
    ∃ g off x, A = some ⟨g, off, none⟩ ∧ lo ≤ g ∧ g < w.heap.size ∧ xs.drop k = x :: xs.drop (k + 1) ∧ xs[k]? = some x ∧
      w.cell? ⟨g, off + k * 4, none⟩ = some (.int .i64 x.kind) ∧ w.cell? ⟨g, off + k * 4 + 1, none⟩ = some (.int .i64 x.ticket) ∧
      w.cell? ⟨g, off + k * 4 + 2, none⟩ = some (.int .i64 x.who) ∧ w.cell? ⟨g, off + k * 4 + 3, none⟩ = some (.int .i64 x.price) := by
  obtain ⟨g, off, x, h1, h2, h3, h4, h5, h6⟩ := Rs.at_ h (fun _ => rfl) hk
  exact ⟨g, off, x, h1, h2, h3, h4, h5, by simpa using h6 0 _ (by omega) rfl, h6 1 _ (by omega) rfl, h6 2 _ (by omega) rfl, h6 3 _ (by omega) rfl⟩
theorem at_R {xs : List Sw.Row} (h : RR w lo A c n xs) (hk : k < n) :
    ∃ g off x, A = some ⟨g, off, none⟩ ∧ lo ≤ g ∧ g < w.heap.size ∧ xs.drop k = x :: xs.drop (k + 1) ∧ xs[k]? = some x ∧
      w.cell? ⟨g, off + k * 3, none⟩ = some (.int .i64 x.who) ∧ w.cell? ⟨g, off + k * 3 + 1, none⟩ = some (.int .i64 x.face) ∧
      w.cell? ⟨g, off + k * 3 + 2, none⟩ = some (.bool x.used) := by
  obtain ⟨g, off, x, h1, h2, h3, h4, h5, h6⟩ := Rs.at_ h (fun _ => rfl) hk
  exact ⟨g, off, x, h1, h2, h3, h4, h5, by simpa using h6 0 _ (by omega) rfl, h6 1 _ (by omega) rfl, h6 2 _ (by omega) rfl⟩
theorem at_H {xs : List Sw.Head} (h : RH w lo A c n xs) (hk : k < n) :
    ∃ g off x, A = some ⟨g, off, none⟩ ∧ lo ≤ g ∧ g < w.heap.size ∧ xs.drop k = x :: xs.drop (k + 1) ∧ xs[k]? = some x ∧
      w.cell? ⟨g, off + k * 3, none⟩ = some (.int .i64 x.size) ∧ w.cell? ⟨g, off + k * 3 + 1, none⟩ = some (.int .i64 x.log) ∧
      w.cell? ⟨g, off + k * 3 + 2, none⟩ = some (.int .i64 x.own) := by
  obtain ⟨g, off, x, h1, h2, h3, h4, h5, h6⟩ := Rs.at_ h (fun _ => rfl) hk
  exact ⟨g, off, x, h1, h2, h3, h4, h5, by simpa using h6 0 _ (by omega) rfl, h6 1 _ (by omega) rfl, h6 2 _ (by omega) rfl⟩
end

theorem head_ext {a b : Sw.Head} : a = b ↔ a.size = b.size ∧ a.log = b.log ∧ a.own = b.own := by
  cases a; cases b; simp
theorem b_ne {x : Bool} (h : ¬ x = true) : x = false := by simpa using h

theorem rises_len : ∀ (xs : List Int) (p : Int), Sw.risesFrom p xs = true → -1 ≤ p → p ≤ 7 → (xs.length : Int) ≤ 7 - p
  | [], p, h, hp, hq => by simp only [List.length_nil]; omega
  | x :: xs, p, h, hp, hq => by
    simp only [Sw.risesFrom, Bool.and_eq_true, decide_eq_true_eq, Sw.inR] at h
    have := rises_len xs x h.2 (by omega) (by omega)
    simp only [List.length_cons]
    omega

theorem gatOk_len {g : Sw.Gate} (h : Sw.gatOk g = true) : g.done.length ≤ 8 := by
  simp only [Sw.gatOk, Bool.and_eq_true] at h
  have := rises_len g.done (-1) h.2 (by omega) (by omega)
  omega

end Go.Proofs.Ytdcjadgflenejaa

namespace Go.Proofs.Ytdcjadgflenejaa
set_option maxRecDepth 100000
set_option linter.unusedSimpArgs false
set_option linter.unusedVariables false
open Go.RowKit Go

theorem beqI (a b : Int) : (a == b) = decide (a = b) := rfl
theorem ret_b {a b : Bool} (h : a = b) : Ending.returned (.bool a) = .returned (.bool b) := by rw [h]
theorem ret_i {k : IntKind} {a b : Int} (h : a = b) : Ending.returned (.int k a) = .returned (.int k b) := by rw [h]
theorem int_i {k : IntKind} {a b : Int} (h : a = b) : Value.int k a = .int k b := by rw [h]

set_option maxHeartbeats 400000
theorem in_c (n lo top : Int) (w : World) : Calls Try.prog 48 #[.int .i64 n, .int .i64 lo, .int .i64 top] w fun E w' => E = .returned (.bool (Sw.inR n lo top)) ∧ w = w' := by
  go_enter Try.func48, Try.ntmps48
  go_wp2
  all_goals (go_ret; refine ⟨ret_b (by simp [Sw.inR]; omega), rfl⟩)

theorem l1In_c (n lo top : Int) (w : World) : Calls Try.prog 39 #[.int .i64 n, .int .i64 lo, .int .i64 top] w fun E w' => E = .returned (.bool (Sw.inR n lo top)) ∧ w = w' := by
  go_enter Try.func39, Try.ntmps39
  go_wp2
  all_goals (go_ret; refine ⟨ret_b (by simp [Sw.inR]; omega), rfl⟩)

theorem isTicket_c (n : Int) (w : World) : Calls Try.prog 49 #[.int .i64 n] w fun E w' => E = .returned (.bool (Sw.inR n 0 7)) ∧ w = w' := by
  go_enter Try.func49, Try.ntmps49
  go_wp2_with (first | (go_at_call 48; refine (in_c _ _ _ _).mono ?_; rintro E w' ⟨rfl, rfl⟩))
  all_goals (go_ret; exact ⟨rfl, rfl⟩)

theorem mul_bd {a b : Int} (ha : 0 ≤ a ∧ a ≤ 65520) (hb : 0 ≤ b ∧ b ≤ 65520) : 0 ≤ a * b ∧ a * b ≤ 4292870400 :=
  ⟨Int.mul_nonneg ha.1 hb.1, Int.le_trans (Int.mul_le_mul ha.2 hb.2 hb.1 (by omega)) (by decide)⟩
theorem mixOk_bd {a : Int} : Sw.mixOk a = true ↔ 0 ≤ a ∧ a ≤ 65520 := by simp [Sw.mixOk, Sw.inR]

theorem sEntCap_c (f : Int) (w : World) : Calls Try.prog 57 #[.int .i64 f] w fun E w' => E = .returned (.int .i64 (Sw.entCap f)) ∧ w = w' := by
  by_cases h : Sw.inR f 1 50 = true
  · have h' : 1 ≤ f ∧ f ≤ 50 := by simpa [Sw.inR] using h
    obtain ⟨a, b⟩ := h'
    go_enter Try.func57, Try.ntmps57
    go_wp2_with (first | (go_at_call 39; refine (l1In_c _ _ _ _).mono ?_; rintro E w' ⟨rfl, rfl⟩))
    all_goals (go_ret; refine ⟨ret_i (by simp [Sw.entCap, h]), rfl⟩)
  · go_enter Try.func57, Try.ntmps57
    go_wp2_with (first | (go_at_call 39; refine (l1In_c _ _ _ _).mono ?_; rintro E w' ⟨rfl, rfl⟩))
    all_goals (go_ret; refine ⟨ret_i (by simp [Sw.entCap, h]), rfl⟩)

/-! ### a list of numbers mixed -/
theorem leafStep_bd (x n : Int) : 0 ≤ Sw.leafStep x n ∧ Sw.leafStep x n ≤ 65520 := by unfold Sw.leafStep; omega
theorem tmod_bd (y : Int) : -65520 ≤ y.tmod 65521 ∧ y.tmod 65521 ≤ 65520 := by
  rw [Int.tmod_eq_emod]; split <;> omega
theorem leafStep_eq (x y : Int) : (x * 4099 + y.tmod 65521 % 65521 + 11) % 65521 = Sw.leafStep x y := by
  unfold Sw.leafStep
  rw [Int.tmod_eq_emod]; split <;> omega

end Go.Proofs.Ytdcjadgflenejaa

namespace Go.Proofs.Ytdcjadgflenejaa
set_option maxRecDepth 100000
set_option linter.unusedSimpArgs false
set_option linter.unusedVariables false
open Go.RowKit Go
set_option maxHeartbeats 400000

theorem sEntOk_c (e : Sw.Ent) (w : World) : Calls Try.prog 93 #[.agg #[.int .i64 e.kind, .int .i64 e.ticket, .int .i64 e.who, .int .i64 e.price]] w fun E w' => E = .returned (.bool (Sw.entOk e)) ∧ Ex w w' := by
  go_enter Try.func93, Try.ntmps93
  go_wp2_with (first | (go_at_call 39; refine (l1In_c _ _ _ _).mono ?_; rintro E w' ⟨rfl, rfl⟩) | (go_at_call 57; refine (sEntCap_c _ _).mono ?_; rintro E w' ⟨rfl, rfl⟩))
  all_goals (try (refine wp_name ?_; intro W0 hb0; have hst := xr hb0; (try simp only [zA, zC, zD, zN] at hst); obtain ⟨hc0, hf0, hz0⟩ := hst; go_region_held3 (fun w' => Held W0 w') ((first | with_reducible assumption | with_reducible exact Held.start _ | with_reducible exact Held.of (by assumption) | with_reducible exact Held.ex (by assumption) (by assumption) | ((repeat (first | with_reducible refine Held.set ?_ (by simp only [zA, zC, zD, zN]; omega) | with_reducible refine Held.alloc ?_ _ | with_reducible refine Held.drew ?_)); (first | with_reducible assumption | with_reducible exact Held.refl _ | with_reducible exact Held.of (by assumption) | with_reducible exact Held.ex (by assumption) (by assumption))) | exact Held.of (by exact ext_))) ((first | (go_at_call 39; refine (l1In_c _ _ _ _).mono ?_; rintro E w' ⟨rfl, rfl⟩) | (go_at_call 57; refine (sEntCap_c _ _).mono ?_; rintro E w' ⟨rfl, rfl⟩))); all_goals (have hb := And.right (by assumption : Held W0 _); have hst := xr hb; (try simp only [zA, zC, zD, zN] at hst); obtain ⟨hc, hf, hz⟩ := hst)))
  go_wp2
  all_goals (go_ret; refine ⟨ret_b ?_, (by first | rfl | exact ext_)⟩; go_tidy; (try simp only [Bool.not_eq_true', Bool.not_eq_false', Bool.not_eq_true, Bool.not_eq_false, beq_iff_eq, bne_iff_ne, ne_eq, beq_eq_false_iff_ne, bne_eq_false_iff_eq] at *); (first | rfl | (simp [Sw.entOk, Sw.entCap, show Sw.inR 50 1 50 = true from by decide, *]; done) | (simp [Sw.entOk, Sw.entCap, show Sw.inR 50 1 50 = true from by decide, *]; omega) | (simp [Sw.entOk, Sw.entCap, show Sw.inR 50 1 50 = true from by decide, beqI, *]; done) | (simp_all [Sw.entOk, Sw.entCap, show Sw.inR 50 1 50 = true from by decide, beqI]; done) | (simp_all [Sw.entOk, Sw.entCap, show Sw.inR 50 1 50 = true from by decide, beqI] <;> omega) | simp_all [Sw.entOk, Sw.entCap, show Sw.inR 50 1 50 = true from by decide, beqI]))

end Go.Proofs.Ytdcjadgflenejaa

