/-
  What the program computes, as plain functions on lists and numbers: one function for the program's and the reference's alike.
  Program-independent.
-/
import Derived.RowKit
namespace Go.Proofs.Ytncoiknpkebgoaa.Sw
set_option maxRecDepth 100000
set_option linter.unusedSimpArgs false
set_option linter.unusedVariables false
open Go.RowKit (wrap64)

/-! ### numbers -/
def inR (n lo hi : Int) : Bool := decide (lo ≤ n) && decide (n ≤ hi)
def mixOk (n : Int) : Bool := inR n 0 65520
def pair (a b : Int) : Int := (a * 8191 + b * 127 + a * b + 31) % 65521
def mixPair (a b : Int) : Int := if mixOk a && mixOk b then pair a b else 0
def leafStep (x n : Int) : Int := (x * 4099 + n % 65521 + 11) % 65521
def mixLeafFrom (x : Int) (l : List Int) : Int := l.foldl leafStep x
def mixLeaf (l : List Int) : Int := (mixLeafFrom 7 l * 31 + l.length) % 65521

/-! ### trees -/
def treOk (l : List Int) : Bool := decide (l.length ≤ 40) && l.all mixOk
def split (n : Nat) : Nat := 2 ^ Nat.log2 (n - 1)
def treSplit (n : Int) : Int := if inR n 2 40 then split n.toNat else 0
theorem split_lt {n : Nat} (h : 2 ≤ n) : split n < n := by
  unfold split
  have := Nat.log2_self_le (n := n - 1) (by omega)
  omega
theorem split_pos (n : Nat) : 0 < split n := by unfold split; exact Nat.two_pow_pos _
def root : List Int → Int
  | [] => 5
  | [x] => x
  | x :: y :: r =>
    pair (root ((x :: y :: r).take (split (r.length + 2)))) (root ((x :: y :: r).drop (split (r.length + 2))))
termination_by l => l.length
decreasing_by
  · have := split_lt (n := r.length + 2) (by omega); simp only [List.length_take, List.length_cons]; omega
  · have := split_pos (r.length + 2); simp only [List.length_drop, List.length_cons]; omega
def treRoot (l : List Int) : Int := if treOk l then root l else 0
/-- The proof of leaf i; n bounds the length. -/
def incl : Nat → List Int → Nat → List Int
  | 0, _, _ => []
  | n + 1, l, i =>
    if l.length ≤ 1 then []
    else if i < split l.length then incl n (l.take (split l.length)) i ++ [root (l.drop (split l.length))]
    else incl n (l.drop (split l.length)) (i - split l.length) ++ [root (l.take (split l.length))]
def inclusion (l : List Int) (i : Nat) : List Int := incl l.length l i
def treProof (l : List Int) (i : Int) : List Int := if treOk l && inR i 0 (l.length - 1) then inclusion l i.toNat else []
/-- What a leaf leads to; the proof from its end. -/
def upR : Nat → Nat → Int → List Int → Int × Bool
  | n, _, leaf, [] => if n ≤ 1 then (leaf, true) else (0, false)
  | n, i, leaf, last :: rest =>
    if n ≤ 1 then (leaf, false)
    else if i < split n then (pair (upR (split n) i leaf rest).1 last, (upR (split n) i leaf rest).2)
    else (pair last (upR (n - split n) (i - split n) leaf rest).1, (upR (n - split n) (i - split n) leaf rest).2)
def up (n i : Nat) (leaf : Int) (proof : List Int) : Int × Bool := upR n i leaf proof.reverse
def treUp (n i leaf : Int) (proof : List Int) : Option Int :=
  if inR n 1 40 && inR i 0 (n - 1) && mixOk leaf && treOk proof && (up n.toNat i.toNat leaf proof).2 then some (up n.toNat i.toNat leaf proof).1 else none
def treCheck (r n i leaf : Int) (proof : List Int) : Bool := treUp n i leaf proof == some r

/-! ### growth -/
def grow : Nat → List Int → Nat → Bool → List Int
  | 0, _, _, _ => []
  | n + 1, l, m, known =>
    if m = l.length then (if known then [] else [root l])
    else if m ≤ split l.length then grow n (l.take (split l.length)) m known ++ [root (l.drop (split l.length))]
    else grow n (l.drop (split l.length)) (m - split l.length) false ++ [root (l.take (split l.length))]
def growth (l : List Int) (m : Nat) (known : Bool) : List Int := grow l.length l m known
def conProof (l : List Int) (m : Int) : List Int := if treOk l && inR m 1 l.length then growth l m.toNat true else []
/-- The old root and the new one that a proof, from its end, leads to. -/
def grR : Nat → Nat → Int → List Int → Bool → Option (Int × Int)
  | m, n, old, [], known => if m = n ∧ known = true then some (old, old) else none
  | m, n, old, last :: rest, known =>
    if m = n then (if known = true then none else if rest = [] then some (last, last) else none)
    else if m ≤ split n then (grR m (split n) old rest known).map fun r => (r.1, pair r.2 last)
    else (grR (m - split n) (n - split n) old rest false).map fun r => (pair last r.1, pair last r.2)
def conCheck (m old n r : Int) (proof : List Int) : Bool :=
  inR n 1 40 && inR m 1 n && mixOk old && mixOk r && treOk proof && grR m.toNat n.toNat old proof.reverse true == some (old, r)

/-! ### entries and rows -/
structure Ent where
  kind : Int
  ticket : Int
  who : Int
  price : Int
  deriving DecidableEq
structure Row where
  who : Int
  face : Int
  used : Bool
  deriving DecidableEq
def rowZ : Row := ⟨0, 0, false⟩
def entCap (f : Int) : Int := if inR f 1 50 then f + f / 5 else 0
def entOk (e : Ent) : Bool :=
  inR e.ticket 0 7 && inR e.who 1 5 &&
    (if e.kind = 1 then inR e.price 1 50 else if e.kind = 2 then inR e.price 1 60 else decide (e.kind = 3) && decide (e.price = 0))
def entLeaf (e : Ent) : Int := mixLeaf [e.kind, e.ticket, e.who, e.price]
def rowOk (r : Row) : Bool := (decide (r.who = 0) && decide (r.face = 0) && !r.used) || (inR r.who 1 5 && inR r.face 1 50)
def ownOk (rows : List Row) : Bool := rows.all rowOk && decide (rows.length = 8)
def rowAt (rows : List Row) (t : Int) : Row := rows.getD t.toNat rowZ
def fitsRow (r : Row) (e : Ent) : Bool :=
  if e.kind = 1 then decide (r.who = 0)
  else if e.kind = 2 then decide (r.who ≠ 0) && decide (r.who ≠ e.who) && !r.used && decide (e.price ≤ entCap r.face)
  else decide (r.who = e.who) && !r.used
def ownFits (rows : List Row) (e : Ent) : Bool := ownOk rows && entOk e && fitsRow (rowAt rows e.ticket) e
def putRow (r : Row) (e : Ent) : Row :=
  if e.kind = 1 then ⟨e.who, e.price, r.used⟩ else if e.kind = 2 then ⟨e.who, r.face, r.used⟩ else ⟨r.who, r.face, true⟩
def putRows (rows : List Row) (e : Ent) : List Row := rows.set e.ticket.toNat (putRow (rowAt rows e.ticket) e)
def ownPut (rows : List Row) (e : Ent) : List Row := if ownFits rows e then putRows rows e else rows
def rows0 : List Row := List.replicate 8 rowZ
def foldFrom : List Row → List Ent → Option (List Row)
  | rows, [] => some rows
  | rows, e :: es => if ownFits rows e then foldFrom (putRows rows e) es else none
def ownFold (l : List Ent) : Option (List Row) := if l.length ≤ 40 then foldFrom rows0 l else none
def ownLeaf (t : Int) (r : Row) : Int := if inR t 0 7 then mixLeaf [1000 + t, r.who, r.face, if r.used then 1 else 0] else 0
def leavesFrom : Int → List Row → List Int
  | _, [] => []
  | t, r :: rs => ownLeaf t r :: leavesFrom (t + 1) rs
def ownLeaves (rows : List Row) : List Int := leavesFrom 0 rows
def ownRoot (rows : List Row) : Int := if ownOk rows then root (ownLeaves rows) else 0
def ownProof (rows : List Row) (t : Int) : List Int := if ownOk rows && inR t 0 7 then inclusion (ownLeaves rows) t.toNat else []
def ownCheck (r t : Int) (row : Row) (proof : List Int) : Bool := inR t 0 7 && treCheck r 8 t (ownLeaf t row) proof

/-! ### heads -/
structure Head where
  size : Int
  log : Int
  own : Int
  deriving DecidableEq
def headZ : Head := ⟨0, 0, 0⟩
def hedOk (h : Head) : Bool := inR h.size 0 40 && mixOk h.log && mixOk h.own
def hedOf (l : List Ent) : Option Head := (ownFold l).map fun rows => ⟨l.length, root (l.map entLeaf), ownRoot rows⟩
def hedFork (a b : Head) : Bool := hedOk a && hedOk b && decide (a.size = b.size) && decide (a ≠ b)
def hedFollows (old h : Head) (proof : List Int) : Bool :=
  hedOk old && hedOk h && decide (old.size ≤ h.size) && (decide (old.size ≠ h.size) || decide (old = h)) &&
    (if old.size = 0 then proof.isEmpty else conCheck old.size old.log h.size h.log proof)
def hedProof (l : List Ent) (size : Int) : List Int := if decide (l.length ≤ 40) then conProof (l.map entLeaf) size else []
def hedAt (l : List Ent) (size : Int) : Option Head := if inR size 0 l.length then hedOf (l.take size.toNat) else none

/-! ### gates -/
structure Gate where
  head : Head
  done : List Int
  deriving DecidableEq
def gateZ : Gate := ⟨headZ, []⟩
/-- Rising tickets behind a number. -/
def risesFrom : Int → List Int → Bool
  | _, [] => true
  | p, x :: xs => inR x 0 7 && decide (p < x) && risesFrom x xs
def gatOk (g : Gate) : Bool := hedOk g.head && risesFrom (-1) g.done
def gatSync (g : Gate) (h : Head) (proof : List Int) : Gate × Bool :=
  if gatOk g then (if hedFollows g.head h proof then (⟨h, g.done⟩, true) else (g, false)) else (gateZ, false)
def insert (x : Int) : List Int → List Int
  | [] => [x]
  | y :: ys => if x < y then x :: y :: ys else y :: insert x ys
def gatMay (g : Gate) (t who : Int) (r : Row) (proof : List Int) : Bool :=
  inR who 1 5 && decide (who = r.who) && !r.used && !g.done.contains t && ownCheck g.head.own t r proof
def gatShow (g : Gate) (t who : Int) (r : Row) (proof : List Int) : Gate × Bool :=
  if gatOk g then (if gatMay g t who r proof then (⟨g.head, insert t g.done⟩, true) else (g, false)) else (gateZ, false)

end Go.Proofs.Ytncoiknpkebgoaa.Sw
