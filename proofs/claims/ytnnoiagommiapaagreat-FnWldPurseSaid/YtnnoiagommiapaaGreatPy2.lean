/- Texts joined: Model, Model2, Reg. -/
import Derived.RowKit
import Derived.Deep.RegionHeld3
set_option maxRecDepth 100000
set_option linter.unusedSimpArgs false
set_option linter.unusedVariables false
namespace Go.Proofs.YtnnoiagommiapaaGreat.Sw
open Go.RowKit (wrap64)
def inR (n lo hi : Int) : Bool := decide (lo ≤ n) && decide (n ≤ hi)
def mixOk (n : Int) : Bool := inR n 0 65520
def pair (a b : Int) : Int := (a * 8191 + b * 127 + a * b + 31) % 65521
def mixPair (a b : Int) : Int := if mixOk a && mixOk b then pair a b else 0
def leafStep (x n : Int) : Int := (x * 4099 + n % 65521 + 11) % 65521
def mixLeafFrom (x : Int) (l : List Int) : Int := l.foldl leafStep x
def mixLeaf (l : List Int) : Int := (mixLeafFrom 7 l * 31 + l.length) % 65521
def treOk (l : List Int) : Bool := decide (l.length ≤ 40) && l.all mixOk
def split (n : Nat) : Nat := 2 ^ Nat.log2 (n - 1)
def treSplit (n : Int) : Int := if inR n 2 40 then split n.toNat else 0
theorem split_lt {n : Nat} (h : 2 ≤ n) : split n < n := by
 unfold split
 have := Nat.log2_self_le (n := n - 1) (by omega)
 omega
theorem split_pos (n : Nat) : 0 < split n := by unfold split; exact Nat.two_pow_pos _
def root : List Int → Int
 | [] => 5
 | [x] => x
 | x :: y :: r =>
   pair (root ((x :: y :: r).take (split (r.length + 2)))) (root ((x :: y :: r).drop (split (r.length + 2))))
termination_by l => l.length
decreasing_by
 · have := split_lt (n := r.length + 2) (by omega); simp only [List.length_take, List.length_cons]; omega
 · have := split_pos (r.length + 2); simp only [List.length_drop, List.length_cons]; omega
def treRoot (l : List Int) : Int := if treOk l then root l else 0
def incl : Nat → List Int → Nat → List Int
 | 0, _, _ => []
 | n + 1, l, i =>
   if l.length ≤ 1 then []
   else if i < split l.length then incl n (l.take (split l.length)) i ++ [root (l.drop (split l.length))]
   else incl n (l.drop (split l.length)) (i - split l.length) ++ [root (l.take (split l.length))]
def inclusion (l : List Int) (i : Nat) : List Int := incl l.length l i
def treProof (l : List Int) (i : Int) : List Int := if treOk l && inR i 0 (l.length - 1) then inclusion l i.toNat else []
def upR : Nat → Nat → Int → List Int → Int × Bool
 | n, _, leaf, [] => if n ≤ 1 then (leaf, true) else (0, false)
 | n, i, leaf, last :: rest =>
   if n ≤ 1 then (leaf, false)
   else if i < split n then (pair (upR (split n) i leaf rest).1 last, (upR (split n) i leaf rest).2)
   else (pair last (upR (n - split n) (i - split n) leaf rest).1, (upR (n - split n) (i - split n) leaf rest).2)
def up (n i : Nat) (leaf : Int) (proof : List Int) : Int × Bool := upR n i leaf proof.reverse
def treUp (n i leaf : Int) (proof : List Int) : Option Int :=
 if inR n 1 40 && inR i 0 (n - 1) && mixOk leaf && treOk proof && (up n.toNat i.toNat leaf proof).2 then some (up n.toNat i.toNat leaf proof).1 else none
def treCheck (r n i leaf : Int) (proof : List Int) : Bool := treUp n i leaf proof == some r
def grow : Nat → List Int → Nat → Bool → List Int
 | 0, _, _, _ => []
 | n + 1, l, m, known =>
   if m = l.length then (if known then [] else [root l])
   else if m ≤ split l.length then grow n (l.take (split l.length)) m known ++ [root (l.drop (split l.length))]
   else grow n (l.drop (split l.length)) (m - split l.length) false ++ [root (l.take (split l.length))]
def growth (l : List Int) (m : Nat) (known : Bool) : List Int := grow l.length l m known
def conProof (l : List Int) (m : Int) : List Int := if treOk l && inR m 1 l.length then growth l m.toNat true else []
def grR : Nat → Nat → Int → List Int → Bool → Option (Int × Int)
 | m, n, old, [], known => if m = n ∧ known = true then some (old, old) else none
 | m, n, old, last :: rest, known =>
   if m = n then (if known = true then none else if rest = [] then some (last, last) else none)
   else if m ≤ split n then (grR m (split n) old rest known).map fun r => (r.1, pair r.2 last)
   else (grR (m - split n) (n - split n) old rest false).map fun r => (pair last r.1, pair last r.2)
def conCheck (m old n r : Int) (proof : List Int) : Bool :=
 inR n 1 40 && inR m 1 n && mixOk old && mixOk r && treOk proof && grR m.toNat n.toNat old proof.reverse true == some (old, r)
structure Ent where
 kind : Int
 ticket : Int
 who : Int
 price : Int
 deriving DecidableEq
structure Row where
 who : Int
 face : Int
 used : Bool
 deriving DecidableEq
def rowZ : Row := ⟨0, 0, false⟩
def entCap (f : Int) : Int := if inR f 1 50 then f + f / 5 else 0
def entOk (e : Ent) : Bool :=
 inR e.ticket 0 7 && inR e.who 1 5 &&
   (if e.kind = 1 then inR e.price 1 50 else if e.kind = 2 then inR e.price 1 60 else decide (e.kind = 3) && decide (e.price = 0))
def entLeaf (e : Ent) : Int := mixLeaf [e.kind, e.ticket, e.who, e.price]
def rowOk (r : Row) : Bool := (decide (r.who = 0) && decide (r.face = 0) && !r.used) || (inR r.who 1 5 && inR r.face 1 50)
def ownOk (rows : List Row) : Bool := rows.all rowOk && decide (rows.length = 8)
def rowAt (rows : List Row) (t : Int) : Row := rows.getD t.toNat rowZ
def fitsRow (r : Row) (e : Ent) : Bool :=
 if e.kind = 1 then decide (r.who = 0)
 else if e.kind = 2 then decide (r.who ≠ 0) && decide (r.who ≠ e.who) && !r.used && decide (e.price ≤ entCap r.face)
 else decide (r.who = e.who) && !r.used
def ownFits (rows : List Row) (e : Ent) : Bool := ownOk rows && entOk e && fitsRow (rowAt rows e.ticket) e
def putRow (r : Row) (e : Ent) : Row :=
 if e.kind = 1 then ⟨e.who, e.price, r.used⟩ else if e.kind = 2 then ⟨e.who, r.face, r.used⟩ else ⟨r.who, r.face, true⟩
def putRows (rows : List Row) (e : Ent) : List Row := rows.set e.ticket.toNat (putRow (rowAt rows e.ticket) e)
def ownPut (rows : List Row) (e : Ent) : List Row := if ownFits rows e then putRows rows e else rows
def rows0 : List Row := List.replicate 8 rowZ
def foldFrom : List Row → List Ent → Option (List Row)
 | rows, [] => some rows
 | rows, e :: es => if ownFits rows e then foldFrom (putRows rows e) es else none
def ownFold (l : List Ent) : Option (List Row) := if l.length ≤ 40 then foldFrom rows0 l else none
def ownLeaf (t : Int) (r : Row) : Int := if inR t 0 7 then mixLeaf [1000 + t, r.who, r.face, if r.used then 1 else 0] else 0
def leavesFrom : Int → List Row → List Int
 | _, [] => []
 | t, r :: rs => ownLeaf t r :: leavesFrom (t + 1) rs
def ownLeaves (rows : List Row) : List Int := leavesFrom 0 rows
def ownRoot (rows : List Row) : Int := if ownOk rows then root (ownLeaves rows) else 0
def ownProof (rows : List Row) (t : Int) : List Int := if ownOk rows && inR t 0 7 then inclusion (ownLeaves rows) t.toNat else []
def ownCheck (r t : Int) (row : Row) (proof : List Int) : Bool := inR t 0 7 && treCheck r 8 t (ownLeaf t row) proof
structure Head where
 size : Int
 log : Int
 own : Int
 deriving DecidableEq
def headZ : Head := ⟨0, 0, 0⟩
def hedOk (h : Head) : Bool := inR h.size 0 40 && mixOk h.log && mixOk h.own
def hedOf (l : List Ent) : Option Head := (ownFold l).map fun rows => ⟨l.length, root (l.map entLeaf), ownRoot rows⟩
def hedFork (a b : Head) : Bool := hedOk a && hedOk b && decide (a.size = b.size) && decide (a ≠ b)
def hedFollows (old h : Head) (proof : List Int) : Bool :=
 hedOk old && hedOk h && decide (old.size ≤ h.size) && (decide (old.size ≠ h.size) || decide (old = h)) &&
   (if old.size = 0 then proof.isEmpty else conCheck old.size old.log h.size h.log proof)
def hedProof (l : List Ent) (size : Int) : List Int := if decide (l.length ≤ 40) then conProof (l.map entLeaf) size else []
def hedAt (l : List Ent) (size : Int) : Option Head := if inR size 0 l.length then hedOf (l.take size.toNat) else none
structure Gate where
 head : Head
 done : List Int
 deriving DecidableEq
def gateZ : Gate := ⟨headZ, []⟩
def risesFrom : Int → List Int → Bool
 | _, [] => true
 | p, x :: xs => inR x 0 7 && decide (p < x) && risesFrom x xs
def gatOk (g : Gate) : Bool := hedOk g.head && risesFrom (-1) g.done
def gatSync (g : Gate) (h : Head) (proof : List Int) : Gate × Bool :=
 if gatOk g then (if hedFollows g.head h proof then (⟨h, g.done⟩, true) else (g, false)) else (gateZ, false)
def insert (x : Int) : List Int → List Int
 | [] => [x]
 | y :: ys => if x < y then x :: y :: ys else y :: insert x ys
def gatMay (g : Gate) (t who : Int) (r : Row) (proof : List Int) : Bool :=
 inR who 1 5 && decide (who = r.who) && !r.used && !g.done.contains t && ownCheck g.head.own t r proof
def gatShow (g : Gate) (t who : Int) (r : Row) (proof : List Int) : Gate × Bool :=
 if gatOk g then (if gatMay g t who r proof then (⟨g.head, insert t g.done⟩, true) else (g, false)) else (gateZ, false)
end Go.Proofs.YtnnoiagommiapaaGreat.Sw
namespace Go.Proofs.YtnnoiagommiapaaGreat.Sw
open Go.RowKit (wrap64)
def monOk (p : List Int) : Bool := decide (p.length = 5) && p.all (fun n => inR n 0 100000)
def purse (p : List Int) (who : Int) : Int := p.getD (who - 1).toNat 0
def monHas (p : List Int) (who : Int) : Int := if monOk p && inR who 1 5 then purse p who else 0
def turnMay (p : List Int) (who n : Int) : Bool := monOk p && inR who 1 5 && inR n (-100000) 100000 && inR (purse p who + n) 0 100000
def turned (p : List Int) (who n : Int) : List Int := p.set (who - 1).toNat (purse p who + n)
def monTurn (p : List Int) (who n : Int) : List Int := if turnMay p who n then turned p who n else p
def moveMay (p : List Int) (a b n : Int) : Bool := inR n 0 100000 && decide (a ≠ b) && turnMay p a (-n) && turnMay (turned p a (-n)) b n
def monMove (p : List Int) (a b n : Int) : List Int := if moveMay p a b n then turned (turned p a (-n)) b n else p
def sumFrom (s : Int) (p : List Int) : Int := p.foldl (fun s n => wrap64 (s + n)) s
def monSum (p : List Int) : Int := sumFrom 0 p
structure Deal where
 ticket : Int
 seller : Int
 price : Int
 buyer : Int
 due : Int
 deriving DecidableEq
structure Req where
 user : Int
 n : Int
 kind : Int
 ticket : Int
 who : Int
 price : Int
 deriving DecidableEq
structure Mkt where
 log : List Ent
 purses : List Int
 deals : List Deal
 clock : Int
 nums : List Int
 said : List Int
 deriving DecidableEq
def dealZ : Deal := ⟨0, 0, 0, 0, 0⟩
def reqZ : Req := ⟨0, 0, 0, 0, 0, 0⟩
def mktZ : Mkt := ⟨[], [], [], 0, [], []⟩
def mktNew (p : List Int) : Mkt :=
 if monOk p && decide (monSum p ≤ 100000) then ⟨[], p, [], 0, [0, 0, 0, 0, 0], [0, 0, 0, 0, 0]⟩ else mktZ
def held (d : Deal) : Bool := decide (0 < d.buyer)
def heldStep (s : Int) (d : Deal) : Int := if held d then wrap64 (s + d.price) else s
def heldFrom (s : Int) (ds : List Deal) : Int := ds.foldl heldStep s
def heldOf (ds : List Deal) : Int := heldFrom 0 ds
def mktHeld (m : Mkt) : Int := heldOf m.deals
def dealOk (clock : Int) (rows : List Row) (d : Deal) : Bool :=
 inR d.ticket 0 7 && inR d.seller 1 5 && decide ((rowAt rows d.ticket).who = d.seller) && !(rowAt rows d.ticket).used &&
   inR d.price 1 (entCap (rowAt rows d.ticket).face) &&
   (if d.buyer = 0 then decide (d.due = 0) else inR d.buyer 1 5 && decide (d.buyer ≠ d.seller) && inR d.due clock (clock + 5))
def dealsOk (clock : Int) (rows : List Row) : Int → List Deal → Bool
 | _, [] => true
 | p, d :: ds => dealOk clock rows d && decide (p < d.ticket) && dealsOk clock rows d.ticket ds
def numOk (n s : Int) : Bool := inR n 0 99999 && inR s 0 6 && (decide (n = 0) == decide (s = 0))
def numsOk : List Int → List Int → Bool
 | [], _ => true
 | _ :: _, [] => false
 | n :: ns, s :: ss => numOk n s && numsOk ns ss
def mktRows (m : Mkt) : List Row := (ownFold m.log).getD []
def mktOk (m : Mkt) : Bool :=
 (ownFold m.log).isSome && monOk m.purses && decide (m.deals.length ≤ 8) && inR m.clock 0 99999 && decide (m.nums.length = 5) && decide (m.said.length = 5) &&
   dealsOk m.clock (mktRows m) (-1) m.deals && numsOk m.nums m.said && decide (monSum m.purses + mktHeld m ≤ 100000)
def dealAt (ds : List Deal) (t : Int) : Option Nat := ds.findIdx? (fun d => decide (d.ticket = t))
def dealIx (ds : List Deal) (t : Int) : Int := match dealAt ds t with
 | some k => k
 | none => -1
def dealOf (ds : List Deal) (t : Int) : Option Deal := ds.find? (fun d => decide (d.ticket = t))
def reqOk (r : Req) : Bool :=
 inR r.user 1 5 && inR r.n 1 99999 && inR r.kind 1 6 && inR r.ticket 0 7 &&
   (if r.kind = 1 then inR r.who 1 5 && inR r.price 1 50 else decide (r.who = 0) && (if r.kind = 2 then inR r.price 1 999 else decide (r.price = 0)))
def insertDeal (d : Deal) : List Deal → List Deal
 | [] => [d]
 | x :: xs => if d.ticket < x.ticket then d :: x :: xs else x :: insertDeal d xs
def issue (m : Mkt) (r : Req) (row : Row) : Mkt × Int :=
 if r.user ≠ 1 ∨ r.who = 1 then (m, 2)
 else if row.who ≠ 0 then (m, 3)
 else if m.log.length = 40 then (m, 6)
 else if moveMay m.purses r.who 1 r.price then ({ m with purses := turned (turned m.purses r.who (-r.price)) 1 r.price, log := m.log ++ [⟨1, r.ticket, r.who, r.price⟩] }, 1)
 else (m, 5)
def offer (m : Mkt) (r : Req) (row : Row) (k : Option Nat) : Mkt × Int :=
 if row.who ≠ r.user then (m, 2)
 else if k.isSome ∨ row.used = true then (m, 3)
 else if entCap row.face < r.price then (m, 4)
 else ({ m with deals := insertDeal ⟨r.ticket, r.user, r.price, 0, 0⟩ m.deals }, 1)
def dropIt (m : Mkt) (r : Req) (row : Row) (k : Option Nat) : Mkt × Int :=
 if row.who ≠ r.user then (m, 2)
 else match k with
 | none => (m, 3)
 | some k => if held (m.deals.getD k dealZ) then (m, 3) else ({ m with deals := m.deals.eraseIdx k }, 1)
def fund (m : Mkt) (r : Req) (k : Option Nat) : Mkt × Int :=
 match k with
 | none => (m, 3)
 | some k =>
   if held (m.deals.getD k dealZ) then (m, 3)
   else if (m.deals.getD k dealZ).seller = r.user then (m, 2)
   else if turnMay m.purses r.user (-(m.deals.getD k dealZ).price) then
     ({ m with purses := turned m.purses r.user (-(m.deals.getD k dealZ).price), deals := m.deals.set k { m.deals.getD k dealZ with buyer := r.user, due := m.clock + 5 } }, 1)
   else (m, 5)
def settle (m : Mkt) (r : Req) (k : Option Nat) : Mkt × Int :=
 match k with
 | none => (m, 3)
 | some k =>
   if held (m.deals.getD k dealZ) = false then (m, 3)
   else if (m.deals.getD k dealZ).seller ≠ r.user then (m, 2)
   else if m.log.length = 40 then (m, 6)
   else ({ m with purses := monTurn m.purses (m.deals.getD k dealZ).seller (m.deals.getD k dealZ).price,
                  log := m.log ++ [⟨2, r.ticket, (m.deals.getD k dealZ).buyer, (m.deals.getD k dealZ).price⟩],
                  deals := m.deals.eraseIdx k }, 1)
def enter (m : Mkt) (r : Req) (row : Row) (k : Option Nat) : Mkt × Int :=
 if row.who ≠ r.user then (m, 2)
 else if row.used = true ∨ k.isSome then (m, 3)
 else if m.log.length = 40 then (m, 6)
 else ({ m with log := m.log ++ [⟨3, r.ticket, r.user, 0⟩] }, 1)
def effect (m : Mkt) (r : Req) : Mkt × Int :=
 if r.kind = 1 then issue m r (rowAt (mktRows m) r.ticket)
 else if r.kind = 2 then offer m r (rowAt (mktRows m) r.ticket) (dealAt m.deals r.ticket)
 else if r.kind = 3 then dropIt m r (rowAt (mktRows m) r.ticket) (dealAt m.deals r.ticket)
 else if r.kind = 4 then fund m r (dealAt m.deals r.ticket)
 else if r.kind = 5 then settle m r (dealAt m.deals r.ticket)
 else enter m r (rowAt (mktRows m) r.ticket) (dealAt m.deals r.ticket)
def lastOf (l : List Int) (user : Int) : Int := l.getD (user - 1).toNat 0
def noted (m : Mkt) (r : Req) (a : Int) : Mkt := { m with nums := m.nums.set (r.user - 1).toNat r.n, said := m.said.set (r.user - 1).toNat a }
def doIt (m : Mkt) (r : Req) : Mkt × Int :=
 if r.n = lastOf m.nums r.user then (m, lastOf m.said r.user)
 else if r.n < lastOf m.nums r.user then (m, 7)
 else (noted (effect m r).1 r (effect m r).2, (effect m r).2)
def mktDo (m : Mkt) (r : Req) : Mkt × Int := if mktOk m && reqOk r then doIt m r else (mktZ, 0)
def backDeal (clock : Int) (d : Deal) : Deal := if held d && decide (d.due < clock) then { d with buyer := 0, due := 0 } else d
def backPurse (clock : Int) (p : List Int) (d : Deal) : List Int := if held d && decide (d.due < clock) then monTurn p d.buyer d.price else p
def tick (m : Mkt) : Mkt := { m with clock := m.clock + 1, purses := m.deals.foldl (backPurse (m.clock + 1)) m.purses, deals := m.deals.map (backDeal (m.clock + 1)) }
def mktTick (m : Mkt) : Mkt × Bool := if mktOk m then (if m.clock = 99999 then (m, false) else (tick m, true)) else (mktZ, false)
def mktOffers (m : Mkt) : List Int := (m.deals.filter fun d => !held d).map (·.ticket)
def mktFor (m : Mkt) (who : Int) : List Int := (m.deals.filter fun d => held d && decide (d.buyer = who)).map (·.ticket)
def watFrom : Int → List Head → Bool
 | _, [] => true
 | p, h :: hs => hedOk h && decide (p < h.size) && watFrom h.size hs
def watOk (l : List Head) : Bool := decide (l.length ≤ 12) && watFrom (-1) l
def insertHead (h : Head) : List Head → List Head
 | [] => [h]
 | x :: xs => if h.size < x.size then h :: x :: xs else x :: insertHead h xs
def watSee (l : List Head) (h : Head) : List Head × Head × Bool :=
 if watOk l && hedOk h then
   match l.find? (fun x => decide (x.size = h.size)) with
   | some x => (l, x, hedFork x h)
   | none => if l.length = 12 then (l, headZ, false) else (insertHead h l, headZ, false)
 else (l, headZ, false)
def forkIn (a : Head) (l : List Head) : Option (Head × Head) := (l.find? (fun b => hedFork a b)).map fun b => (a, b)
def watMeet (a b : List Head) : Option (Head × Head) := if watOk a && watOk b then a.findSome? (fun x => forkIn x b) else none
def watAll (l : List Head) (log : List Ent) : Bool := watOk l && l.all (fun h => decide (hedAt log h.size = some h))
structure Msg where
 gate : Int
 head : Head
 proof : List Int
 deriving DecidableEq
structure World where
 first : List Int
 market : Mkt
 lines : List Req
 gates : List Gate
 bag : List Msg
 deriving DecidableEq
structure Ev where
 kind : Int
 req : Req
 at_ : Int
 ticket : Int
 who : Int
 deriving DecidableEq
def worldZ : World := ⟨[], mktZ, [], [], []⟩
def gatNew : Gate := ⟨(hedOf []).getD headZ, []⟩
def wldNew (p : List Int) : World := if monOk p && decide (monSum p ≤ 100000) then ⟨p, mktNew p, [], [gatNew, gatNew], []⟩ else worldZ
def lineOk (r : Req) : Bool := decide (r = reqZ) || reqOk r
def msgOk (x : Msg) : Bool := inR x.gate 0 1 && hedOk x.head && treOk x.proof
def wldOk (w : World) : Bool :=
 mktOk w.market && monOk w.first && decide (w.lines.length ≤ 300) && decide (w.gates.length = 2) && decide (w.bag.length ≤ 6) &&
   w.lines.all lineOk && w.gates.all gatOk && w.bag.all msgOk
def foldLines : Mkt → List Req → Option Mkt
 | m, [] => some m
 | m, r :: rs =>
   if r = reqZ then (if m.clock = 99999 then none else foldLines (tick m) rs)
   else if reqOk r then foldLines (doIt m r).1 rs else none
def wldFold (first : List Int) (lines : List Req) : Option Mkt :=
 if monOk first && decide (monSum first ≤ 100000) && decide (lines.length ≤ 300) then foldLines (mktNew first) lines else none
def ask (w : World) (r : Req) : World × Int :=
 if reqOk r && decide (w.lines.length < 300) then ({ w with market := (doIt w.market r).1, lines := w.lines ++ [r] }, (doIt w.market r).2) else (w, 0)
def tickW (w : World) : World :=
 if decide (w.market.clock ≠ 99999) && decide (w.lines.length < 300) then { w with market := tick w.market, lines := w.lines ++ [reqZ] } else w
def fall (w : World) : World := { w with market := (wldFold w.first w.lines).getD w.market, bag := [] }
def gateAt (w : World) (k : Int) : Gate := w.gates.getD k.toNat gateZ
def send (w : World) (k : Int) : World :=
 if inR k 0 1 && decide (w.bag.length < 6) then { w with bag := w.bag ++ [⟨k, (hedOf w.market.log).getD headZ, hedProof w.market.log (gateAt w k).head.size⟩] } else w
def msgZ : Msg := ⟨0, headZ, []⟩
def msgAt (w : World) (i : Int) : Msg := w.bag.getD i.toNat msgZ
def lose (w : World) (i : Int) : World := { w with bag := w.bag.eraseIdx i.toNat }
def heard (w : World) (x : Msg) : World := { w with gates := w.gates.set x.gate.toNat (gatSync (gateAt w x.gate) x.head x.proof).1 }
def hear (w : World) (i : Int) : World := heard (lose w i) (msgAt w i)
def twice (w : World) (i : Int) : World := if w.bag.length < 6 then { w with bag := w.bag ++ [msgAt w i] } else w
def showIt (w : World) (k t who : Int) : World × Int :=
 if inR k 0 1 && inR t 0 7 && decide ((gateAt w k).head.size ≤ w.market.log.length) then
   match ownFold (w.market.log.take (gateAt w k).head.size.toNat) with
   | none => (w, 0)
   | some rows =>
     if (gatShow (gateAt w k) t who (rowAt rows t) (ownProof rows t)).2 then
       ({ w with gates := w.gates.set k.toNat (gatShow (gateAt w k) t who (rowAt rows t) (ownProof rows t)).1 }, 1)
     else (w, 3)
 else (w, 0)
def tellOne (w : World) (t : Int) : World :=
 if decide (0 < (rowAt (mktRows w.market) t).who) && !(rowAt (mktRows w.market) t).used && decide (lastOf w.market.nums (rowAt (mktRows w.market) t).who < 99999) then
   (ask w ⟨(rowAt (mktRows w.market) t).who, lastOf w.market.nums (rowAt (mktRows w.market) t).who + 1, 6, t, 0, 0⟩).1
 else w
def tell (w : World) (k : Int) : World := if inR k 0 1 then (gateAt w k).done.foldl tellOne w else w
def step (w : World) (e : Ev) : World × Int :=
 if e.kind = 1 then ask w e.req
 else if e.kind = 2 then (tickW w, 0)
 else if e.kind = 3 then (fall w, 0)
 else if e.kind = 4 then (send w e.at_, 0)
 else if e.kind = 5 then (if inR e.at_ 0 (w.bag.length - 1) then hear w e.at_ else w, 0)
 else if e.kind = 6 then (if inR e.at_ 0 (w.bag.length - 1) then lose w e.at_ else w, 0)
 else if e.kind = 7 then (if inR e.at_ 0 (w.bag.length - 1) then twice w e.at_ else w, 0)
 else if e.kind = 8 then showIt w e.at_ e.ticket e.who
 else if e.kind = 9 then (tell w e.at_, 0)
 else (w, 0)
def wldStep (w : World) (e : Ev) : World × Int := if wldOk w then step w e else (worldZ, 0)
def runFrom (w : World) (es : List Ev) : World := es.foldl (fun w e => (step w e).1) w
def wldRun (w : World) (es : List Ev) : World := if wldOk w && decide (es.length ≤ 300) then runFrom w es else worldZ
def wldMoney (w : World) : Int := wrap64 (monSum w.market.purses + mktHeld w.market)
end Go.Proofs.YtnnoiagommiapaaGreat.Sw
namespace Go.Proofs.YtnnoiagommiapaaGreat
open Go
section
variable {P : Program} {ops : Array Oper} {Q : Exit → Act → World → Prop} {md : Region.Mode} {S : World → Prop}
theorem regU (i d : Nat) {oi : Oper} {fuel : Nat} {listed : Array Bool} {a : Act} {w : World} (hi : ops[i]? = some oi) (hd : oi.dst = some d)
   (hs : Region.noSelect ops = true) (hf : Region.free md ops listed i = true) (hr : (Region.ready md ops listed).contains i = true)
   (hQ : ∀ c a w, Q (.panic c) (a.put (some d) undef) w → Q (.panic c) a w) (hw : Region.wanted oi (yielded ops a.tmps) = false) (hS : S w)
   (h : wpAnyH P md ops Q S fuel (listed.setIfInBounds i true) (a.put (some d) undef) w) : wpAnyH P md ops Q S (fuel + 1) listed a w :=
 wpAnyH_take (v := undef) hi hs hf hr (by rw [hd]; exact hQ) (Or.inr ⟨hw, rfl⟩) hS (by rw [hd]; exact h)
theorem regT (i d : Nat) {v : Value} {oi : Oper} {fuel : Nat} {listed : Array Bool} {a : Act} {w : World} (hi : ops[i]? = some oi) (hd : oi.dst = some d)
   (hs : Region.noSelect ops = true) (hf : Region.free md ops listed i = true) (hr : (Region.ready md ops listed).contains i = true)
   (hQ : ∀ c a w, Q (.panic c) (a.put (some d) v) w → Q (.panic c) a w) (hw : Region.wanted oi (yielded ops a.tmps) = true) (hy : ∀ w, S w → (execOp a.eval oi).run P w = .ok (.value v) w) (hS : S w)
   (h : wpAnyH P md ops Q S fuel (listed.setIfInBounds i true) (a.put (some d) v) w) : wpAnyH P md ops Q S (fuel + 1) listed a w :=
 wpAnyH_take (v := v) hi hs hf hr (by rw [hd]; exact hQ) (Or.inl ⟨hw, hy⟩) hS (by rw [hd]; exact h)
theorem rT (i d : Nat) {v : Value} {oi : Oper} {fuel : Nat} {listed : Array Bool} {a b : Act} {w : World} (hi : ops[i]? = some oi := by rfl) (hd : oi.dst = some d := by rfl)
    (hs : Region.noSelect ops = true := by kernel_rfl) (hf : Region.free md ops listed i = true := by kernel_rfl) (hr : (Region.ready md ops listed).contains i = true := by kernel_rfl)
    (hw : Region.wanted oi (yielded ops a.tmps) = true := by rfl) (hy : ∀ w, S w → (execOp a.eval oi).run P w = .ok (.value v) w := by (intro w hSw; (try dsimp only at hSw); go_simp; (try with_reducible rfl)))
    (hQ : ∀ c a w, Q (.panic c) (a.put (some d) v) w → Q (.panic c) a w := by (exact (fun _ _ _ h => h))) (hS : S w := by assumption) (hb : a.put (some d) v = b := by (simp only [Act.put, List.setIfInBounds_toArray, List.set_cons_zero, List.set_cons_succ]; rfl))
    (h : wpAnyH P md ops Q S fuel (listed.setIfInBounds i true) b w) : wpAnyH P md ops Q S (fuel + 1) listed a w :=
  wpAnyH_take (v := v) hi hs hf hr (by rw [hd]; exact hQ) (Or.inl ⟨hw, hy⟩) hS (by rw [hd, hb]; exact h)
theorem wpAnyH_inv {Inv : Nat → Array Bool → Act → World → Prop} {k : Nat}
   (h0 : ∀ l a w, Inv 0 l a w → wpAnyH P md ops Q S k l a w)
   (hd : ∀ n l a w, Inv (n + 1) l a w → Region.ready md ops l ≠ [])
   (hs : ∀ n l a w, Inv (n + 1) l a w → ∀ i ∈ Region.ready md ops l, wpOp P ops Q i (fun a' w' => S w' ∧ Inv n (l.setIfInBounds i true) a' w') a w) :
   ∀ n l a w, Inv n l a w → wpAnyH P md ops Q S (n + k) l a w
 | 0, l, a, w, h => by rw [Nat.zero_add]; exact h0 l a w h
 | n + 1, l, a, w, h => by
   rw [show n + 1 + k = n + k + 1 by omega]
   exact ⟨fun he => absurd he (hd n l a w h), fun i hi => wpOp_mono (fun a' w' h' => ⟨h'.1, wpAnyH_inv h0 hd hs n _ _ _ h'.2⟩) (hs n l a w h i hi)⟩
end
end Go.Proofs.YtnnoiagommiapaaGreat
