/-
  Texts joined: Impl1, Grow, Both, Impl2, Impl3, Impl4, Model2.
-/
import Derived.Test.YtdcjadgflenejaaPk3
import Derived.Test.YtdcjadgflenejaaPk4
import Derived.Test.YtdcjadgflenejaaPk2
namespace Go.Proofs.Ytdcjadgflenejaa
set_option maxRecDepth 100000
set_option linter.unusedSimpArgs false
set_option linter.unusedVariables false
open Go.RowKit Go
set_option maxHeartbeats 400000

/-- Where the first one stands that is no leaf; -1 if there is none. -/
def badAt (xs : List Int) : Int := match xs.findIdx? (fun x => !Sw.mixOk x) with
  | some i => i
  | none => -1
theorem badAt_iff (xs : List Int) : decide (0 ≤ badAt xs) = !xs.all Sw.mixOk := by
  unfold badAt
  cases h : xs.findIdx? (fun x => !Sw.mixOk x) with
  | none =>
    rw [List.findIdx?_eq_none_iff] at h
    have : xs.all Sw.mixOk = true := by
      rw [List.all_eq_true]
      intro x hx
      have := h x hx
      simpa using this
    rw [this]; rfl
  | some i =>
    have : xs.all Sw.mixOk = false := by
      rw [List.findIdx?_eq_some_iff_getElem] at h
      obtain ⟨h1, h2, _⟩ := h
      rw [List.all_eq_false]
      exact ⟨xs[i], List.getElem_mem h1, by simpa using h2⟩
    rw [this]
    simp
theorem badAt_here {xs : List Int} {k : Nat} {y : Int} (hy : xs[k]? = some y) (h : ∀ j, j < k → ∀ z, xs[j]? = some z → Sw.mixOk z = true) (hm : Sw.mixOk y = false) : badAt xs = k := by
  unfold badAt
  have hk := (List.getElem?_eq_some_iff.1 hy)
  obtain ⟨hk, rfl⟩ := hk
  have : xs.findIdx? (fun x => !Sw.mixOk x) = some k := by
    rw [List.findIdx?_eq_some_iff_getElem]
    refine ⟨hk, by simp [hm], fun j hj => ?_⟩
    have := h j hj xs[j] (by simp)
    simp [this]
  rw [this]
theorem badAt_none {xs : List Int} {k : Nat} (hk : xs.length ≤ k) (h : ∀ j, j < k → ∀ z, xs[j]? = some z → Sw.mixOk z = true) : badAt xs = -1 := by
  unfold badAt
  have : xs.findIdx? (fun x => !Sw.mixOk x) = none := by
    rw [List.findIdx?_eq_none_iff]
    intro x hx
    obtain ⟨i, hi, rfl⟩ := List.getElem_of_mem hx
    have := h i (by omega) xs[i] (by simp)
    simp [this]
  rw [this]

end Go.Proofs.Ytdcjadgflenejaa

namespace Go.Proofs.Ytdcjadgflenejaa
set_option maxRecDepth 100000
set_option linter.unusedSimpArgs false
set_option linter.unusedVariables false
open Go.RowKit Go
set_option maxHeartbeats 400000

theorem grow_len {N : Nat} {l : List Int} {m : Nat} {k : Bool} (h : m ≠ l.length) (hN : l.length ≤ N + 1) : Sw.grow (N + 1) l m k =
    if m ≤ Sw.split l.length then Sw.grow N (l.take (Sw.split l.length)) m k ++ [Sw.root (l.drop (Sw.split l.length))]
    else Sw.grow N (l.drop (Sw.split l.length)) (m - Sw.split l.length) false ++ [Sw.root (l.take (Sw.split l.length))] := by
  rw [Sw.grow, if_neg h]

theorem empty_len {xs : List Int} {N : Nat} (h : xs.length ≤ N) : xs.length ≤ N := h
theorem grow_N : ∀ (N M : Nat) (xs : List Int) (m : Nat) (kn : Bool), xs.length ≤ N → xs.length ≤ M → 1 ≤ m → m ≤ xs.length → Sw.grow N xs m kn = Sw.grow M xs m kn
  | 0, _, xs, m, kn, h1, h2, h3, h4 => by omega
  | _ + 1, 0, xs, m, kn, h1, h2, h3, h4 => by omega
  | N + 1, M + 1, xs, m, kn, h1, h2, h3, h4 => by
    rw [Sw.grow, Sw.grow]
    by_cases e : m = xs.length
    · rw [if_pos e, if_pos e]
    · have l2 : 2 ≤ xs.length := by omega
      have s1 := Sw.split_lt l2
      have s0 := Sw.split_pos xs.length
      rw [if_neg e, if_neg e]
      by_cases g : m ≤ Sw.split xs.length
      · rw [if_pos g, if_pos g, grow_N N M _ m kn (by rw [List.length_take]; omega) (by rw [List.length_take]; omega) h3 (by rw [List.length_take]; omega)]
      · rw [if_neg g, if_neg g, grow_N N M _ (m - Sw.split xs.length) false (by rw [List.length_drop]; omega) (by rw [List.length_drop]; omega) (by omega) (by rw [List.length_drop]; omega)]

end Go.Proofs.Ytdcjadgflenejaa

namespace Go.Proofs.Ytdcjadgflenejaa
set_option maxRecDepth 100000
set_option linter.unusedSimpArgs false
set_option linter.unusedVariables false
open Go.RowKit Go
set_option maxHeartbeats 400000

theorem snoc_of {α : Type} {xs : List α} {n : Nat} {y : α} (hn : n + 1 = xs.length) (h : xs[n]? = some y) : xs = xs.take n ++ [y] := by
  rw [← take_snoc h, List.take_of_length_le (by omega)]
theorem rev_snoc {α : Type} {xs : List α} {n : Nat} {y : α} (hn : n + 1 = xs.length) (h : xs[n]? = some y) : xs.reverse = y :: (xs.take n).reverse := by
  conv => lhs; rw [snoc_of hn h]
  simp

end Go.Proofs.Ytdcjadgflenejaa

namespace Go.Proofs.Ytdcjadgflenejaa
set_option maxRecDepth 100000
set_option linter.unusedSimpArgs false
set_option linter.unusedVariables false
open Go.RowKit Go
set_option maxHeartbeats 400000

end Go.Proofs.Ytdcjadgflenejaa

namespace Go.Proofs.Ytdcjadgflenejaa
set_option maxRecDepth 100000
set_option linter.unusedSimpArgs false
set_option linter.unusedVariables false
open Go.RowKit Go
set_option maxHeartbeats 400000

theorem iCloneInts_c (A : Option Addr) (c n : Nat) (xs : List Int) (w : World) (hxs : RI w 0 A c n xs) (hn : n ≤ 4194304) : Calls Try.prog 44 #[.slice A n c] w fun E w' => ∃ A' c', E = .returned (.slice A' n c') ∧ OwI w' w.heap.size A' c' n xs ∧ Ex w w' := by
  go_enter Try.func44, Try.ntmps44
  go_wp2_with (at_builtin; apply wpList_app (lo := w.heap.size) el_I one_I rfl rfl rfl rfl; (first | assumption | exact Ow.nil _ _ | (apply Ow.keep; assumption; exact kf_) | (refine Ow.new [] (by (first | rfl | (simp only [zA, zC, zD, zN]; done) | omega)) rfl rfl (fun _ => rfl) (by exact sz_) (by omega))); (first | ((first | (apply Rs.at0; assumption) | (apply Ow.rs0; assumption)); exact kf_)); omega; exact sz_; intro A1 c1 w2 ho1 hch1 hat1 hex1 hlow1; have hb := hex1 (fun _ => False) w (by exact ext_) (by exact sz_); have hz := hch1.size; (try simp only [zA, zC, zD, zN] at hz); obtain ⟨hc, hf⟩ := low_rules hlow1; clear hlow1 hex1)
  go_ret
  rw [Nat.zero_add, List.nil_append] at ho1
  exact ⟨A1, c1, rfl, ho1, ext_⟩
end Go.Proofs.Ytdcjadgflenejaa

namespace Go.Proofs.Ytdcjadgflenejaa
set_option maxRecDepth 100000
set_option linter.unusedSimpArgs false
set_option linter.unusedVariables false
open Go.RowKit Go
set_option maxHeartbeats 400000

end Go.Proofs.Ytdcjadgflenejaa

namespace Go.Proofs.Ytdcjadgflenejaa.Sw
set_option maxRecDepth 100000
set_option linter.unusedSimpArgs false
set_option linter.unusedVariables false
open Go.RowKit (wrap64)

/-! ### money -/
def monOk (p : List Int) : Bool := decide (p.length = 5) && p.all (fun n => inR n 0 100000)
def purse (p : List Int) (who : Int) : Int := p.getD (who - 1).toNat 0
def monHas (p : List Int) (who : Int) : Int := if monOk p && inR who 1 5 then purse p who else 0
def turnMay (p : List Int) (who n : Int) : Bool := monOk p && inR who 1 5 && inR n (-100000) 100000 && inR (purse p who + n) 0 100000
def turned (p : List Int) (who n : Int) : List Int := p.set (who - 1).toNat (purse p who + n)
def monTurn (p : List Int) (who n : Int) : List Int := if turnMay p who n then turned p who n else p
def moveMay (p : List Int) (a b n : Int) : Bool := inR n 0 100000 && decide (a ≠ b) && turnMay p a (-n) && turnMay (turned p a (-n)) b n
def monMove (p : List Int) (a b n : Int) : List Int := if moveMay p a b n then turned (turned p a (-n)) b n else p
def sumFrom (s : Int) (p : List Int) : Int := p.foldl (fun s n => wrap64 (s + n)) s
def monSum (p : List Int) : Int := sumFrom 0 p

/-! ### the market -/
structure Deal where
  ticket : Int
  seller : Int
  price : Int
  buyer : Int
  due : Int
  deriving DecidableEq
structure Req where
  user : Int
  n : Int
  kind : Int
  ticket : Int
  who : Int
  price : Int
  deriving DecidableEq
structure Mkt where
  log : List Ent
  purses : List Int
  deals : List Deal
  clock : Int
  nums : List Int
  said : List Int
  deriving DecidableEq
def dealZ : Deal := ⟨0, 0, 0, 0, 0⟩
def reqZ : Req := ⟨0, 0, 0, 0, 0, 0⟩
def mktZ : Mkt := ⟨[], [], [], 0, [], []⟩
def mktNew (p : List Int) : Mkt :=
  if monOk p && decide (monSum p ≤ 100000) then ⟨[], p, [], 0, [0, 0, 0, 0, 0], [0, 0, 0, 0, 0]⟩ else mktZ
def held (d : Deal) : Bool := decide (0 < d.buyer)
def heldStep (s : Int) (d : Deal) : Int := if held d then wrap64 (s + d.price) else s
def heldFrom (s : Int) (ds : List Deal) : Int := ds.foldl heldStep s
def heldOf (ds : List Deal) : Int := heldFrom 0 ds
def mktHeld (m : Mkt) : Int := heldOf m.deals
def dealOk (clock : Int) (rows : List Row) (d : Deal) : Bool :=
  inR d.ticket 0 7 && inR d.seller 1 5 && decide ((rowAt rows d.ticket).who = d.seller) && !(rowAt rows d.ticket).used &&
    inR d.price 1 (entCap (rowAt rows d.ticket).face) &&
    (if d.buyer = 0 then decide (d.due = 0) else inR d.buyer 1 5 && decide (d.buyer ≠ d.seller) && inR d.due clock (clock + 5))
/-- Deals that are ok, of rising tickets behind a number. -/
def dealsOk (clock : Int) (rows : List Row) : Int → List Deal → Bool
  | _, [] => true
  | p, d :: ds => dealOk clock rows d && decide (p < d.ticket) && dealsOk clock rows d.ticket ds
def numOk (n s : Int) : Bool := inR n 0 99999 && inR s 0 6 && (decide (n = 0) == decide (s = 0))
def numsOk : List Int → List Int → Bool
  | [], _ => true
  | _ :: _, [] => false
  | n :: ns, s :: ss => numOk n s && numsOk ns ss
def mktRows (m : Mkt) : List Row := (ownFold m.log).getD []
def mktOk (m : Mkt) : Bool :=
  (ownFold m.log).isSome && monOk m.purses && decide (m.deals.length ≤ 8) && inR m.clock 0 99999 && decide (m.nums.length = 5) && decide (m.said.length = 5) &&
    dealsOk m.clock (mktRows m) (-1) m.deals && numsOk m.nums m.said && decide (monSum m.purses + mktHeld m ≤ 100000)
def dealAt (ds : List Deal) (t : Int) : Option Nat := ds.findIdx? (fun d => decide (d.ticket = t))
def dealIx (ds : List Deal) (t : Int) : Int := match dealAt ds t with
  | some k => k
  | none => -1
def dealOf (ds : List Deal) (t : Int) : Option Deal := ds.find? (fun d => decide (d.ticket = t))
def reqOk (r : Req) : Bool :=
  inR r.user 1 5 && inR r.n 1 99999 && inR r.kind 1 6 && inR r.ticket 0 7 &&
    (if r.kind = 1 then inR r.who 1 5 && inR r.price 1 50 else decide (r.who = 0) && (if r.kind = 2 then inR r.price 1 999 else decide (r.price = 0)))
def insertDeal (d : Deal) : List Deal → List Deal
  | [] => [d]
  | x :: xs => if d.ticket < x.ticket then d :: x :: xs else x :: insertDeal d xs
/-- What a request does to the log, the purses and the deals, and its answer; row: how its ticket stands; k: the deal about it. -/
def issue (m : Mkt) (r : Req) (row : Row) : Mkt × Int :=
  if r.user ≠ 1 ∨ r.who = 1 then (m, 2)
  else if row.who ≠ 0 then (m, 3)
  else if m.log.length = 40 then (m, 6)
  else if moveMay m.purses r.who 1 r.price then ({ m with purses := turned (turned m.purses r.who (-r.price)) 1 r.price, log := m.log ++ [⟨1, r.ticket, r.who, r.price⟩] }, 1)
  else (m, 5)
def offer (m : Mkt) (r : Req) (row : Row) (k : Option Nat) : Mkt × Int :=
  if row.who ≠ r.user then (m, 2)
  else if k.isSome ∨ row.used = true then (m, 3)
  else if entCap row.face < r.price then (m, 4)
  else ({ m with deals := insertDeal ⟨r.ticket, r.user, r.price, 0, 0⟩ m.deals }, 1)
def dropIt (m : Mkt) (r : Req) (row : Row) (k : Option Nat) : Mkt × Int :=
  if row.who ≠ r.user then (m, 2)
  else match k with
  | none => (m, 3)
  | some k => if held (m.deals.getD k dealZ) then (m, 3) else ({ m with deals := m.deals.eraseIdx k }, 1)
def fund (m : Mkt) (r : Req) (k : Option Nat) : Mkt × Int :=
  match k with
  | none => (m, 3)
  | some k =>
    if held (m.deals.getD k dealZ) then (m, 3)
    else if (m.deals.getD k dealZ).seller = r.user then (m, 2)
    else if turnMay m.purses r.user (-(m.deals.getD k dealZ).price) then
      ({ m with purses := turned m.purses r.user (-(m.deals.getD k dealZ).price), deals := m.deals.set k { m.deals.getD k dealZ with buyer := r.user, due := m.clock + 5 } }, 1)
    else (m, 5)
def settle (m : Mkt) (r : Req) (k : Option Nat) : Mkt × Int :=
  match k with
  | none => (m, 3)
  | some k =>
    if held (m.deals.getD k dealZ) = false then (m, 3)
    else if (m.deals.getD k dealZ).seller ≠ r.user then (m, 2)
    else if m.log.length = 40 then (m, 6)
    else ({ m with purses := monTurn m.purses (m.deals.getD k dealZ).seller (m.deals.getD k dealZ).price,
                   log := m.log ++ [⟨2, r.ticket, (m.deals.getD k dealZ).buyer, (m.deals.getD k dealZ).price⟩],
                   deals := m.deals.eraseIdx k }, 1)
def enter (m : Mkt) (r : Req) (row : Row) (k : Option Nat) : Mkt × Int :=
  if row.who ≠ r.user then (m, 2)
  else if row.used = true ∨ k.isSome then (m, 3)
  else if m.log.length = 40 then (m, 6)
  else ({ m with log := m.log ++ [⟨3, r.ticket, r.user, 0⟩] }, 1)
def effect (m : Mkt) (r : Req) : Mkt × Int :=
  if r.kind = 1 then issue m r (rowAt (mktRows m) r.ticket)
  else if r.kind = 2 then offer m r (rowAt (mktRows m) r.ticket) (dealAt m.deals r.ticket)
  else if r.kind = 3 then dropIt m r (rowAt (mktRows m) r.ticket) (dealAt m.deals r.ticket)
  else if r.kind = 4 then fund m r (dealAt m.deals r.ticket)
  else if r.kind = 5 then settle m r (dealAt m.deals r.ticket)
  else enter m r (rowAt (mktRows m) r.ticket) (dealAt m.deals r.ticket)
def lastOf (l : List Int) (user : Int) : Int := l.getD (user - 1).toNat 0
def noted (m : Mkt) (r : Req) (a : Int) : Mkt := { m with nums := m.nums.set (r.user - 1).toNat r.n, said := m.said.set (r.user - 1).toNat a }
/-- A request that is ok, of a market that is. -/
def doIt (m : Mkt) (r : Req) : Mkt × Int :=
  if r.n = lastOf m.nums r.user then (m, lastOf m.said r.user)
  else if r.n < lastOf m.nums r.user then (m, 7)
  else (noted (effect m r).1 r (effect m r).2, (effect m r).2)
def mktDo (m : Mkt) (r : Req) : Mkt × Int := if mktOk m && reqOk r then doIt m r else (mktZ, 0)
/-- What is held longer than may be goes back: purses and deals. -/
def backDeal (clock : Int) (d : Deal) : Deal := if held d && decide (d.due < clock) then { d with buyer := 0, due := 0 } else d
def backPurse (clock : Int) (p : List Int) (d : Deal) : List Int := if held d && decide (d.due < clock) then monTurn p d.buyer d.price else p
def tick (m : Mkt) : Mkt := { m with clock := m.clock + 1, purses := m.deals.foldl (backPurse (m.clock + 1)) m.purses, deals := m.deals.map (backDeal (m.clock + 1)) }
def mktTick (m : Mkt) : Mkt × Bool := if mktOk m then (if m.clock = 99999 then (m, false) else (tick m, true)) else (mktZ, false)
def mktOffers (m : Mkt) : List Int := (m.deals.filter fun d => !held d).map (·.ticket)
def mktFor (m : Mkt) (who : Int) : List Int := (m.deals.filter fun d => held d && decide (d.buyer = who)).map (·.ticket)

/-! ### watching -/
def watFrom : Int → List Head → Bool
  | _, [] => true
  | p, h :: hs => hedOk h && decide (p < h.size) && watFrom h.size hs
def watOk (l : List Head) : Bool := decide (l.length ≤ 12) && watFrom (-1) l
def insertHead (h : Head) : List Head → List Head
  | [] => [h]
  | x :: xs => if h.size < x.size then h :: x :: xs else x :: insertHead h xs
def watSee (l : List Head) (h : Head) : List Head × Head × Bool :=
  if watOk l && hedOk h then
    match l.find? (fun x => decide (x.size = h.size)) with
    | some x => (l, x, hedFork x h)
    | none => if l.length = 12 then (l, headZ, false) else (insertHead h l, headZ, false)
  else (l, headZ, false)
def forkIn (a : Head) (l : List Head) : Option (Head × Head) := (l.find? (fun b => hedFork a b)).map fun b => (a, b)
def watMeet (a b : List Head) : Option (Head × Head) := if watOk a && watOk b then a.findSome? (fun x => forkIn x b) else none
def watAll (l : List Head) (log : List Ent) : Bool := watOk l && l.all (fun h => decide (hedAt log h.size = some h))

/-! ### the world -/
structure Msg where
  gate : Int
  head : Head
  proof : List Int
  deriving DecidableEq
structure World where
  first : List Int
  market : Mkt
  lines : List Req
  gates : List Gate
  bag : List Msg
  deriving DecidableEq
structure Ev where
  kind : Int
  req : Req
  at_ : Int
  ticket : Int
  who : Int
  deriving DecidableEq
def worldZ : World := ⟨[], mktZ, [], [], []⟩
def gatNew : Gate := ⟨(hedOf []).getD headZ, []⟩
def wldNew (p : List Int) : World := if monOk p && decide (monSum p ≤ 100000) then ⟨p, mktNew p, [], [gatNew, gatNew], []⟩ else worldZ
def lineOk (r : Req) : Bool := decide (r = reqZ) || reqOk r
def msgOk (x : Msg) : Bool := inR x.gate 0 1 && hedOk x.head && treOk x.proof
def wldOk (w : World) : Bool :=
  mktOk w.market && monOk w.first && decide (w.lines.length ≤ 300) && decide (w.gates.length = 2) && decide (w.bag.length ≤ 6) &&
    w.lines.all lineOk && w.gates.all gatOk && w.bag.all msgOk
def foldLines : Mkt → List Req → Option Mkt
  | m, [] => some m
  | m, r :: rs =>
    if r = reqZ then (if m.clock = 99999 then none else foldLines (tick m) rs)
    else if reqOk r then foldLines (doIt m r).1 rs else none
def wldFold (first : List Int) (lines : List Req) : Option Mkt :=
  if monOk first && decide (monSum first ≤ 100000) && decide (lines.length ≤ 300) then foldLines (mktNew first) lines else none
def ask (w : World) (r : Req) : World × Int :=
  if reqOk r && decide (w.lines.length < 300) then ({ w with market := (doIt w.market r).1, lines := w.lines ++ [r] }, (doIt w.market r).2) else (w, 0)
def tickW (w : World) : World :=
  if decide (w.market.clock ≠ 99999) && decide (w.lines.length < 300) then { w with market := tick w.market, lines := w.lines ++ [reqZ] } else w
def fall (w : World) : World := { w with market := (wldFold w.first w.lines).getD w.market, bag := [] }
def gateAt (w : World) (k : Int) : Gate := w.gates.getD k.toNat gateZ
def send (w : World) (k : Int) : World :=
  if inR k 0 1 && decide (w.bag.length < 6) then { w with bag := w.bag ++ [⟨k, (hedOf w.market.log).getD headZ, hedProof w.market.log (gateAt w k).head.size⟩] } else w
def msgZ : Msg := ⟨0, headZ, []⟩
def msgAt (w : World) (i : Int) : Msg := w.bag.getD i.toNat msgZ
def lose (w : World) (i : Int) : World := { w with bag := w.bag.eraseIdx i.toNat }
def heard (w : World) (x : Msg) : World := { w with gates := w.gates.set x.gate.toNat (gatSync (gateAt w x.gate) x.head x.proof).1 }
def hear (w : World) (i : Int) : World := heard (lose w i) (msgAt w i)
def twice (w : World) (i : Int) : World := if w.bag.length < 6 then { w with bag := w.bag ++ [msgAt w i] } else w
def showIt (w : World) (k t who : Int) : World × Int :=
  if inR k 0 1 && inR t 0 7 && decide ((gateAt w k).head.size ≤ w.market.log.length) then
    match ownFold (w.market.log.take (gateAt w k).head.size.toNat) with
    | none => (w, 0)
    | some rows =>
      if (gatShow (gateAt w k) t who (rowAt rows t) (ownProof rows t)).2 then
        ({ w with gates := w.gates.set k.toNat (gatShow (gateAt w k) t who (rowAt rows t) (ownProof rows t)).1 }, 1)
      else (w, 3)
  else (w, 0)
def tellOne (w : World) (t : Int) : World :=
  if decide (0 < (rowAt (mktRows w.market) t).who) && !(rowAt (mktRows w.market) t).used && decide (lastOf w.market.nums (rowAt (mktRows w.market) t).who < 99999) then
    (ask w ⟨(rowAt (mktRows w.market) t).who, lastOf w.market.nums (rowAt (mktRows w.market) t).who + 1, 6, t, 0, 0⟩).1
  else w
def tell (w : World) (k : Int) : World := if inR k 0 1 then (gateAt w k).done.foldl tellOne w else w
/-- One event, of a world that is ok. -/
def step (w : World) (e : Ev) : World × Int :=
  if e.kind = 1 then ask w e.req
  else if e.kind = 2 then (tickW w, 0)
  else if e.kind = 3 then (fall w, 0)
  else if e.kind = 4 then (send w e.at_, 0)
  else if e.kind = 5 then (if inR e.at_ 0 (w.bag.length - 1) then hear w e.at_ else w, 0)
  else if e.kind = 6 then (if inR e.at_ 0 (w.bag.length - 1) then lose w e.at_ else w, 0)
  else if e.kind = 7 then (if inR e.at_ 0 (w.bag.length - 1) then twice w e.at_ else w, 0)
  else if e.kind = 8 then showIt w e.at_ e.ticket e.who
  else if e.kind = 9 then (tell w e.at_, 0)
  else (w, 0)
def wldStep (w : World) (e : Ev) : World × Int := if wldOk w then step w e else (worldZ, 0)
def runFrom (w : World) (es : List Ev) : World := es.foldl (fun w e => (step w e).1) w
def wldRun (w : World) (es : List Ev) : World := if wldOk w && decide (es.length ≤ 300) then runFrom w es else worldZ
def wldMoney (w : World) : Int := wrap64 (monSum w.market.purses + mktHeld w.market)
end Go.Proofs.Ytdcjadgflenejaa.Sw

