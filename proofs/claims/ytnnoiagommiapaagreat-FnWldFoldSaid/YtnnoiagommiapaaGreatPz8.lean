/- Texts joined: Deep, LawEq, LawEq2, LawEq3, Impl1, Plain9, Open. -/
import Derived.Test.YtnnoiagommiapaaGreatPz7
import Derived.Test.YtnnoiagommiapaaGreatPz5
import Derived.Test.YtnnoiagommiapaaGreatPz6
set_option maxRecDepth 100000
set_option linter.unusedSimpArgs false
set_option linter.unusedVariables false
namespace Go.Proofs.YtnnoiagommiapaaGreat
open Go.RowKit Go
def Sw.Deal.enc (d : Sw.Deal) : List Value := [.int .i64 d.ticket, .int .i64 d.seller, .int .i64 d.price, .int .i64 d.buyer, .int .i64 d.due]
def Sw.Req.enc (r : Sw.Req) : List Value := [.int .i64 r.user, .int .i64 r.n, .int .i64 r.kind, .int .i64 r.ticket, .int .i64 r.who, .int .i64 r.price]
def Sw.Ev.enc (e : Sw.Ev) : List Value := [.int .i64 e.kind, .int .i64 e.req.user, .int .i64 e.req.n, .int .i64 e.req.kind, .int .i64 e.req.ticket, .int .i64 e.req.who, .int .i64 e.req.price, .int .i64 e.at_, .int .i64 e.ticket, .int .i64 e.who]
abbrev RDl := Rs Sw.Deal.enc 5
abbrev RQ := Rs Sw.Req.enc 6
abbrev REv := Rs Sw.Ev.enc 10
structure GV where
 h : Sw.Head
 A : Option Addr
 c : Nat
 n : Nat
structure XV where
 g : Int
 h : Sw.Head
 A : Option Addr
 c : Nat
 n : Nat
def GV.enc (v : GV) : List Value := [.int .i64 v.h.size, .int .i64 v.h.log, .int .i64 v.h.own, .slice v.A v.n v.c]
def XV.enc (v : XV) : List Value := [.int .i64 v.g, .int .i64 v.h.size, .int .i64 v.h.log, .int .i64 v.h.own, .slice v.A v.n v.c]
structure RG (w : World) (lo : Nat) (A : Option Addr) (c n : Nat) (gs : List Sw.Gate) : Prop where
 ex : ∃ vs : List GV, Rs GV.enc 4 w lo A c n vs ∧ n = gs.length ∧ ∀ (k : Nat) (v : GV) (g : Sw.Gate), vs[k]? = some v → gs[k]? = some g → v.h = g.head ∧ RI w lo v.A v.c v.n g.done
structure RX (w : World) (lo : Nat) (A : Option Addr) (c n : Nat) (xs : List Sw.Msg) : Prop where
 ex : ∃ vs : List XV, Rs XV.enc 5 w lo A c n vs ∧ n = xs.length ∧ ∀ (k : Nat) (v : XV) (x : Sw.Msg), vs[k]? = some v → xs[k]? = some x → v.g = x.gate ∧ v.h = x.head ∧ RI w lo v.A v.c v.n x.proof
structure RM (w : World) (lo : Nat) (aL : Option Addr) (aLc aLn : Nat) (aP : Option Addr) (aPc aPn : Nat) (aD : Option Addr) (aDc aDn : Nat) (aN : Option Addr) (aNc aNn : Nat) (aS : Option Addr) (aSc aSn : Nat) (m : Sw.Mkt) : Prop where
 log : RE w lo aL aLc aLn m.log
 purses : RI w lo aP aPc aPn m.purses
 deals : RDl w lo aD aDc aDn m.deals
 nums : RI w lo aN aNc aNn m.nums
 said : RI w lo aS aSc aSn m.said
structure RW (w : World) (lo : Nat) (aF : Option Addr) (aFc aFn : Nat) (aL : Option Addr) (aLc aLn : Nat) (aP : Option Addr) (aPc aPn : Nat) (aD : Option Addr) (aDc aDn : Nat) (aN : Option Addr) (aNc aNn : Nat) (aS : Option Addr) (aSc aSn : Nat) (aI : Option Addr) (aIc aIn : Nat) (aG : Option Addr) (aGc aGn : Nat) (aB : Option Addr) (aBc aBn : Nat) (x : Sw.World) : Prop where
 first : RI w lo aF aFc aFn x.first
 mkt : RM w lo aL aLc aLn aP aPc aPn aD aDc aDn aN aNc aNn aS aSc aSn x.market
 lines : RQ w lo aI aIc aIn x.lines
 gates : RG w lo aG aGc aGn x.gates
 bag : RX w lo aB aBc aBn x.bag
section
variable {w w0 W : World} {lo lo' c n k : Nat} {A : Option Addr}
theorem RG.keep {gs : List Sw.Gate} (h : RG w0 lo A c n gs) (hk : KF lo w0 W) : RG W lo A c n gs := by
 obtain ⟨vs, h1, h2, h3⟩ := h.ex
 exact ⟨vs, h1.keep hk, h2, fun k v g hv hg => ⟨(h3 k v g hv hg).1, (h3 k v g hv hg).2.keep hk⟩⟩
theorem RG.less {gs : List Sw.Gate} (h : RG w0 lo A c n gs) (hl : lo' ≤ lo) : RG w0 lo' A c n gs := by
 obtain ⟨vs, h1, h2, h3⟩ := h.ex
 exact ⟨vs, h1.less hl, h2, fun k v g hv hg => ⟨(h3 k v g hv hg).1, (h3 k v g hv hg).2.less hl⟩⟩
theorem RX.keep {xs : List Sw.Msg} (h : RX w0 lo A c n xs) (hk : KF lo w0 W) : RX W lo A c n xs := by
 obtain ⟨vs, h1, h2, h3⟩ := h.ex
 exact ⟨vs, h1.keep hk, h2, fun k v g hv hg => ⟨(h3 k v g hv hg).1, (h3 k v g hv hg).2.1, (h3 k v g hv hg).2.2.keep hk⟩⟩
theorem RX.less {xs : List Sw.Msg} (h : RX w0 lo A c n xs) (hl : lo' ≤ lo) : RX w0 lo' A c n xs := by
 obtain ⟨vs, h1, h2, h3⟩ := h.ex
 exact ⟨vs, h1.less hl, h2, fun k v g hv hg => ⟨(h3 k v g hv hg).1, (h3 k v g hv hg).2.1, (h3 k v g hv hg).2.2.less hl⟩⟩
theorem RG.at0 {gs : List Sw.Gate} (h : RG w0 lo A c n gs) (hk : KF lo w0 W) : RG W 0 A c n gs := (h.keep hk).less (Nat.zero_le _)
theorem RX.at0 {xs : List Sw.Msg} (h : RX w0 lo A c n xs) (hk : KF lo w0 W) : RX W 0 A c n xs := (h.keep hk).less (Nat.zero_le _)
theorem RM.keep {aL : Option Addr} {aLc aLn : Nat} {aP : Option Addr} {aPc aPn : Nat} {aD : Option Addr} {aDc aDn : Nat} {aN : Option Addr} {aNc aNn : Nat} {aS : Option Addr} {aSc aSn : Nat} {m : Sw.Mkt} (h : RM w0 lo aL aLc aLn aP aPc aPn aD aDc aDn aN aNc aNn aS aSc aSn m) (hk : KF lo w0 W) : RM W lo aL aLc aLn aP aPc aPn aD aDc aDn aN aNc aNn aS aSc aSn m := ⟨h.1.keep hk, h.2.keep hk, h.3.keep hk, h.4.keep hk, h.5.keep hk⟩
theorem RM.less {aL : Option Addr} {aLc aLn : Nat} {aP : Option Addr} {aPc aPn : Nat} {aD : Option Addr} {aDc aDn : Nat} {aN : Option Addr} {aNc aNn : Nat} {aS : Option Addr} {aSc aSn : Nat} {m : Sw.Mkt} (h : RM w0 lo aL aLc aLn aP aPc aPn aD aDc aDn aN aNc aNn aS aSc aSn m) (hl : lo' ≤ lo) : RM w0 lo' aL aLc aLn aP aPc aPn aD aDc aDn aN aNc aNn aS aSc aSn m := ⟨h.1.less hl, h.2.less hl, h.3.less hl, h.4.less hl, h.5.less hl⟩
theorem RM.at0 {aL : Option Addr} {aLc aLn : Nat} {aP : Option Addr} {aPc aPn : Nat} {aD : Option Addr} {aDc aDn : Nat} {aN : Option Addr} {aNc aNn : Nat} {aS : Option Addr} {aSc aSn : Nat} {m : Sw.Mkt} (h : RM w0 lo aL aLc aLn aP aPc aPn aD aDc aDn aN aNc aNn aS aSc aSn m) (hk : KF lo w0 W) : RM W 0 aL aLc aLn aP aPc aPn aD aDc aDn aN aNc aNn aS aSc aSn m := (h.keep hk).less (Nat.zero_le _)
theorem RW.keep {aF : Option Addr} {aFc aFn : Nat} {aL : Option Addr} {aLc aLn : Nat} {aP : Option Addr} {aPc aPn : Nat} {aD : Option Addr} {aDc aDn : Nat} {aN : Option Addr} {aNc aNn : Nat} {aS : Option Addr} {aSc aSn : Nat} {aI : Option Addr} {aIc aIn : Nat} {aG : Option Addr} {aGc aGn : Nat} {aB : Option Addr} {aBc aBn : Nat} {x : Sw.World} (h : RW w0 lo aF aFc aFn aL aLc aLn aP aPc aPn aD aDc aDn aN aNc aNn aS aSc aSn aI aIc aIn aG aGc aGn aB aBc aBn x) (hk : KF lo w0 W) : RW W lo aF aFc aFn aL aLc aLn aP aPc aPn aD aDc aDn aN aNc aNn aS aSc aSn aI aIc aIn aG aGc aGn aB aBc aBn x := ⟨h.1.keep hk, h.2.keep hk, h.3.keep hk, h.4.keep hk, h.5.keep hk⟩
theorem RW.less {aF : Option Addr} {aFc aFn : Nat} {aL : Option Addr} {aLc aLn : Nat} {aP : Option Addr} {aPc aPn : Nat} {aD : Option Addr} {aDc aDn : Nat} {aN : Option Addr} {aNc aNn : Nat} {aS : Option Addr} {aSc aSn : Nat} {aI : Option Addr} {aIc aIn : Nat} {aG : Option Addr} {aGc aGn : Nat} {aB : Option Addr} {aBc aBn : Nat} {x : Sw.World} (h : RW w0 lo aF aFc aFn aL aLc aLn aP aPc aPn aD aDc aDn aN aNc aNn aS aSc aSn aI aIc aIn aG aGc aGn aB aBc aBn x) (hl : lo' ≤ lo) : RW w0 lo' aF aFc aFn aL aLc aLn aP aPc aPn aD aDc aDn aN aNc aNn aS aSc aSn aI aIc aIn aG aGc aGn aB aBc aBn x := ⟨h.1.less hl, h.2.less hl, h.3.less hl, h.4.less hl, h.5.less hl⟩
theorem RW.at0 {aF : Option Addr} {aFc aFn : Nat} {aL : Option Addr} {aLc aLn : Nat} {aP : Option Addr} {aPc aPn : Nat} {aD : Option Addr} {aDc aDn : Nat} {aN : Option Addr} {aNc aNn : Nat} {aS : Option Addr} {aSc aSn : Nat} {aI : Option Addr} {aIc aIn : Nat} {aG : Option Addr} {aGc aGn : Nat} {aB : Option Addr} {aBc aBn : Nat} {x : Sw.World} (h : RW w0 lo aF aFc aFn aL aLc aLn aP aPc aPn aD aDc aDn aN aNc aNn aS aSc aSn aI aIc aIn aG aGc aGn aB aBc aBn x) (hk : KF lo w0 W) : RW W 0 aF aFc aFn aL aLc aLn aP aPc aPn aD aDc aDn aN aNc aNn aS aSc aSn aI aIc aIn aG aGc aGn aB aBc aBn x := (h.keep hk).less (Nat.zero_le _)
theorem at_D {xs : List Sw.Deal} (h : RDl w lo A c n xs) (hk : k < n) :
   ∃ g off x, A = some ⟨g, off, none⟩ ∧ lo ≤ g ∧ g < w.heap.size ∧ xs.drop k = x :: xs.drop (k + 1) ∧ xs[k]? = some x ∧
     w.cell? ⟨g, off + k * 5, none⟩ = some (.int .i64 x.ticket) ∧ w.cell? ⟨g, off + k * 5 + 1, none⟩ = some (.int .i64 x.seller) ∧
     w.cell? ⟨g, off + k * 5 + 2, none⟩ = some (.int .i64 x.price) ∧ w.cell? ⟨g, off + k * 5 + 3, none⟩ = some (.int .i64 x.buyer) ∧ w.cell? ⟨g, off + k * 5 + 4, none⟩ = some (.int .i64 x.due) := by
 obtain ⟨g, off, x, h1, h2, h3, h4, h5, h6⟩ := Rs.at_ h (fun _ => rfl) hk
 exact ⟨g, off, x, h1, h2, h3, h4, h5, by simpa using h6 0 _ (by omega) rfl, h6 1 _ (by omega) rfl, h6 2 _ (by omega) rfl, h6 3 _ (by omega) rfl, h6 4 _ (by omega) rfl⟩
theorem at_Q {xs : List Sw.Req} (h : RQ w lo A c n xs) (hk : k < n) :
   ∃ g off x, A = some ⟨g, off, none⟩ ∧ lo ≤ g ∧ g < w.heap.size ∧ xs.drop k = x :: xs.drop (k + 1) ∧ xs[k]? = some x ∧
     w.cell? ⟨g, off + k * 6, none⟩ = some (.int .i64 x.user) ∧ w.cell? ⟨g, off + k * 6 + 1, none⟩ = some (.int .i64 x.n) ∧
     w.cell? ⟨g, off + k * 6 + 2, none⟩ = some (.int .i64 x.kind) ∧ w.cell? ⟨g, off + k * 6 + 3, none⟩ = some (.int .i64 x.ticket) ∧
     w.cell? ⟨g, off + k * 6 + 4, none⟩ = some (.int .i64 x.who) ∧ w.cell? ⟨g, off + k * 6 + 5, none⟩ = some (.int .i64 x.price) := by
 obtain ⟨g, off, x, h1, h2, h3, h4, h5, h6⟩ := Rs.at_ h (fun _ => rfl) hk
 exact ⟨g, off, x, h1, h2, h3, h4, h5, by simpa using h6 0 _ (by omega) rfl, h6 1 _ (by omega) rfl, h6 2 _ (by omega) rfl, h6 3 _ (by omega) rfl, h6 4 _ (by omega) rfl, h6 5 _ (by omega) rfl⟩
theorem at_G {gs : List Sw.Gate} (h : RG w lo A c n gs) (hk : k < n) :
   ∃ g off x B d m, A = some ⟨g, off, none⟩ ∧ lo ≤ g ∧ g < w.heap.size ∧ gs.drop k = x :: gs.drop (k + 1) ∧ gs[k]? = some x ∧
     w.cell? ⟨g, off + k * 4, none⟩ = some (.int .i64 x.head.size) ∧ w.cell? ⟨g, off + k * 4 + 1, none⟩ = some (.int .i64 x.head.log) ∧
     w.cell? ⟨g, off + k * 4 + 2, none⟩ = some (.int .i64 x.head.own) ∧ w.cell? ⟨g, off + k * 4 + 3, none⟩ = some (.slice B m d) ∧ RI w lo B d m x.done := by
 obtain ⟨vs, h1, h2, h3⟩ := h.ex
 obtain ⟨g, off, v, h4, h5, h6, h7, h8, h9⟩ := Rs.at_ h1 (fun _ => rfl) hk
 have hg : gs[k]? = some gs[k] := List.getElem?_eq_getElem (by omega)
 obtain ⟨e, hr⟩ := h3 k v _ h8 hg
 refine ⟨g, off, gs[k], v.A, v.c, v.n, h4, h5, h6, List.drop_eq_getElem_cons (by omega), hg, ?_, ?_, ?_, h9 3 _ (by omega) rfl, hr⟩
 · rw [← e]; simpa using h9 0 _ (by omega) rfl
 · rw [← e]; exact h9 1 _ (by omega) rfl
 · rw [← e]; exact h9 2 _ (by omega) rfl
theorem at_X {xs : List Sw.Msg} (h : RX w lo A c n xs) (hk : k < n) :
   ∃ g off x B d m, A = some ⟨g, off, none⟩ ∧ lo ≤ g ∧ g < w.heap.size ∧ xs.drop k = x :: xs.drop (k + 1) ∧ xs[k]? = some x ∧
     w.cell? ⟨g, off + k * 5, none⟩ = some (.int .i64 x.gate) ∧ w.cell? ⟨g, off + k * 5 + 1, none⟩ = some (.int .i64 x.head.size) ∧ w.cell? ⟨g, off + k * 5 + 2, none⟩ = some (.int .i64 x.head.log) ∧
     w.cell? ⟨g, off + k * 5 + 3, none⟩ = some (.int .i64 x.head.own) ∧ w.cell? ⟨g, off + k * 5 + 4, none⟩ = some (.slice B m d) ∧ RI w lo B d m x.proof := by
 obtain ⟨vs, h1, h2, h3⟩ := h.ex
 obtain ⟨g, off, v, h4, h5, h6, h7, h8, h9⟩ := Rs.at_ h1 (fun _ => rfl) hk
 have hg : xs[k]? = some xs[k] := List.getElem?_eq_getElem (by omega)
 obtain ⟨e1, e, hr⟩ := h3 k v _ h8 hg
 refine ⟨g, off, xs[k], v.A, v.c, v.n, h4, h5, h6, List.drop_eq_getElem_cons (by omega), hg, ?_, ?_, ?_, ?_, h9 4 _ (by omega) rfl, hr⟩
 · rw [← e1]; simpa using h9 0 _ (by omega) rfl
 · rw [← e]; exact h9 1 _ (by omega) rfl
 · rw [← e]; exact h9 2 _ (by omega) rfl
 · rw [← e]; exact h9 3 _ (by omega) rfl
theorem Rs.big {α : Type} {enc : α → List Value} {sz : Nat} {xs : List α} (h : Rs enc sz w lo A c n xs) : n ≤ 9223372036854775807 := by
 have := h.2.le; have := h.2.cap; unfold maxLen at this; omega
theorem RG.len {gs : List Sw.Gate} (h : RG w lo A c n gs) : n = gs.length ∧ n ≤ 9223372036854775807 := by
 obtain ⟨vs, h1, h2, _⟩ := h.ex
 exact ⟨h2, h1.big⟩
theorem RX.len {xs : List Sw.Msg} (h : RX w lo A c n xs) : n = xs.length ∧ n ≤ 9223372036854775807 := by
 obtain ⟨vs, h1, h2, _⟩ := h.ex
 exact ⟨h2, h1.big⟩
end
end Go.Proofs.YtnnoiagommiapaaGreat
namespace Go.Proofs.YtnnoiagommiapaaGreat
open Go.RowKit Go
set_option maxHeartbeats 400000
def szOf (l n : Int) : Int := if l - n < 0 then -1 else l - n
set_option maxHeartbeats 400000
def dsz (gs : List Sw.Gate) : Nat := (gs.map (·.done.length)).sum
def psz (xs : List Sw.Msg) : Nat := (xs.map (·.proof.length)).sum
theorem dsz_cons (g : Sw.Gate) (gs : List Sw.Gate) : dsz (g :: gs) = g.done.length + dsz gs := by simp [dsz]
theorem psz_cons (g : Sw.Msg) (gs : List Sw.Msg) : psz (g :: gs) = g.proof.length + psz gs := by simp [psz]
set_option maxHeartbeats 400000
theorem mkt_ext {a b : Sw.Mkt} : a = b ↔ a.log = b.log ∧ a.purses = b.purses ∧ a.deals = b.deals ∧ a.clock = b.clock ∧ a.nums = b.nums ∧ a.said = b.said := by cases a; cases b; simp
set_option maxHeartbeats 400000
def badAt (xs : List Int) : Int := match xs.findIdx? (fun x => !Sw.mixOk x) with
 | some i => i
 | none => -1
end Go.Proofs.YtnnoiagommiapaaGreat
namespace Go.Proofs.YtnnoiagommiapaaGreat.Sw
open Go.RowKit (wrap64)
theorem done_rows {m x : Mkt} {rows : List Row} {r : Req} (h : MOk m rows) (hr : reqOk r = true) (d : DoneBy m rows r x) {t : Int} (h0 : 0 ≤ t) (ht : t ≠ r.ticket) : rowAt (mktRows x) t = rowAt (mktRows m) t := by
 obtain ⟨rows', e1, e2⟩ := d.fold h hr
 rw [mktRows_of e1, mktRows_of h.fold]
 exact e2 t h0 ht
theorem apart {m : Mkt} {rows : List Row} {r : Req} (h : MOk m rows) (hr : reqOk r = true) {t : Int} (h0 : 0 ≤ t) (ht : t ≠ r.ticket) :
   rowAt (mktRows (doIt m r).1) t = rowAt (mktRows m) t ∧ dealOf (doIt m r).1.deals t = dealOf m.deals t := by
 have d := did h hr
 generalize (doIt m r).1 = x at *
 generalize (doIt m r).2 = n at *
 cases d with
 | again => exact ⟨rfl, rfl⟩
 | old => exact ⟨rfl, rfl⟩
 | no a => exact ⟨rfl, rfl⟩
 | yes x hn d he => exact ⟨done_rows h hr d h0 ht, (d.apart h he ht).symm⟩
theorem monHas_of {p : List Int} {u : Int} (h : monOk p = true) (hu : 1 ≤ u ∧ u ≤ 5) : monHas p u = purse p u := by
 unfold monHas
 rw [h, inR_iff.2 hu]
 rfl
def Settled (m x : Mkt) (r : Req) (e : Ent) (d : Deal) : Prop :=
 x.log = m.log ++ [e] ∧ e.kind = 2 ∧ e.price = d.price ∧ r.kind = 5 ∧ dealOf m.deals r.ticket = some d ∧ dealOf x.deals r.ticket = none ∧ 0 < d.buyer ∧ (rowAt (mktRows x) r.ticket).who = d.buyer ∧
   monHas x.purses d.seller = monHas m.purses d.seller + d.price ∧ mktHeld x = mktHeld m - d.price
theorem funded {m : Mkt} {rows : List Row} {r : Req} (h : MOk m rows) (hr : reqOk r = true) (h1 : (doIt m r).2 = 1) (k4 : r.kind = 4) (hn : r.n ≠ lastOf m.nums r.user) :
   ∃ d, dealOf m.deals r.ticket = some d ∧ dealOf (doIt m r).1.deals r.ticket = some { d with buyer := r.user, due := m.clock + 5 } ∧ d.buyer = 0 ∧
     monHas (doIt m r).1.purses r.user = monHas m.purses r.user - d.price ∧ mktHeld (doIt m r).1 = mktHeld m + d.price ∧ mktRows (doIt m r).1 = mktRows m ∧ r.ticket ∈ mktFor (doIt m r).1 r.user := by
 have hq := reqOk_iff.1 hr
 obtain ⟨rows', h'⟩ := doIt_ok h hr
 have d := did h hr
 generalize (doIt m r).1 = x at *
 generalize (doIt m r).2 = n at *
 cases d with
 | again hc => exact absurd hc hn
 | old => omega
 | no a => omega
 | yes x hlt d he =>
   cases d with
   | issue k1 => omega
   | offer k2 => omega
   | drop k d k3 => omega
   | settle k d k5 => omega
   | enter k6 => omega
   | fund k d _ hk hd ht hh hs hm =>
     have hdo := dealOk_iff.1 (h.deals.get hd)
     have hb : ¬ 0 < d.buyer := by simpa [held] using hh
     have hlt : k < m.deals.length := (List.getElem?_eq_some_iff.1 hd).1
     have hset : (m.deals.set k { d with buyer := r.user, due := m.clock + 5 })[k]? = some { d with buyer := r.user, due := m.clock + 5 } := by
       rw [List.getElem?_set_self hlt]
     have e2 : dealOf (m.deals.set k { d with buyer := r.user, due := m.clock + 5 }) d.ticket = some { d with buyer := r.user, due := m.clock + 5 } := dealOf_at h'.deals hset
     refine ⟨d, by rw [← ht]; exact dealOf_at h.deals hd, by rw [← ht]; exact e2, by omega, ?_, ?_, rfl, ?_⟩
     · show monHas (turned m.purses r.user (-d.price)) r.user = _
       rw [monHas_of (turned_ok hm) hq.1, monHas_of h.mon hq.1, purse_turned hm hq.1.1, if_pos rfl]
       omega
     · have e1 : mktHeld (noted { m with purses := turned m.purses r.user (-d.price), deals := m.deals.set k { d with buyer := r.user, due := m.clock + 5 } } r 1) = heldSum (m.deals.set k { d with buyer := r.user, due := m.clock + 5 }) := heldOf_eq h'.deals h'.dlen
       rw [e1, heldSum_set hd, mktHeld, heldOf_eq h.deals h.dlen]
       have i1 : heldIn d = 0 := by simp [heldIn, hh]
       have i2 : heldIn { d with buyer := r.user, due := m.clock + 5 } = d.price := by
         have : held { d with buyer := r.user, due := m.clock + 5 } = true := by simp [held]; omega
         simp [heldIn, this]
       omega
     · unfold mktFor
       rw [List.mem_map]
       refine ⟨{ d with buyer := r.user, due := m.clock + 5 }, List.mem_filter.2 ⟨List.mem_of_getElem? hset, ?_⟩, ht⟩
       have : held { d with buyer := r.user, due := m.clock + 5 } = true := by simp [held]; omega
       simp [this]
end Go.Proofs.YtnnoiagommiapaaGreat.Sw
namespace Go.Proofs.YtnnoiagommiapaaGreat
open Go.ChangeShapes Go.WideShapes Go.ChangeAt Go.RowKit Go
section
variable {H : Type} {enc : TypeId × Value → H} {P : Program} {W : World}
theorem add_spot {a : Addr} (h : a.spot = none) (i : Nat) : a.add i = ⟨a.block, a.off + i, none⟩ := by
 obtain ⟨b, o, s⟩ := a
 dsimp only at h
 subst h
 exact Addr.add_lit _ _ _
theorem rs_of_trod {α : Type} {ec : α → List Value} {sz : Nat} {t e : TypeId} {fuel : Nat} {cs : List Value} {x : DataW H × List MemPlace} (ht : P.underlying t = some (.slice e)) (hc : P.cellsOf e = sz) (hp : 0 < sz) (hsz : ∀ y, (ec y).length = sz)
   {Q : α → Prop} (he : ∀ n cs y, DataW.trod enc P W 0 (fun _ => true) true n e cs = some y → ∃ z : α, cs = ec z ∧ Q z) (h : DataW.trod enc P W 0 (fun _ => true) true fuel t cs = some x) :
   ∃ A c n xs, cs = [.slice A n c] ∧ Rs ec sz W 0 A c n xs ∧ ∀ y ∈ xs, Q y := by
 rcases Go.Deep.open_slice ht h with ⟨rfl, _⟩ | ⟨a, len, cap, m, n, D, Pl, rfl, _, hl, hm, hmm, hxx, hi⟩
 · exact ⟨none, 0, 0, [], rfl, ⟨rfl, Rd.none_ _ _ _⟩, by simp⟩
 · rw [if_pos rfl] at hmm
   subst hmm
   rw [hc] at hi
   have hi2 : ∀ i, i < len → ∃ z : α, Q z ∧ ∀ j, j < sz → W.cell? ((a.add (i * sz)).add j) = (ec z)[j]? := by
     intro i hil
     obtain ⟨cs', h1, h2⟩ := hi i (by omega)
     obtain ⟨z, rfl, hq⟩ := he _ _ _ h2
     exact ⟨z, hq, (World.cells?_some h1).2.2⟩
   have spot : 0 < len → a.spot = none ∧ a.block < W.heap.size := by
     intro h0
     obtain ⟨z, _, hz⟩ := hi2 0 h0
     have h1 := hz 0 hp
     rw [List.getElem?_eq_getElem (by rw [hsz]; exact hp)] at h1
     have h2 := spot_of_cell h1
     rw [Nat.zero_mul] at h2
     have e0 : ∀ b : Addr, (b.add 0).spot = none → b.spot = none := by
       intro b hb
       simp only [Addr.add] at hb
       split at hb <;> first | exact hb | contradiction | omega
     have e1 : ∀ b : Addr, (b.add 0).block = b.block := by
       intro b
       simp only [Addr.add]
       split <;> rfl
     exact ⟨e0 _ (e0 _ h2.1), by rw [e1, e1] at h2; exact h2.2⟩
   obtain ⟨xs, hlen, hxs⟩ : ∃ xs : List α, xs.length = len ∧ ∀ i z, xs[i]? = some z → Q z ∧ ∀ j, j < sz → W.cell? ((a.add (i * sz)).add j) = (ec z)[j]? := by
     clear hi spot h hl hxx
     induction len with
     | zero => exact ⟨[], rfl, by simp⟩
     | succ k ih =>
       obtain ⟨xs, h1, h2⟩ := ih (fun i hi => hi2 i (by omega))
       obtain ⟨z, hz⟩ := hi2 k (by omega)
       refine ⟨xs ++ [z], by simp [h1], fun i y hy => ?_⟩
       rw [List.getElem?_append] at hy
       split at hy
       · exact h2 i y hy
       · have : i = k := by
           have := (List.getElem?_eq_some_iff.1 hy).1
           simp at this
           omega
         subst this
         rw [h1, Nat.sub_self] at hy
         simp at hy
         subst hy
         exact hz
   refine ⟨some a, m, len, xs, rfl, ⟨hlen.symm, ⟨?_, hl, hm, (fun h => by cases h), fun b hb hn => ?_⟩⟩, fun y hy => ?_⟩
   · have key : ∀ xs : List α, (xs.flatMap ec).length = xs.length * sz := by
       intro xs
       induction xs with
       | nil => simp
       | cons x xs ih => simp only [List.flatMap_cons, List.length_append, hsz, ih, List.length_cons, Nat.succ_mul]; omega
     rw [key, hlen]
   · obtain rfl := Option.some.inj hb
     obtain ⟨s1, s2⟩ := spot hn
     refine ⟨s1, Nat.zero_le _, s2, fun j u hu => ?_⟩
     have key : ∀ xs : List α, (xs.flatMap ec).length = xs.length * sz := by
       intro xs
       induction xs with
       | nil => simp
       | cons x xs ih => simp only [List.flatMap_cons, List.length_append, hsz, ih, List.length_cons, Nat.succ_mul]; omega
     have hj := (List.getElem?_eq_some_iff.1 hu).1
     rw [key] at hj
     have hk : j / sz < xs.length := Nat.div_lt_of_lt_mul (by rw [Nat.mul_comm]; exact hj)
     have hr : j % sz < sz := Nat.mod_lt _ hp
     have hd : j / sz * sz + j % sz = j := by rw [Nat.mul_comm]; exact Nat.div_add_mod _ _
     have h1 := flat_get hsz xs (j / sz) (j % sz) hk hr
     rw [hd, hu] at h1
     have h2 := (hxs (j / sz) _ (List.getElem?_eq_getElem hk)).2 (j % sz) hr
     rw [← h1, add_spot s1, add_spot rfl] at h2
     dsimp only at h2
     rw [Nat.add_assoc, hd] at h2
     exact h2
   · obtain ⟨i, hi⟩ := List.getElem?_of_mem hy
     exact (hxs i y hi).1
def fieldsInt (fs : Array Field) (ti : TypeId) : Bool := (List.range fs.size).all fun i => match fs[i]? with
 | some f => decide (f.type = ti) && decide (f.offset = i)
 | none => false
def valInt : Value → Int
 | .int _ n => n
 | _ => 0
end
end Go.Proofs.YtnnoiagommiapaaGreat
