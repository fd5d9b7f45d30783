/- Texts joined: Deep. -/
import Derived.Test.YtnnoiagommiapaaGreatPy7
import Derived.Test.YtnnoiagommiapaaGreatPy5
set_option maxRecDepth 100000
set_option linter.unusedSimpArgs false
set_option linter.unusedVariables false
namespace Go.Proofs.YtnnoiagommiapaaGreat
open Go.RowKit Go
def Sw.Deal.enc (d : Sw.Deal) : List Value := [.int .i64 d.ticket, .int .i64 d.seller, .int .i64 d.price, .int .i64 d.buyer, .int .i64 d.due]
def Sw.Req.enc (r : Sw.Req) : List Value := [.int .i64 r.user, .int .i64 r.n, .int .i64 r.kind, .int .i64 r.ticket, .int .i64 r.who, .int .i64 r.price]
def Sw.Ev.enc (e : Sw.Ev) : List Value := [.int .i64 e.kind, .int .i64 e.req.user, .int .i64 e.req.n, .int .i64 e.req.kind, .int .i64 e.req.ticket, .int .i64 e.req.who, .int .i64 e.req.price, .int .i64 e.at_, .int .i64 e.ticket, .int .i64 e.who]
abbrev RDl := Rs Sw.Deal.enc 5
abbrev RQ := Rs Sw.Req.enc 6
abbrev REv := Rs Sw.Ev.enc 10
structure GV where
 h : Sw.Head
 A : Option Addr
 c : Nat
 n : Nat
structure XV where
 g : Int
 h : Sw.Head
 A : Option Addr
 c : Nat
 n : Nat
def GV.enc (v : GV) : List Value := [.int .i64 v.h.size, .int .i64 v.h.log, .int .i64 v.h.own, .slice v.A v.n v.c]
def XV.enc (v : XV) : List Value := [.int .i64 v.g, .int .i64 v.h.size, .int .i64 v.h.log, .int .i64 v.h.own, .slice v.A v.n v.c]
structure RG (w : World) (lo : Nat) (A : Option Addr) (c n : Nat) (gs : List Sw.Gate) : Prop where
 ex : ∃ vs : List GV, Rs GV.enc 4 w lo A c n vs ∧ n = gs.length ∧ ∀ (k : Nat) (v : GV) (g : Sw.Gate), vs[k]? = some v → gs[k]? = some g → v.h = g.head ∧ RI w lo v.A v.c v.n g.done
structure RX (w : World) (lo : Nat) (A : Option Addr) (c n : Nat) (xs : List Sw.Msg) : Prop where
 ex : ∃ vs : List XV, Rs XV.enc 5 w lo A c n vs ∧ n = xs.length ∧ ∀ (k : Nat) (v : XV) (x : Sw.Msg), vs[k]? = some v → xs[k]? = some x → v.g = x.gate ∧ v.h = x.head ∧ RI w lo v.A v.c v.n x.proof
structure RM (w : World) (lo : Nat) (aL : Option Addr) (aLc aLn : Nat) (aP : Option Addr) (aPc aPn : Nat) (aD : Option Addr) (aDc aDn : Nat) (aN : Option Addr) (aNc aNn : Nat) (aS : Option Addr) (aSc aSn : Nat) (m : Sw.Mkt) : Prop where
 log : RE w lo aL aLc aLn m.log
 purses : RI w lo aP aPc aPn m.purses
 deals : RDl w lo aD aDc aDn m.deals
 nums : RI w lo aN aNc aNn m.nums
 said : RI w lo aS aSc aSn m.said
structure RW (w : World) (lo : Nat) (aF : Option Addr) (aFc aFn : Nat) (aL : Option Addr) (aLc aLn : Nat) (aP : Option Addr) (aPc aPn : Nat) (aD : Option Addr) (aDc aDn : Nat) (aN : Option Addr) (aNc aNn : Nat) (aS : Option Addr) (aSc aSn : Nat) (aI : Option Addr) (aIc aIn : Nat) (aG : Option Addr) (aGc aGn : Nat) (aB : Option Addr) (aBc aBn : Nat) (x : Sw.World) : Prop where
 first : RI w lo aF aFc aFn x.first
 mkt : RM w lo aL aLc aLn aP aPc aPn aD aDc aDn aN aNc aNn aS aSc aSn x.market
 lines : RQ w lo aI aIc aIn x.lines
 gates : RG w lo aG aGc aGn x.gates
 bag : RX w lo aB aBc aBn x.bag
section
variable {w w0 W : World} {lo lo' c n k : Nat} {A : Option Addr}
theorem RG.keep {gs : List Sw.Gate} (h : RG w0 lo A c n gs) (hk : KF lo w0 W) : RG W lo A c n gs := by
 obtain ⟨vs, h1, h2, h3⟩ := h.ex
 exact ⟨vs, h1.keep hk, h2, fun k v g hv hg => ⟨(h3 k v g hv hg).1, (h3 k v g hv hg).2.keep hk⟩⟩
theorem RG.less {gs : List Sw.Gate} (h : RG w0 lo A c n gs) (hl : lo' ≤ lo) : RG w0 lo' A c n gs := by
 obtain ⟨vs, h1, h2, h3⟩ := h.ex
 exact ⟨vs, h1.less hl, h2, fun k v g hv hg => ⟨(h3 k v g hv hg).1, (h3 k v g hv hg).2.less hl⟩⟩
theorem RX.keep {xs : List Sw.Msg} (h : RX w0 lo A c n xs) (hk : KF lo w0 W) : RX W lo A c n xs := by
 obtain ⟨vs, h1, h2, h3⟩ := h.ex
 exact ⟨vs, h1.keep hk, h2, fun k v g hv hg => ⟨(h3 k v g hv hg).1, (h3 k v g hv hg).2.1, (h3 k v g hv hg).2.2.keep hk⟩⟩
theorem RX.less {xs : List Sw.Msg} (h : RX w0 lo A c n xs) (hl : lo' ≤ lo) : RX w0 lo' A c n xs := by
 obtain ⟨vs, h1, h2, h3⟩ := h.ex
 exact ⟨vs, h1.less hl, h2, fun k v g hv hg => ⟨(h3 k v g hv hg).1, (h3 k v g hv hg).2.1, (h3 k v g hv hg).2.2.less hl⟩⟩
theorem RG.at0 {gs : List Sw.Gate} (h : RG w0 lo A c n gs) (hk : KF lo w0 W) : RG W 0 A c n gs := (h.keep hk).less (Nat.zero_le _)
theorem RX.at0 {xs : List Sw.Msg} (h : RX w0 lo A c n xs) (hk : KF lo w0 W) : RX W 0 A c n xs := (h.keep hk).less (Nat.zero_le _)
theorem RM.keep {aL : Option Addr} {aLc aLn : Nat} {aP : Option Addr} {aPc aPn : Nat} {aD : Option Addr} {aDc aDn : Nat} {aN : Option Addr} {aNc aNn : Nat} {aS : Option Addr} {aSc aSn : Nat} {m : Sw.Mkt} (h : RM w0 lo aL aLc aLn aP aPc aPn aD aDc aDn aN aNc aNn aS aSc aSn m) (hk : KF lo w0 W) : RM W lo aL aLc aLn aP aPc aPn aD aDc aDn aN aNc aNn aS aSc aSn m := ⟨h.1.keep hk, h.2.keep hk, h.3.keep hk, h.4.keep hk, h.5.keep hk⟩
theorem RM.less {aL : Option Addr} {aLc aLn : Nat} {aP : Option Addr} {aPc aPn : Nat} {aD : Option Addr} {aDc aDn : Nat} {aN : Option Addr} {aNc aNn : Nat} {aS : Option Addr} {aSc aSn : Nat} {m : Sw.Mkt} (h : RM w0 lo aL aLc aLn aP aPc aPn aD aDc aDn aN aNc aNn aS aSc aSn m) (hl : lo' ≤ lo) : RM w0 lo' aL aLc aLn aP aPc aPn aD aDc aDn aN aNc aNn aS aSc aSn m := ⟨h.1.less hl, h.2.less hl, h.3.less hl, h.4.less hl, h.5.less hl⟩
theorem RM.at0 {aL : Option Addr} {aLc aLn : Nat} {aP : Option Addr} {aPc aPn : Nat} {aD : Option Addr} {aDc aDn : Nat} {aN : Option Addr} {aNc aNn : Nat} {aS : Option Addr} {aSc aSn : Nat} {m : Sw.Mkt} (h : RM w0 lo aL aLc aLn aP aPc aPn aD aDc aDn aN aNc aNn aS aSc aSn m) (hk : KF lo w0 W) : RM W 0 aL aLc aLn aP aPc aPn aD aDc aDn aN aNc aNn aS aSc aSn m := (h.keep hk).less (Nat.zero_le _)
theorem RW.keep {aF : Option Addr} {aFc aFn : Nat} {aL : Option Addr} {aLc aLn : Nat} {aP : Option Addr} {aPc aPn : Nat} {aD : Option Addr} {aDc aDn : Nat} {aN : Option Addr} {aNc aNn : Nat} {aS : Option Addr} {aSc aSn : Nat} {aI : Option Addr} {aIc aIn : Nat} {aG : Option Addr} {aGc aGn : Nat} {aB : Option Addr} {aBc aBn : Nat} {x : Sw.World} (h : RW w0 lo aF aFc aFn aL aLc aLn aP aPc aPn aD aDc aDn aN aNc aNn aS aSc aSn aI aIc aIn aG aGc aGn aB aBc aBn x) (hk : KF lo w0 W) : RW W lo aF aFc aFn aL aLc aLn aP aPc aPn aD aDc aDn aN aNc aNn aS aSc aSn aI aIc aIn aG aGc aGn aB aBc aBn x := ⟨h.1.keep hk, h.2.keep hk, h.3.keep hk, h.4.keep hk, h.5.keep hk⟩
theorem RW.less {aF : Option Addr} {aFc aFn : Nat} {aL : Option Addr} {aLc aLn : Nat} {aP : Option Addr} {aPc aPn : Nat} {aD : Option Addr} {aDc aDn : Nat} {aN : Option Addr} {aNc aNn : Nat} {aS : Option Addr} {aSc aSn : Nat} {aI : Option Addr} {aIc aIn : Nat} {aG : Option Addr} {aGc aGn : Nat} {aB : Option Addr} {aBc aBn : Nat} {x : Sw.World} (h : RW w0 lo aF aFc aFn aL aLc aLn aP aPc aPn aD aDc aDn aN aNc aNn aS aSc aSn aI aIc aIn aG aGc aGn aB aBc aBn x) (hl : lo' ≤ lo) : RW w0 lo' aF aFc aFn aL aLc aLn aP aPc aPn aD aDc aDn aN aNc aNn aS aSc aSn aI aIc aIn aG aGc aGn aB aBc aBn x := ⟨h.1.less hl, h.2.less hl, h.3.less hl, h.4.less hl, h.5.less hl⟩
theorem RW.at0 {aF : Option Addr} {aFc aFn : Nat} {aL : Option Addr} {aLc aLn : Nat} {aP : Option Addr} {aPc aPn : Nat} {aD : Option Addr} {aDc aDn : Nat} {aN : Option Addr} {aNc aNn : Nat} {aS : Option Addr} {aSc aSn : Nat} {aI : Option Addr} {aIc aIn : Nat} {aG : Option Addr} {aGc aGn : Nat} {aB : Option Addr} {aBc aBn : Nat} {x : Sw.World} (h : RW w0 lo aF aFc aFn aL aLc aLn aP aPc aPn aD aDc aDn aN aNc aNn aS aSc aSn aI aIc aIn aG aGc aGn aB aBc aBn x) (hk : KF lo w0 W) : RW W 0 aF aFc aFn aL aLc aLn aP aPc aPn aD aDc aDn aN aNc aNn aS aSc aSn aI aIc aIn aG aGc aGn aB aBc aBn x := (h.keep hk).less (Nat.zero_le _)
theorem at_D {xs : List Sw.Deal} (h : RDl w lo A c n xs) (hk : k < n) :
   ∃ g off x, A = some ⟨g, off, none⟩ ∧ lo ≤ g ∧ g < w.heap.size ∧ xs.drop k = x :: xs.drop (k + 1) ∧ xs[k]? = some x ∧
     w.cell? ⟨g, off + k * 5, none⟩ = some (.int .i64 x.ticket) ∧ w.cell? ⟨g, off + k * 5 + 1, none⟩ = some (.int .i64 x.seller) ∧
     w.cell? ⟨g, off + k * 5 + 2, none⟩ = some (.int .i64 x.price) ∧ w.cell? ⟨g, off + k * 5 + 3, none⟩ = some (.int .i64 x.buyer) ∧ w.cell? ⟨g, off + k * 5 + 4, none⟩ = some (.int .i64 x.due) := by
 obtain ⟨g, off, x, h1, h2, h3, h4, h5, h6⟩ := Rs.at_ h (fun _ => rfl) hk
 exact ⟨g, off, x, h1, h2, h3, h4, h5, by simpa using h6 0 _ (by omega) rfl, h6 1 _ (by omega) rfl, h6 2 _ (by omega) rfl, h6 3 _ (by omega) rfl, h6 4 _ (by omega) rfl⟩
theorem at_Q {xs : List Sw.Req} (h : RQ w lo A c n xs) (hk : k < n) :
   ∃ g off x, A = some ⟨g, off, none⟩ ∧ lo ≤ g ∧ g < w.heap.size ∧ xs.drop k = x :: xs.drop (k + 1) ∧ xs[k]? = some x ∧
     w.cell? ⟨g, off + k * 6, none⟩ = some (.int .i64 x.user) ∧ w.cell? ⟨g, off + k * 6 + 1, none⟩ = some (.int .i64 x.n) ∧
     w.cell? ⟨g, off + k * 6 + 2, none⟩ = some (.int .i64 x.kind) ∧ w.cell? ⟨g, off + k * 6 + 3, none⟩ = some (.int .i64 x.ticket) ∧
     w.cell? ⟨g, off + k * 6 + 4, none⟩ = some (.int .i64 x.who) ∧ w.cell? ⟨g, off + k * 6 + 5, none⟩ = some (.int .i64 x.price) := by
 obtain ⟨g, off, x, h1, h2, h3, h4, h5, h6⟩ := Rs.at_ h (fun _ => rfl) hk
 exact ⟨g, off, x, h1, h2, h3, h4, h5, by simpa using h6 0 _ (by omega) rfl, h6 1 _ (by omega) rfl, h6 2 _ (by omega) rfl, h6 3 _ (by omega) rfl, h6 4 _ (by omega) rfl, h6 5 _ (by omega) rfl⟩
theorem at_G {gs : List Sw.Gate} (h : RG w lo A c n gs) (hk : k < n) :
   ∃ g off x B d m, A = some ⟨g, off, none⟩ ∧ lo ≤ g ∧ g < w.heap.size ∧ gs.drop k = x :: gs.drop (k + 1) ∧ gs[k]? = some x ∧
     w.cell? ⟨g, off + k * 4, none⟩ = some (.int .i64 x.head.size) ∧ w.cell? ⟨g, off + k * 4 + 1, none⟩ = some (.int .i64 x.head.log) ∧
     w.cell? ⟨g, off + k * 4 + 2, none⟩ = some (.int .i64 x.head.own) ∧ w.cell? ⟨g, off + k * 4 + 3, none⟩ = some (.slice B m d) ∧ RI w lo B d m x.done := by
 obtain ⟨vs, h1, h2, h3⟩ := h.ex
 obtain ⟨g, off, v, h4, h5, h6, h7, h8, h9⟩ := Rs.at_ h1 (fun _ => rfl) hk
 have hg : gs[k]? = some gs[k] := List.getElem?_eq_getElem (by omega)
 obtain ⟨e, hr⟩ := h3 k v _ h8 hg
 refine ⟨g, off, gs[k], v.A, v.c, v.n, h4, h5, h6, List.drop_eq_getElem_cons (by omega), hg, ?_, ?_, ?_, h9 3 _ (by omega) rfl, hr⟩
 · rw [← e]; simpa using h9 0 _ (by omega) rfl
 · rw [← e]; exact h9 1 _ (by omega) rfl
 · rw [← e]; exact h9 2 _ (by omega) rfl
theorem at_X {xs : List Sw.Msg} (h : RX w lo A c n xs) (hk : k < n) :
   ∃ g off x B d m, A = some ⟨g, off, none⟩ ∧ lo ≤ g ∧ g < w.heap.size ∧ xs.drop k = x :: xs.drop (k + 1) ∧ xs[k]? = some x ∧
     w.cell? ⟨g, off + k * 5, none⟩ = some (.int .i64 x.gate) ∧ w.cell? ⟨g, off + k * 5 + 1, none⟩ = some (.int .i64 x.head.size) ∧ w.cell? ⟨g, off + k * 5 + 2, none⟩ = some (.int .i64 x.head.log) ∧
     w.cell? ⟨g, off + k * 5 + 3, none⟩ = some (.int .i64 x.head.own) ∧ w.cell? ⟨g, off + k * 5 + 4, none⟩ = some (.slice B m d) ∧ RI w lo B d m x.proof := by
 obtain ⟨vs, h1, h2, h3⟩ := h.ex
 obtain ⟨g, off, v, h4, h5, h6, h7, h8, h9⟩ := Rs.at_ h1 (fun _ => rfl) hk
 have hg : xs[k]? = some xs[k] := List.getElem?_eq_getElem (by omega)
 obtain ⟨e1, e, hr⟩ := h3 k v _ h8 hg
 refine ⟨g, off, xs[k], v.A, v.c, v.n, h4, h5, h6, List.drop_eq_getElem_cons (by omega), hg, ?_, ?_, ?_, ?_, h9 4 _ (by omega) rfl, hr⟩
 · rw [← e1]; simpa using h9 0 _ (by omega) rfl
 · rw [← e]; exact h9 1 _ (by omega) rfl
 · rw [← e]; exact h9 2 _ (by omega) rfl
 · rw [← e]; exact h9 3 _ (by omega) rfl
theorem Rs.big {α : Type} {enc : α → List Value} {sz : Nat} {xs : List α} (h : Rs enc sz w lo A c n xs) : n ≤ 9223372036854775807 := by
 have := h.2.le; have := h.2.cap; unfold maxLen at this; omega
theorem RG.len {gs : List Sw.Gate} (h : RG w lo A c n gs) : n = gs.length ∧ n ≤ 9223372036854775807 := by
 obtain ⟨vs, h1, h2, _⟩ := h.ex
 exact ⟨h2, h1.big⟩
theorem RX.len {xs : List Sw.Msg} (h : RX w lo A c n xs) : n = xs.length ∧ n ≤ 9223372036854775807 := by
 obtain ⟨vs, h1, h2, _⟩ := h.ex
 exact ⟨h2, h1.big⟩
end
end Go.Proofs.YtnnoiagommiapaaGreat
