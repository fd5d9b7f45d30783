/-
  Texts joined: LawTo, LawTo2, LawTo3, Reg.
-/
import Derived.Test.YtdcjadgflenejaaPk10
import Derived.Test.YtdcjadgflenejaaPk12
import Derived.Test.YtdcjadgflenejaaPk13
import Derived.Deep.RegionHeld3
namespace Go.Proofs.Ytdcjadgflenejaa
set_option maxRecDepth 100000
set_option linter.unusedSimpArgs false
set_option linter.unusedVariables false
open Go.RowKit Go
set_option maxHeartbeats 400000

section
variable {w : World} {lo c n k : Nat} {A : Option Addr}
theorem at_OE {xs : List Sw.Ent} (h : OwE w lo A c n xs) (hk : k < n) :
    ∃ g x, A = some ⟨g, 0, none⟩ ∧ lo ≤ g ∧ g < w.heap.size ∧ xs[k]? = some x ∧ w.cell? ⟨g, k * 4, none⟩ = some (.int .i64 x.kind) ∧ w.cell? ⟨g, k * 4 + 1, none⟩ = some (.int .i64 x.ticket) ∧
      w.cell? ⟨g, k * 4 + 2, none⟩ = some (.int .i64 x.who) ∧ w.cell? ⟨g, k * 4 + 3, none⟩ = some (.int .i64 x.price) ∧ (∀ i, w.frozen? ⟨g, i, none⟩ = false) := by
  obtain ⟨g, x, h1, h2, h3, h4, h5, h6⟩ := Ow.at_ h (fun _ => rfl) hk
  exact ⟨g, x, h1, h2, h3, h4, by simpa using h5 0 _ (by omega) rfl, h5 1 _ (by omega) rfl, h5 2 _ (by omega) rfl, h5 3 _ (by omega) rfl, h6⟩
theorem at_OD {xs : List Sw.Deal} (h : OwD w lo A c n xs) (hk : k < n) :
    ∃ g x, A = some ⟨g, 0, none⟩ ∧ lo ≤ g ∧ g < w.heap.size ∧ xs[k]? = some x ∧ w.cell? ⟨g, k * 5, none⟩ = some (.int .i64 x.ticket) ∧ w.cell? ⟨g, k * 5 + 1, none⟩ = some (.int .i64 x.seller) ∧
      w.cell? ⟨g, k * 5 + 2, none⟩ = some (.int .i64 x.price) ∧ w.cell? ⟨g, k * 5 + 3, none⟩ = some (.int .i64 x.buyer) ∧ w.cell? ⟨g, k * 5 + 4, none⟩ = some (.int .i64 x.due) ∧ (∀ i, w.frozen? ⟨g, i, none⟩ = false) := by
  obtain ⟨g, x, h1, h2, h3, h4, h5, h6⟩ := Ow.at_ h (fun _ => rfl) hk
  exact ⟨g, x, h1, h2, h3, h4, by simpa using h5 0 _ (by omega) rfl, h5 1 _ (by omega) rfl, h5 2 _ (by omega) rfl, h5 3 _ (by omega) rfl, h5 4 _ (by omega) rfl, h6⟩
theorem at_OQ {xs : List Sw.Req} (h : OwQ w lo A c n xs) (hk : k < n) :
    ∃ g x, A = some ⟨g, 0, none⟩ ∧ lo ≤ g ∧ g < w.heap.size ∧ xs[k]? = some x ∧ w.cell? ⟨g, k * 6, none⟩ = some (.int .i64 x.user) ∧ w.cell? ⟨g, k * 6 + 1, none⟩ = some (.int .i64 x.n) ∧
      w.cell? ⟨g, k * 6 + 2, none⟩ = some (.int .i64 x.kind) ∧ w.cell? ⟨g, k * 6 + 3, none⟩ = some (.int .i64 x.ticket) ∧ w.cell? ⟨g, k * 6 + 4, none⟩ = some (.int .i64 x.who) ∧ w.cell? ⟨g, k * 6 + 5, none⟩ = some (.int .i64 x.price) ∧ (∀ i, w.frozen? ⟨g, i, none⟩ = false) := by
  obtain ⟨g, x, h1, h2, h3, h4, h5, h6⟩ := Ow.at_ h (fun _ => rfl) hk
  exact ⟨g, x, h1, h2, h3, h4, by simpa using h5 0 _ (by omega) rfl, h5 1 _ (by omega) rfl, h5 2 _ (by omega) rfl, h5 3 _ (by omega) rfl, h5 4 _ (by omega) rfl, h5 5 _ (by omega) rfl, h6⟩
end

theorem toMktReq_c (t : Sw.Req) (w : World) : Calls Try.prog 41 #[.agg #[.int .i64 t.user, .int .i64 t.n, .int .i64 t.kind, .int .i64 t.ticket, .int .i64 t.who, .int .i64 t.price]] w fun E w' => E = .returned (.agg #[.int .i64 t.user, .int .i64 t.n, .int .i64 t.kind, .int .i64 t.ticket, .int .i64 t.who, .int .i64 t.price]) ∧ Ex w w' := by
  go_enter Try.func41, Try.ntmps41
  go_wp2_with fail
  refine bodyPost_ret (v := .agg #[.int .i64 t.user, .int .i64 t.n, .int .i64 t.kind, .int .i64 t.ticket, .int .i64 t.who, .int .i64 t.price]) (by simp [results, Try.results41, go_sem, *]) rfl ?_
  exact ⟨rfl, ext_⟩
theorem toWldLine_c (t : Sw.Req) (w : World) : Calls Try.prog 21 #[.agg #[.int .i64 t.user, .int .i64 t.n, .int .i64 t.kind, .int .i64 t.ticket, .int .i64 t.who, .int .i64 t.price]] w fun E w' => E = .returned (.agg #[.int .i64 t.user, .int .i64 t.n, .int .i64 t.kind, .int .i64 t.ticket, .int .i64 t.who, .int .i64 t.price]) ∧ Ex w w' := by
  go_enter Try.func21, Try.ntmps21
  go_wp2_with (first | (go_at_call 41; refine (toMktReq_c _ _).mono ?_; rintro E w1 ⟨rfl, hb⟩; have hst := xr hb; (try simp only [zA, zC, zD, zN] at hst); obtain ⟨hc, hf, hz⟩ := hst))
  refine bodyPost_ret (v := .agg #[.int .i64 t.user, .int .i64 t.n, .int .i64 t.kind, .int .i64 t.ticket, .int .i64 t.who, .int .i64 t.price]) (by simp [results, Try.results21, go_sem, *]) rfl ?_
  exact ⟨rfl, ext_⟩

theorem toWldLineS_c (A : Option Addr) (c n : Nat) (xs : List Sw.Req) (w : World) (hxs : RQ w 0 A c n xs) (hn : n ≤ 1048576) : Calls Try.prog 7 #[.slice A n c] w fun E w' => ∃ g, E = .returned (.slice (some ⟨g, 0, none⟩) n n) ∧ OwQ w' w.heap.size (some ⟨g, 0, none⟩) n n xs ∧ w.heap.size ≤ g ∧ g < w'.heap.size ∧ Ex w w' := by

  have hl := Lib.hid hxs.1
  go_enter Try.func7, Try.ntmps7
  go_wp2_with (at_make; apply wpList_mk (lo := w.heap.size) el_Q Sw.reqZ z_Q rfl rfl rfl rfl rfl; omega; (unfold maxLen; omega); exact sz_; intro wm hom hbm hzm; have hst := xr hbm; (try simp only [zA, zC, zD, zN] at hst); obtain ⟨hcm, hfm, hzm2⟩ := hst)
  go_loopw [4] (fun i wr => ∃ k : Nat, k ≤ n ∧ i = .int .i64 k ∧ Ex w wr ∧ OwQ wr w.heap.size (some ⟨w.heap.size, 0, none⟩) n n (xs.take k ++ List.replicate (n - k) Sw.reqZ)) (fun i _ => n - (intOf i).toNat)
  case atStart => exact ⟨0, Nat.zero_le _, rfl, by assumption, by simpa using hom⟩
  case round =>
    obtain ⟨k, hk, rfl, hb2, hrel⟩ := hrel
    have hst := Ex.rules hb2 rfl
    obtain ⟨hc2, hf2, hz2⟩ := hst
    by_cases hlt : k < n
    · obtain ⟨g, off, y, rfl, hg0, hg, hd, hy, hca0, hca1, hca2, hca3, hca4, hca5⟩ := at_Q hxs hlt
      obtain ⟨g', x', hA', hg0', hg', hx', hcb0, hcb1, hcb2, hcb3, hcb4, hcb5, hfr⟩ := at_OQ hrel hlt
      cases hA'
      have Ho := Lib.hid hrel
      have Hy := Lib.hid hy
      clear hrel hd hy hx'
      go_wp2_with (go_at_call 21; refine (toWldLine_c _ _).mono ?_; rintro E w1 ⟨rfl, hb⟩; have hst := xr hb; (try simp only [zA, zC, zD, zN] at hst); obtain ⟨hc, hf, hz⟩ := hst)
      go_roundw
      case rel =>
        refine ⟨k + 1, by omega, by go_num, (by exact ext_), ?_⟩
        have key := fun W (h : OwQ W w.heap.size (some ⟨w.heap.size, 0, none⟩) n n (xs.take k ++ List.replicate (n - k) Sw.reqZ)) => Ow.put h (fun _ => rfl) y rfl hlt
        rw [take_set_step hl.out hlt Hy.out] at key
        exact key _ (Ow.keep Ho.out (by (exact kf_)))
      case measure => simp [intOf]; omega
    · have Hrel := Lib.hid hrel; clear hrel
      go_wp2_with fail
      go_ret
      have := Hrel.out
      obtain rfl : k = n := by omega
      rw [Nat.sub_self, List.take_of_length_le (by have := hl.out; omega)] at this
      exact ⟨_, rfl, by simpa using this, Nat.le_refl _, (this.blk rfl).2, (by exact ext_)⟩

end Go.Proofs.Ytdcjadgflenejaa

namespace Go.Proofs.Ytdcjadgflenejaa
set_option maxRecDepth 100000
set_option linter.unusedSimpArgs false
set_option linter.unusedVariables false
open Go.RowKit Go
set_option maxHeartbeats 400000

theorem set_cells_heap {g b : Nat} (h : b ≠ g) : ∀ (vs : List Value) (w : World) (i : Nat), (setCells w g i vs).heap[b]? = w.heap[b]?
  | [], _, _ => rfl
  | v :: vs, w, i => by rw [setCells, set_cells_heap h vs]; exact Below.heap_setCell _ _ _ _ h
theorem set_cells_size {g : Nat} : ∀ (vs : List Value) (w : World) (i : Nat), (setCells w g i vs).heap.size = w.heap.size
  | [], _, _ => rfl
  | v :: vs, w, i => by rw [setCells, set_cells_size vs]; simp
end Go.Proofs.Ytdcjadgflenejaa

namespace Go.Proofs.Ytdcjadgflenejaa
set_option maxRecDepth 100000
set_option linter.unusedSimpArgs false
set_option linter.unusedVariables false
open Go.RowKit Go
set_option maxHeartbeats 400000

def tau5 (a b c d : Nat) : Nat → Nat := fun x => if x = a then 1 else if x = b then 2 else if x = c then 3 else if x = d then 4 else 5
section
variable {a b c d e : Nat}
theorem tau5_1 : tau5 a b c d a = 1 := if_pos rfl
theorem tau5_2 (h : a < b) : tau5 a b c d b = 2 := by unfold tau5; rw [if_neg (by omega), if_pos rfl]
theorem tau5_3 (h : a < c) (h2 : b < c) : tau5 a b c d c = 3 := by unfold tau5; rw [if_neg (by omega), if_neg (by omega), if_pos rfl]
theorem tau5_4 (h : a < d) (h2 : b < d) (h3 : c < d) : tau5 a b c d d = 4 := by unfold tau5; rw [if_neg (by omega), if_neg (by omega), if_neg (by omega), if_pos rfl]
theorem tau5_5 (h : a < e) (h2 : b < e) (h3 : c < e) (h4 : d < e) : tau5 a b c d e = 5 := by unfold tau5; rw [if_neg (by omega), if_neg (by omega), if_neg (by omega), if_neg (by omega)]
end
section
variable {α : Type} {enc : α → List Value} {sz : Nat} {e : TypeId} {fd fp τ τ' : Nat → Nat} {t : Nat} {w w' : World} {lo lo' c n k : Nat} {A : Option Addr} {xs : List α}
theorem OwT.one {g : Nat} (h : Ow enc sz e w lo (some ⟨g, 0, none⟩) c n xs) (ht : τ g = t) : OwT enc sz e τ t w lo (some ⟨g, 0, none⟩) c n xs := ⟨h, fun a ha => by cases ha; exact ht⟩
theorem OwT.keepF (h : OwT enc sz e τ t w lo A c n xs) (hk : KF lo w w') : OwT enc sz e τ t w' lo A c n xs := h.keep (.of hk)
theorem OwM.keepF {aL : Option Addr} {aLc aLn : Nat} {aP : Option Addr} {aPc aPn : Nat} {aD : Option Addr} {aDc aDn : Nat} {aN : Option Addr} {aNc aNn : Nat} {aS : Option Addr} {aSc aSn : Nat} {m : Sw.Mkt} (h : OwM τ w lo aL aLc aLn aP aPc aPn aD aDc aDn aN aNc aNn aS aSc aSn m) (hk : KF lo w w') : OwM τ w' lo aL aLc aLn aP aPc aPn aD aDc aDn aN aNc aNn aS aSc aSn m := h.keep fun _ _ _ => .of hk
theorem OwM.glueL {aL : Option Addr} {aLc aLn : Nat} {aP : Option Addr} {aPc aPn : Nat} {aD : Option Addr} {aDc aDn : Nat} {aN : Option Addr} {aNc aNn : Nat} {aS : Option Addr} {aSc aSn : Nat} {m : Sw.Mkt} (h : OwM τ w lo aL aLc aLn aP aPc aPn aD aDc aDn aN aNc aNn aS aSc aSn m) (hk : w.heap.size ≤ k) : OwM (glue τ k τ') w lo aL aLc aLn aP aPc aPn aD aDc aDn aN aNc aNn aS aSc aSn m := h.retag fun b hb => if_pos (by omega)
theorem OwT.rs0 (h : OwT enc sz e τ t w lo A c n xs) (hk : KF lo w w') : Rs enc sz w' 0 A c n xs := h.rs.at0 hk
theorem OwM.rm0 {aL : Option Addr} {aLc aLn : Nat} {aP : Option Addr} {aPc aPn : Nat} {aD : Option Addr} {aDc aDn : Nat} {aN : Option Addr} {aNc aNn : Nat} {aS : Option Addr} {aSc aSn : Nat} {m : Sw.Mkt} (h : OwM τ w lo aL aLc aLn aP aPc aPn aD aDc aDn aN aNc aNn aS aSc aSn m) (hk : KF lo w w') : RM w' 0 aL aLc aLn aP aPc aPn aD aDc aDn aN aNc aNn aS aSc aSn m := h.rm.at0 hk
end

end Go.Proofs.Ytdcjadgflenejaa

namespace Go.Proofs.Ytdcjadgflenejaa
set_option maxRecDepth 100000
set_option linter.unusedSimpArgs false
set_option linter.unusedVariables false
open Go
section
variable {P : Program} {ops : Array Oper} {Q : Exit → Act → World → Prop} {md : Region.Mode} {S : World → Prop}
/-- An operation that is not wanted. -/
theorem regU (i d : Nat) {oi : Oper} {fuel : Nat} {listed : Array Bool} {a : Act} {w : World} (hi : ops[i]? = some oi) (hd : oi.dst = some d)
    (hs : Region.noSelect ops = true) (hf : Region.free md ops listed i = true) (hr : (Region.ready md ops listed).contains i = true)
    (hQ : ∀ c a w, Q (.panic c) (a.put (some d) undef) w → Q (.panic c) a w) (hw : Region.wanted oi (yielded ops a.tmps) = false) (hS : S w)
    (h : wpAnyH P md ops Q S fuel (listed.setIfInBounds i true) (a.put (some d) undef) w) : wpAnyH P md ops Q S (fuel + 1) listed a w :=
  wpAnyH_take (v := undef) hi hs hf hr (by rw [hd]; exact hQ) (Or.inr ⟨hw, rfl⟩) hS (by rw [hd]; exact h)
/-- One that is wanted, and yields v wherever S holds. -/
theorem regT (i d : Nat) {v : Value} {oi : Oper} {fuel : Nat} {listed : Array Bool} {a : Act} {w : World} (hi : ops[i]? = some oi) (hd : oi.dst = some d)
    (hs : Region.noSelect ops = true) (hf : Region.free md ops listed i = true) (hr : (Region.ready md ops listed).contains i = true)
    (hQ : ∀ c a w, Q (.panic c) (a.put (some d) v) w → Q (.panic c) a w) (hw : Region.wanted oi (yielded ops a.tmps) = true) (hy : ∀ w, S w → (execOp a.eval oi).run P w = .ok (.value v) w) (hS : S w)
    (h : wpAnyH P md ops Q S fuel (listed.setIfInBounds i true) (a.put (some d) v) w) : wpAnyH P md ops Q S (fuel + 1) listed a w :=
  wpAnyH_take (v := v) hi hs hf hr (by rw [hd]; exact hQ) (Or.inl ⟨hw, hy⟩) hS (by rw [hd]; exact h)
/-- A region walked by what holds behind so many more operations, in whatever order they come up. -/
theorem wpAnyH_inv {Inv : Nat → Array Bool → Act → World → Prop} {k : Nat}
    (h0 : ∀ l a w, Inv 0 l a w → wpAnyH P md ops Q S k l a w)
    (hd : ∀ n l a w, Inv (n + 1) l a w → Region.ready md ops l ≠ [])
    (hs : ∀ n l a w, Inv (n + 1) l a w → ∀ i ∈ Region.ready md ops l, wpOp P ops Q i (fun a' w' => S w' ∧ Inv n (l.setIfInBounds i true) a' w') a w) :
    ∀ n l a w, Inv n l a w → wpAnyH P md ops Q S (n + k) l a w
  | 0, l, a, w, h => by rw [Nat.zero_add]; exact h0 l a w h
  | n + 1, l, a, w, h => by
    rw [show n + 1 + k = n + k + 1 by omega]
    exact ⟨fun he => absurd he (hd n l a w h), fun i hi => wpOp_mono (fun a' w' h' => ⟨h'.1, wpAnyH_inv h0 hd hs n _ _ _ h'.2⟩) (hs n l a w h i hi)⟩
end
end Go.Proofs.Ytdcjadgflenejaa

