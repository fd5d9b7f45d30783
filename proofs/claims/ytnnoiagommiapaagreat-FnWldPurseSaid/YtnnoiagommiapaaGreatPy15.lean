/- Texts joined: LawTo, LawTo2, MktA, CopyK, DrawE, Draw2, WldA. -/
import Derived.Test.YtnnoiagommiapaaGreatPy11
import Derived.Test.YtnnoiagommiapaaGreatPy9
import Derived.Test.YtnnoiagommiapaaGreatPy13
import Derived.Test.YtnnoiagommiapaaGreatPy12
import Derived.Test.YtnnoiagommiapaaGreatPy14
import Derived.Laws.IdiomCopy
import Derived.ArgAppend
import Derived.Lib.SliceRun
set_option maxRecDepth 100000
set_option linter.unusedSimpArgs false
set_option linter.unusedVariables false
namespace Go.Proofs.YtnnoiagommiapaaGreat
open Go.RowKit Go
set_option maxHeartbeats 400000
section
variable {w : World} {lo c n k : Nat} {A : Option Addr}
theorem at_OD {xs : List Sw.Deal} (h : OwD w lo A c n xs) (hk : k < n) :
   ∃ g x, A = some ⟨g, 0, none⟩ ∧ lo ≤ g ∧ g < w.heap.size ∧ xs[k]? = some x ∧ w.cell? ⟨g, k * 5, none⟩ = some (.int .i64 x.ticket) ∧ w.cell? ⟨g, k * 5 + 1, none⟩ = some (.int .i64 x.seller) ∧
     w.cell? ⟨g, k * 5 + 2, none⟩ = some (.int .i64 x.price) ∧ w.cell? ⟨g, k * 5 + 3, none⟩ = some (.int .i64 x.buyer) ∧ w.cell? ⟨g, k * 5 + 4, none⟩ = some (.int .i64 x.due) ∧ (∀ i, w.frozen? ⟨g, i, none⟩ = false) := by
 obtain ⟨g, x, h1, h2, h3, h4, h5, h6⟩ := Ow.at_ h (fun _ => rfl) hk
 exact ⟨g, x, h1, h2, h3, h4, by simpa using h5 0 _ (by omega) rfl, h5 1 _ (by omega) rfl, h5 2 _ (by omega) rfl, h5 3 _ (by omega) rfl, h5 4 _ (by omega) rfl, h6⟩
theorem at_OGV {xs : List GV} (h : OwGV w lo A c n xs) (hk : k < n) :
   ∃ g x, A = some ⟨g, 0, none⟩ ∧ lo ≤ g ∧ g < w.heap.size ∧ xs[k]? = some x ∧ w.cell? ⟨g, k * 4, none⟩ = some (.int .i64 x.h.size) ∧ w.cell? ⟨g, k * 4 + 1, none⟩ = some (.int .i64 x.h.log) ∧
     w.cell? ⟨g, k * 4 + 2, none⟩ = some (.int .i64 x.h.own) ∧ w.cell? ⟨g, k * 4 + 3, none⟩ = some (.slice x.A x.n x.c) ∧ (∀ i, w.frozen? ⟨g, i, none⟩ = false) := by
 obtain ⟨g, x, h1, h2, h3, h4, h5, h6⟩ := Ow.at_ h (fun _ => rfl) hk
 exact ⟨g, x, h1, h2, h3, h4, by simpa using h5 0 _ (by omega) rfl, h5 1 _ (by omega) rfl, h5 2 _ (by omega) rfl, h5 3 _ (by omega) rfl, h6⟩
theorem at_OXV {xs : List XV} (h : OwXV w lo A c n xs) (hk : k < n) :
   ∃ g x, A = some ⟨g, 0, none⟩ ∧ lo ≤ g ∧ g < w.heap.size ∧ xs[k]? = some x ∧ w.cell? ⟨g, k * 5, none⟩ = some (.int .i64 x.g) ∧ w.cell? ⟨g, k * 5 + 1, none⟩ = some (.int .i64 x.h.size) ∧ w.cell? ⟨g, k * 5 + 2, none⟩ = some (.int .i64 x.h.log) ∧
     w.cell? ⟨g, k * 5 + 3, none⟩ = some (.int .i64 x.h.own) ∧ w.cell? ⟨g, k * 5 + 4, none⟩ = some (.slice x.A x.n x.c) ∧ (∀ i, w.frozen? ⟨g, i, none⟩ = false) := by
 obtain ⟨g, x, h1, h2, h3, h4, h5, h6⟩ := Ow.at_ h (fun _ => rfl) hk
 exact ⟨g, x, h1, h2, h3, h4, by simpa using h5 0 _ (by omega) rfl, h5 1 _ (by omega) rfl, h5 2 _ (by omega) rfl, h5 3 _ (by omega) rfl, h5 4 _ (by omega) rfl, h6⟩
end
end Go.Proofs.YtnnoiagommiapaaGreat
namespace Go.Proofs.YtnnoiagommiapaaGreat
open Go.RowKit Go
set_option maxHeartbeats 400000
def GatesTo (τ : Nat → Nat) (w : World) (lo g0 k n : Nat) (gs : List Sw.Gate) : Prop :=
 ∃ vs : List GV, OwGV w lo (some ⟨g0, 0, none⟩) n n vs ∧ τ g0 = 8 ∧ ∀ (j : Nat) (v : GV) (g : Sw.Gate), j < k → vs[j]? = some v → gs[j]? = some g → v.h = g.head ∧ OwTI τ (fdS j) w lo v.A v.c v.n g.done
def MsgsTo (τ : Nat → Nat) (w : World) (lo g0 k n : Nat) (xs : List Sw.Msg) : Prop :=
 ∃ vs : List XV, OwXV w lo (some ⟨g0, 0, none⟩) n n vs ∧ τ g0 = 9 ∧ ∀ (j : Nat) (v : XV) (x : Sw.Msg), j < k → vs[j]? = some v → xs[j]? = some x → v.g = x.gate ∧ v.h = x.head ∧ OwTI τ (fpS j) w lo v.A v.c v.n x.proof
theorem GatesTo.start {w : World} {lo g0 n : Nat} {gs : List Sw.Gate} {vs : List GV} (h : OwGV w lo (some ⟨g0, 0, none⟩) n n vs) : GatesTo (fun _ => 8) w lo g0 0 n gs := ⟨vs, h, rfl, fun j v g hj => by omega⟩
theorem MsgsTo.start {w : World} {lo g0 n : Nat} {gs : List Sw.Msg} {vs : List XV} (h : OwXV w lo (some ⟨g0, 0, none⟩) n n vs) : MsgsTo (fun _ => 9) w lo g0 0 n gs := ⟨vs, h, rfl, fun j v g hj => by omega⟩
theorem GatesTo.at_ {τ : Nat → Nat} {w : World} {lo g0 k n j : Nat} {gs : List Sw.Gate} (h : GatesTo τ w lo g0 k n gs) (hj : j < n) :
   ∃ x : GV, lo ≤ g0 ∧ g0 < w.heap.size ∧ w.cell? ⟨g0, j * 4, none⟩ = some (.int .i64 x.h.size) ∧ w.cell? ⟨g0, j * 4 + 1, none⟩ = some (.int .i64 x.h.log) ∧
     w.cell? ⟨g0, j * 4 + 2, none⟩ = some (.int .i64 x.h.own) ∧ w.cell? ⟨g0, j * 4 + 3, none⟩ = some (.slice x.A x.n x.c) ∧ (∀ i, w.frozen? ⟨g0, i, none⟩ = false) := by
 obtain ⟨vs, h1, _, _⟩ := h
 obtain ⟨g, x, hA, h3, h4, _, h5, h6, h7, h8, h9⟩ := at_OGV h1 hj
 cases hA
 exact ⟨x, h3, h4, h5, h6, h7, h8, h9⟩
theorem MsgsTo.at_ {τ : Nat → Nat} {w : World} {lo g0 k n j : Nat} {gs : List Sw.Msg} (h : MsgsTo τ w lo g0 k n gs) (hj : j < n) :
   ∃ x : XV, lo ≤ g0 ∧ g0 < w.heap.size ∧ w.cell? ⟨g0, j * 5, none⟩ = some (.int .i64 x.g) ∧ w.cell? ⟨g0, j * 5 + 1, none⟩ = some (.int .i64 x.h.size) ∧ w.cell? ⟨g0, j * 5 + 2, none⟩ = some (.int .i64 x.h.log) ∧
     w.cell? ⟨g0, j * 5 + 3, none⟩ = some (.int .i64 x.h.own) ∧ w.cell? ⟨g0, j * 5 + 4, none⟩ = some (.slice x.A x.n x.c) ∧ (∀ i, w.frozen? ⟨g0, i, none⟩ = false) := by
 obtain ⟨vs, h1, _, _⟩ := h
 obtain ⟨g, x, hA, h3, h4, _, h5, h6, h7, h8, h9, h10⟩ := at_OXV h1 hj
 cases hA
 exact ⟨x, h3, h4, h5, h6, h7, h8, h9, h10⟩
theorem set_cells_heap {g b : Nat} (h : b ≠ g) : ∀ (vs : List Value) (w : World) (i : Nat), (setCells w g i vs).heap[b]? = w.heap[b]?
 | [], _, _ => rfl
 | v :: vs, w, i => by rw [setCells, set_cells_heap h vs]; exact Below.heap_setCell _ _ _ _ h
theorem set_cells_size {g : Nat} : ∀ (vs : List Value) (w : World) (i : Nat), (setCells w g i vs).heap.size = w.heap.size
 | [], _, _ => rfl
 | v :: vs, w, i => by rw [setCells, set_cells_size vs]; simp
theorem GatesTo.step {τ : Nat → Nat} {w w1 : World} {lo g0 k n g1 m : Nat} {gs : List Sw.Gate} {y : Sw.Gate} (h : GatesTo τ w lo g0 k n gs) (hk : k < n) (hy : gs[k]? = some y) (hb : Ex w w1)
   (ho : OwI w1 w.heap.size (some ⟨g1, 0, none⟩) m m y.done) (hlo : lo ≤ w.heap.size) :
   GatesTo (glue τ w.heap.size (fun _ => fdS k)) (setCells w1 g0 (k * 4) (GV.enc ⟨y.head, some ⟨g1, 0, none⟩, m, m⟩)) lo g0 (k + 1) n gs := by
 obtain ⟨vs, h1, h2, h3⟩ := h
 have hg0 := (h1.blk rfl)
 dsimp only at hg0
 have h1' : OwGV w1 lo (some ⟨g0, 0, none⟩) n n vs := h1.keep (KF.ex hb (KF.refl _ _))
 refine ⟨_, Ow.put h1' (fun _ => rfl) ⟨y.head, some ⟨g1, 0, none⟩, m, m⟩ rfl hk, ?_, ?_⟩
 · unfold glue; rw [if_pos hg0.2]; exact h2
 · intro j v g hj hv hg
   rw [List.getElem?_set] at hv
   by_cases hjk : k = j
   · subst hjk
     rw [if_pos rfl, if_pos (by rw [← h1.1]; exact hk)] at hv
     cases hv
     rw [hy] at hg
     cases hg
     refine ⟨rfl, ⟨?_, ?_⟩⟩
     · refine (ho.less hlo).keep_ fun a ha => ?_
       cases ha
       have := (ho.blk rfl).1
       exact set_cells_heap (show g1 ≠ g0 by dsimp only at this; omega) _ _ _
     · intro a ha
       cases ha
       have := (ho.blk rfl).1
       unfold glue; dsimp only at this ⊢; rw [if_neg (by omega)]
   · rw [if_neg hjk] at hv
     obtain ⟨e, hr⟩ := h3 j v g (by omega) hv hg
     refine ⟨e, ⟨hr.ow.keep_ fun a ha => ?_, fun a ha => ?_⟩⟩
     · have hlt := (hr.ow.blk ha).2
       rw [set_cells_heap, hb.block _ hlt (fun h => h)]
       intro e
       have := hr.tag a ha
       rw [e, h2] at this
       unfold fdS at this; omega
     · unfold glue; rw [if_pos (hr.ow.blk ha).2]; exact hr.tag a ha
theorem MsgsTo.step {τ : Nat → Nat} {w w1 : World} {lo g0 k n g1 m : Nat} {gs : List Sw.Msg} {y : Sw.Msg} (h : MsgsTo τ w lo g0 k n gs) (hk : k < n) (hy : gs[k]? = some y) (hb : Ex w w1)
   (ho : OwI w1 w.heap.size (some ⟨g1, 0, none⟩) m m y.proof) (hlo : lo ≤ w.heap.size) :
   MsgsTo (glue τ w.heap.size (fun _ => fpS k)) (setCells w1 g0 (k * 5) (XV.enc ⟨y.gate, y.head, some ⟨g1, 0, none⟩, m, m⟩)) lo g0 (k + 1) n gs := by
 obtain ⟨vs, h1, h2, h3⟩ := h
 have hg0 := (h1.blk rfl)
 dsimp only at hg0
 have h1' : OwXV w1 lo (some ⟨g0, 0, none⟩) n n vs := h1.keep (KF.ex hb (KF.refl _ _))
 refine ⟨_, Ow.put h1' (fun _ => rfl) ⟨y.gate, y.head, some ⟨g1, 0, none⟩, m, m⟩ rfl hk, ?_, ?_⟩
 · unfold glue; rw [if_pos hg0.2]; exact h2
 · intro j v g hj hv hg
   rw [List.getElem?_set] at hv
   by_cases hjk : k = j
   · subst hjk
     rw [if_pos rfl, if_pos (by rw [← h1.1]; exact hk)] at hv
     cases hv
     rw [hy] at hg
     cases hg
     refine ⟨rfl, rfl, ⟨?_, ?_⟩⟩
     · refine (ho.less hlo).keep_ fun a ha => ?_
       cases ha
       have := (ho.blk rfl).1
       exact set_cells_heap (show g1 ≠ g0 by dsimp only at this; omega) _ _ _
     · intro a ha
       cases ha
       have := (ho.blk rfl).1
       unfold glue; dsimp only at this ⊢; rw [if_neg (by omega)]
   · rw [if_neg hjk] at hv
     obtain ⟨e1, e, hr⟩ := h3 j v g (by omega) hv hg
     refine ⟨e1, e, ⟨hr.ow.keep_ fun a ha => ?_, fun a ha => ?_⟩⟩
     · have hlt := (hr.ow.blk ha).2
       rw [set_cells_heap, hb.block _ hlt (fun h => h)]
       intro e
       have := hr.tag a ha
       rw [e, h2] at this
       unfold fpS at this; omega
     · unfold glue; rw [if_pos (hr.ow.blk ha).2]; exact hr.tag a ha
theorem GatesTo.all {τ : Nat → Nat} {w : World} {lo g0 n : Nat} {gs : List Sw.Gate} (h : GatesTo τ w lo g0 n n gs) (hn : n = gs.length) : OwG fdS τ w lo (some ⟨g0, 0, none⟩) n n gs := by
 obtain ⟨vs, h1, h2, h3⟩ := h
 exact ⟨vs, ⟨h1, fun a ha => by cases ha; exact h2⟩, hn, fun k v g hv hg => h3 k v g (by have := (List.getElem?_eq_some_iff.1 hg).1; omega) hv hg⟩
theorem MsgsTo.all {τ : Nat → Nat} {w : World} {lo g0 n : Nat} {gs : List Sw.Msg} (h : MsgsTo τ w lo g0 n n gs) (hn : n = gs.length) : OwX fpS τ w lo (some ⟨g0, 0, none⟩) n n gs := by
 obtain ⟨vs, h1, h2, h3⟩ := h
 exact ⟨vs, ⟨h1, fun a ha => by cases ha; exact h2⟩, hn, fun k v g hv hg => h3 k v g (by have := (List.getElem?_eq_some_iff.1 hg).1; omega) hv hg⟩
set_option maxHeartbeats 8000000
theorem sReqOk_c (r : Sw.Req) (w : World) : Calls Tryz.prog 52 #[.agg #[.int .i64 r.user, .int .i64 r.n, .int .i64 r.kind, .int .i64 r.ticket, .int .i64 r.who, .int .i64 r.price]] w fun E w' => E = .returned (.bool (Sw.reqOk r)) ∧ Ex w w' := by
 cases g1 : Sw.inR r.user 1 5
 case false => go_enter Tryz.func52, Tryz.ntmps52; go_wp2_with (first | (go_at_call 99; refine (l1In_c _ _ _ _).mono ?_; rintro E w' ⟨rfl, rfl⟩)); go_ret; exact ⟨ret_b (by simp [Sw.reqOk, g1]), ext_⟩
 cases g2 : Sw.inR r.n 1 99999
 case false => go_enter Tryz.func52, Tryz.ntmps52; go_wp2_with (first | (go_at_call 99; refine (l1In_c _ _ _ _).mono ?_; rintro E w' ⟨rfl, rfl⟩)); go_ret; exact ⟨ret_b (by simp [Sw.reqOk, g2]), ext_⟩
 cases g3 : Sw.inR r.kind 1 6
 case false => go_enter Tryz.func52, Tryz.ntmps52; go_wp2_with (first | (go_at_call 99; refine (l1In_c _ _ _ _).mono ?_; rintro E w' ⟨rfl, rfl⟩)); go_ret; exact ⟨ret_b (by simp [Sw.reqOk, g3]), ext_⟩
 cases g4 : Sw.inR r.ticket 0 7
 case false => go_enter Tryz.func52, Tryz.ntmps52; go_wp2_with (first | (go_at_call 99; refine (l1In_c _ _ _ _).mono ?_; rintro E w' ⟨rfl, rfl⟩)); go_ret; exact ⟨ret_b (by simp [Sw.reqOk, g4]), ext_⟩
 have e : Sw.reqOk r = (if r.kind = 1 then Sw.inR r.who 1 5 && Sw.inR r.price 1 50 else decide (r.who = 0) && (if r.kind = 2 then Sw.inR r.price 1 999 else decide (r.price = 0))) := by simp [Sw.reqOk, g1, g2, g3, g4]
 have He := Lib.hid e; clear e
 by_cases k1 : r.kind = 1
 · have k1' : (r.kind == 1) = true := by simp [k1]
   have K1 := Lib.hid k1; clear k1
   cases g5 : Sw.inR r.who 1 5
   all_goals
     go_enter Tryz.func52, Tryz.ntmps52
     go_wp2_with (first | (go_at_call 99; refine (l1In_c _ _ _ _).mono ?_; rintro E w' ⟨rfl, rfl⟩))
     go_ret
     exact ⟨ret_b (by rw [He.out, if_pos K1.out]; simp [g5]), ext_⟩
 have k1' : (r.kind == 1) = false := by simp [k1]
 cases g5 : (r.who == 0)
 case false =>
   go_enter Tryz.func52, Tryz.ntmps52
   go_wp2_with (first | (go_at_call 99; refine (l1In_c _ _ _ _).mono ?_; rintro E w' ⟨rfl, rfl⟩))
   go_ret
   exact ⟨ret_b (by rw [He.out, if_neg k1]; rw [← beqI, g5]; rfl), ext_⟩
 by_cases k2 : r.kind = 2
 · have k2' : (r.kind == 2) = true := by simp [k2]
   have k2'' : (r.kind != 2) = false := by simp [k2]
   have K2 := Lib.hid k2; clear k2
   cases g6 : Sw.inR r.price 1 999
   all_goals
     go_enter Tryz.func52, Tryz.ntmps52
     go_wp2_with (first | (go_at_call 99; refine (l1In_c _ _ _ _).mono ?_; rintro E w' ⟨rfl, rfl⟩))
     go_ret
     exact ⟨ret_b (by rw [He.out, if_neg k1, if_pos K2.out]; rw [← beqI, g5, g6]; rfl), ext_⟩
 have k2' : (r.kind == 2) = false := by simp [k2]
 have k2'' : (r.kind != 2) = true := by simp [k2]
 cases g6 : (r.price == 0)
 all_goals
   go_enter Tryz.func52, Tryz.ntmps52
   go_wp2_with (first | (go_at_call 99; refine (l1In_c _ _ _ _).mono ?_; rintro E w' ⟨rfl, rfl⟩))
   go_ret
   exact ⟨ret_b (by rw [He.out, if_neg k1, if_neg k2]; rw [← beqI, ← beqI, g5, g6]; rfl), ext_⟩
def buyerOk (clock : Int) (d : Sw.Deal) : Bool := if d.buyer = 0 then decide (d.due = 0) else Sw.inR d.buyer 1 5 && decide (d.buyer ≠ d.seller) && Sw.inR d.due clock (clock + 5)
theorem dealOk_b {clock : Int} {rows : List Sw.Row} {d : Sw.Deal} {r : Sw.Row} (ho : Sw.ownOk rows = true) (hr : Sw.rowAt rows d.ticket = r) :
   Sw.dealOk clock rows d = (Sw.inR d.ticket 0 7 && decide (r.who = d.seller) && decide (d.seller ≠ 0) && !r.used && Sw.inR d.price 1 (Sw.entCap r.face) && buyerOk clock d) := by
 have h1 := Sw.rowAt_ok ho d.ticket
 rw [hr, Sw.rowOk_iff] at h1
 unfold Sw.dealOk
 rw [hr]
 unfold buyerOk
 by_cases hs : r.who = d.seller
 · by_cases h0 : d.seller = 0
   · have : Sw.inR d.seller 1 5 = false := by rw [h0]; rfl
     have this0 : Sw.inR 0 1 5 = false := rfl
     simp [this0, h0]
   · have : Sw.inR d.seller 1 5 = true := Sw.inR_iff.2 (by omega)
     simp [this, h0]
 · simp [hs]
theorem dealsOk_cons {clock : Int} {rows : List Sw.Row} {p : Int} {d : Sw.Deal} {ds : List Sw.Deal} : Sw.dealsOk clock rows p (d :: ds) = (Sw.dealOk clock rows d && decide (p < d.ticket) && Sw.dealsOk clock rows d.ticket ds) := rfl
def LastAt (xs : List Sw.Deal) (k : Nat) (p : Int) : Prop := k = 0 ∧ p = -1 ∨ ∃ j y, k = j + 1 ∧ xs[j]? = some y ∧ y.ticket = p ∧ 0 ≤ p
def mktGate (m : Sw.Mkt) : Bool := (Sw.ownFold m.log).isSome && Sw.monOk m.purses && decide (m.deals.length ≤ 8) && Sw.inR m.clock 0 99999 && decide (m.nums.length = 5) && decide (m.said.length = 5)
theorem mktOk_parts (m : Sw.Mkt) : Sw.mktOk m = (mktGate m && Sw.dealsOk m.clock (Sw.mktRows m) (-1) m.deals && Sw.numsOk m.nums m.said && decide (Sw.monSum m.purses + Sw.mktHeld m ≤ 100000)) := by
 simp [Sw.mktOk, mktGate]
theorem numsOk_at {ns ss : List Int} {k : Nat} {a b : Int} (ha : ns.drop k = a :: ns.drop (k + 1)) (hb : ss.drop k = b :: ss.drop (k + 1)) : Sw.numsOk (ns.drop k) (ss.drop k) = (Sw.numOk a b && Sw.numsOk (ns.drop (k + 1)) (ss.drop (k + 1))) := by rw [ha, hb]; rfl
theorem Ch.setCells {S : Nat → Prop} {a : World} {g : Nat} (hg : S g ∨ a.heap.size ≤ g) : ∀ (vs : List Value) (o : Nat) (w : World), Ch S a w → Ch S a (w.setCells g o vs)
 | [], _, _, h => h
 | v :: r, o, w, h => by rw [World.setCells]; exact Ch.setCells hg r (o + 1) _ (cS h hg v)
set_option maxHeartbeats 2000000
theorem l20Entry_c (rb P : Nat) (n : Int) (w : World) (hr : Rdp w rb P) (hP : P ≤ 999000) (h1 : 1 ≤ n) (h2 : n ≤ 1000000) : Calls Tryz.prog 218 #[.pointer (some ⟨rb, 0, none⟩), .int .i64 n] w fun E w' => ∃ a b c d, E = .returned (.agg #[.int .i64 a, .int .i64 b, .int .i64 c, .int .i64 d]) ∧ Rdp w' rb (P + 10) ∧ Ch (· = rb) w w' := by
 have hlt := hr.lt
 go_enter Tryz.func218, Tryz.ntmps218
 go_upto_if 17 with (first | (go_at_call 92; apply Calls.mono; apply (pickLit (fun _ => True)); (apply Rdp.keep; assumption; (exact kb_)); omega; (first | rfl | (simp; done)); (repeat (first | exact LitQ.nil | (refine LitQ.cons ⟨_, rfl, (by first | exact trivial | omega)⟩ ?_))); omega; (first | omega | (simp only [zq_]; omega)); rintro E w1 ⟨v, x, rfl, hv, hq, hcx, hrd, hb⟩; (try simp only [zq_] at hcx); obtain ⟨hc, hf, hz⟩ := xd hb) | (go_at_call 92; apply Calls.mono; apply pick_c; (apply Rdp.keep; assumption; (exact kb_)); (first | assumption | omega); (first | assumption | omega); rintro E w1 ⟨v, rfl, ⟨hv0, hv1⟩, hrd, hb⟩; obtain ⟨hc, hf, hz⟩ := xd hb))
 obtain ⟨g, hgg⟩ : ∃ g, g = w1.heap.size := ⟨_, rfl⟩
 have hg0 : w.heap.size + 1 ≤ g := by omega
 have Hgg := Lib.hid hgg
 clear hgg
 go_cut [] (fun wx => DrawAt w wx rb w.heap.size g 4 (P + 4))
 case first =>
   go_wp2_with (go_at_call 92; apply Calls.mono; apply (pickLit (fun _ => True)); (apply Rdp.keep; assumption; (exact kb_)); omega; (first | rfl | (simp; done)); (repeat (first | exact LitQ.nil | (refine LitQ.cons ⟨_, rfl, (by first | exact trivial | omega)⟩ ?_))); omega; (first | omega | (simp only [zq_]; omega)); rintro E w1 ⟨v, x, rfl, hv, hq, hcx, hrd, hb⟩; (try simp only [zq_] at hcx); obtain ⟨hc, hf, hz⟩ := xd hb)
   all_goals go_meet
   all_goals (refine ⟨?_, ?_, Rdp.more (Rdp.keep (by assumption) (by (exact kb_))) (by omega), ext_⟩)
   all_goals (try rw [Hgg.out])
   all_goals (repeat (first | with_reducible assumption | exact Ints.new (zs := [_, _, _]) (by first | with_reducible rfl | omega) rfl rfl | exact Ints.new (zs := [_, _, _, _]) (by first | with_reducible rfl | omega) rfl rfl | exact Ints.new (zs := [_, _, _, _, _, _]) (by first | with_reducible rfl | omega) rfl rfl | with_reducible apply Ints.alloc | with_reducible apply Ints.drew | (with_reducible refine Ints.set ?_ rfl) | (with_reducible refine Ints.ch (by assumption) (by first | omega | (simp only [zq_]; omega)) ?_)))
 case rest =>
   ((repeat (rename Ch _ _ _ => zz; clear zz)); (repeat (rename Rdp _ _ _ => zz; clear zz)); (repeat (rename (∀ (b o : Nat), ¬ ((⟨b, 0, none⟩ : Addr) = ⟨b - _ + _, 0, none⟩) → _) => zz; clear zz)))
   rw [← Hgg.out]
   obtain ⟨own, res, rd, hbx⟩ := hcut
   have hzx := hbx.size
   have hgl := own.lt
   have hgr : g ≠ rb := by omega
   obtain ⟨o0, ho0⟩ := own.at_ (i := 0) (by omega); obtain ⟨o1, ho1⟩ := own.at_ (i := 1) (by omega); obtain ⟨o2, ho2⟩ := own.at_ (i := 2) (by omega); obtain ⟨o3, ho3⟩ := own.at_ (i := 3) (by omega); have hof := own.free
   go_upto_if 26 with (go_at_call 93; apply Calls.mono; apply odd_c; (apply Rdp.keep; assumption; (exact kb_)); (first | assumption | omega); (first | assumption | omega); (first | assumption | omega); rintro E w1 ⟨b, rfl, hrd, hb⟩; obtain ⟨hc, hf, hz⟩ := xd hb)
   go_cut [] (fun wx => DrawAt w wx rb w.heap.size g 4 (P + 7))
   case first =>
     go_wp2_with (first | (go_at_call 92; apply Calls.mono; apply (pickLit (fun _ => True)); (apply Rdp.keep; assumption; (exact kb_)); omega; (first | rfl | (simp; done)); (repeat (first | exact LitQ.nil | (refine LitQ.cons ⟨_, rfl, (by first | exact trivial | omega)⟩ ?_))); omega; (first | omega | (simp only [zq_]; omega)); rintro E w1 ⟨v, x, rfl, hv, hq, hcx, hrd, hb⟩; (try simp only [zq_] at hcx); obtain ⟨hc, hf, hz⟩ := xd hb) | (go_at_call 92; apply Calls.mono; apply pick_c; (apply Rdp.keep; assumption; (exact kb_)); (first | assumption | omega); (first | assumption | omega); rintro E w1 ⟨v, rfl, ⟨hv0, hv1⟩, hrd, hb⟩; obtain ⟨hc, hf, hz⟩ := xd hb) | (go_at_call 178; refine (sEntCap_c _ _).mono ?_; rintro E w' ⟨rfl, rfl⟩))
     all_goals go_meet
     all_goals (refine ⟨?_, ?_, Rdp.more (Rdp.keep (by assumption) (by (exact kb_))) (by omega), ext_⟩)
     all_goals (repeat (first | with_reducible assumption | exact Ints.new (zs := [_, _, _]) (by first | with_reducible rfl | omega) rfl rfl | exact Ints.new (zs := [_, _, _, _]) (by first | with_reducible rfl | omega) rfl rfl | exact Ints.new (zs := [_, _, _, _, _, _]) (by first | with_reducible rfl | omega) rfl rfl | with_reducible apply Ints.alloc | with_reducible apply Ints.drew | (with_reducible refine Ints.set ?_ rfl) | (with_reducible refine Ints.ch (by assumption) (by first | omega | (simp only [zq_]; omega)) ?_)))
   case rest =>
     ((repeat (rename Ch _ _ _ => zz; clear zz)); (repeat (rename Rdp _ _ _ => zz; clear zz)); (repeat (rename (∀ (b o : Nat), ¬ ((⟨b, 0, none⟩ : Addr) = ⟨b - _ + _, 0, none⟩) → _) => zz; clear zz)))
     clear own res hzx hgl
     obtain ⟨own, res, rd, hbx⟩ := hcut
     have hzx := hbx.size
     have hgl := own.lt
     obtain ⟨o0, ho0⟩ := own.at_ (i := 0) (by omega); obtain ⟨o1, ho1⟩ := own.at_ (i := 1) (by omega); obtain ⟨o2, ho2⟩ := own.at_ (i := 2) (by omega); obtain ⟨o3, ho3⟩ := own.at_ (i := 3) (by omega); have hof := own.free
     obtain ⟨r0, hr0⟩ := res.at_ (i := 0) (by omega); obtain ⟨r1, hr1⟩ := res.at_ (i := 1) (by omega); obtain ⟨r2, hr2⟩ := res.at_ (i := 2) (by omega); obtain ⟨r3, hr3⟩ := res.at_ (i := 3) (by omega); have hrf := res.free
     go_wp2_with fail
     refine bodyPost_ret (v := .agg #[.int .i64 o0, .int .i64 o1, .int .i64 o2, .int .i64 o3]) (by simp [results, Tryz.results218, go_sem, *]) rfl ?_
     exact ⟨o0, o1, o2, o3, rfl, rd.keep (by (exact kb_)) |>.more (by omega), ext_⟩
set_option maxHeartbeats 2000000
def Sep (A B : Option Addr) : Prop := ∀ a b, A = some a → B = some b → a.block ≠ b.block
theorem entCap_bd (f : Int) : 0 ≤ Sw.entCap f ∧ Sw.entCap f ≤ 60 := by
 unfold Sw.entCap
 split
 · rename_i h
   simp only [Sw.inR, Bool.and_eq_true, decide_eq_true_eq] at h
   omega
 · omega
structure RdCh (w0 w : World) (rb P : Nat) : Prop where
 rd : Rdp w rb P
 ch : Ch (· = rb) w0 w
theorem OI_put {w : World} {lo c n g k : Nat} {A : Option Addr} {xs : List Int} (h : OwI w lo A c n xs) (hA : A = some ⟨g, 0, none⟩) (hk : k < xs.length) (u : Int) : OwI (w.setCell ⟨g, k, none⟩ (.int .i64 u)) lo A c n (xs.set k u) := by
 have := Ow.set h (fun _ => rfl) (j := 0) (u := .int .i64 u) (y := u) hA (List.getElem?_eq_getElem hk) (by omega) rfl
 rwa [Nat.mul_one] at this
theorem pickN_c (rb P N : Nat) (n : Int) (w : World) (hr : Rdp w rb P) (hP : P ≤ 1000000) (hn : n = (N : Int)) (h1 : 1 ≤ N) : Calls Tryz.prog 92 #[.pointer (some ⟨rb, 0, none⟩), .int .i64 n] w fun E w' => ∃ v : Nat, E = .returned (.int .i64 (v : Int)) ∧ v < N ∧ Rdp w' rb (P + 1) ∧ Ch (· = rb) w w' := by
 subst hn
 refine (pick_c rb P N w hr hP (by omega)).mono ?_
 rintro E w' ⟨v, rfl, ⟨h0, h2⟩, h3, h4⟩
 exact ⟨v.toNat, by rw [show ((v.toNat : Nat) : Int) = v by omega], by omega, h3, h4⟩
theorem l20Purses_c (rb P : Nat) (n : Int) (w : World) (hr : Rdp w rb P) (hP : P ≤ 900000) (h1 : 1 ≤ n) (h2 : n ≤ 1000000) : Calls Tryz.prog 107 #[.pointer (some ⟨rb, 0, none⟩), .int .i64 n] w fun E w' => ∃ A c m xs, E = .returned (.slice A m c) ∧ RI w' w.heap.size A c m xs ∧ m ≤ 6 ∧ Rdp w' rb (P + 20) ∧ Ch (· = rb) w w' := by
 have hlt := hr.lt
 go_enter Tryz.func107, Tryz.ntmps107
 go_wp2_with fail
 go_loopw [5, 6] (fun o i wr => ∃ (k : Nat) (B : Option Addr) (d : Nat) (ys : List Int), k ≤ 5 ∧ i = .int .i64 k ∧ o = .slice B k d ∧ Ch (· = rb) w wr ∧ OwI wr w.heap.size B d k ys ∧ Rdp wr rb (P + k)) (fun _ i _ => 5 - (intOf i).toNat)
 case atStart => exact ⟨0, _, 0, [], Nat.zero_le _, rfl, rfl, ext_, Ow.new [] rfl rfl rfl (fun _ => rfl) (Nat.le_refl _) (by omega), hr.keep (by (exact kb_))⟩
 case round =>
   obtain ⟨k, B, d, ys, hk, rfl, rfl, hb, ho, hrd⟩ := hrel
   have hst := xc hb
   obtain ⟨hc, hf, hz⟩ := hst
   by_cases hlt5 : k < 5
   · go_wp2_with (first | (go_at_call 92; apply Calls.mono; apply (pickLit (fun _ => True)); (apply Rdp.keep; assumption; (exact kb_)); omega; (first | rfl | (simp; done)); (repeat (first | exact LitQ.nil | (refine LitQ.cons ⟨_, rfl, (by first | exact trivial | omega)⟩ ?_))); omega; (first | omega | (simp only [zq_]; omega)); rintro E w1 ⟨v, x, rfl, hv, hq, hcx, hrd, hb⟩; (try simp only [zq_] at hcx); obtain ⟨hc, hf, hz⟩ := xd hb) | (at_builtin; apply wpList_app (lo := w.heap.size) el_I one_I rfl rfl rfl rfl; (first | assumption | exact Ow.nil _ _ | (apply Ow.keep; assumption; exact kf_) | (refine own_)); (first | (refine Rs.new [_] (by (first | rfl | (simp only [zq_]; done) | omega)) rfl rfl (fun _ => rfl) (by omega))); omega; exact sz_; intro A1 c1 w2 ho1 hch1 hat1 hex1 hlow1; have hb := hex1 (· = rb) w (by exact ext_) (by omega); have hrd := Rdp.low (Rdp.keep (by assumption) (by exact kb_)) hch1.size hlow1 (by omega); have hz := hch1.size; (try simp only [zq_] at hz); obtain ⟨hc, hf⟩ := low_rules hlow1; clear hex1))
     go_roundw
     case rel => exact ⟨k + 1, A1, c1, _, by omega, by go_num, rfl, hb, ho1, hrd⟩
     case measure => simp [intOf]; omega
   · obtain rfl : k = 5 := by omega
     have hd5 : 5 ≤ d := ho.rs.2.le
     rcases ho.form with ⟨_, h0, _⟩ | ⟨g, cur, rfl, hlo, hltg, -⟩
     · omega
     have hgne : g ≠ rb := by omega
     obtain ⟨hcg, hfg⟩ := Lb.rules (ho.lb rfl)
     have hl5 : ys.length = 5 := ho.1.symm
     go_wp2_with (first | (go_at_call 93; apply Calls.mono; apply odd_c; (apply Rdp.keep; assumption; (exact kb_)); (first | assumption | omega); (first | assumption | omega); (first | assumption | omega); rintro E w1 ⟨b, rfl, hrd, hb⟩; obtain ⟨hc, hf, hz⟩ := xd hb) | (go_at_call 92; apply Calls.mono; apply (pickLit (fun _ => True)); (apply Rdp.keep; assumption; (exact kb_)); omega; (first | rfl | (simp; done)); (repeat (first | exact LitQ.nil | (refine LitQ.cons ⟨_, rfl, (by first | exact trivial | omega)⟩ ?_))); omega; (first | omega | (simp only [zq_]; omega)); rintro E w1 ⟨v, x, rfl, hv, hq, hcx, hrd, hb⟩; (try simp only [zq_] at hcx); obtain ⟨hc, hf, hz⟩ := xd hb) | (go_at_call 92; apply Calls.mono; apply (pickN_c (N := 5)); (apply Rdp.keep; assumption; (exact kb_)); omega; rfl; decide; rintro E w1 ⟨v5, rfl, hv5, hrd, hb⟩; (obtain ⟨hc, hf, hz⟩ := xd hb)) | (go_at_call 92; apply Calls.mono; apply pick_c; (apply Rdp.keep; assumption; (exact kb_)); (first | assumption | omega); (first | assumption | omega); rintro E w1 ⟨v, rfl, ⟨hv0, hv1⟩, hrd, hb⟩; obtain ⟨hc, hf, hz⟩ := xd hb) | (at_builtin; apply wpList_app (lo := w.heap.size) el_I one_I rfl rfl rfl rfl; (first | assumption | exact Ow.nil _ _ | (apply Ow.keep; assumption; exact kf_) | (refine own_)); (first | (refine Rs.new [_] (by (first | rfl | (simp only [zq_]; done) | omega)) rfl rfl (fun _ => rfl) (by omega))); omega; exact sz_; intro A1 c1 w2 ho1 hch1 hat1 hex1 hlow1; have hb := hex1 (· = rb) w (by exact ext_) (by omega); have hrd := Rdp.low (Rdp.keep (by assumption) (by exact kb_)) hch1.size hlow1 (by omega); have hz := hch1.size; (try simp only [zq_] at hz); obtain ⟨hc, hf⟩ := low_rules hlow1; clear hex1))
     all_goals go_ret
     · have hb5 : v5 < ys.length := by omega
       have ho5 := OI_put (show OwI w1 w.heap.size (some ⟨g, 0, none⟩) d 5 ys from ho.keep kf_) rfl (k := v5) hb5 x
       exact ⟨_, _, _, _, rfl, ho5.rs, by decide, Rdp.more (hrd.keep kb_) (by omega), ext_⟩
     · have hrs : RI w1 w.heap.size (some ⟨g, 1, none⟩) (d - 1) 4 (ys.drop 1) := by
         have := RI_drop (k := 1) (show OwI w1 w.heap.size (some ⟨g, 0, none⟩) d 5 ys from ho.keep kf_).rs (by omega)
         simpa [Addr.add_lit] using this
       exact ⟨_, _, _, _, rfl, hrs, by decide, Rdp.more (hrd.keep kb_) (by omega), ext_⟩
     · have ho5 := OI_put (show OwI w1 w.heap.size (some ⟨g, 0, none⟩) d 5 ys from ho.keep kf_) rfl (k := 0) (by omega) (100000 : Int)
       exact ⟨_, _, _, _, rfl, ho5.rs, by decide, Rdp.more (hrd.keep kb_) (by omega), ext_⟩
     · exact ⟨_, _, _, _, rfl, ho1.rs, by decide, Rdp.more (hrd.keep kb_) (by omega), hb⟩
     · exact ⟨_, _, _, _, rfl, (show OwI w1 w.heap.size (some ⟨g, 0, none⟩) d 5 ys from ho.keep kf_).rs, by decide, Rdp.more (hrd.keep kb_) (by omega), ext_⟩
def lineBad (r : Sw.Req) : Bool := !Sw.lineOk r
def gateBad (g : Sw.Gate) : Bool := !Sw.gatOk g
def msgBad (x : Sw.Msg) : Bool := !Sw.msgOk x
theorem req_zero {r : Sw.Req} : decide (r = Sw.reqZ) = (decide (r.user = 0) && (decide (r.n = 0) && (decide (r.kind = 0) && (decide (r.ticket = 0) && (decide (r.who = 0) && decide (r.price = 0)))))) := by
 rw [Bool.eq_iff_iff]; cases r; simp [Sw.reqZ]
def wldGate (x : Sw.World) : Bool := Sw.mktOk x.market && Sw.monOk x.first && decide (x.lines.length ≤ 300) && decide (x.gates.length = 2) && decide (x.bag.length ≤ 6)
theorem wldOk_parts (x : Sw.World) : Sw.wldOk x = (wldGate x && (x.lines.all Sw.lineOk && (x.gates.all Sw.gatOk && x.bag.all Sw.msgOk))) := by
 simp [Sw.wldOk, wldGate, Bool.and_assoc]
end Go.Proofs.YtnnoiagommiapaaGreat
