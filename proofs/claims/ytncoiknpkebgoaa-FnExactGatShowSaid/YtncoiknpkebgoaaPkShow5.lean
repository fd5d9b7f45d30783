/-
  Texts joined: LawTo2, LawTo3, Reg, Mkt2, Mkt3, Plain4, Plain5, Plain6, Plain7.
-/
import Derived.Test.YtncoiknpkebgoaaPkShow4
import Derived.Deep.RegionHeld3
import Derived.Test.YtncoiknpkebgoaaPkShow3
namespace Go.Proofs.Ytncoiknpkebgoaa
set_option maxRecDepth 100000
set_option linter.unusedSimpArgs false
set_option linter.unusedVariables false
open Go.RowKit Go
set_option maxHeartbeats 400000

theorem toWldMsg_c (q : Int) (t : Sw.Head) (A : Option Addr) (c n : Nat) (xs : List Int) (w : World) (hxs : RI w 0 A c n xs) (hn : n ≤ 4194304) : Calls Try.prog 158 #[.agg #[.int .i64 q, .int .i64 t.size, .int .i64 t.log, .int .i64 t.own, .slice A n c]] w fun E w' => ∃ g, E = .returned (.agg #[.int .i64 q, .int .i64 t.size, .int .i64 t.log, .int .i64 t.own, .slice (some ⟨g, 0, none⟩) n n]) ∧ OwI w' w.heap.size (some ⟨g, 0, none⟩) n n xs ∧ w.heap.size ≤ g ∧ g < w'.heap.size ∧ Ex w w' := by
  go_enter Try.func158, Try.ntmps158
  go_wp2_with (first | (go_at_call 135; refine (toHedHead_c _ _).mono ?_; rintro E w1 ⟨rfl, hb⟩; have hst := xr hb; (try simp only [zA, zC, zD, zN] at hst); obtain ⟨hc, hf, hz⟩ := hst) | (go_at_call 54; apply Calls.mono; apply toIntS_c; ((first | (apply Rs.at0; assumption) | (apply Ow.rs0; assumption)); exact kf_); (first | assumption | omega); rintro E w1 ⟨g, rfl, hr, hge, hlt, hb⟩; (try simp only [zA, zC, zD, zN] at hge); (try simp only [zA, zC, zD, zN] at hlt); have hst := xr hb; (try simp only [zA, zC, zD, zN] at hst); obtain ⟨hc, hf, hz⟩ := hst))
  refine bodyPost_ret (v := .agg #[.int .i64 q, .int .i64 t.size, .int .i64 t.log, .int .i64 t.own, .slice (some ⟨g, 0, none⟩) n n]) (by simp [results, Try.results158, go_sem, *]) rfl ?_
  exact ⟨g, rfl, (hr.keep (by (exact kf_))).less (by exact sz_), (by exact sz_), (by exact sz_), ext_⟩

/-- So many gates have been made: their own slices have marks of their own. -/
def GatesTo (τ : Nat → Nat) (w : World) (lo g0 k n : Nat) (gs : List Sw.Gate) : Prop :=
  ∃ vs : List GV, OwGV w lo (some ⟨g0, 0, none⟩) n n vs ∧ τ g0 = 8 ∧ ∀ (j : Nat) (v : GV) (g : Sw.Gate), j < k → vs[j]? = some v → gs[j]? = some g → v.h = g.head ∧ OwTI τ (fdS j) w lo v.A v.c v.n g.done
def MsgsTo (τ : Nat → Nat) (w : World) (lo g0 k n : Nat) (xs : List Sw.Msg) : Prop :=
  ∃ vs : List XV, OwXV w lo (some ⟨g0, 0, none⟩) n n vs ∧ τ g0 = 9 ∧ ∀ (j : Nat) (v : XV) (x : Sw.Msg), j < k → vs[j]? = some v → xs[j]? = some x → v.g = x.gate ∧ v.h = x.head ∧ OwTI τ (fpS j) w lo v.A v.c v.n x.proof
theorem GatesTo.start {w : World} {lo g0 n : Nat} {gs : List Sw.Gate} {vs : List GV} (h : OwGV w lo (some ⟨g0, 0, none⟩) n n vs) : GatesTo (fun _ => 8) w lo g0 0 n gs := ⟨vs, h, rfl, fun j v g hj => by omega⟩
theorem MsgsTo.start {w : World} {lo g0 n : Nat} {gs : List Sw.Msg} {vs : List XV} (h : OwXV w lo (some ⟨g0, 0, none⟩) n n vs) : MsgsTo (fun _ => 9) w lo g0 0 n gs := ⟨vs, h, rfl, fun j v g hj => by omega⟩
/-- The element's cells, before. -/
theorem GatesTo.at_ {τ : Nat → Nat} {w : World} {lo g0 k n j : Nat} {gs : List Sw.Gate} (h : GatesTo τ w lo g0 k n gs) (hj : j < n) :
    ∃ x : GV, lo ≤ g0 ∧ g0 < w.heap.size ∧ w.cell? ⟨g0, j * 4, none⟩ = some (.int .i64 x.h.size) ∧ w.cell? ⟨g0, j * 4 + 1, none⟩ = some (.int .i64 x.h.log) ∧
      w.cell? ⟨g0, j * 4 + 2, none⟩ = some (.int .i64 x.h.own) ∧ w.cell? ⟨g0, j * 4 + 3, none⟩ = some (.slice x.A x.n x.c) ∧ (∀ i, w.frozen? ⟨g0, i, none⟩ = false) := by
  obtain ⟨vs, h1, _, _⟩ := h
  obtain ⟨g, x, hA, h3, h4, _, h5, h6, h7, h8, h9⟩ := at_OGV h1 hj
  cases hA
  exact ⟨x, h3, h4, h5, h6, h7, h8, h9⟩
theorem MsgsTo.at_ {τ : Nat → Nat} {w : World} {lo g0 k n j : Nat} {gs : List Sw.Msg} (h : MsgsTo τ w lo g0 k n gs) (hj : j < n) :
    ∃ x : XV, lo ≤ g0 ∧ g0 < w.heap.size ∧ w.cell? ⟨g0, j * 5, none⟩ = some (.int .i64 x.g) ∧ w.cell? ⟨g0, j * 5 + 1, none⟩ = some (.int .i64 x.h.size) ∧ w.cell? ⟨g0, j * 5 + 2, none⟩ = some (.int .i64 x.h.log) ∧
      w.cell? ⟨g0, j * 5 + 3, none⟩ = some (.int .i64 x.h.own) ∧ w.cell? ⟨g0, j * 5 + 4, none⟩ = some (.slice x.A x.n x.c) ∧ (∀ i, w.frozen? ⟨g0, i, none⟩ = false) := by
  obtain ⟨vs, h1, _, _⟩ := h
  obtain ⟨g, x, hA, h3, h4, _, h5, h6, h7, h8, h9, h10⟩ := at_OXV h1 hj
  cases hA
  exact ⟨x, h3, h4, h5, h6, h7, h8, h9, h10⟩
theorem set_cells_heap {g b : Nat} (h : b ≠ g) : ∀ (vs : List Value) (w : World) (i : Nat), (setCells w g i vs).heap[b]? = w.heap[b]?
  | [], _, _ => rfl
  | v :: vs, w, i => by rw [setCells, set_cells_heap h vs]; exact Below.heap_setCell _ _ _ _ h
theorem set_cells_size {g : Nat} : ∀ (vs : List Value) (w : World) (i : Nat), (setCells w g i vs).heap.size = w.heap.size
  | [], _, _ => rfl
  | v :: vs, w, i => by rw [setCells, set_cells_size vs]; simp
/-- One gate more. -/
theorem GatesTo.step {τ : Nat → Nat} {w w1 : World} {lo g0 k n g1 m : Nat} {gs : List Sw.Gate} {y : Sw.Gate} (h : GatesTo τ w lo g0 k n gs) (hk : k < n) (hy : gs[k]? = some y) (hb : Ex w w1)
    (ho : OwI w1 w.heap.size (some ⟨g1, 0, none⟩) m m y.done) (hlo : lo ≤ w.heap.size) :
    GatesTo (glue τ w.heap.size (fun _ => fdS k)) (setCells w1 g0 (k * 4) (GV.enc ⟨y.head, some ⟨g1, 0, none⟩, m, m⟩)) lo g0 (k + 1) n gs := by
  obtain ⟨vs, h1, h2, h3⟩ := h
  have hg0 := (h1.blk rfl)
  dsimp only at hg0
  have h1' : OwGV w1 lo (some ⟨g0, 0, none⟩) n n vs := h1.keep (KF.ex hb (KF.refl _ _))
  refine ⟨_, Ow.put h1' (fun _ => rfl) ⟨y.head, some ⟨g1, 0, none⟩, m, m⟩ rfl hk, ?_, ?_⟩
  · unfold glue; rw [if_pos hg0.2]; exact h2
  · intro j v g hj hv hg
    rw [List.getElem?_set] at hv
    by_cases hjk : k = j
    · subst hjk
      rw [if_pos rfl, if_pos (by rw [← h1.1]; exact hk)] at hv
      cases hv
      rw [hy] at hg
      cases hg
      refine ⟨rfl, ⟨?_, ?_⟩⟩
      · refine (ho.less hlo).keep_ fun a ha => ?_
        cases ha
        have := (ho.blk rfl).1
        exact set_cells_heap (show g1 ≠ g0 by dsimp only at this; omega) _ _ _
      · intro a ha
        cases ha
        have := (ho.blk rfl).1
        unfold glue; dsimp only at this ⊢; rw [if_neg (by omega)]
    · rw [if_neg hjk] at hv
      obtain ⟨e, hr⟩ := h3 j v g (by omega) hv hg
      refine ⟨e, ⟨hr.ow.keep_ fun a ha => ?_, fun a ha => ?_⟩⟩
      · have hlt := (hr.ow.blk ha).2
        rw [set_cells_heap, hb.block _ hlt (fun h => h)]
        intro e
        have := hr.tag a ha
        rw [e, h2] at this
        unfold fdS at this; omega
      · unfold glue; rw [if_pos (hr.ow.blk ha).2]; exact hr.tag a ha
theorem MsgsTo.step {τ : Nat → Nat} {w w1 : World} {lo g0 k n g1 m : Nat} {gs : List Sw.Msg} {y : Sw.Msg} (h : MsgsTo τ w lo g0 k n gs) (hk : k < n) (hy : gs[k]? = some y) (hb : Ex w w1)
    (ho : OwI w1 w.heap.size (some ⟨g1, 0, none⟩) m m y.proof) (hlo : lo ≤ w.heap.size) :
    MsgsTo (glue τ w.heap.size (fun _ => fpS k)) (setCells w1 g0 (k * 5) (XV.enc ⟨y.gate, y.head, some ⟨g1, 0, none⟩, m, m⟩)) lo g0 (k + 1) n gs := by
  obtain ⟨vs, h1, h2, h3⟩ := h
  have hg0 := (h1.blk rfl)
  dsimp only at hg0
  have h1' : OwXV w1 lo (some ⟨g0, 0, none⟩) n n vs := h1.keep (KF.ex hb (KF.refl _ _))
  refine ⟨_, Ow.put h1' (fun _ => rfl) ⟨y.gate, y.head, some ⟨g1, 0, none⟩, m, m⟩ rfl hk, ?_, ?_⟩
  · unfold glue; rw [if_pos hg0.2]; exact h2
  · intro j v g hj hv hg
    rw [List.getElem?_set] at hv
    by_cases hjk : k = j
    · subst hjk
      rw [if_pos rfl, if_pos (by rw [← h1.1]; exact hk)] at hv
      cases hv
      rw [hy] at hg
      cases hg
      refine ⟨rfl, rfl, ⟨?_, ?_⟩⟩
      · refine (ho.less hlo).keep_ fun a ha => ?_
        cases ha
        have := (ho.blk rfl).1
        exact set_cells_heap (show g1 ≠ g0 by dsimp only at this; omega) _ _ _
      · intro a ha
        cases ha
        have := (ho.blk rfl).1
        unfold glue; dsimp only at this ⊢; rw [if_neg (by omega)]
    · rw [if_neg hjk] at hv
      obtain ⟨e1, e, hr⟩ := h3 j v g (by omega) hv hg
      refine ⟨e1, e, ⟨hr.ow.keep_ fun a ha => ?_, fun a ha => ?_⟩⟩
      · have hlt := (hr.ow.blk ha).2
        rw [set_cells_heap, hb.block _ hlt (fun h => h)]
        intro e
        have := hr.tag a ha
        rw [e, h2] at this
        unfold fpS at this; omega
      · unfold glue; rw [if_pos (hr.ow.blk ha).2]; exact hr.tag a ha
theorem GatesTo.all {τ : Nat → Nat} {w : World} {lo g0 n : Nat} {gs : List Sw.Gate} (h : GatesTo τ w lo g0 n n gs) (hn : n = gs.length) : OwG fdS τ w lo (some ⟨g0, 0, none⟩) n n gs := by
  obtain ⟨vs, h1, h2, h3⟩ := h
  exact ⟨vs, ⟨h1, fun a ha => by cases ha; exact h2⟩, hn, fun k v g hv hg => h3 k v g (by have := (List.getElem?_eq_some_iff.1 hg).1; omega) hv hg⟩
theorem MsgsTo.all {τ : Nat → Nat} {w : World} {lo g0 n : Nat} {gs : List Sw.Msg} (h : MsgsTo τ w lo g0 n n gs) (hn : n = gs.length) : OwX fpS τ w lo (some ⟨g0, 0, none⟩) n n gs := by
  obtain ⟨vs, h1, h2, h3⟩ := h
  exact ⟨vs, ⟨h1, fun a ha => by cases ha; exact h2⟩, hn, fun k v g hv hg => h3 k v g (by have := (List.getElem?_eq_some_iff.1 hg).1; omega) hv hg⟩

theorem toGatGateS_c (A : Option Addr) (c n : Nat) (xs : List Sw.Gate) (w : World) (hxs : RG w 0 A c n xs) (hn : n + dsz xs ≤ 1048576) : Calls Try.prog 76 #[.slice A n c] w fun E w' => ∃ g τ, E = .returned (.slice (some ⟨g, 0, none⟩) n n) ∧ OwG fdS τ w' w.heap.size (some ⟨g, 0, none⟩) n n xs ∧ Ex w w' := by
  have hl := Lib.hid hxs.len.1
  have hn1 : n ≤ 1048576 := by omega
  go_enter Try.func76, Try.ntmps76
  go_wp2_with (at_make; apply wpList_mk (lo := w.heap.size) el_G GV.zero z_G rfl rfl rfl rfl rfl; omega; (unfold maxLen; omega); exact sz_; intro wm hom hbm hzm; have hst := xr hbm; (try simp only [zA, zC, zD, zN] at hst); obtain ⟨hcm, hfm, hzm2⟩ := hst)
  go_loopw [4] (fun i wr => ∃ (k : Nat) (τ : Nat → Nat), k ≤ n ∧ i = .int .i64 k ∧ Ex w wr ∧ GatesTo τ wr w.heap.size w.heap.size k n xs ∧ dsz (xs.drop k) ≤ 1048576) (fun i _ => n - (intOf i).toNat)
  case atStart => exact ⟨0, _, Nat.zero_le _, rfl, by assumption, GatesTo.start hom, by simp; omega⟩
  case round =>
    obtain ⟨k, τ, hk, rfl, hb2, hrel, hds⟩ := hrel
    have hst := Ex.rules hb2 rfl
    obtain ⟨hc2, hf2, hz2⟩ := hst
    by_cases hlt : k < n
    · obtain ⟨g, off, y, B, d, m, rfl, hg0, hg, hd, hy, q0, q1, q2, q3, hr⟩ := at_G hxs hlt
      rw [hd, dsz_cons] at hds
      have hm : m ≤ 1048576 := by have := hr.1; omega
      obtain ⟨x', hg0', hg', p0, p1, p2, p3, hfr⟩ := hrel.at_ hlt
      have Ho := Lib.hid hrel
      have Hy := Lib.hid hy
      have hds2 : dsz (xs.drop (k + 1)) ≤ 1048576 := by omega
      clear hrel hd hy hds
      go_wp2_with (go_at_call 52; apply Calls.mono; apply toGatGate_c; ((first | (apply Rs.at0; assumption) | (apply Ow.rs0; assumption)); exact kf_); (first | assumption | omega); rintro E w1 ⟨g1, rfl, ho1, hge1, hlt1, hb⟩; (try simp only [zA, zC, zD, zN] at hge1); (try simp only [zA, zC, zD, zN] at hlt1); have hst := xr hb; (try simp only [zA, zC, zD, zN] at hst); obtain ⟨hc, hf, hz⟩ := hst)
      go_roundw
      case rel => exact ⟨k + 1, _, by omega, by go_num, ext_, Ho.out.step hlt Hy.out (by assumption) ho1 (by omega), hds2⟩
      case measure => simp [intOf]; omega
    · have Hrel := Lib.hid hrel; clear hrel
      go_wp2_with fail
      go_ret
      have := Hrel.out
      obtain rfl : k = n := by omega
      exact ⟨_, τ, rfl, this.all hl.out, ext_⟩
theorem toWldMsgS_c (A : Option Addr) (c n : Nat) (xs : List Sw.Msg) (w : World) (hxs : RX w 0 A c n xs) (hn : n + psz xs ≤ 1048576) : Calls Try.prog 77 #[.slice A n c] w fun E w' => ∃ g τ, E = .returned (.slice (some ⟨g, 0, none⟩) n n) ∧ OwX fpS τ w' w.heap.size (some ⟨g, 0, none⟩) n n xs ∧ Ex w w' := by
  have hl := Lib.hid hxs.len.1
  have hn1 : n ≤ 1048576 := by omega
  go_enter Try.func77, Try.ntmps77
  go_wp2_with (at_make; apply wpList_mk (lo := w.heap.size) el_X XV.zero z_X rfl rfl rfl rfl rfl; omega; (unfold maxLen; omega); exact sz_; intro wm hom hbm hzm; have hst := xr hbm; (try simp only [zA, zC, zD, zN] at hst); obtain ⟨hcm, hfm, hzm2⟩ := hst)
  go_loopw [4] (fun i wr => ∃ (k : Nat) (τ : Nat → Nat), k ≤ n ∧ i = .int .i64 k ∧ Ex w wr ∧ MsgsTo τ wr w.heap.size w.heap.size k n xs ∧ psz (xs.drop k) ≤ 1048576) (fun i _ => n - (intOf i).toNat)
  case atStart => exact ⟨0, _, Nat.zero_le _, rfl, by assumption, MsgsTo.start hom, by simp; omega⟩
  case round =>
    obtain ⟨k, τ, hk, rfl, hb2, hrel, hds⟩ := hrel
    have hst := Ex.rules hb2 rfl
    obtain ⟨hc2, hf2, hz2⟩ := hst
    by_cases hlt : k < n
    · obtain ⟨g, off, y, B, d, m, rfl, hg0, hg, hd, hy, q0, q1, q2, q3, q4, hr⟩ := at_X hxs hlt
      rw [hd, psz_cons] at hds
      have hm : m ≤ 1048576 := by have := hr.1; omega
      obtain ⟨x', hg0', hg', p0, p1, p2, p3, p4, hfr⟩ := hrel.at_ hlt
      have Ho := Lib.hid hrel
      have Hy := Lib.hid hy
      have hds2 : psz (xs.drop (k + 1)) ≤ 1048576 := by omega
      clear hrel hd hy hds
      go_wp2_with (go_at_call 158; apply Calls.mono; apply toWldMsg_c; ((first | (apply Rs.at0; assumption) | (apply Ow.rs0; assumption)); exact kf_); (first | assumption | omega); rintro E w1 ⟨g1, rfl, ho1, hge1, hlt1, hb⟩; (try simp only [zA, zC, zD, zN] at hge1); (try simp only [zA, zC, zD, zN] at hlt1); have hst := xr hb; (try simp only [zA, zC, zD, zN] at hst); obtain ⟨hc, hf, hz⟩ := hst)
      go_roundw
      case rel => exact ⟨k + 1, _, by omega, by go_num, ext_, Ho.out.step hlt Hy.out (by assumption) ho1 (by omega), hds2⟩
      case measure => simp [intOf]; omega
    · have Hrel := Lib.hid hrel; clear hrel
      go_wp2_with fail
      go_ret
      have := Hrel.out
      obtain rfl : k = n := by omega
      exact ⟨_, τ, rfl, this.all hl.out, ext_⟩
end Go.Proofs.Ytncoiknpkebgoaa

namespace Go.Proofs.Ytncoiknpkebgoaa
set_option maxRecDepth 100000
set_option linter.unusedSimpArgs false
set_option linter.unusedVariables false
open Go.RowKit Go
set_option maxHeartbeats 400000

def tau5 (a b c d : Nat) : Nat → Nat := fun x => if x = a then 1 else if x = b then 2 else if x = c then 3 else if x = d then 4 else 5
section
variable {a b c d e : Nat}
theorem tau5_1 : tau5 a b c d a = 1 := if_pos rfl
theorem tau5_2 (h : a < b) : tau5 a b c d b = 2 := by unfold tau5; rw [if_neg (by omega), if_pos rfl]
theorem tau5_3 (h : a < c) (h2 : b < c) : tau5 a b c d c = 3 := by unfold tau5; rw [if_neg (by omega), if_neg (by omega), if_pos rfl]
theorem tau5_4 (h : a < d) (h2 : b < d) (h3 : c < d) : tau5 a b c d d = 4 := by unfold tau5; rw [if_neg (by omega), if_neg (by omega), if_neg (by omega), if_pos rfl]
theorem tau5_5 (h : a < e) (h2 : b < e) (h3 : c < e) (h4 : d < e) : tau5 a b c d e = 5 := by unfold tau5; rw [if_neg (by omega), if_neg (by omega), if_neg (by omega), if_neg (by omega)]
end
section
variable {α : Type} {enc : α → List Value} {sz : Nat} {e : TypeId} {fd fp τ τ' : Nat → Nat} {t : Nat} {w w' : World} {lo lo' c n k : Nat} {A : Option Addr} {xs : List α}
theorem OwT.one {g : Nat} (h : Ow enc sz e w lo (some ⟨g, 0, none⟩) c n xs) (ht : τ g = t) : OwT enc sz e τ t w lo (some ⟨g, 0, none⟩) c n xs := ⟨h, fun a ha => by cases ha; exact ht⟩
theorem OwT.keepF (h : OwT enc sz e τ t w lo A c n xs) (hk : KF lo w w') : OwT enc sz e τ t w' lo A c n xs := h.keep (.of hk)
theorem OwM.keepF {aL : Option Addr} {aLc aLn : Nat} {aP : Option Addr} {aPc aPn : Nat} {aD : Option Addr} {aDc aDn : Nat} {aN : Option Addr} {aNc aNn : Nat} {aS : Option Addr} {aSc aSn : Nat} {m : Sw.Mkt} (h : OwM τ w lo aL aLc aLn aP aPc aPn aD aDc aDn aN aNc aNn aS aSc aSn m) (hk : KF lo w w') : OwM τ w' lo aL aLc aLn aP aPc aPn aD aDc aDn aN aNc aNn aS aSc aSn m := h.keep fun _ _ _ => .of hk
theorem OwG.keepF {gs : List Sw.Gate} (h : OwG fd τ w lo A c n gs) (hk : KF lo w w') : OwG fd τ w' lo A c n gs := h.keep (.of hk) fun _ => .of hk
theorem OwX.keepF {gs : List Sw.Msg} (h : OwX fp τ w lo A c n gs) (hk : KF lo w w') : OwX fp τ w' lo A c n gs := h.keep (.of hk) fun _ => .of hk
theorem OwW.keepF {aF : Option Addr} {aFc aFn : Nat} {aL : Option Addr} {aLc aLn : Nat} {aP : Option Addr} {aPc aPn : Nat} {aD : Option Addr} {aDc aDn : Nat} {aN : Option Addr} {aNc aNn : Nat} {aS : Option Addr} {aSc aSn : Nat} {aI : Option Addr} {aIc aIn : Nat} {aG : Option Addr} {aGc aGn : Nat} {aB : Option Addr} {aBc aBn : Nat} {x : Sw.World} (h : OwW fd fp τ w lo aF aFc aFn aL aLc aLn aP aPc aPn aD aDc aDn aN aNc aNn aS aSc aSn aI aIc aIn aG aGc aGn aB aBc aBn x) (hk : KF lo w w') : OwW fd fp τ w' lo aF aFc aFn aL aLc aLn aP aPc aPn aD aDc aDn aN aNc aNn aS aSc aSn aI aIc aIn aG aGc aGn aB aBc aBn x := ⟨h.1.keepF hk, h.2.keepF hk, h.3.keepF hk, h.4.keepF hk, h.5.keepF hk⟩
theorem OwM.glueL {aL : Option Addr} {aLc aLn : Nat} {aP : Option Addr} {aPc aPn : Nat} {aD : Option Addr} {aDc aDn : Nat} {aN : Option Addr} {aNc aNn : Nat} {aS : Option Addr} {aSc aSn : Nat} {m : Sw.Mkt} (h : OwM τ w lo aL aLc aLn aP aPc aPn aD aDc aDn aN aNc aNn aS aSc aSn m) (hk : w.heap.size ≤ k) : OwM (glue τ k τ') w lo aL aLc aLn aP aPc aPn aD aDc aDn aN aNc aNn aS aSc aSn m := h.retag fun b hb => if_pos (by omega)
theorem OwG.glueL {gs : List Sw.Gate} (h : OwG fd τ w lo A c n gs) (hk : w.heap.size ≤ k) : OwG fd (glue τ k τ') w lo A c n gs := h.retag fun b hb => if_pos (by omega)
theorem OwX.glueL {gs : List Sw.Msg} (h : OwX fp τ w lo A c n gs) (hk : w.heap.size ≤ k) : OwX fp (glue τ k τ') w lo A c n gs := h.retag fun b hb => if_pos (by omega)
theorem OwT.rs0 (h : OwT enc sz e τ t w lo A c n xs) (hk : KF lo w w') : Rs enc sz w' 0 A c n xs := h.rs.at0 hk
theorem OwM.rm0 {aL : Option Addr} {aLc aLn : Nat} {aP : Option Addr} {aPc aPn : Nat} {aD : Option Addr} {aDc aDn : Nat} {aN : Option Addr} {aNc aNn : Nat} {aS : Option Addr} {aSc aSn : Nat} {m : Sw.Mkt} (h : OwM τ w lo aL aLc aLn aP aPc aPn aD aDc aDn aN aNc aNn aS aSc aSn m) (hk : KF lo w w') : RM w' 0 aL aLc aLn aP aPc aPn aD aDc aDn aN aNc aNn aS aSc aSn m := h.rm.at0 hk
theorem OwW.rw0 {aF : Option Addr} {aFc aFn : Nat} {aL : Option Addr} {aLc aLn : Nat} {aP : Option Addr} {aPc aPn : Nat} {aD : Option Addr} {aDc aDn : Nat} {aN : Option Addr} {aNc aNn : Nat} {aS : Option Addr} {aSc aSn : Nat} {aI : Option Addr} {aIc aIn : Nat} {aG : Option Addr} {aGc aGn : Nat} {aB : Option Addr} {aBc aBn : Nat} {x : Sw.World} (h : OwW fd fp τ w lo aF aFc aFn aL aLc aLn aP aPc aPn aD aDc aDn aN aNc aNn aS aSc aSn aI aIc aIn aG aGc aGn aB aBc aBn x) (hk : KF lo w w') : RW w' 0 aF aFc aFn aL aLc aLn aP aPc aPn aD aDc aDn aN aNc aNn aS aSc aSn aI aIc aIn aG aGc aGn aB aBc aBn x := h.rw_.at0 hk
theorem OwG.rg0 {gs : List Sw.Gate} (h : OwG fd τ w lo A c n gs) (hk : KF lo w w') : RG w' 0 A c n gs := h.rg.at0 hk
theorem OwX.rx0 {gs : List Sw.Msg} (h : OwX fp τ w lo A c n gs) (hk : KF lo w w') : RX w' 0 A c n gs := h.rx.at0 hk
/-- Five pieces that were made one behind the other are a world. -/
theorem OwW.build {w1 w2 w3 w4 w5 W : World} {lo lo1 lo2 lo3 lo4 lo5 : Nat} {aF : Option Addr} {aFc aFn : Nat} {aL : Option Addr} {aLc aLn : Nat} {aP : Option Addr} {aPc aPn : Nat} {aD : Option Addr} {aDc aDn : Nat} {aN : Option Addr} {aNc aNn : Nat} {aS : Option Addr} {aSc aSn : Nat} {aI : Option Addr} {aIc aIn : Nat} {aG : Option Addr} {aGc aGn : Nat} {aB : Option Addr} {aBc aBn : Nat} {x : Sw.World} {τM τG τX : Nat → Nat}
    (h1 : OwI w1 lo1 aF aFc aFn x.first) (h2 : OwM τM w2 lo2 aL aLc aLn aP aPc aPn aD aDc aDn aN aNc aNn aS aSc aSn x.market) (h3 : OwQ w3 lo3 aI aIc aIn x.lines) (h4 : OwG fd τG w4 lo4 aG aGc aGn x.gates) (h5 : OwX fp τX w5 lo5 aB aBc aBn x.bag)
    (l2 : w1.heap.size ≤ lo2) (l3 : w2.heap.size ≤ lo3) (l4 : w3.heap.size ≤ lo4) (l5 : w4.heap.size ≤ lo5) (b2 : lo2 ≤ w2.heap.size) (b3 : lo3 ≤ w3.heap.size) (b4 : lo4 ≤ w4.heap.size) (hl : lo ≤ lo1) (b1 : lo1 ≤ w1.heap.size)
    (k1 : KF lo1 w1 W) (k2 : KF lo2 w2 W) (k3 : KF lo3 w3 W) (k4 : KF lo4 w4 W) (k5 : KF lo5 w5 W) :
    OwW fd fp (glue (fun _ => 6) w1.heap.size (glue τM w2.heap.size (glue (fun _ => 7) w3.heap.size (glue τG w4.heap.size τX)))) W lo aF aFc aFn aL aLc aLn aP aPc aPn aD aDc aDn aN aNc aNn aS aSc aSn aI aIc aIn aG aGc aGn aB aBc aBn x := by
  have p1 : OwTI (fun _ => 6) 6 w1 lo1 aF aFc aFn x.first := ⟨h1, fun _ _ => rfl⟩
  have p3 : OwTQ (fun _ => 7) 7 w3 lo3 aI aIc aIn x.lines := ⟨h3, fun _ _ => rfl⟩
  refine ⟨((p1.glueL (Nat.le_refl _)).keepF k1).less hl, ?_, ?_, ?_, ?_⟩
  · exact (((h2.glueL (Nat.le_refl _)).glueR l2).keepF k2).less (by omega)
  · exact ((((p3.glueL (Nat.le_refl _)).glueR l3).glueR (by omega)).keepF k3).less (by omega)
  · exact (((((h4.glueL (Nat.le_refl _)).glueR l4).glueR (by omega)).glueR (by omega)).keepF k4).less (by omega)
  · exact (((((h5.glueR l5).glueR (by omega)).glueR (by omega)).glueR (by omega)).keepF k5).less (by omega)
end

theorem toMktHouse_c (aL : Option Addr) (aLc aLn : Nat) (aP : Option Addr) (aPc aPn : Nat) (aD : Option Addr) (aDc aDn : Nat) (aN : Option Addr) (aNc aNn : Nat) (aS : Option Addr) (aSc aSn : Nat) (m : Sw.Mkt) (w : World) (hm : RM w 0 aL aLc aLn aP aPc aPn aD aDc aDn aN aNc aNn aS aSc aSn m) (hn : aLn + aPn + aDn + aNn + aSn ≤ 1048576) : Calls Try.prog 45 #[.agg #[.slice aL aLn aLc, .slice aP aPn aPc, .slice aD aDn aDc, .int .i64 m.clock, .slice aN aNn aNc, .slice aS aSn aSc]] w fun E w' => ∃ bL bLc bLn bP bPc bPn bD bDc bDn bN bNc bNn bS bSc bSn τ, E = .returned (.agg #[.slice bL bLn bLc, .slice bP bPn bPc, .slice bD bDn bDc, .int .i64 m.clock, .slice bN bNn bNc, .slice bS bSn bSc]) ∧ OwM τ w' w.heap.size bL bLc bLn bP bPc bPn bD bDc bDn bN bNc bNn bS bSc bSn m ∧ Ex w w' := by
  obtain ⟨m1, m2, m3, m4, m5⟩ := hm
  go_enter Try.func45, Try.ntmps45
  go_wp2_with (first | (go_at_call 121; apply Calls.mono; apply toEntEntryS_c; (apply Rs.at0 m1; (exact kf_)); (first | assumption | omega); rintro E w1 ⟨gL, rfl, hoL, hgeL, hltL, hb⟩; (try simp only [zA, zC, zD, zN] at hgeL); (try simp only [zA, zC, zD, zN] at hltL); have hst := xr hb; (try simp only [zA, zC, zD, zN] at hst); obtain ⟨hc, hf, hz⟩ := hst) | (go_at_call 54; apply Calls.mono; apply toIntS_c; (apply Rs.at0 m2; (exact kf_)); (first | assumption | omega); rintro E w1 ⟨gP, rfl, hoP, hgeP, hltP, hb⟩; (try simp only [zA, zC, zD, zN] at hgeP); (try simp only [zA, zC, zD, zN] at hltP); have hst := xr hb; (try simp only [zA, zC, zD, zN] at hst); obtain ⟨hc, hf, hz⟩ := hst) | (go_at_call 122; apply Calls.mono; apply toMktDealS_c; (apply Rs.at0 m3; (exact kf_)); (first | assumption | omega); rintro E w1 ⟨gD, rfl, hoD, hgeD, hltD, hb⟩; (try simp only [zA, zC, zD, zN] at hgeD); (try simp only [zA, zC, zD, zN] at hltD); have hst := xr hb; (try simp only [zA, zC, zD, zN] at hst); obtain ⟨hc, hf, hz⟩ := hst) | (go_at_call 54; apply Calls.mono; apply toIntS_c; (apply Rs.at0 m4; (exact kf_)); (first | assumption | omega); rintro E w1 ⟨gN, rfl, hoN, hgeN, hltN, hb⟩; (try simp only [zA, zC, zD, zN] at hgeN); (try simp only [zA, zC, zD, zN] at hltN); have hst := xr hb; (try simp only [zA, zC, zD, zN] at hst); obtain ⟨hc, hf, hz⟩ := hst) | (go_at_call 54; apply Calls.mono; apply toIntS_c; (apply Rs.at0 m5; (exact kf_)); (first | assumption | omega); rintro E w1 ⟨gS, rfl, hoS, hgeS, hltS, hb⟩; (try simp only [zA, zC, zD, zN] at hgeS); (try simp only [zA, zC, zD, zN] at hltS); have hst := xr hb; (try simp only [zA, zC, zD, zN] at hst); obtain ⟨hc, hf, hz⟩ := hst))
  refine bodyPost_ret (v := .agg #[.slice (some ⟨gL, 0, none⟩) aLn aLn, .slice (some ⟨gP, 0, none⟩) aPn aPn, .slice (some ⟨gD, 0, none⟩) aDn aDn, .int .i64 m.clock, .slice (some ⟨gN, 0, none⟩) aNn aNn, .slice (some ⟨gS, 0, none⟩) aSn aSn]) (by simp [results, Try.results45, go_sem, *]) rfl ?_
  refine ⟨_, _, _, _, _, _, _, _, _, _, _, _, _, _, _, tau5 gL gP gD gN, rfl, ⟨?_, ?_, ?_, ?_, ?_⟩, ext_⟩
  · exact .one ((hoL.keep (by (exact kf_))).less (by exact sz_)) tau5_1
  · exact .one ((hoP.keep (by (exact kf_))).less (by exact sz_)) (tau5_2 (by omega))
  · exact .one ((hoD.keep (by (exact kf_))).less (by exact sz_)) (tau5_3 (by omega) (by omega))
  · exact .one ((hoN.keep (by (exact kf_))).less (by exact sz_)) (tau5_4 (by omega) (by omega) (by omega))
  · exact .one ((hoS.keep (by (exact kf_))).less (by exact sz_)) (tau5_5 (by omega) (by omega) (by omega) (by omega))

theorem toWldWorld_c (aF : Option Addr) (aFc aFn : Nat) (aL : Option Addr) (aLc aLn : Nat) (aP : Option Addr) (aPc aPn : Nat) (aD : Option Addr) (aDc aDn : Nat) (aN : Option Addr) (aNc aNn : Nat) (aS : Option Addr) (aSc aSn : Nat) (aI : Option Addr) (aIc aIn : Nat) (aG : Option Addr) (aGc aGn : Nat) (aB : Option Addr) (aBc aBn : Nat) (x : Sw.World) (w : World) (hx : RW w 0 aF aFc aFn aL aLc aLn aP aPc aPn aD aDc aDn aN aNc aNn aS aSc aSn aI aIc aIn aG aGc aGn aB aBc aBn x) (hn : aFn + (aLn + aPn + aDn + aNn + aSn) + aIn + (aGn + dsz x.gates) + (aBn + psz x.bag) ≤ 1048576) : Calls Try.prog 15 #[.agg #[.slice aF aFn aFc, .slice aL aLn aLc, .slice aP aPn aPc, .slice aD aDn aDc, .int .i64 x.market.clock, .slice aN aNn aNc, .slice aS aSn aSc, .slice aI aIn aIc, .slice aG aGn aGc, .slice aB aBn aBc]] w fun E w' => ∃ bF bFc bFn bL bLc bLn bP bPc bPn bD bDc bDn bN bNc bNn bS bSc bSn bI bIc bIn bG bGc bGn bB bBc bBn τ, E = .returned (.agg #[.slice bF bFn bFc, .slice bL bLn bLc, .slice bP bPn bPc, .slice bD bDn bDc, .int .i64 x.market.clock, .slice bN bNn bNc, .slice bS bSn bSc, .slice bI bIn bIc, .slice bG bGn bGc, .slice bB bBn bBc]) ∧ OwW fdS fpS τ w' w.heap.size bF bFc bFn bL bLc bLn bP bPc bPn bD bDc bDn bN bNc bNn bS bSc bSn bI bIc bIn bG bGc bGn bB bBc bBn x ∧ Ex w w' := by
  obtain ⟨x1, x2, x3, x4, x5⟩ := hx
  go_enter Try.func15, Try.ntmps15
  go_wp2_with (first | (go_at_call 54; apply Calls.mono; apply toIntS_c; (apply Rs.at0 x1; (exact kf_)); omega; rintro E w1 ⟨gF, rfl, hoF, hgeF, hltF, hb1⟩; have hst := Ex.rules hb1 rfl; (try simp only [World.size_alloc, World.size_setCell, World.size_drew] at hst hgeF hltF); obtain ⟨hc1, hf1, hz1⟩ := hst) | (go_at_call 45; apply Calls.mono; apply toMktHouse_c; (apply RM.at0 x2; (exact kf_)); omega; rintro E w2 ⟨bL, bLc, bLn, bP, bPc, bPn, bD, bDc, bDn, bN, bNc, bNn, bS, bSc, bSn, τM, rfl, hoM, hb2⟩; have hst := Ex.rules hb2 rfl; (try simp only [World.size_alloc, World.size_setCell, World.size_drew] at hst); obtain ⟨hc2, hf2, hz2⟩ := hst) | (go_at_call 75; apply Calls.mono; apply toWldLineS_c; (apply Rs.at0 x3; (exact kf_)); omega; rintro E w3 ⟨gI, rfl, hoI, hgeI, hltI, hb3⟩; have hst := Ex.rules hb3 rfl; (try simp only [World.size_alloc, World.size_setCell, World.size_drew] at hst hgeI hltI); obtain ⟨hc3, hf3, hz3⟩ := hst) | (go_at_call 76; apply Calls.mono; apply toGatGateS_c; (apply RG.at0 x4; (exact kf_)); omega; rintro E w4 ⟨gG, τG, rfl, hoG, hb4⟩; have hst := Ex.rules hb4 rfl; (try simp only [World.size_alloc, World.size_setCell, World.size_drew] at hst); obtain ⟨hc4, hf4, hz4⟩ := hst) | (go_at_call 77; apply Calls.mono; apply toWldMsgS_c; (apply RX.at0 x5; (exact kf_)); omega; rintro E w5 ⟨gB, τX, rfl, hoX, hb5⟩; have hst := Ex.rules hb5 rfl; (try simp only [World.size_alloc, World.size_setCell, World.size_drew] at hst); obtain ⟨hc5, hf5, hz5⟩ := hst))
  refine bodyPost_ret (v := .agg #[.slice (some ⟨gF, 0, none⟩) aFn aFn, .slice bL bLn bLc, .slice bP bPn bPc, .slice bD bDn bDc, .int .i64 x.market.clock, .slice bN bNn bNc, .slice bS bSn bSc, .slice (some ⟨gI, 0, none⟩) aIn aIn, .slice (some ⟨gG, 0, none⟩) aGn aGn, .slice (some ⟨gB, 0, none⟩) aBn aBn]) (by simp [results, Try.results15, go_sem, *]) rfl ?_
  refine ⟨_, _, _, _, _, _, _, _, _, _, _, _, _, _, _, _, _, _, _, _, _, _, _, _, _, _, _, glue (fun _ => 6) w1.heap.size (glue τM w2.heap.size (glue (fun _ => 7) w3.heap.size (glue τG w4.heap.size τX))), rfl, ?_, ext_⟩
  refine OwW.build hoF hoM hoI hoG hoX (by exact sz_) (by exact sz_) (by exact sz_) (by exact sz_) hb2.size hb3.size hb4.size (by exact sz_) hb1.size ?_ ?_ ?_ ?_ ?_
  all_goals (exact kf_)
end Go.Proofs.Ytncoiknpkebgoaa

namespace Go.Proofs.Ytncoiknpkebgoaa
set_option maxRecDepth 100000
set_option linter.unusedSimpArgs false
set_option linter.unusedVariables false
open Go
section
variable {P : Program} {ops : Array Oper} {Q : Exit → Act → World → Prop} {md : Region.Mode} {S : World → Prop}
/-- An operation that is not wanted. -/
theorem regU (i d : Nat) {oi : Oper} {fuel : Nat} {listed : Array Bool} {a : Act} {w : World} (hi : ops[i]? = some oi) (hd : oi.dst = some d)
    (hs : Region.noSelect ops = true) (hf : Region.free md ops listed i = true) (hr : (Region.ready md ops listed).contains i = true)
    (hQ : ∀ c a w, Q (.panic c) (a.put (some d) undef) w → Q (.panic c) a w) (hw : Region.wanted oi (yielded ops a.tmps) = false) (hS : S w)
    (h : wpAnyH P md ops Q S fuel (listed.setIfInBounds i true) (a.put (some d) undef) w) : wpAnyH P md ops Q S (fuel + 1) listed a w :=
  wpAnyH_take (v := undef) hi hs hf hr (by rw [hd]; exact hQ) (Or.inr ⟨hw, rfl⟩) hS (by rw [hd]; exact h)
/-- One that is wanted, and yields v wherever S holds. -/
theorem regT (i d : Nat) {v : Value} {oi : Oper} {fuel : Nat} {listed : Array Bool} {a : Act} {w : World} (hi : ops[i]? = some oi) (hd : oi.dst = some d)
    (hs : Region.noSelect ops = true) (hf : Region.free md ops listed i = true) (hr : (Region.ready md ops listed).contains i = true)
    (hQ : ∀ c a w, Q (.panic c) (a.put (some d) v) w → Q (.panic c) a w) (hw : Region.wanted oi (yielded ops a.tmps) = true) (hy : ∀ w, S w → (execOp a.eval oi).run P w = .ok (.value v) w) (hS : S w)
    (h : wpAnyH P md ops Q S fuel (listed.setIfInBounds i true) (a.put (some d) v) w) : wpAnyH P md ops Q S (fuel + 1) listed a w :=
  wpAnyH_take (v := v) hi hs hf hr (by rw [hd]; exact hQ) (Or.inl ⟨hw, hy⟩) hS (by rw [hd]; exact h)
/-- A region walked by what holds behind so many more operations, in whatever order they come up. -/
theorem wpAnyH_inv {Inv : Nat → Array Bool → Act → World → Prop} {k : Nat}
    (h0 : ∀ l a w, Inv 0 l a w → wpAnyH P md ops Q S k l a w)
    (hd : ∀ n l a w, Inv (n + 1) l a w → Region.ready md ops l ≠ [])
    (hs : ∀ n l a w, Inv (n + 1) l a w → ∀ i ∈ Region.ready md ops l, wpOp P ops Q i (fun a' w' => S w' ∧ Inv n (l.setIfInBounds i true) a' w') a w) :
    ∀ n l a w, Inv n l a w → wpAnyH P md ops Q S (n + k) l a w
  | 0, l, a, w, h => by rw [Nat.zero_add]; exact h0 l a w h
  | n + 1, l, a, w, h => by
    rw [show n + 1 + k = n + k + 1 by omega]
    exact ⟨fun he => absurd he (hd n l a w h), fun i hi => wpOp_mono (fun a' w' h' => ⟨h'.1, wpAnyH_inv h0 hd hs n _ _ _ h'.2⟩) (hs n l a w h i hi)⟩
end
end Go.Proofs.Ytncoiknpkebgoaa

namespace Go.Proofs.Ytncoiknpkebgoaa
set_option maxRecDepth 100000
set_option linter.unusedSimpArgs false
set_option linter.unusedVariables false
open Go.RowKit Go
set_option maxHeartbeats 1000000

/-- Behind an append to what lies from lo on, all that was below is as it was. -/
theorem kL {lo l0 : Nat} {w0 w w' : World} (h : w.heap.size ≤ w'.heap.size ∧ ∀ b, b < lo → w'.heap[b]? = w.heap[b]?) (k : KF l0 w0 w) (hl : w0.heap.size ≤ lo) : KF l0 w0 w' :=
  ⟨Nat.le_trans k.size h.1, fun b h1 h2 => (h.2 b (by omega)).trans (k.block b h1 h2)⟩
/-- Five pieces that were made one behind the other are a market. -/
theorem OwM.build {w1 w2 w3 w4 w5 W : World} {lo l1 l2 l3 l4 l5 : Nat} {aL : Option Addr} {aLc aLn : Nat} {aP : Option Addr} {aPc aPn : Nat} {aD : Option Addr} {aDc aDn : Nat} {aN : Option Addr} {aNc aNn : Nat} {aS : Option Addr} {aSc aSn : Nat} {m : Sw.Mkt}
    (h1 : OwE w1 l1 aL aLc aLn m.log) (h2 : OwI w2 l2 aP aPc aPn m.purses) (h3 : OwD w3 l3 aD aDc aDn m.deals) (h4 : OwI w4 l4 aN aNc aNn m.nums) (h5 : OwI w5 l5 aS aSc aSn m.said)
    (g2 : w1.heap.size ≤ l2) (g3 : w2.heap.size ≤ l3) (g4 : w3.heap.size ≤ l4) (g5 : w4.heap.size ≤ l5) (b1 : l1 ≤ w1.heap.size) (b2 : l2 ≤ w2.heap.size) (b3 : l3 ≤ w3.heap.size) (b4 : l4 ≤ w4.heap.size) (hl : lo ≤ l1)
    (k1 : KF l1 w1 W) (k2 : KF l2 w2 W) (k3 : KF l3 w3 W) (k4 : KF l4 w4 W) (k5 : KF l5 w5 W) :
    OwM (glue (fun _ => 1) w1.heap.size (glue (fun _ => 2) w2.heap.size (glue (fun _ => 3) w3.heap.size (glue (fun _ => 4) w4.heap.size (fun _ => 5))))) W lo aL aLc aLn aP aPc aPn aD aDc aDn aN aNc aNn aS aSc aSn m := by
  have p1 : OwTE (fun _ => 1) 1 w1 l1 aL aLc aLn m.log := ⟨h1, fun _ _ => rfl⟩
  have p2 : OwTI (fun _ => 2) 2 w2 l2 aP aPc aPn m.purses := ⟨h2, fun _ _ => rfl⟩
  have p3 : OwTD (fun _ => 3) 3 w3 l3 aD aDc aDn m.deals := ⟨h3, fun _ _ => rfl⟩
  have p4 : OwTI (fun _ => 4) 4 w4 l4 aN aNc aNn m.nums := ⟨h4, fun _ _ => rfl⟩
  have p5 : OwTI (fun _ => 5) 5 w5 l5 aS aSc aSn m.said := ⟨h5, fun _ _ => rfl⟩
  refine ⟨((p1.glueL (Nat.le_refl _)).keepF k1).less (by omega), ?_, ?_, ?_, ?_⟩
  · exact (((p2.glueL (Nat.le_refl _)).glueR g2).keepF k2).less (by omega)
  · exact ((((p3.glueL (Nat.le_refl _)).glueR g3).glueR (by omega)).keepF k3).less (by omega)
  · exact (((((p4.glueL (Nat.le_refl _)).glueR g4).glueR (by omega)).glueR (by omega)).keepF k4).less (by omega)
  · exact (((((p5.glueR g5).glueR (by omega)).glueR (by omega)).glueR (by omega)).keepF k5).less (by omega)
/-- How far one copy has come: nothing, an empty slice, all of it. -/
inductive CopySt {α : Type} (enc : α → List Value) (sz : Nat) (e : TypeId) (τ : Nat → Nat) (t : Nat) (w : World) (lo n : Nat) (xs : List α) : Bool → Bool → Value → Value → Prop
  | none (v u : Value) : CopySt enc sz e τ t w lo n xs false false v u
  | made (A : Option Addr) (c : Nat) (u : Value) (h : OwT enc sz e τ t w lo A c 0 []) : CopySt enc sz e τ t w lo n xs true false (.slice A 0 c) u
  | done (v : Value) (A : Option Addr) (c : Nat) (h : OwT enc sz e τ t w lo A c n xs) : CopySt enc sz e τ t w lo n xs true true v (.slice A n c)
section
variable {α : Type} {enc : α → List Value} {sz : Nat} {e : TypeId} {τ τ' : Nat → Nat} {t s : Nat} {w w' : World} {lo n c : Nat} {xs : List α} {l r : Bool} {v u : Value} {A A' : Option Addr}
theorem CopySt.mv (h : CopySt enc sz e τ t w lo n xs l r v u) (f : ∀ A c k ys, OwT enc sz e τ t w lo A c k ys → OwT enc sz e τ' t w' lo A c k ys) : CopySt enc sz e τ' t w' lo n xs l r v u := by
  cases h with
  | none => exact .none _ _
  | made A c u h => exact .made _ _ _ (f _ _ _ _ h)
  | done v A c h => exact .done _ _ _ (f _ _ _ _ h)
/-- Another copy has been begun. -/
theorem CopySt.alloc {o : Obj} (h : CopySt enc sz e τ t w lo n xs l r v u) : CopySt enc sz e (glue τ w.heap.size (fun _ => s)) t (w.alloc o) lo n xs l r v u :=
  h.mv fun _ _ _ _ h => (h.glueL (Nat.le_refl _)).keep (KT.refl _ _ _ _).alloc
theorem glue_tag {b k : Nat} (h : τ b = s) : glue τ k (fun _ => s) b = s := by
  unfold glue
  split
  · exact h
  · rfl
/-- Another copy has been filled. -/
theorem CopySt.app (h : CopySt enc sz e τ t w lo n xs l r v u) (hb : Ch (atA A) w w') (ht : ∀ a, A = some a → τ a.block = s) (hne : t ≠ s) : CopySt enc sz e (glue τ w.heap.size (fun _ => s)) t w' lo n xs l r v u :=
  h.mv fun _ _ _ _ h => (h.glueL (Nat.le_refl _)).keep (KT.ch hb (KT.refl _ _ _ _) fun i ⟨a, ha, hi⟩ => .inr (by rw [hi, glue_tag (ht a ha)]; exact Ne.symm hne))
theorem OwT.begun {T : TypeId} (h : Ow enc sz e (w.alloc (.cells #[] T)) lo (some ⟨w.heap.size, 0, Option.none⟩) 0 0 []) : OwT enc sz e (glue τ w.heap.size (fun _ => t)) t (w.alloc (.cells #[] T)) lo (some ⟨w.heap.size, 0, Option.none⟩) 0 0 [] :=
  ⟨h, fun a ha => by cases ha; simp [glue]⟩
theorem OwT.full {ys : List α} {m d lo' : Nat} (h : Ow enc sz e w' lo' A' c n xs) (k : OwT enc sz e τ t w lo A d m ys) (hat : ∀ b, A' = some b → A = some b ∨ w.heap.size ≤ b.block) : OwT enc sz e (glue τ w.heap.size (fun _ => t)) t w' lo' A' c n xs :=
  ⟨h, fun a ha => by
    rcases hat a ha with h1 | h1
    · unfold glue; rw [if_pos (k.ow.blk h1).2]; exact k.tag a h1
    · unfold glue; rw [if_neg (by omega)]⟩
end
theorem ready_ne {md : Region.Mode} {ops : Array Oper} {l : Array Bool} {i : Nat} (h : (Region.ready md ops l).contains i = true) : Region.ready md ops l ≠ [] := by
  intro he; rw [he] at h; simp at h
def cb (b : Bool) : Nat := if b then 0 else 1
/-- The five copies' state, where so many operations are still to come. -/
structure Copy5 (aL : Option Addr) (aLc aLn : Nat) (aP : Option Addr) (aPc aPn : Nat) (aD : Option Addr) (aDc aDn : Nat) (aN : Option Addr) (aNc aNn : Nat) (aS : Option Addr) (aSc aSn : Nat) (m : Sw.Mkt) (w W0 : World) (n : Nat) (l : Array Bool) (a : Act) (wx : World) : Prop where
  keep : KF 0 w wx
  held : HeldB (w.heap.size + 1) 6 W0 wx
  up : W0.heap.size ≤ wx.heap.size
  st : ∃ (l0 l1 l2 l3 l4 r0 r1 r2 r3 r4 : Bool) (v0 v1 v2 v3 v4 u0 u1 u2 u3 u4 : Value) (τ : Nat → Nat), n = cb l0 + cb l1 + cb l2 + cb l3 + cb l4 + cb r0 + cb r1 + cb r2 + cb r3 + cb r4 ∧ l = #[l0, true, true, r0, l1, true, true, r1, l2, true, true, r2, true, true, l3, true, true, r3, l4, true, true, r4, false, false] ∧ a = ⟨#[.agg #[.slice aL aLn aLc, .slice aP aPn aPc, .slice aD aDn aDc, .int .i64 m.clock, .slice aN aNn aNc, .slice aS aSn aSc], .pointer (some ⟨w.heap.size, 0, none⟩), .pointer (some ⟨w.heap.size + 1, 0, none⟩), v0, .pointer (some ⟨w.heap.size, 0, none⟩), .slice aL aLn aLc, u0, v1, .pointer (some ⟨w.heap.size, 1, none⟩), .slice aP aPn aPc, u1, v2, .pointer (some ⟨w.heap.size, 2, none⟩), .slice aD aDn aDc, u2, .pointer (some ⟨w.heap.size, 3, none⟩), .int .i64 m.clock, v3, .pointer (some ⟨w.heap.size, 4, none⟩), .slice aN aNn aNc, u3, v4, .pointer (some ⟨w.heap.size, 5, none⟩), .slice aS aSn aSc, u4, undef], []⟩ ∧ CopySt Sw.Ent.enc 4 165 τ 1 wx W0.heap.size aLn m.log l0 r0 v0 u0 ∧ CopySt encI 1 3 τ 2 wx W0.heap.size aPn m.purses l1 r1 v1 u1 ∧ CopySt Sw.Deal.enc 5 103 τ 3 wx W0.heap.size aDn m.deals l2 r2 v2 u2 ∧ CopySt encI 1 3 τ 4 wx W0.heap.size aNn m.nums l3 r3 v3 u3 ∧ CopySt encI 1 3 τ 5 wx W0.heap.size aSn m.said l4 r4 v4 u4

/-- Five pieces with a mark each are a market. -/
theorem OwM.of5 {W : World} {lo l0 : Nat} {τ : Nat → Nat} {aL : Option Addr} {aLc aLn : Nat} {aP : Option Addr} {aPc aPn : Nat} {aD : Option Addr} {aDc aDn : Nat} {aN : Option Addr} {aNc aNn : Nat} {aS : Option Addr} {aSc aSn : Nat} {m : Sw.Mkt} (h1 : OwT Sw.Ent.enc 4 165 τ 1 W l0 aL aLc aLn m.log) (h2 : OwT encI 1 3 τ 2 W l0 aP aPc aPn m.purses) (h3 : OwT Sw.Deal.enc 5 103 τ 3 W l0 aD aDc aDn m.deals) (h4 : OwT encI 1 3 τ 4 W l0 aN aNc aNn m.nums) (h5 : OwT encI 1 3 τ 5 W l0 aS aSc aSn m.said) (hl : lo ≤ l0) : OwM τ W lo aL aLc aLn aP aPc aPn aD aDc aDn aN aNc aNn aS aSc aSn m :=
  ⟨h1.less hl, h2.less hl, h3.less hl, h4.less hl, h5.less hl⟩

theorem sMktCopy_c (aL : Option Addr) (aLc aLn : Nat) (aP : Option Addr) (aPc aPn : Nat) (aD : Option Addr) (aDc aDn : Nat) (aN : Option Addr) (aNc aNn : Nat) (aS : Option Addr) (aSc aSn : Nat) (m : Sw.Mkt) (w : World) (hm : RM w 0 aL aLc aLn aP aPc aPn aD aDc aDn aN aNc aNn aS aSc aSn m) (hn : aLn + aPn + aDn + aNn + aSn ≤ 1048576) : Calls Try.prog 119 #[.agg #[.slice aL aLn aLc, .slice aP aPn aPc, .slice aD aDn aDc, .int .i64 m.clock, .slice aN aNn aNc, .slice aS aSn aSc]] w fun E w' => ∃ bL bLc bLn bP bPc bPn bD bDc bDn bN bNc bNn bS bSc bSn τ, E = .returned (.agg #[.slice bL bLn bLc, .slice bP bPn bPc, .slice bD bDn bDc, .int .i64 m.clock, .slice bN bNn bNc, .slice bS bSn bSc]) ∧ OwM τ w' w.heap.size bL bLc bLn bP bPc bPn bD bDc bDn bN bNc bNn bS bSc bSn m ∧ Ex w w' := by
  obtain ⟨m1, m2, m3, m4, m5⟩ := hm
  go_enter Try.func119, Try.ntmps119
  go_wp2_with fail
  (refine wp_name ?_; intro W0 hb0; have hst := xr hb0; (try simp only [zA, zC, zD, zN] at hst); obtain ⟨hc0, hf0, hz0⟩ := hst; have hLb : Lb W0 (w.heap.size + 1) 6 := Lb.ex (by exact lbc_) hb0; refine wp_region_held_drew (S := fun w' => HeldB (w.heap.size + 1) 6 W0 w') (by kernel_rfl) ?_ (fun hHeld => ?_); (focus ((try dsimp only); (first | with_reducible assumption | with_reducible exact HeldB.start hLb | with_reducible exact HeldB.of (by assumption) (by assumption) | ((repeat (first | with_reducible refine HeldB.set ?_ (by first | exact Or.inl rfl | exact Or.inr (by simp only [zA, zC, zD, zN]; omega) | exact Or.inr (by omega)) | with_reducible refine HeldB.alloc ?_ _ | with_reducible refine HeldB.drew ?_)); (first | with_reducible assumption | with_reducible exact HeldB.refl hLb | with_reducible exact HeldB.of (by assumption) (by assumption) | with_reducible exact HeldB.ex (by assumption) (by assumption)))))); refine regT 1 4 (v := ?_) rfl rfl (by kernel_rfl) (by kernel_rfl) (by kernel_rfl) (fun _ _ _ h => h) (by rfl) ?_ (by assumption) ?_; rotate_left; (focus (intro w hSw; (try dsimp only at hSw); (try (have hst := xc (HeldB.ch hSw); (try simp only [zA, zC, zD, zN] at hst); obtain ⟨hcS, hfS, hzS⟩ := hst)); go_simp; (try with_reducible rfl))); (try simp only [Act.put, List.setIfInBounds_toArray, List.set_cons_zero, List.set_cons_succ]); refine regT 2 5 (v := ?_) rfl rfl (by kernel_rfl) (by kernel_rfl) (by kernel_rfl) (fun _ _ _ h => h) (by rfl) ?_ (by assumption) ?_; rotate_left; (focus (intro w hSw; (try dsimp only at hSw); (try (have hst := xc (HeldB.ch hSw); (try simp only [zA, zC, zD, zN] at hst); obtain ⟨hcS, hfS, hzS⟩ := hst)); go_simp; (try with_reducible rfl))); (try simp only [Act.put, List.setIfInBounds_toArray, List.set_cons_zero, List.set_cons_succ]); refine regT 5 8 (v := ?_) rfl rfl (by kernel_rfl) (by kernel_rfl) (by kernel_rfl) (fun _ _ _ h => h) (by rfl) ?_ (by assumption) ?_; rotate_left; (focus (intro w hSw; (try dsimp only at hSw); (try (have hst := xc (HeldB.ch hSw); (try simp only [zA, zC, zD, zN] at hst); obtain ⟨hcS, hfS, hzS⟩ := hst)); go_simp; (try with_reducible rfl))); (try simp only [Act.put, List.setIfInBounds_toArray, List.set_cons_zero, List.set_cons_succ]); refine regT 6 9 (v := ?_) rfl rfl (by kernel_rfl) (by kernel_rfl) (by kernel_rfl) (fun _ _ _ h => h) (by rfl) ?_ (by assumption) ?_; rotate_left; (focus (intro w hSw; (try dsimp only at hSw); (try (have hst := xc (HeldB.ch hSw); (try simp only [zA, zC, zD, zN] at hst); obtain ⟨hcS, hfS, hzS⟩ := hst)); go_simp; (try with_reducible rfl))); (try simp only [Act.put, List.setIfInBounds_toArray, List.set_cons_zero, List.set_cons_succ]); refine regT 9 12 (v := ?_) rfl rfl (by kernel_rfl) (by kernel_rfl) (by kernel_rfl) (fun _ _ _ h => h) (by rfl) ?_ (by assumption) ?_; rotate_left; (focus (intro w hSw; (try dsimp only at hSw); (try (have hst := xc (HeldB.ch hSw); (try simp only [zA, zC, zD, zN] at hst); obtain ⟨hcS, hfS, hzS⟩ := hst)); go_simp; (try with_reducible rfl))); (try simp only [Act.put, List.setIfInBounds_toArray, List.set_cons_zero, List.set_cons_succ]); refine regT 10 13 (v := ?_) rfl rfl (by kernel_rfl) (by kernel_rfl) (by kernel_rfl) (fun _ _ _ h => h) (by rfl) ?_ (by assumption) ?_; rotate_left; (focus (intro w hSw; (try dsimp only at hSw); (try (have hst := xc (HeldB.ch hSw); (try simp only [zA, zC, zD, zN] at hst); obtain ⟨hcS, hfS, hzS⟩ := hst)); go_simp; (try with_reducible rfl))); (try simp only [Act.put, List.setIfInBounds_toArray, List.set_cons_zero, List.set_cons_succ]); refine regT 12 15 (v := ?_) rfl rfl (by kernel_rfl) (by kernel_rfl) (by kernel_rfl) (fun _ _ _ h => h) (by rfl) ?_ (by assumption) ?_; rotate_left; (focus (intro w hSw; (try dsimp only at hSw); (try (have hst := xc (HeldB.ch hSw); (try simp only [zA, zC, zD, zN] at hst); obtain ⟨hcS, hfS, hzS⟩ := hst)); go_simp; (try with_reducible rfl))); (try simp only [Act.put, List.setIfInBounds_toArray, List.set_cons_zero, List.set_cons_succ]); refine regT 13 16 (v := ?_) rfl rfl (by kernel_rfl) (by kernel_rfl) (by kernel_rfl) (fun _ _ _ h => h) (by rfl) ?_ (by assumption) ?_; rotate_left; (focus (intro w hSw; (try dsimp only at hSw); (try (have hst := xc (HeldB.ch hSw); (try simp only [zA, zC, zD, zN] at hst); obtain ⟨hcS, hfS, hzS⟩ := hst)); go_simp; (try with_reducible rfl))); (try simp only [Act.put, List.setIfInBounds_toArray, List.set_cons_zero, List.set_cons_succ]); refine regT 15 18 (v := ?_) rfl rfl (by kernel_rfl) (by kernel_rfl) (by kernel_rfl) (fun _ _ _ h => h) (by rfl) ?_ (by assumption) ?_; rotate_left; (focus (intro w hSw; (try dsimp only at hSw); (try (have hst := xc (HeldB.ch hSw); (try simp only [zA, zC, zD, zN] at hst); obtain ⟨hcS, hfS, hzS⟩ := hst)); go_simp; (try with_reducible rfl))); (try simp only [Act.put, List.setIfInBounds_toArray, List.set_cons_zero, List.set_cons_succ]); refine regT 16 19 (v := ?_) rfl rfl (by kernel_rfl) (by kernel_rfl) (by kernel_rfl) (fun _ _ _ h => h) (by rfl) ?_ (by assumption) ?_; rotate_left; (focus (intro w hSw; (try dsimp only at hSw); (try (have hst := xc (HeldB.ch hSw); (try simp only [zA, zC, zD, zN] at hst); obtain ⟨hcS, hfS, hzS⟩ := hst)); go_simp; (try with_reducible rfl))); (try simp only [Act.put, List.setIfInBounds_toArray, List.set_cons_zero, List.set_cons_succ]); refine regT 19 22 (v := ?_) rfl rfl (by kernel_rfl) (by kernel_rfl) (by kernel_rfl) (fun _ _ _ h => h) (by rfl) ?_ (by assumption) ?_; rotate_left; (focus (intro w hSw; (try dsimp only at hSw); (try (have hst := xc (HeldB.ch hSw); (try simp only [zA, zC, zD, zN] at hst); obtain ⟨hcS, hfS, hzS⟩ := hst)); go_simp; (try with_reducible rfl))); (try simp only [Act.put, List.setIfInBounds_toArray, List.set_cons_zero, List.set_cons_succ]); refine regT 20 23 (v := ?_) rfl rfl (by kernel_rfl) (by kernel_rfl) (by kernel_rfl) (fun _ _ _ h => h) (by rfl) ?_ (by assumption) ?_; rotate_left; (focus (intro w hSw; (try dsimp only at hSw); (try (have hst := xc (HeldB.ch hSw); (try simp only [zA, zC, zD, zN] at hst); obtain ⟨hcS, hfS, hzS⟩ := hst)); go_simp; (try with_reducible rfl))); (try simp only [Act.put, List.setIfInBounds_toArray, List.set_cons_zero, List.set_cons_succ]))
  have hlt0 : w.heap.size + 1 < W0.heap.size := hLb.lt
  refine wpAnyH_inv (Inv := Copy5 aL aLc aLn aP aPc aPn aD aDc aDn aN aNc aNn aS aSc aSn m w W0) (k := 2) ?_ ?_ ?_ 10 _ _ _ ?_
  case refine_4 =>
    exact ⟨by (exact kf_), hHeld, Nat.le_refl _, false, false, false, false, false, false, false, false, false, false, undef, undef, undef, undef, undef, undef, undef, undef, undef, undef, fun _ => 0, rfl, by kernel_rfl, rfl, .none _ _, .none _ _, .none _ _, .none _ _, .none _ _⟩
  case refine_1 =>
    rintro l a wx ⟨hk, hHeld, hup, l0, l1, l2, l3, l4, r0, r1, r2, r3, r4, v0, v1, v2, v3, v4, u0, u1, u2, u3, u4, τ, hn0, rfl, rfl, C0, C1, C2, C3, C4⟩
    obtain rfl : l0 = true := by cases l0 <;> first | rfl | (exfalso; revert hn0; simp [cb]; done) | (exfalso; revert hn0; simp [cb]; omega)
    obtain rfl : l1 = true := by cases l1 <;> first | rfl | (exfalso; revert hn0; simp [cb]; done) | (exfalso; revert hn0; simp [cb]; omega)
    obtain rfl : l2 = true := by cases l2 <;> first | rfl | (exfalso; revert hn0; simp [cb]; done) | (exfalso; revert hn0; simp [cb]; omega)
    obtain rfl : l3 = true := by cases l3 <;> first | rfl | (exfalso; revert hn0; simp [cb]; done) | (exfalso; revert hn0; simp [cb]; omega)
    obtain rfl : l4 = true := by cases l4 <;> first | rfl | (exfalso; revert hn0; simp [cb]; done) | (exfalso; revert hn0; simp [cb]; omega)
    obtain rfl : r0 = true := by cases r0 <;> first | rfl | (exfalso; revert hn0; simp [cb]; done) | (exfalso; revert hn0; simp [cb]; omega)
    obtain rfl : r1 = true := by cases r1 <;> first | rfl | (exfalso; revert hn0; simp [cb]; done) | (exfalso; revert hn0; simp [cb]; omega)
    obtain rfl : r2 = true := by cases r2 <;> first | rfl | (exfalso; revert hn0; simp [cb]; done) | (exfalso; revert hn0; simp [cb]; omega)
    obtain rfl : r3 = true := by cases r3 <;> first | rfl | (exfalso; revert hn0; simp [cb]; done) | (exfalso; revert hn0; simp [cb]; omega)
    obtain rfl : r4 = true := by cases r4 <;> first | rfl | (exfalso; revert hn0; simp [cb]; done) | (exfalso; revert hn0; simp [cb]; omega)
    obtain ⟨A0, c0, rfl, t0⟩ : ∃ A c, u0 = .slice A aLn c ∧ OwT Sw.Ent.enc 4 165 τ 1 wx W0.heap.size A c aLn m.log := by (cases C0; exact ⟨_, _, rfl, by assumption⟩)
    obtain ⟨A1, c1, rfl, t1⟩ : ∃ A c, u1 = .slice A aPn c ∧ OwT encI 1 3 τ 2 wx W0.heap.size A c aPn m.purses := by (cases C1; exact ⟨_, _, rfl, by assumption⟩)
    obtain ⟨A2, c2, rfl, t2⟩ : ∃ A c, u2 = .slice A aDn c ∧ OwT Sw.Deal.enc 5 103 τ 3 wx W0.heap.size A c aDn m.deals := by (cases C2; exact ⟨_, _, rfl, by assumption⟩)
    obtain ⟨A3, c3, rfl, t3⟩ : ∃ A c, u3 = .slice A aNn c ∧ OwT encI 1 3 τ 4 wx W0.heap.size A c aNn m.nums := by (cases C3; exact ⟨_, _, rfl, by assumption⟩)
    obtain ⟨A4, c4, rfl, t4⟩ : ∃ A c, u4 = .slice A aSn c ∧ OwT encI 1 3 τ 5 wx W0.heap.size A c aSn m.said := by (cases C4; exact ⟨_, _, rfl, by assumption⟩)
    clear C0 C1 C2 C3 C4 hn0
    refine regT 22 25 (v := ?_) rfl rfl (by kernel_rfl) (by kernel_rfl) (by kernel_rfl) (fun _ _ _ h => h) (by rfl) ?_ (by assumption) ?_
    rotate_left
    focus (intro w hSw; (try dsimp only at hSw); go_simp; (try with_reducible rfl))
    try simp only [Act.put, List.setIfInBounds_toArray, List.set_cons_zero, List.set_cons_succ]
    refine wpAnyH_ready (rs := [23]) (by kernel_rfl) (by simp) ?_
    refine AllReadyH.cons rfl (fun K hK => ?_) ?_
    rotate_left
    focus exact AllReadyH.nil
    have hLbx := hHeld.lb
    obtain ⟨hcx, hfx⟩ := Lb.rules hLbx
    go_simp
    refine hK.out _ _ ?_ (fun hHx => ?_)
    focus ((first | with_reducible assumption | with_reducible exact HeldB.start hLb | with_reducible exact HeldB.of (by assumption) (by assumption) | ((repeat (first | with_reducible refine HeldB.set ?_ (by first | exact Or.inl rfl | exact Or.inr (by simp only [zA, zC, zD, zN]; omega) | exact Or.inr (by omega)) | with_reducible refine HeldB.alloc ?_ _ | with_reducible refine HeldB.drew ?_)); (first | with_reducible assumption | with_reducible exact HeldB.refl hLb | with_reducible exact HeldB.of (by assumption) (by assumption) | with_reducible exact HeldB.ex (by assumption) (by assumption)))))
    have hb := hHeld.ch
    clear hK K hHeld hcx hfx hLbx
    (have hst := xc hb; (try simp only [zA, zC, zD, zN] at hst); obtain ⟨hc, hf, hz⟩ := hst)
    have hLb3 := HeldB.lb hHx
    repeat (replace hLb3 := Lb.unset hLb3)
    obtain ⟨hcb, hfb⟩ := Lb.rules hLb3
    clear hHx
    refine wpAnyH_done (by kernel_rfl) ?_ _
    go_wp2
    refine bodyPost_ret (v := .agg #[.slice A0 aLn c0, .slice A1 aPn c1, .slice A2 aDn c2, .int .i64 m.clock, .slice A3 aNn c3, .slice A4 aSn c4]) (by simp [results, Try.results119, go_sem, *]) rfl ?_
    refine ⟨_, _, _, _, _, _, _, _, _, _, _, _, _, _, _, τ, rfl, OwM.of5 (t0.keepF (by (exact kf_))) (t1.keepF (by (exact kf_))) (t2.keepF (by (exact kf_))) (t3.keepF (by (exact kf_))) (t4.keepF (by (exact kf_))) (by omega), ext_⟩
  case refine_2 =>
    rintro n l a wx ⟨hk, hHeld, hup, l0, l1, l2, l3, l4, r0, r1, r2, r3, r4, v0, v1, v2, v3, v4, u0, u1, u2, u3, u4, τ, hn0, rfl, rfl, C0, C1, C2, C3, C4⟩ he
    obtain rfl : l0 = true := by (cases l0 with | true => rfl | false => exact absurd he (ready_ne (i := 0) (by kernel_rfl)))
    obtain rfl : r0 = true := by (cases r0 with | true => rfl | false => exact absurd he (ready_ne (i := 3) (by kernel_rfl)))
    obtain rfl : l1 = true := by (cases l1 with | true => rfl | false => exact absurd he (ready_ne (i := 4) (by kernel_rfl)))
    obtain rfl : r1 = true := by (cases r1 with | true => rfl | false => exact absurd he (ready_ne (i := 7) (by kernel_rfl)))
    obtain rfl : l2 = true := by (cases l2 with | true => rfl | false => exact absurd he (ready_ne (i := 8) (by kernel_rfl)))
    obtain rfl : r2 = true := by (cases r2 with | true => rfl | false => exact absurd he (ready_ne (i := 11) (by kernel_rfl)))
    obtain rfl : l3 = true := by (cases l3 with | true => rfl | false => exact absurd he (ready_ne (i := 14) (by kernel_rfl)))
    obtain rfl : r3 = true := by (cases r3 with | true => rfl | false => exact absurd he (ready_ne (i := 17) (by kernel_rfl)))
    obtain rfl : l4 = true := by (cases l4 with | true => rfl | false => exact absurd he (ready_ne (i := 18) (by kernel_rfl)))
    obtain rfl : r4 = true := by (cases r4 with | true => rfl | false => exact absurd he (ready_ne (i := 21) (by kernel_rfl)))
    simp [cb] at hn0
  case refine_3 =>
    rintro n l a wx ⟨hk, hHeld, hup, l0, l1, l2, l3, l4, r0, r1, r2, r3, r4, v0, v1, v2, v3, v4, u0, u1, u2, u3, u4, τ, hn0, rfl, rfl, C0, C1, C2, C3, C4⟩ i hi
    obtain ⟨hi0, oi, ho, hdep⟩ := mem_ready.1 hi
    clear hi
    have hi24 : i < 24 := (Array.getElem?_eq_some_iff.1 ho).1
    rcases (show i = 0 ∨ i = 1 ∨ i = 2 ∨ i = 3 ∨ i = 4 ∨ i = 5 ∨ i = 6 ∨ i = 7 ∨ i = 8 ∨ i = 9 ∨ i = 10 ∨ i = 11 ∨ i = 12 ∨ i = 13 ∨ i = 14 ∨ i = 15 ∨ i = 16 ∨ i = 17 ∨ i = 18 ∨ i = 19 ∨ i = 20 ∨ i = 21 ∨ i = 22 ∨ i = 23 by omega) with rfl | rfl | rfl | rfl | rfl | rfl | rfl | rfl | rfl | rfl | rfl | rfl | rfl | rfl | rfl | rfl | rfl | rfl | rfl | rfl | rfl | rfl | rfl | rfl
    · -- 0
      obtain rfl : l0 = false := hi0
      cases C0
      clear ho hdep
      refine wpOp_step rfl fun K hK => ?_
      go_simp
      refine hK _ _ ⟨hHeld.alloc _, hk.alloc, hHeld.alloc _, (by simp; omega), true, l1, l2, l3, l4, false, r1, r2, r3, r4, .slice (some ⟨wx.heap.size, 0, none⟩) 0 0, v1, v2, v3, v4, u0, u1, u2, u3, u4, glue τ wx.heap.size (fun _ => 1), ?_, rfl, rfl, .made _ _ _ (OwT.begun (Ow.new [] rfl rfl rfl (fun _ => rfl) (by omega) (by omega))), C1.alloc, C2.alloc, C3.alloc, C4.alloc⟩
      simp only [cb] at hn0 ⊢; simp at hn0 ⊢; omega
    · -- 1
      exact Bool.noConfusion (show true = false from hi0)
    · -- 2
      exact Bool.noConfusion (show true = false from hi0)
    · -- 3
      obtain rfl : r0 = false := hi0
      obtain rfl := Option.some.inj (show some _ = some oi from ho)
      have d := hdep ⟨0, .data⟩ (by simp) rfl
      obtain rfl : l0 = true := d
      clear ho hdep
      obtain ⟨A, c, rfl, ht⟩ : ∃ A c, v0 = .slice A 0 c ∧ OwT Sw.Ent.enc 4 165 τ 1 wx W0.heap.size A c 0 [] := by (cases C0; exact ⟨_, _, rfl, by assumption⟩)
      clear C0
      refine wpOp_step rfl fun K hK => ?_
      apply step_app el_E one_E rfl rfl rfl rfl ht.ow (Rs.at0 m1 hk) (by omega) hup
      intro A1 c1 w2 ho1 hch1 hat1 hex1 hlow1
      rw [List.nil_append] at ho1; simp only [Nat.zero_add] at ho1
      have hbx := hex1 (· = (w.heap.size + 1)) W0 hHeld.ch (Nat.le_refl _)
      have hlbx := Lb.low hlow1 hlt0 hHeld.lb
      simp only [Nat.zero_add]
      have hKF : KF 0 w w2 := kL ⟨hch1.size, hlow1⟩ hk (by omega)
      refine hK _ _ ⟨HeldB.of hbx hlbx, hKF, HeldB.of hbx hlbx, Nat.le_trans hup hch1.size, true, l1, l2, l3, l4, true, r1, r2, r3, r4, .slice A 0 c, v1, v2, v3, v4, .slice A1 aLn c1, u1, u2, u3, u4, glue τ wx.heap.size (fun _ => 1), ?_, rfl, rfl, .done _ _ _ (OwT.full ho1 ht hat1), C1.app hch1 ht.tag (by decide), C2.app hch1 ht.tag (by decide), C3.app hch1 ht.tag (by decide), C4.app hch1 ht.tag (by decide)⟩
      simp only [cb] at hn0 ⊢; simp at hn0 ⊢; omega
    · -- 4
      obtain rfl : l1 = false := hi0
      cases C1
      clear ho hdep
      refine wpOp_step rfl fun K hK => ?_
      go_simp
      refine hK _ _ ⟨hHeld.alloc _, hk.alloc, hHeld.alloc _, (by simp; omega), l0, true, l2, l3, l4, r0, false, r2, r3, r4, v0, .slice (some ⟨wx.heap.size, 0, none⟩) 0 0, v2, v3, v4, u0, u1, u2, u3, u4, glue τ wx.heap.size (fun _ => 2), ?_, rfl, rfl, C0.alloc, .made _ _ _ (OwT.begun (Ow.new [] rfl rfl rfl (fun _ => rfl) (by omega) (by omega))), C2.alloc, C3.alloc, C4.alloc⟩
      simp only [cb] at hn0 ⊢; simp at hn0 ⊢; omega
    · -- 5
      exact Bool.noConfusion (show true = false from hi0)
    · -- 6
      exact Bool.noConfusion (show true = false from hi0)
    · -- 7
      obtain rfl : r1 = false := hi0
      obtain rfl := Option.some.inj (show some _ = some oi from ho)
      have d := hdep ⟨4, .data⟩ (by simp) rfl
      obtain rfl : l1 = true := d
      clear ho hdep
      obtain ⟨A, c, rfl, ht⟩ : ∃ A c, v1 = .slice A 0 c ∧ OwT encI 1 3 τ 2 wx W0.heap.size A c 0 [] := by (cases C1; exact ⟨_, _, rfl, by assumption⟩)
      clear C1
      refine wpOp_step rfl fun K hK => ?_
      apply step_app el_I one_I rfl rfl rfl rfl ht.ow (Rs.at0 m2 hk) (by omega) hup
      intro A1 c1 w2 ho1 hch1 hat1 hex1 hlow1
      rw [List.nil_append] at ho1; simp only [Nat.zero_add] at ho1
      have hbx := hex1 (· = (w.heap.size + 1)) W0 hHeld.ch (Nat.le_refl _)
      have hlbx := Lb.low hlow1 hlt0 hHeld.lb
      simp only [Nat.zero_add]
      have hKF : KF 0 w w2 := kL ⟨hch1.size, hlow1⟩ hk (by omega)
      refine hK _ _ ⟨HeldB.of hbx hlbx, hKF, HeldB.of hbx hlbx, Nat.le_trans hup hch1.size, l0, true, l2, l3, l4, r0, true, r2, r3, r4, v0, .slice A 0 c, v2, v3, v4, u0, .slice A1 aPn c1, u2, u3, u4, glue τ wx.heap.size (fun _ => 2), ?_, rfl, rfl, C0.app hch1 ht.tag (by decide), .done _ _ _ (OwT.full ho1 ht hat1), C2.app hch1 ht.tag (by decide), C3.app hch1 ht.tag (by decide), C4.app hch1 ht.tag (by decide)⟩
      simp only [cb] at hn0 ⊢; simp at hn0 ⊢; omega
    · -- 8
      obtain rfl : l2 = false := hi0
      cases C2
      clear ho hdep
      refine wpOp_step rfl fun K hK => ?_
      go_simp
      refine hK _ _ ⟨hHeld.alloc _, hk.alloc, hHeld.alloc _, (by simp; omega), l0, l1, true, l3, l4, r0, r1, false, r3, r4, v0, v1, .slice (some ⟨wx.heap.size, 0, none⟩) 0 0, v3, v4, u0, u1, u2, u3, u4, glue τ wx.heap.size (fun _ => 3), ?_, rfl, rfl, C0.alloc, C1.alloc, .made _ _ _ (OwT.begun (Ow.new [] rfl rfl rfl (fun _ => rfl) (by omega) (by omega))), C3.alloc, C4.alloc⟩
      simp only [cb] at hn0 ⊢; simp at hn0 ⊢; omega
    · -- 9
      exact Bool.noConfusion (show true = false from hi0)
    · -- 10
      exact Bool.noConfusion (show true = false from hi0)
    · -- 11
      obtain rfl : r2 = false := hi0
      obtain rfl := Option.some.inj (show some _ = some oi from ho)
      have d := hdep ⟨8, .data⟩ (by simp) rfl
      obtain rfl : l2 = true := d
      clear ho hdep
      obtain ⟨A, c, rfl, ht⟩ : ∃ A c, v2 = .slice A 0 c ∧ OwT Sw.Deal.enc 5 103 τ 3 wx W0.heap.size A c 0 [] := by (cases C2; exact ⟨_, _, rfl, by assumption⟩)
      clear C2
      refine wpOp_step rfl fun K hK => ?_
      apply step_app el_D one_D rfl rfl rfl rfl ht.ow (Rs.at0 m3 hk) (by omega) hup
      intro A1 c1 w2 ho1 hch1 hat1 hex1 hlow1
      rw [List.nil_append] at ho1; simp only [Nat.zero_add] at ho1
      have hbx := hex1 (· = (w.heap.size + 1)) W0 hHeld.ch (Nat.le_refl _)
      have hlbx := Lb.low hlow1 hlt0 hHeld.lb
      simp only [Nat.zero_add]
      have hKF : KF 0 w w2 := kL ⟨hch1.size, hlow1⟩ hk (by omega)
      refine hK _ _ ⟨HeldB.of hbx hlbx, hKF, HeldB.of hbx hlbx, Nat.le_trans hup hch1.size, l0, l1, true, l3, l4, r0, r1, true, r3, r4, v0, v1, .slice A 0 c, v3, v4, u0, u1, .slice A1 aDn c1, u3, u4, glue τ wx.heap.size (fun _ => 3), ?_, rfl, rfl, C0.app hch1 ht.tag (by decide), C1.app hch1 ht.tag (by decide), .done _ _ _ (OwT.full ho1 ht hat1), C3.app hch1 ht.tag (by decide), C4.app hch1 ht.tag (by decide)⟩
      simp only [cb] at hn0 ⊢; simp at hn0 ⊢; omega
    · -- 12
      exact Bool.noConfusion (show true = false from hi0)
    · -- 13
      exact Bool.noConfusion (show true = false from hi0)
    · -- 14
      obtain rfl : l3 = false := hi0
      cases C3
      clear ho hdep
      refine wpOp_step rfl fun K hK => ?_
      go_simp
      refine hK _ _ ⟨hHeld.alloc _, hk.alloc, hHeld.alloc _, (by simp; omega), l0, l1, l2, true, l4, r0, r1, r2, false, r4, v0, v1, v2, .slice (some ⟨wx.heap.size, 0, none⟩) 0 0, v4, u0, u1, u2, u3, u4, glue τ wx.heap.size (fun _ => 4), ?_, rfl, rfl, C0.alloc, C1.alloc, C2.alloc, .made _ _ _ (OwT.begun (Ow.new [] rfl rfl rfl (fun _ => rfl) (by omega) (by omega))), C4.alloc⟩
      simp only [cb] at hn0 ⊢; simp at hn0 ⊢; omega
    · -- 15
      exact Bool.noConfusion (show true = false from hi0)
    · -- 16
      exact Bool.noConfusion (show true = false from hi0)
    · -- 17
      obtain rfl : r3 = false := hi0
      obtain rfl := Option.some.inj (show some _ = some oi from ho)
      have d := hdep ⟨14, .data⟩ (by simp) rfl
      obtain rfl : l3 = true := d
      clear ho hdep
      obtain ⟨A, c, rfl, ht⟩ : ∃ A c, v3 = .slice A 0 c ∧ OwT encI 1 3 τ 4 wx W0.heap.size A c 0 [] := by (cases C3; exact ⟨_, _, rfl, by assumption⟩)
      clear C3
      refine wpOp_step rfl fun K hK => ?_
      apply step_app el_I one_I rfl rfl rfl rfl ht.ow (Rs.at0 m4 hk) (by omega) hup
      intro A1 c1 w2 ho1 hch1 hat1 hex1 hlow1
      rw [List.nil_append] at ho1; simp only [Nat.zero_add] at ho1
      have hbx := hex1 (· = (w.heap.size + 1)) W0 hHeld.ch (Nat.le_refl _)
      have hlbx := Lb.low hlow1 hlt0 hHeld.lb
      simp only [Nat.zero_add]
      have hKF : KF 0 w w2 := kL ⟨hch1.size, hlow1⟩ hk (by omega)
      refine hK _ _ ⟨HeldB.of hbx hlbx, hKF, HeldB.of hbx hlbx, Nat.le_trans hup hch1.size, l0, l1, l2, true, l4, r0, r1, r2, true, r4, v0, v1, v2, .slice A 0 c, v4, u0, u1, u2, .slice A1 aNn c1, u4, glue τ wx.heap.size (fun _ => 4), ?_, rfl, rfl, C0.app hch1 ht.tag (by decide), C1.app hch1 ht.tag (by decide), C2.app hch1 ht.tag (by decide), .done _ _ _ (OwT.full ho1 ht hat1), C4.app hch1 ht.tag (by decide)⟩
      simp only [cb] at hn0 ⊢; simp at hn0 ⊢; omega
    · -- 18
      obtain rfl : l4 = false := hi0
      cases C4
      clear ho hdep
      refine wpOp_step rfl fun K hK => ?_
      go_simp
      refine hK _ _ ⟨hHeld.alloc _, hk.alloc, hHeld.alloc _, (by simp; omega), l0, l1, l2, l3, true, r0, r1, r2, r3, false, v0, v1, v2, v3, .slice (some ⟨wx.heap.size, 0, none⟩) 0 0, u0, u1, u2, u3, u4, glue τ wx.heap.size (fun _ => 5), ?_, rfl, rfl, C0.alloc, C1.alloc, C2.alloc, C3.alloc, .made _ _ _ (OwT.begun (Ow.new [] rfl rfl rfl (fun _ => rfl) (by omega) (by omega)))⟩
      simp only [cb] at hn0 ⊢; simp at hn0 ⊢; omega
    · -- 19
      exact Bool.noConfusion (show true = false from hi0)
    · -- 20
      exact Bool.noConfusion (show true = false from hi0)
    · -- 21
      obtain rfl : r4 = false := hi0
      obtain rfl := Option.some.inj (show some _ = some oi from ho)
      have d := hdep ⟨18, .data⟩ (by simp) rfl
      obtain rfl : l4 = true := d
      clear ho hdep
      obtain ⟨A, c, rfl, ht⟩ : ∃ A c, v4 = .slice A 0 c ∧ OwT encI 1 3 τ 5 wx W0.heap.size A c 0 [] := by (cases C4; exact ⟨_, _, rfl, by assumption⟩)
      clear C4
      refine wpOp_step rfl fun K hK => ?_
      apply step_app el_I one_I rfl rfl rfl rfl ht.ow (Rs.at0 m5 hk) (by omega) hup
      intro A1 c1 w2 ho1 hch1 hat1 hex1 hlow1
      rw [List.nil_append] at ho1; simp only [Nat.zero_add] at ho1
      have hbx := hex1 (· = (w.heap.size + 1)) W0 hHeld.ch (Nat.le_refl _)
      have hlbx := Lb.low hlow1 hlt0 hHeld.lb
      simp only [Nat.zero_add]
      have hKF : KF 0 w w2 := kL ⟨hch1.size, hlow1⟩ hk (by omega)
      refine hK _ _ ⟨HeldB.of hbx hlbx, hKF, HeldB.of hbx hlbx, Nat.le_trans hup hch1.size, l0, l1, l2, l3, true, r0, r1, r2, r3, true, v0, v1, v2, v3, .slice A 0 c, u0, u1, u2, u3, .slice A1 aSn c1, glue τ wx.heap.size (fun _ => 5), ?_, rfl, rfl, C0.app hch1 ht.tag (by decide), C1.app hch1 ht.tag (by decide), C2.app hch1 ht.tag (by decide), C3.app hch1 ht.tag (by decide), .done _ _ _ (OwT.full ho1 ht hat1)⟩
      simp only [cb] at hn0 ⊢; simp at hn0 ⊢; omega
    · -- 22
      obtain rfl := Option.some.inj (show some _ = some oi from ho)
      obtain rfl : r0 = true := hdep ⟨3, .data⟩ (by simp) rfl
      obtain rfl : l0 = true := by (cases C0; rfl)
      obtain rfl : r1 = true := hdep ⟨7, .data⟩ (by simp) rfl
      obtain rfl : l1 = true := by (cases C1; rfl)
      obtain rfl : r2 = true := hdep ⟨11, .data⟩ (by simp) rfl
      obtain rfl : l2 = true := by (cases C2; rfl)
      obtain rfl : r3 = true := hdep ⟨17, .data⟩ (by simp) rfl
      obtain rfl : l3 = true := by (cases C3; rfl)
      obtain rfl : r4 = true := hdep ⟨21, .data⟩ (by simp) rfl
      obtain rfl : l4 = true := by (cases C4; rfl)
      simp [cb] at hn0
    · -- 23
      obtain rfl := Option.some.inj (show some _ = some oi from ho)
      exact Bool.noConfusion (show false = true from hdep ⟨22, .data⟩ (by simp) rfl)
end Go.Proofs.Ytncoiknpkebgoaa

namespace Go.Proofs.Ytncoiknpkebgoaa
set_option maxRecDepth 100000
set_option linter.unusedSimpArgs false
set_option linter.unusedVariables false
open Go.RowKit Go
set_option maxHeartbeats 1000000

section
variable {τ : Nat → Nat} {t lo : Nat} {a w w' : World}
theorem tR (τ : Nat → Nat) (t lo : Nat) (w : World) : KT τ t lo w w := KT.refl τ t lo w
theorem tA {o : Obj} (h : KT τ t lo a w) : KT τ t lo a (w.alloc o) := h.alloc
theorem tD (h : KT τ t lo a w) : KT τ t lo a w.drew := h.drew
theorem tN {n : Nat} (h : KT τ t lo a w) : KT τ t lo a (w.drewN n) := h.drewN
theorem tS {p : Addr} {u : Value} (h : KT τ t lo a w) (hp : a.heap.size ≤ p.block ∨ τ p.block ≠ t) : KT τ t lo a (w.setCell p u) := h.setCell hp
theorem tE (hb : Ex w w') (h : KT τ t lo a w) : KT τ t lo a w' := h.ex hb
end
/-- What a request or the clock may turn of a market. -/
def SM (lo : Nat) (τ : Nat → Nat) : Nat → Prop := fun k => lo ≤ k ∧ 1 ≤ τ k ∧ τ k ≤ 5
/-- Block g holds, from o on, a market's six cells. -/
structure MktAt (w : World) (g o : Nat) (aL : Option Addr) (aLc aLn : Nat) (aP : Option Addr) (aPc aPn : Nat) (aD : Option Addr) (aDc aDn : Nat) (aN : Option Addr) (aNc aNn : Nat) (aS : Option Addr) (aSc aSn : Nat) (clock : Int) : Prop where
  lt : g < w.heap.size
  log : w.cell? ⟨g, o, none⟩ = some (.slice aL aLn aLc)
  purses : w.cell? ⟨g, o + 1, none⟩ = some (.slice aP aPn aPc)
  deals : w.cell? ⟨g, o + 2, none⟩ = some (.slice aD aDn aDc)
  clk : w.cell? ⟨g, o + 3, none⟩ = some (.int .i64 clock)
  nums : w.cell? ⟨g, o + 4, none⟩ = some (.slice aN aNn aNc)
  said : w.cell? ⟨g, o + 5, none⟩ = some (.slice aS aSn aSc)
  free : ∀ i, w.frozen? ⟨g, i, none⟩ = false
theorem MktAt.keep {w w' : World} {g o : Nat} {aL : Option Addr} {aLc aLn : Nat} {aP : Option Addr} {aPc aPn : Nat} {aD : Option Addr} {aDc aDn : Nat} {aN : Option Addr} {aNc aNn : Nat} {aS : Option Addr} {aSc aSn : Nat} {clock : Int} (h : MktAt w g o aL aLc aLn aP aPc aPn aD aDc aDn aN aNc aNn aS aSc aSn clock) (hk : KF 0 w w') : MktAt w' g o aL aLc aLn aP aPc aPn aD aDc aDn aN aNc aNn aS aSc aSn clock := by
  have hb := hk.block g (Nat.zero_le _) h.lt
  have hc : ∀ i, w'.cell? ⟨g, i, none⟩ = w.cell? ⟨g, i, none⟩ := fun i => World.cell?_of_block (w := w) (a := ⟨g, i, none⟩) hb
  exact ⟨Nat.lt_of_lt_of_le h.lt hk.size, (hc _).trans h.log, (hc _).trans h.purses, (hc _).trans h.deals, (hc _).trans h.clk, (hc _).trans h.nums, (hc _).trans h.said, fun i => (World.frozen?_of_block (w := w) (a := ⟨g, i, none⟩) hb).trans (h.free i)⟩
/-- A store of the purses. -/
theorem MktAt.setP {w : World} {g o : Nat} {aL : Option Addr} {aLc aLn : Nat} {aP : Option Addr} {aPc aPn : Nat} {aD : Option Addr} {aDc aDn : Nat} {aN : Option Addr} {aNc aNn : Nat} {aS : Option Addr} {aSc aSn : Nat} {clock : Int} (h : MktAt w g o aL aLc aLn aP aPc aPn aD aDc aDn aN aNc aNn aS aSc aSn clock) (B : Option Addr) (n d : Nat) : MktAt (w.setCell ⟨g, o + 1, none⟩ (.slice B n d)) g o aL aLc aLn B d n aD aDc aDn aN aNc aNn aS aSc aSn clock := by
  have ne : ∀ i j : Nat, i ≠ j → (⟨g, i, none⟩ : Addr) ≠ ⟨g, j, none⟩ := fun i j hij e => hij (by injection e)
  exact ⟨by simpa [World.setCell] using h.lt, (World.cell?_setCell_other _ _ _ _ (ne _ _ (by omega))).trans h.log, World.cell?_setCell_same _ _ _ h.purses, (World.cell?_setCell_other _ _ _ _ (ne _ _ (by omega))).trans h.deals, (World.cell?_setCell_other _ _ _ _ (ne _ _ (by omega))).trans h.clk,
    (World.cell?_setCell_other _ _ _ _ (ne _ _ (by omega))).trans h.nums, (World.cell?_setCell_other _ _ _ _ (ne _ _ (by omega))).trans h.said, fun i => by simpa using h.free i⟩
/-- A store of the clock. -/
theorem MktAt.setK {w : World} {g o : Nat} {aL : Option Addr} {aLc aLn : Nat} {aP : Option Addr} {aPc aPn : Nat} {aD : Option Addr} {aDc aDn : Nat} {aN : Option Addr} {aNc aNn : Nat} {aS : Option Addr} {aSc aSn : Nat} {clock : Int} (h : MktAt w g o aL aLc aLn aP aPc aPn aD aDc aDn aN aNc aNn aS aSc aSn clock) (t : Int) : MktAt (w.setCell ⟨g, o + 3, none⟩ (.int .i64 t)) g o aL aLc aLn aP aPc aPn aD aDc aDn aN aNc aNn aS aSc aSn t := by
  have ne : ∀ i j : Nat, i ≠ j → (⟨g, i, none⟩ : Addr) ≠ ⟨g, j, none⟩ := fun i j hij e => hij (by injection e)
  exact ⟨by simpa [World.setCell] using h.lt, (World.cell?_setCell_other _ _ _ _ (ne _ _ (by omega))).trans h.log, (World.cell?_setCell_other _ _ _ _ (ne _ _ (by omega))).trans h.purses, (World.cell?_setCell_other _ _ _ _ (ne _ _ (by omega))).trans h.deals, World.cell?_setCell_same _ _ _ h.clk,
    (World.cell?_setCell_other _ _ _ _ (ne _ _ (by omega))).trans h.nums, (World.cell?_setCell_other _ _ _ _ (ne _ _ (by omega))).trans h.said, fun i => by simpa using h.free i⟩
/-- A store into another block. -/
theorem MktAt.other {w : World} {g o : Nat} {aL : Option Addr} {aLc aLn : Nat} {aP : Option Addr} {aPc aPn : Nat} {aD : Option Addr} {aDc aDn : Nat} {aN : Option Addr} {aNc aNn : Nat} {aS : Option Addr} {aSc aSn : Nat} {clock : Int} (h : MktAt w g o aL aLc aLn aP aPc aPn aD aDc aDn aN aNc aNn aS aSc aSn clock) {p : Addr} (v : Value) (hp : p.block ≠ g) : MktAt (w.setCell p v) g o aL aLc aLn aP aPc aPn aD aDc aDn aN aNc aNn aS aSc aSn clock := by
  have ne : ∀ i : Nat, p ≠ ⟨g, i, none⟩ := fun i e => hp (by rw [e])
  exact ⟨by simpa [World.setCell] using h.lt, (World.cell?_setCell_other _ _ _ _ (ne _)).trans h.log, (World.cell?_setCell_other _ _ _ _ (ne _)).trans h.purses, (World.cell?_setCell_other _ _ _ _ (ne _)).trans h.deals, (World.cell?_setCell_other _ _ _ _ (ne _)).trans h.clk,
    (World.cell?_setCell_other _ _ _ _ (ne _)).trans h.nums, (World.cell?_setCell_other _ _ _ _ (ne _)).trans h.said, fun i => by simpa using h.free i⟩
theorem MktAt.drew {w : World} {g o : Nat} {aL : Option Addr} {aLc aLn : Nat} {aP : Option Addr} {aPc aPn : Nat} {aD : Option Addr} {aDc aDn : Nat} {aN : Option Addr} {aNc aNn : Nat} {aS : Option Addr} {aSc aSn : Nat} {clock : Int} (h : MktAt w g o aL aLc aLn aP aPc aPn aD aDc aDn aN aNc aNn aS aSc aSn clock) : MktAt w.drew g o aL aLc aLn aP aPc aPn aD aDc aDn aN aNc aNn aS aSc aSn clock := ⟨h.1, h.2, h.3, h.4, h.5, h.6, h.7, h.8⟩
/-- The block of an owned slice. -/
theorem Ow.lbA {α : Type} {enc : α → List Value} {sz : Nat} {e : TypeId} {w : World} {lo c n g : Nat} {xs : List α} (h : Ow enc sz e w lo (some ⟨g, 0, none⟩) c n xs) : Lb w g (c * sz) := by
  rcases h.form with ⟨h1, _⟩ | ⟨g', cur, h1, h2, h3, h4, h5, h6, h7, h8⟩
  · cases h1
  · cases h1; exact ⟨cur, e, h4, h7⟩
theorem OD_set3 {w : World} {lo c n k g : Nat} {A : Option Addr} {xs : List Sw.Deal} (h : OwD w lo A c n xs) (hA : A = some ⟨g, 0, none⟩) {x : Sw.Deal} (hx : xs[k]? = some x) (v : Int) :
    OwD (w.setCell ⟨g, k * 5 + 3, none⟩ (.int .i64 v)) lo A c n (xs.set k { x with buyer := v }) := by
  obtain ⟨a, b, c', d, e⟩ := x
  exact Ow.set h (fun _ => rfl) (j := 3) (u := .int .i64 v) hA hx (by omega) (y := ⟨a, b, c', v, e⟩) rfl
theorem OD_set4 {w : World} {lo c n k g : Nat} {A : Option Addr} {xs : List Sw.Deal} (h : OwD w lo A c n xs) (hA : A = some ⟨g, 0, none⟩) {x : Sw.Deal} (hx : xs[k]? = some x) (v : Int) :
    OwD (w.setCell ⟨g, k * 5 + 4, none⟩ (.int .i64 v)) lo A c n (xs.set k { x with due := v }) := by
  obtain ⟨a, b, c', d, e⟩ := x
  exact Ow.set h (fun _ => rfl) (j := 4) (u := .int .i64 v) hA hx (by omega) (y := ⟨a, b, c', d, v⟩) rfl
/-- Deals of which the first k have been asked. -/
def backs (clock : Int) (ds : List Sw.Deal) (k : Nat) : List Sw.Deal := (ds.take k).map (Sw.backDeal clock) ++ ds.drop k
theorem backs_at {clock : Int} {ds : List Sw.Deal} {k : Nat} {y : Sw.Deal} (h : ds[k]? = some y) : (backs clock ds k)[k]? = some y := by
  have hk := (List.getElem?_eq_some_iff.1 h).1
  unfold backs
  rw [List.getElem?_append_right (by simp; omega), List.length_map, List.length_take, Nat.min_eq_left (by omega), Nat.sub_self, List.getElem?_drop]
  exact h
theorem backs_step {clock : Int} {ds : List Sw.Deal} {k : Nat} {y : Sw.Deal} (h : ds[k]? = some y) : (backs clock ds k).set k (Sw.backDeal clock y) = backs clock ds (k + 1) := by
  have hk := (List.getElem?_eq_some_iff.1 h).1
  unfold backs
  rw [List.set_append_right _ _ (by simp; omega), List.length_map, List.length_take, Nat.min_eq_left (by omega), Nat.sub_self, List.take_add_one, h]
  simp only [List.map_append, List.map_cons, List.append_assoc, Option.toList_some, List.map_nil, List.cons_append, List.nil_append]
  rw [List.drop_eq_getElem_cons hk]
  rfl
theorem set_atM {α : Type} {xs : List α} {k : Nat} {x y : α} (h : xs[k]? = some x) : (xs.set k y)[k]? = some y := by
  rw [List.getElem?_set, if_pos rfl, if_pos (List.getElem?_eq_some_iff.1 h).1]
theorem backs_same {clock : Int} {ds : List Sw.Deal} {k : Nat} {y : Sw.Deal} (h : ds[k]? = some y) (hb : Sw.backDeal clock y = y) : backs clock ds (k + 1) = backs clock ds k := by
  rw [← backs_step h, hb]
  have h1 := backs_at (clock := clock) h
  apply List.ext_getElem?
  intro i
  rw [List.getElem?_set]
  split
  · rename_i e
    subst e
    rw [h1, if_pos (List.getElem?_eq_some_iff.1 h1).1]
  · rfl
theorem backs_all {clock : Int} {ds : List Sw.Deal} {k : Nat} (h : ds.length ≤ k) : backs clock ds k = ds.map (Sw.backDeal clock) := by
  unfold backs
  rw [List.take_of_length_le h, List.drop_of_length_le h, List.append_nil]
def pursesTo (clock : Int) (m : Sw.Mkt) (k : Nat) : List Int := (m.deals.take k).foldl (Sw.backPurse clock) m.purses
theorem pursesTo_step {clock : Int} {m : Sw.Mkt} {k : Nat} {y : Sw.Deal} (h : m.deals[k]? = some y) : pursesTo clock m (k + 1) = Sw.backPurse clock (pursesTo clock m k) y := by
  unfold pursesTo
  rw [List.take_add_one, h]
  simp

/-- A price goes back: new purses, and one deal that is free again. -/
theorem OwM.backed {τ : Nat → Nat} {wr w1 w2 : World} {lo g0 o gD k A3c : Nat} {A3 : Option Addr} {aL aP aN aS : Option Addr} {aLc aLn aPc aPn aDc aDn aNc aNn aSc aSn : Nat} {m : Sw.Mkt} {ps : List Int} {y : Sw.Deal} {v : Value}
    (h : OwM τ wr lo aL aLc aLn aP aPc aPn (some ⟨gD, 0, none⟩) aDc aDn aN aNc aNn aS aSc aSn m) (hb : Ex wr w1) (hb2 : Ex (w1.setCell ⟨g0, o, none⟩ v) w2) (ho : OwI w1 wr.heap.size A3 A3c aPn ps) (t0 : τ g0 = 0) (hg0 : g0 < wr.heap.size) (hx : m.deals[k]? = some y) (hlo : lo ≤ wr.heap.size) :
    OwM (glue τ wr.heap.size (fun _ => 2)) ((w2.setCell ⟨gD, k * 5 + 3, none⟩ (.int .i64 0)).setCell ⟨gD, k * 5 + 4, none⟩ (.int .i64 0)) lo aL aLc aLn A3 A3c aPn (some ⟨gD, 0, none⟩) aDc aDn aN aNc aNn aS aSc aSn
      ⟨m.log, ps, m.deals.set k { y with buyer := 0, due := 0 }, m.clock, m.nums, m.said⟩ := by
  have hgD := h.deals.ow.blk rfl
  dsimp only at hgD
  have tD : τ gD = 3 := h.deals.tag _ rfl
  have tD' : glue τ wr.heap.size (fun _ => 2) gD = 3 := by unfold glue; rw [if_pos hgD.2]; exact tD
  have t0' : glue τ wr.heap.size (fun _ => 2) g0 = 0 := by unfold glue; rw [if_pos hg0]; exact t0
  have hne : g0 ≠ gD := by rintro rfl; omega
  have hz1 := hb.size
  have hz2 : w1.heap.size ≤ w2.heap.size := by have := hb2.size; simpa [World.setCell] using this
  have K : ∀ t, t ≠ 0 → t ≠ 3 → KT (glue τ wr.heap.size (fun _ => 2)) t lo wr ((w2.setCell ⟨gD, k * 5 + 3, none⟩ (.int .i64 0)).setCell ⟨gD, k * 5 + 4, none⟩ (.int .i64 0)) := by
    intro t h0 h3
    refine ((KT.ex hb2 ((KT.ex hb (KT.refl _ _ _ _)).setCell ?_)).setCell ?_).setCell ?_
    · exact Or.inr (by rw [t0']; exact Ne.symm h0)
    · exact Or.inr (by rw [tD']; exact Ne.symm h3)
    · exact Or.inr (by rw [tD']; exact Ne.symm h3)
  have k2 : ∀ b, b < w1.heap.size → b ≠ g0 → w2.heap[b]? = w1.heap[b]? := fun b hb1 hb0 =>
    (hb2.block b (by simpa [World.setCell] using hb1) (fun h => h)).trans (Below.heap_setCell _ _ _ _ hb0)
  refine ⟨(h.log.glueL (Nat.le_refl _)).keep (K 1 (by omega) (by omega)), ⟨?_, fun a ha => ?_⟩, ⟨?_, fun a ha => ?_⟩, (h.nums.glueL (Nat.le_refl _)).keep (K 4 (by omega) (by omega)), (h.said.glueL (Nat.le_refl _)).keep (K 5 (by omega) (by omega))⟩
  · refine (ho.less hlo).keep_ fun a ha => ?_
    have := ho.blk ha
    rw [Below.heap_setCell _ _ _ _ (show a.block ≠ gD by omega), Below.heap_setCell _ _ _ _ (show a.block ≠ gD by omega)]
    exact k2 _ this.2 (by omega)
  · have := (ho.blk ha).1
    unfold glue; rw [if_neg (by omega)]
  · have h1 : OwD w2 lo (some ⟨gD, 0, none⟩) aDc aDn m.deals := h.deals.ow.keep_ fun a ha => by
      cases ha
      exact (k2 gD (by omega) (Ne.symm hne)).trans (hb.block gD hgD.2 (fun h => h))
    have h2 := OD_set4 (OD_set3 h1 rfl hx 0) rfl (set_atM hx) 0
    rw [List.set_set] at h2
    exact h2
  · cases ha
    exact tD'
theorem OwM.clocked {τ : Nat → Nat} {w : World} {lo : Nat} {aL : Option Addr} {aLc aLn : Nat} {aP : Option Addr} {aPc aPn : Nat} {aD : Option Addr} {aDc aDn : Nat} {aN : Option Addr} {aNc aNn : Nat} {aS : Option Addr} {aSc aSn : Nat} {m : Sw.Mkt} (h : OwM τ w lo aL aLc aLn aP aPc aPn aD aDc aDn aN aNc aNn aS aSc aSn m) (t : Int) : OwM τ w lo aL aLc aLn aP aPc aPn aD aDc aDn aN aNc aNn aS aSc aSn { m with clock := t } := ⟨h.1, h.2, h.3, h.4, h.5⟩
theorem back_y {clock : Int} {y : Sw.Deal} (h1 : 0 < y.buyer) (h2 : y.due < clock) : Sw.backDeal clock y = { y with buyer := 0, due := 0 } := by simp [Sw.backDeal, Sw.held, h1, h2]
theorem back_n {clock : Int} {y : Sw.Deal} (h : ¬ (0 < y.buyer ∧ y.due < clock)) : Sw.backDeal clock y = y := by
  have : (Sw.held y && decide (y.due < clock)) = false := by
    rw [Sw.held, ← Bool.decide_and, decide_eq_false_iff_not]; exact h
  simp [Sw.backDeal, this]
theorem backp_y {clock : Int} {p : List Int} {y : Sw.Deal} (h1 : 0 < y.buyer) (h2 : y.due < clock) : Sw.backPurse clock p y = Sw.monTurn p y.buyer y.price := by simp [Sw.backPurse, Sw.held, h1, h2]
theorem backp_n {clock : Int} {p : List Int} {y : Sw.Deal} (h : ¬ (0 < y.buyer ∧ y.due < clock)) : Sw.backPurse clock p y = p := by
  have : (Sw.held y && decide (y.due < clock)) = false := by
    rw [Sw.held, ← Bool.decide_and, decide_eq_false_iff_not]; exact h
  simp [Sw.backPurse, this]
/-- A market whose first k deals have been asked. -/
def ticked (m : Sw.Mkt) (k : Nat) : Sw.Mkt := ⟨m.log, pursesTo (m.clock + 1) m k, backs (m.clock + 1) m.deals k, m.clock + 1, m.nums, m.said⟩
theorem ticked_all {m : Sw.Mkt} {k : Nat} (h : m.deals.length ≤ k) : ticked m k = Sw.tick m := by
  unfold ticked Sw.tick
  rw [backs_all h]
  unfold pursesTo
  rw [List.take_of_length_le h]

theorem sTick_c (aL : Option Addr) (aLc aLn : Nat) (aP : Option Addr) (aPc aPn : Nat) (aD : Option Addr) (aDc aDn : Nat) (aN : Option Addr) (aNc aNn : Nat) (aS : Option Addr) (aSc aSn : Nat) (m : Sw.Mkt) (lo : Nat) (τ : Nat → Nat) (w : World) (hM : OwM τ w lo aL aLc aLn aP aPc aPn aD aDc aDn aN aNc aNn aS aSc aSn m) (hck0 : 0 ≤ m.clock) (hck1 : m.clock ≤ 99999) (hn : aDn ≤ 4194304) (hp : aPn ≤ 4194304) (hlo : lo ≤ w.heap.size) : Calls Try.prog 120 #[.agg #[.slice aL aLn aLc, .slice aP aPn aPc, .slice aD aDn aDc, .int .i64 m.clock, .slice aN aNn aNc, .slice aS aSn aSc]] w fun E w' => ∃ A c, ∃ τ' : Nat → Nat, E = .returned (.agg #[.slice aL aLn aLc, .slice A aPn c, .slice aD aDn aDc, .int .i64 (m.clock + 1), .slice aN aNn aNc, .slice aS aSn aSc]) ∧ OwM τ' w' lo aL aLc aLn A c aPn aD aDc aDn aN aNc aNn aS aSc aSn (Sw.tick m) ∧ (∀ b, b < w.heap.size → τ' b = τ b) ∧ Ch (SM lo τ) w w' := by
  have l3 := Lib.hid hM.deals.ow.1
  go_enter Try.func120, Try.ntmps120
  go_wp2_with fail
  go_loopw [3] (fun i wr => ∃ (k : Nat) (B : Option Addr) (d : Nat) (τr : Nat → Nat), k ≤ aDn ∧ i = .int .i64 k ∧ Ch (SM lo τ) w wr ∧ (∀ b, b < w.heap.size → τr b = τ b) ∧ τr w.heap.size = 0 ∧ τr (w.heap.size + 1) = 0 ∧
    MktAt wr w.heap.size 0 aL aLc aLn B d aPn aD aDc aDn aN aNc aNn aS aSc aSn (m.clock + 1) ∧ w.heap.size + 2 ≤ wr.heap.size ∧ Lb wr (w.heap.size + 1) 6 ∧
    OwM τr wr lo aL aLc aLn B d aPn aD aDc aDn aN aNc aNn aS aSc aSn (ticked m k)) (fun i _ => aDn - (intOf i).toNat)
  case atStart =>
    have g0 : glue τ w.heap.size (fun _ => 0) w.heap.size = 0 := by unfold glue; rw [if_neg (by omega)]
    refine ⟨0, aP, aPc, glue τ w.heap.size (fun _ => 0), Nat.zero_le _, rfl, (by (exact ext_)), fun b hb => if_pos hb, g0, (by unfold glue; rw [if_neg (by omega)]), ⟨by simp; omega, ?_, ?_, ?_, ?_, ?_, ?_, ?_⟩, by simp, (by exact lbc_), ?_⟩
    case refine_8 =>
      refine OwM.keep (OwM.glueL (m := ticked m 0) (OwM.clocked hM _) (Nat.le_refl _)) fun t h1 h5 => ?_
      have g0' : glue τ w.heap.size (fun _ => 0) w.heap.size ≠ t := by rw [g0]; omega
      (with_reducible repeat (first | exact tR _ _ _ _ | apply tA | apply tD | apply tN | (apply tE; assumption) | (refine tS ?_ (by first | exact Or.inl (by first | omega | (simp only [zA, zC, zD, zN]; omega)) | exact Or.inr (by rw [g0]; decide) | exact Or.inr g0))))
    all_goals first | (simp [go_sem]; done) | (intro i; simp [go_sem]; done)
  case round =>
    obtain ⟨k, B, d, τr, hk, rfl, hb2, hτ, h0, h01, hmk, hsz, hLr, ho⟩ := hrel
    obtain ⟨k0, k1, k2, k3, k4, k5, k6, kf⟩ := hmk
    have hmk : MktAt wr w.heap.size 0 aL aLc aLn B d aPn aD aDc aDn aN aNc aNn aS aSc aSn (m.clock + 1) := ⟨k0, k1, k2, k3, k4, k5, k6, kf⟩
    simp only [Nat.zero_add] at k1 k2 k3 k4 k5 k6
    have Hτ := Lib.hid hτ
    clear hτ
    by_cases hlt : k < aDn
    · obtain ⟨y, hy⟩ : ∃ y, m.deals[k]? = some y := ⟨_, List.getElem?_eq_getElem (by have := l3.out; omega)⟩
      have hyb := backs_at (clock := m.clock + 1) hy
      obtain ⟨gD, x, hA, hloD, hltD, hx, q0, q1, q2, q3, q4, hfz⟩ := at_OD ho.deals.ow hlt
      obtain rfl : x = y := by rw [show (ticked m k).deals = backs (m.clock + 1) m.deals k from rfl, hyb] at hx; exact (Option.some.inj hx).symm
      subst hA
      have HX := Lib.hid hx
      have HY := Lib.hid hy
      clear hx hy hyb
      by_cases hh : 0 < x.buyer ∧ x.due < m.clock + 1
      case neg =>
        have e : ticked m (k + 1) = ticked m k := by
          unfold ticked
          rw [pursesTo_step HY.out, backp_n hh, backs_same HY.out (back_n hh)]
        have He := Lib.hid e; clear e
        by_cases hb1 : 0 < x.buyer
        · have hdu : ¬ x.due < m.clock + 1 := fun h => hh ⟨hb1, h⟩
          clear hh
          go_wp2_with fail
          go_roundw
          case rel =>
            exact ⟨k + 1, B, d, τr, by omega, by go_num, (by (exact ext_)), Hτ.out, h0, h01, hmk.keep (by (exact kf_)), by exact sz_, (by exact lbc_), by rw [He.out]; exact ho.keepF (by (exact kf_))⟩
          case measure => simp [intOf]; omega
        · clear hh
          go_wp2_with fail
          go_roundw
          case rel =>
            exact ⟨k + 1, B, d, τr, by omega, by go_num, (by (exact ext_)), Hτ.out, h0, h01, hmk.keep (by (exact kf_)), by exact sz_, (by exact lbc_), by rw [He.out]; exact ho.keepF (by (exact kf_))⟩
          case measure => simp [intOf]; omega
      case pos =>
        obtain ⟨hb1, hdu⟩ := hh
        go_wp2_with (go_at_call 184; apply Calls.mono; apply sMonTurn_c; (apply Rs.at0 ho.purses.rs; (exact kf_)); omega; rintro E w3 ⟨A3, c3, rfl, ho3, hb⟩; have hst := xr hb; (try simp only [zA, zC, zD, zN] at hst); obtain ⟨hc, hf, hz⟩ := hst)
        have e : ticked m (k + 1) = ⟨m.log, Sw.monTurn (ticked m k).purses x.buyer x.price, (ticked m k).deals.set k { x with buyer := 0, due := 0 }, m.clock + 1, m.nums, m.said⟩ := by
          unfold ticked
          dsimp only
          rw [pursesTo_step HY.out, backp_y hb1 hdu, ← backs_step HY.out, back_y hb1 hdu]
        have He := Lib.hid e; clear e
        have tD : τr gD = 3 := ho.deals.tag _ rfl
        have hne : gD ≠ w.heap.size := by rintro rfl; rw [h0] at tD; cases tD
        have hgS : SM lo τ gD ∨ w.heap.size ≤ gD := by
          by_cases hg : gD < w.heap.size
          · exact .inl ⟨hloD, by rw [← Hτ.out gD hg, tD]; omega, by rw [← Hτ.out gD hg, tD]; omega⟩
          · exact .inr (by omega)
        have hex : Ex wr w3 := ext_
        go_roundw
        case rel =>
          refine ⟨k + 1, A3, c3, glue τr wr.heap.size (fun _ => 2), by omega, by go_num, (by (with_reducible repeat (first | exact cR _ _ | apply cA | apply cD | apply cN | (refine cS ?_ (Or.inr (by first | omega | (simp only [zA, zC, zD, zN]; omega))) _) | (refine cS ?_ hgS _) | (apply cE; assumption) | (apply cK; assumption)))), fun b hb => (if_pos (by omega)).trans (Hτ.out b hb), (if_pos k0).trans h0, (if_pos (by omega)).trans h01, ?_, by exact sz_, (by exact lbc_), ?_⟩
          · exact (((hmk.keep (by (exact kf_))).setP A3 aPn c3).other _ hne).other _ hne
          · rw [He.out]
            exact OwM.backed ho hex (Ch.refl _ _) (ho3.less (by simp)) h0 k0 (backs_at HY.out) (by omega)
        case measure => simp [intOf]; omega
    · obtain ⟨hcr, hfr⟩ := Lb.rules hLr
      go_wp2_with fail
      refine bodyPost_ret (v := .agg #[.slice aL aLn aLc, .slice B aPn d, .slice aD aDn aDc, .int .i64 (m.clock + 1), .slice aN aNn aNc, .slice aS aSn aSc]) (by simp [results, Try.results120, go_sem, *]) rfl ?_
      obtain rfl : k = aDn := by omega
      refine ⟨B, d, τr, rfl, ?_, Hτ.out, (by (exact ext_))⟩
      rw [← ticked_all (Nat.le_of_eq l3.out.symm)]
      refine ho.keep fun t t1 t5 => ?_
      have hnt : τr (w.heap.size + 1) ≠ t := by rw [h01]; omega
      (with_reducible repeat (first | exact tR _ _ _ _ | apply tA | apply tD | apply tN | (apply tE; assumption) | (refine tS ?_ (by first | exact Or.inl (by first | omega | (simp only [zA, zC, zD, zN]; omega)) | exact Or.inr (by rw [hnt]; decide) | exact Or.inr hnt))))
end Go.Proofs.Ytncoiknpkebgoaa

namespace Go.Proofs.Ytncoiknpkebgoaa.Sw
set_option maxRecDepth 100000
set_option linter.unusedSimpArgs false
set_option linter.unusedVariables false
open Go.RowKit (wrap64)

/-- How a request was done: the market behind it, but its numbers. -/
inductive DoneBy (m : Mkt) (rows : List Row) (r : Req) : Mkt → Prop
  | issue : r.kind = 1 → r.user = 1 → r.who ≠ 1 → (rowAt rows r.ticket).who = 0 → m.log.length < 40 → moveMay m.purses r.who 1 r.price = true →
      DoneBy m rows r { m with purses := turned (turned m.purses r.who (-r.price)) 1 r.price, log := m.log ++ [⟨1, r.ticket, r.who, r.price⟩] }
  | offer : r.kind = 2 → (rowAt rows r.ticket).who = r.user → dealAt m.deals r.ticket = none → (rowAt rows r.ticket).used = false → r.price ≤ entCap (rowAt rows r.ticket).face →
      DoneBy m rows r { m with deals := insertDeal ⟨r.ticket, r.user, r.price, 0, 0⟩ m.deals }
  | drop (k : Nat) (d : Deal) : r.kind = 3 → (rowAt rows r.ticket).who = r.user → dealAt m.deals r.ticket = some k → m.deals[k]? = some d → d.ticket = r.ticket → held d = false →
      DoneBy m rows r { m with deals := m.deals.eraseIdx k }
  | fund (k : Nat) (d : Deal) : r.kind = 4 → dealAt m.deals r.ticket = some k → m.deals[k]? = some d → d.ticket = r.ticket → held d = false → d.seller ≠ r.user → turnMay m.purses r.user (-d.price) = true →
      DoneBy m rows r { m with purses := turned m.purses r.user (-d.price), deals := m.deals.set k { d with buyer := r.user, due := m.clock + 5 } }
  | settle (k : Nat) (d : Deal) : r.kind = 5 → dealAt m.deals r.ticket = some k → m.deals[k]? = some d → d.ticket = r.ticket → held d = true → d.seller = r.user → m.log.length < 40 → turnMay m.purses d.seller d.price = true →
      DoneBy m rows r { m with purses := turned m.purses d.seller d.price, log := m.log ++ [⟨2, r.ticket, d.buyer, d.price⟩], deals := m.deals.eraseIdx k }
  | enter : r.kind = 6 → (rowAt rows r.ticket).who = r.user → (rowAt rows r.ticket).used = false → dealAt m.deals r.ticket = none → m.log.length < 40 →
      DoneBy m rows r { m with log := m.log ++ [⟨3, r.ticket, r.user, 0⟩] }
theorem settle_may {m : Mkt} {rows : List Row} (h : MOk m rows) {k : Nat} {d : Deal} (hd : m.deals[k]? = some d) (hh : held d = true) : turnMay m.purses d.seller d.price = true := by
  have hdo := dealOk_iff.1 (h.deals.get hd)
  refine turnMay_in h.mon hdo.2.1 (by have := hdo.2.2.2.2.1; omega) ?_
  have h4 := h.sum
  have h5 := heldSum_erase hd
  have h6 := (heldSum_bd (h.deals.sub (List.eraseIdx_sublist m.deals k)).1).1
  have : heldIn d = d.price := by simp [heldIn, hh]
  omega
/-- A request that is not done turns nothing; one that is done does what its kind does. -/
theorem effect_done {m : Mkt} {rows : List Row} {r : Req} (h : MOk m rows) (hr : reqOk r = true) : ((effect m r).2 ≠ 1 ∧ (effect m r).1 = m) ∨ ((effect m r).2 = 1 ∧ DoneBy m rows r (effect m r).1) := by
  have hr := reqOk_iff.1 hr
  have hlog := (ownFold_some.1 h.fold).1
  unfold effect
  rw [mktRows_of h.fold]
  by_cases k1 : r.kind = 1
  · rw [if_pos k1]
    unfold issue
    split
    · exact .inl ⟨by simp, rfl⟩
    split
    · exact .inl ⟨by simp, rfl⟩
    split
    · exact .inl ⟨by simp, rfl⟩
    split
    · rename_i h1 h2 h3 h4
      exact .inr ⟨rfl, .issue k1 (by omega) (by omega) (by omega) (by omega) h4⟩
    · exact .inl ⟨by simp, rfl⟩
  rw [if_neg k1]
  by_cases k2 : r.kind = 2
  · rw [if_pos k2]
    unfold offer
    split
    · exact .inl ⟨by simp, rfl⟩
    split
    · exact .inl ⟨by simp, rfl⟩
    split
    · exact .inl ⟨by simp, rfl⟩
    · rename_i h1 h2 h3
      simp only [not_or, Bool.not_eq_true] at h2
      exact .inr ⟨rfl, .offer k2 (by simpa using h1) (none_of h2.1) h2.2 (by omega)⟩
  rw [if_neg k2]
  by_cases k3 : r.kind = 3
  · rw [if_pos k3]
    unfold dropIt
    split
    · exact .inl ⟨by simp, rfl⟩
    rename_i h1
    split
    · exact .inl ⟨by simp, rfl⟩
    rename_i k hk
    obtain ⟨d, hd, ht⟩ := dealAt_some hk
    rw [getD_of hd]
    split
    · exact .inl ⟨by simp, rfl⟩
    · exact .inr ⟨rfl, .drop k d k3 (by simpa using h1) hk hd ht (by simpa using ‹¬ held d = true›)⟩
  rw [if_neg k3]
  by_cases k4 : r.kind = 4
  · rw [if_pos k4]
    unfold fund
    split
    · exact .inl ⟨by simp, rfl⟩
    rename_i k hk
    obtain ⟨d, hd, ht⟩ := dealAt_some hk
    rw [getD_of hd]
    split
    · exact .inl ⟨by simp, rfl⟩
    split
    · exact .inl ⟨by simp, rfl⟩
    split
    · exact .inr ⟨rfl, .fund k d k4 hk hd ht (by simpa using ‹¬ held d = true›) ‹_› ‹_›⟩
    · exact .inl ⟨by simp, rfl⟩
  rw [if_neg k4]
  by_cases k5 : r.kind = 5
  · rw [if_pos k5]
    unfold settle
    split
    · exact .inl ⟨by simp, rfl⟩
    rename_i k hk
    obtain ⟨d, hd, ht⟩ := dealAt_some hk
    rw [getD_of hd]
    split
    · exact .inl ⟨by simp, rfl⟩
    split
    · exact .inl ⟨by simp, rfl⟩
    split
    · exact .inl ⟨by simp, rfl⟩
    · rename_i h1 h2 h3
      have hh : held d = true := by simpa using h1
      have hm := settle_may h hd hh
      refine .inr ⟨rfl, ?_⟩
      rw [show monTurn m.purses d.seller d.price = turned m.purses d.seller d.price from by simp [monTurn, hm]]
      exact .settle k d k5 hk hd ht hh (by simpa using h2) (by omega) hm
  rw [if_neg k5]
  unfold enter
  split
  · exact .inl ⟨by simp, rfl⟩
  split
  · exact .inl ⟨by simp, rfl⟩
  split
  · exact .inl ⟨by simp, rfl⟩
  · rename_i h1 h2 h3
    simp only [not_or, Bool.not_eq_true] at h2
    exact .inr ⟨rfl, .enter (by omega) (by simpa using h1) h2.1 (none_of h2.2) (by omega)⟩

/-! ### numbers -/
theorem lastOf_set {l : List Int} {u v x : Int} (h5 : l.length = 5) (hu : 1 ≤ u ∧ u ≤ 5) (hv : 1 ≤ v) : lastOf (l.set (u - 1).toNat x) v = if v = u then x else lastOf l v := by
  unfold lastOf
  rw [List.getD_eq_getElem?_getD, List.getElem?_set]
  by_cases h : v = u
  · subst h
    rw [if_pos rfl, if_pos (by omega), if_pos rfl]; rfl
  · rw [if_neg (by omega), if_neg h, List.getD_eq_getElem?_getD]
theorem said_of {m : Mkt} {rows : List Row} (h : MOk m rows) {u : Int} (hu : 1 ≤ u ∧ u ≤ 5) : numOk (lastOf m.nums u) (lastOf m.said u) = true := by
  have hn := h.nlen
  have hs := h.slen
  obtain ⟨a, ha⟩ : ∃ a, m.nums[(u - 1).toNat]? = some a := ⟨_, List.getElem?_eq_getElem (by omega)⟩
  obtain ⟨b, hb⟩ : ∃ b, m.said[(u - 1).toNat]? = some b := ⟨_, List.getElem?_eq_getElem (by omega)⟩
  unfold lastOf
  rw [getD_of ha, getD_of hb]
  exact (numsOk_iff (by rw [hn, hs])).1 h.nums _ _ _ ha hb
theorem doIt_ans {m : Mkt} {rows : List Row} {r : Req} (h : MOk m rows) (hr : reqOk r = true) : 1 ≤ (doIt m r).2 ∧ (doIt m r).2 ≤ 7 := by
  have hr' := reqOk_iff.1 hr
  unfold doIt
  split
  · have := numOk_iff.1 (said_of h hr'.1)
    dsimp only
    omega
  split
  · simp
  · have := effect_ans m r
    dsimp only
    omega
/-- The log grows by one entry at most. -/
theorem doIt_log {m : Mkt} {rows : List Row} {r : Req} (h : MOk m rows) (hr : reqOk r = true) : (doIt m r).1.log = m.log ∨ ∃ e, (doIt m r).1.log = m.log ++ [e] := by
  unfold doIt
  split
  · exact .inl rfl
  split
  · exact .inl rfl
  · show (effect m r).1.log = m.log ∨ ∃ e, (effect m r).1.log = m.log ++ [e]
    rcases effect_done h hr with ⟨_, e⟩ | ⟨_, d⟩
    · exact .inl (by rw [e])
    · generalize (effect m r).1 = x at d
      cases d
      · exact .inr ⟨_, rfl⟩
      · exact .inl rfl
      · exact .inl rfl
      · exact .inl rfl
      · exact .inr ⟨_, rfl⟩
      · exact .inr ⟨_, rfl⟩
theorem doIt_clock {m : Mkt} {rows : List Row} {r : Req} (h : MOk m rows) (hr : reqOk r = true) : (doIt m r).1.clock = m.clock := by
  unfold doIt
  split
  · rfl
  split
  · rfl
  · exact (effect_eff h hr).clk
end Go.Proofs.Ytncoiknpkebgoaa.Sw

namespace Go.Proofs.Ytncoiknpkebgoaa.Sw
set_option maxRecDepth 100000
set_option linter.unusedSimpArgs false
set_option linter.unusedVariables false
open Go.RowKit (wrap64)

theorem foldLines_append : ∀ (a b : List Req) (m : Mkt), foldLines m (a ++ b) = (foldLines m a).bind fun x => foldLines x b
  | [], b, m => rfl
  | r :: a, b, m => by
    rw [List.cons_append, foldLines, foldLines]
    split
    · split
      · rfl
      · exact foldLines_append a b _
    · split
      · exact foldLines_append a b _
      · rfl
theorem reqZ_no : reqOk reqZ = false := rfl
theorem ne_reqZ {r : Req} (h : reqOk r = true) : r ≠ reqZ := by rintro rfl; rw [reqZ_no] at h; cases h
theorem wldFold_snoc {first : List Int} {ls : List Req} {m : Mkt} (h : wldFold first ls = some m) (hl : ls.length < 300) (r : Req) : wldFold first (ls ++ [r]) = foldLines m [r] := by
  unfold wldFold at h ⊢
  split at h
  · rename_i hc
    simp only [Bool.and_eq_true, decide_eq_true_eq] at hc
    rw [if_pos (by simp only [Bool.and_eq_true, decide_eq_true_eq]; exact ⟨hc.1, by simp; omega⟩), foldLines_append, h]
    rfl
  · cases h

/-- A head of the first so many entries. -/
def Of (log : List Ent) (h : Head) : Prop := hedAt log h.size = some h
theorem hedAt_some {log : List Ent} {s : Int} {h : Head} : hedAt log s = some h ↔ (0 ≤ s ∧ s ≤ log.length) ∧ hedOf (log.take s.toNat) = some h := by
  unfold hedAt
  split
  · rename_i hc; rw [inR_iff] at hc; simp [hc]
  · rename_i hc
    have : ¬ (0 ≤ s ∧ s ≤ log.length) := fun h => hc (inR_iff.2 h)
    simp [this]
theorem hedAt_size {log : List Ent} {s : Int} {h : Head} (e : hedAt log s = some h) : h.size = s := by
  rw [hedAt_some] at e
  have := (hedOf_ok e.2).2
  rw [this, List.length_take]
  omega
theorem hedAt_append {log : List Ent} {s : Int} (es : List Ent) (h : 0 ≤ s ∧ s ≤ log.length) : hedAt (log ++ es) s = hedAt log s := by
  unfold hedAt
  rw [if_pos (inR_iff.2 h), if_pos (inR_iff.2 (by rw [List.length_append]; omega)), List.take_append_of_le_length (by omega)]
theorem Of.append {log : List Ent} {h : Head} (e : Of log h) (es : List Ent) : Of (log ++ es) h := by
  unfold Of at *
  rw [hedAt_append es (hedAt_some.1 e).1, e]
theorem Of.whole {log : List Ent} {h : Head} (e : hedOf log = some h) : Of log h := by
  have hs := (hedOf_ok e).2
  unfold Of
  rw [hedAt_some]
  refine ⟨by omega, ?_⟩
  rw [List.take_of_length_le (by omega)]
  exact e
theorem hedOf_of_fold {log : List Ent} {rows : List Row} (h : ownFold log = some rows) : ∃ x, hedOf log = some x := ⟨_, hedOf_some.2 ⟨rows, h, rfl⟩⟩
/-- Two heads of one log never fork. -/
theorem Of.nofork {log : List Ent} {a b : Head} (ha : Of log a) (hb : Of log b) : hedFork a b = false := by
  unfold Of at *
  by_cases h : a.size = b.size
  · rw [h, hb] at ha
    obtain rfl := Option.some.inj ha
    simp [hedFork]
  · simp [hedFork, h]

/-- What holds of a world that events have led to, from purses first on. -/
structure Inv (first : List Int) (w : World) : Prop where
  ok : WOk w
  isFirst : w.first = first
  fold : wldFold first w.lines = some w.market
  money : total w.market = first.sum
  gates : ∀ g ∈ w.gates, Of w.market.log g.head
  bag : ∀ x ∈ w.bag, Of w.market.log x.head
theorem Inv.rows {first : List Int} {w : World} (h : Inv first w) : ∃ rows, MOk w.market rows := mktOk_iff.1 h.ok.mkt
theorem inv_new {p : List Int} (hp : monOk p = true) (hs : monSum p ≤ 100000) : Inv p (wldNew p) := by
  have ok := wldNew_ok hp hs
  have e : wldNew p = ⟨p, mktNew p, [], [gatNew, gatNew], []⟩ := by simp [wldNew, hp, hs]
  have em : mktNew p = ⟨[], p, [], 0, [0, 0, 0, 0, 0], [0, 0, 0, 0, 0]⟩ := by simp [mktNew, hp, hs]
  rw [e] at ok ⊢
  refine ⟨ok, rfl, by simp [wldFold, hp, hs, foldLines], by rw [em]; simp [total, heldSum], fun g hg => ?_, by simp⟩
  have hg : g = gatNew := by simpa using hg
  subst hg
  rw [em]
  obtain ⟨x, hx⟩ := hedOf_of_fold (log := []) (rows := rows0) rfl
  have : gatNew.head = x := by simp [gatNew, hx]
  rw [this]
  exact Of.whole hx
theorem inv_ask {first : List Int} {w : World} (h : Inv first w) (r : Req) : Inv first (ask w r).1 := by
  have hok := ask_ok h.ok r
  unfold ask at hok ⊢
  split at hok
  · rename_i hr
    rw [if_pos hr]
    simp only [Bool.and_eq_true, decide_eq_true_eq] at hr
    obtain ⟨rows, hm⟩ := h.rows
    have hlog : ∃ es, (doIt w.market r).1.log = w.market.log ++ es := by
      rcases doIt_log hm hr.1 with e | ⟨x, e⟩
      · exact ⟨[], by rw [e, List.append_nil]⟩
      · exact ⟨[x], e⟩
    obtain ⟨es, he⟩ := hlog
    refine ⟨hok, h.isFirst, ?_, ?_, fun g hg => ?_, fun x hx => ?_⟩
    · show wldFold first (w.lines ++ [r]) = _
      rw [wldFold_snoc h.fold hr.2, foldLines, if_neg (ne_reqZ hr.1), if_pos hr.1, foldLines]
    · show total (doIt w.market r).1 = _
      rw [doIt_total hm hr.1, h.money]
    · show Of (doIt w.market r).1.log g.head
      rw [he]
      exact (h.gates g hg).append es
    · show Of (doIt w.market r).1.log x.head
      rw [he]
      exact (h.bag x hx).append es
  · rename_i hr
    rw [if_neg hr]
    exact h
theorem inv_tick {first : List Int} {w : World} (h : Inv first w) : Inv first (tickW w) := by
  have hok := tickW_ok h.ok
  unfold tickW at hok ⊢
  split at hok
  · rename_i hr
    rw [if_pos hr]
    simp only [Bool.and_eq_true, decide_eq_true_eq] at hr
    obtain ⟨rows, hm⟩ := h.rows
    refine ⟨hok, h.isFirst, ?_, ?_, h.gates, h.bag⟩
    · show wldFold first (w.lines ++ [reqZ]) = _
      rw [wldFold_snoc h.fold hr.2, foldLines, if_pos rfl, if_neg hr.1, foldLines]
    · show total (tick w.market) = _
      rw [tick_total hm, h.money]
  · rename_i hr
    rw [if_neg hr]
    exact h
theorem fall_market {first : List Int} {w : World} (h : Inv first w) : (fall w).market = w.market := by
  show (wldFold w.first w.lines).getD w.market = _
  rw [h.isFirst, h.fold]
  rfl
theorem inv_fall {first : List Int} {w : World} (h : Inv first w) : Inv first (fall w) := by
  have e := fall_market h
  refine ⟨fall_ok h.ok, h.isFirst, ?_, ?_, fun g hg => ?_, by simp [fall]⟩
  · rw [e]; exact h.fold
  · rw [e]; exact h.money
  · rw [e]; exact h.gates g hg
theorem inv_send {first : List Int} {w : World} (h : Inv first w) (k : Int) : Inv first (send w k) := by
  have hok := send_ok h.ok k
  unfold send at hok ⊢
  split at hok
  · rename_i hr
    rw [if_pos hr]
    refine ⟨hok, h.isFirst, h.fold, h.money, h.gates, fun x hx => ?_⟩
    rcases List.mem_append.1 hx with hx | hx
    · exact h.bag x hx
    · obtain rfl := List.mem_singleton.1 hx
      obtain ⟨rows, hm⟩ := h.rows
      obtain ⟨y, hy⟩ := hedOf_of_fold hm.fold
      show Of _ ((hedOf w.market.log).getD headZ)
      rw [hy]
      exact Of.whole hy
  · rename_i hr
    rw [if_neg hr]
    exact h
theorem inv_lose {first : List Int} {w : World} (h : Inv first w) (i : Int) : Inv first (lose w i) :=
  ⟨lose_ok h.ok i, h.isFirst, h.fold, h.money, h.gates, fun x hx => h.bag x ((List.eraseIdx_sublist w.bag i.toNat).subset hx)⟩
theorem inv_setGate {first : List Int} {w : World} (h : Inv first w) {k : Nat} {g : Gate} (hg : gatOk g = true) (ho : Of w.market.log g.head) : Inv first { w with gates := w.gates.set k g } := by
  refine ⟨setGate_ok h.ok hg, h.isFirst, h.fold, h.money, fun x hx => ?_, h.bag⟩
  rcases List.mem_or_eq_of_mem_set hx with hx | rfl
  · exact h.gates x hx
  · exact ho
theorem gateAt_mem {w : World} (h : WOk w) {k : Int} (hk : 0 ≤ k ∧ k ≤ 1) : gateAt w k ∈ w.gates := by
  unfold gateAt
  have hl := h.glen
  obtain ⟨g, hg⟩ : ∃ g, w.gates[k.toNat]? = some g := ⟨_, List.getElem?_eq_getElem (by omega)⟩
  rw [getD_of hg]
  exact List.mem_of_getElem? hg
theorem msgAt_mem {w : World} {i : Int} (hi : 0 ≤ i ∧ i ≤ (w.bag.length : Int) - 1) : msgAt w i ∈ w.bag := by
  unfold msgAt
  obtain ⟨g, hg⟩ : ∃ g, w.bag[i.toNat]? = some g := ⟨_, List.getElem?_eq_getElem (by omega)⟩
  rw [getD_of hg]
  exact List.mem_of_getElem? hg
theorem gatSync_head (g : Gate) (h : Head) (p : List Int) (hg : gatOk g = true) : (gatSync g h p).1.done = g.done ∧ g.head.size ≤ (gatSync g h p).1.head.size ∧ ((gatSync g h p).1.head = h ∨ (gatSync g h p).1.head = g.head) := by
  unfold gatSync
  rw [if_pos hg]
  split
  · exact ⟨rfl, (hedFollows_ok ‹_›).2.2, .inl rfl⟩
  · exact ⟨rfl, Int.le_refl _, .inr rfl⟩
theorem inv_heard {first : List Int} {w : World} (h : Inv first w) {x : Msg} (hx : msgOk x = true) (ho : Of w.market.log x.head) : Inv first (heard w x) := by
  simp only [msgOk, Bool.and_eq_true, inR_iff] at hx
  have hg := gateAt_ok h.ok hx.1.1
  refine inv_setGate h (gatSync_ok hg) ?_
  rcases (gatSync_head (gateAt w x.gate) x.head x.proof hg).2.2 with e | e
  · rw [e]; exact ho
  · rw [e]; exact h.gates _ (gateAt_mem h.ok hx.1.1)
theorem inv_hear {first : List Int} {w : World} (h : Inv first w) {i : Int} (hi : 0 ≤ i ∧ i ≤ (w.bag.length : Int) - 1) : Inv first (hear w i) :=
  inv_heard (inv_lose h i) (msgAt_ok h.ok hi) (h.bag _ (msgAt_mem hi))
theorem inv_twice {first : List Int} {w : World} (h : Inv first w) {i : Int} (hi : 0 ≤ i ∧ i ≤ (w.bag.length : Int) - 1) : Inv first (twice w i) := by
  have hok := twice_ok h.ok hi
  unfold twice at hok ⊢
  split at hok
  · rename_i hr
    rw [if_pos hr]
    refine ⟨hok, h.isFirst, h.fold, h.money, h.gates, fun x hx => ?_⟩
    rcases List.mem_append.1 hx with hx | hx
    · exact h.bag x hx
    · obtain rfl := List.mem_singleton.1 hx
      exact h.bag _ (msgAt_mem hi)
  · rename_i hr
    rw [if_neg hr]
    exact h
theorem gatShow_head (g : Gate) (t who : Int) (r : Row) (p : List Int) (hg : gatOk g = true) : (gatShow g t who r p).1.head = g.head := by
  unfold gatShow
  rw [if_pos hg]
  split <;> rfl
theorem inv_show {first : List Int} {w : World} (h : Inv first w) (k t who : Int) : Inv first (showIt w k t who).1 := by
  unfold showIt
  split
  · rename_i hr
    simp only [Bool.and_eq_true, decide_eq_true_eq, inR_iff] at hr
    split
    · exact h
    · split
      · have hg := gateAt_ok h.ok hr.1.1
        refine inv_setGate h (gatShow_ok hg) ?_
        rw [gatShow_head _ _ _ _ _ hg]
        exact h.gates _ (gateAt_mem h.ok hr.1.1)
      · exact h
  · exact h
theorem inv_tellOne {first : List Int} {w : World} (h : Inv first w) (t : Int) : Inv first (tellOne w t) := by
  unfold tellOne
  split
  · exact inv_ask h _
  · exact h
theorem inv_tells {first : List Int} : ∀ (ts : List Int) {w : World}, Inv first w → Inv first (ts.foldl tellOne w)
  | [], _, h => h
  | t :: ts, _, h => inv_tells ts (inv_tellOne h t)
theorem inv_tell {first : List Int} {w : World} (h : Inv first w) (k : Int) : Inv first (tell w k) := by
  unfold tell
  split
  · exact inv_tells _ h
  · exact h
theorem inv_step {first : List Int} {w : World} (h : Inv first w) (e : Ev) : Inv first (step w e).1 := by
  unfold step
  split
  · exact inv_ask h _
  split
  · exact inv_tick h
  split
  · exact inv_fall h
  split
  · exact inv_send h _
  split
  · dsimp only; split
    · exact inv_hear h (inR_iff.1 ‹_›)
    · exact h
  split
  · dsimp only; split
    · exact inv_lose h _
    · exact h
  split
  · dsimp only; split
    · exact inv_twice h (inR_iff.1 ‹_›)
    · exact h
  split
  · exact inv_show h _ _ _
  split
  · exact inv_tell h _
  · exact h
theorem inv_run {first : List Int} : ∀ (es : List Ev) {w : World}, Inv first w → Inv first (runFrom w es)
  | [], _, h => h
  | e :: es, _, h => inv_run es (inv_step h e)
theorem Inv.wldMoney {first : List Int} {w : World} (h : Inv first w) : wldMoney w = first.sum := by
  obtain ⟨rows, hm⟩ := h.rows
  unfold Sw.wldMoney
  rw [hm.total]
  have := h.money
  unfold total at this
  rw [this]
  have hs := hm.sum
  have h1 := (sum_bd w.market.purses 100000 (by omega) (monOk_iff.1 hm.mon).2).1
  have h2 := (heldSum_bd hm.deals.1).1
  exact wrap64_in (by omega)
end Go.Proofs.Ytncoiknpkebgoaa.Sw

namespace Go.Proofs.Ytncoiknpkebgoaa.Sw
set_option maxRecDepth 100000
set_option linter.unusedSimpArgs false
set_option linter.unusedVariables false
open Go.RowKit (wrap64)

theorem root_parts {xs : List Int} (h : 2 ≤ xs.length) : root xs = pair (root (xs.take (split xs.length))) (root (xs.drop (split xs.length))) := by
  match xs, h with
  | x :: y :: r, _ => rw [root]; rfl
theorem split_mid {m n : Nat} (h1 : split n < m) (h2 : m ≤ n) (h3 : 2 ≤ n) : split m = split n := by
  unfold split at *
  have e : (m - 1).log2 = (n - 1).log2 := by
    have hn := (Nat.log2_eq_iff (n := n - 1) (k := (n - 1).log2) (by omega)).1 rfl
    exact (Nat.log2_eq_iff (by omega)).2 ⟨by omega, by omega⟩
  rw [e]
theorem grow_shows : ∀ (n : Nat) (l : List Int) (m : Nat) (old : Int) (known : Bool), 1 ≤ m → m ≤ l.length → l.length ≤ n → (known = true → old = root (l.take m)) →
    grR m l.length old (grow n l m known).reverse known = some (root (l.take m), root l)
  | 0, l, m, old, known, h1, h2, h3, _ => by omega
  | n + 1, l, m, old, known, h1, h2, h3, ho => by
    rw [grow]
    by_cases hm : m = l.length
    · rw [if_pos hm]
      have ht : l.take m = l := List.take_of_length_le (by omega)
      rw [ht] at ho ⊢
      cases known with
      | true => simp [grR, hm, ho rfl]
      | false => simp [grR, hm]
    · rw [if_neg hm]
      have h2' : 2 ≤ l.length := by omega
      have hs := split_lt h2'
      have hp := split_pos l.length
      have hr := root_parts h2'
      by_cases hk : m ≤ split l.length
      · rw [if_pos hk, List.reverse_append, List.reverse_singleton, List.singleton_append, grR, if_neg hm, if_pos hk]
        have hl : (l.take (split l.length)).length = split l.length := by rw [List.length_take]; omega
        have ht : (l.take (split l.length)).take m = l.take m := by rw [List.take_take, Nat.min_eq_left hk]
        have ih := grow_shows n (l.take (split l.length)) m old known h1 (by omega) (by omega) (by rw [ht]; exact ho)
        rw [hl, ht] at ih
        rw [ih, hr]
        rfl
      · rw [if_neg hk, List.reverse_append, List.reverse_singleton, List.singleton_append, grR, if_neg hm, if_neg hk]
        have hl : (l.drop (split l.length)).length = l.length - split l.length := List.length_drop ..
        have ih := grow_shows n (l.drop (split l.length)) (m - split l.length) old false (by omega) (by omega) (by omega) (by simp)
        rw [hl] at ih
        rw [ih, hr]
        have hlm : (l.take m).length = m := by rw [List.length_take]; omega
        have hrm := root_parts (xs := l.take m) (by omega)
        rw [hlm, split_mid (by omega) h2 h2', List.take_take, Nat.min_eq_left (by omega), List.drop_take] at hrm
        rw [hrm]
        rfl
theorem con_shows {l : List Int} {m : Nat} (h : treOk l = true) (h1 : 1 ≤ m) (h2 : m ≤ l.length) : conCheck m (root (l.take m)) l.length (root l) (conProof l m) = true := by
  have hl := treOk_iff.1 h
  have hp := conProof_ok l m
  have hc : conProof l m = growth l m true := by
    unfold conProof
    rw [if_pos (by simp only [Bool.and_eq_true, inR_iff]; exact ⟨h, by omega⟩)]
    rfl
  have hs := grow_shows l.length l m (root (l.take m)) true h1 h2 (Nat.le_refl _) (fun _ => rfl)
  unfold conCheck
  rw [Bool.and_eq_true, Bool.and_eq_true, Bool.and_eq_true, Bool.and_eq_true, Bool.and_eq_true, inR_iff, inR_iff]
  refine ⟨⟨⟨⟨⟨by omega, by omega⟩, root_mix _ (all_take hl.2)⟩, root_mix _ hl.2⟩, hp⟩, ?_⟩
  rw [hc]
  show (grR (m : Int).toNat (l.length : Int).toNat _ (grow l.length l m true).reverse true == _) = true
  rw [Int.toNat_natCast, Int.toNat_natCast, hs]
  simp
theorem head_shape {log : List Ent} {h : Head} (e : hedOf log = some h) : h.size = log.length ∧ h.log = root (log.map entLeaf) := by
  obtain ⟨rows, _, rfl⟩ := hedOf_some.1 e
  exact ⟨rfl, rfl⟩
/-- The head of all entries is shown to follow that of the first so many. -/
theorem follows {log : List Ent} {h x : Head} (ho : Of log h) (e : hedOf log = some x) : hedFollows h x (hedProof log h.size) = true := by
  obtain ⟨hs, hh⟩ := hedAt_some.1 ho
  have ok1 := hedOf_ok hh
  have ok2 := hedOf_ok e
  have sh1 := head_shape hh
  have sh2 := head_shape e
  have h40 : log.length ≤ 40 := by
    obtain ⟨rows, hr, _⟩ := hedOf_some.1 e
    exact (ownFold_some.1 hr).1
  unfold hedFollows
  rw [ok1.1, ok2.1]
  have hle : h.size ≤ x.size := by omega
  have heq : (decide (h.size ≠ x.size) || decide (h = x)) = true := by
    by_cases hx : h.size = x.size
    · rw [List.take_of_length_le (by omega)] at hh
      rw [hh] at e
      simp [Option.some.inj e]
    · simp [hx]
  rw [heq, decide_eq_true hle]
  simp only [Bool.and_self, Bool.true_and]
  have hp : hedProof log h.size = conProof (log.map entLeaf) h.size := by simp [hedProof, h40]
  rw [hp]
  by_cases h0 : h.size = 0
  · rw [if_pos h0, h0]
    have : inR (0 : Int) 1 ((log.map entLeaf).length) = false := by simp [inR]
    have e0 : conProof (log.map entLeaf) 0 = [] := by unfold conProof; rw [this, Bool.and_false]; rfl
    rw [e0]; rfl
  · rw [if_neg h0]
    have hto : treOk (log.map entLeaf) = true := treOk_iff.2 ⟨by simpa using h40, entLeaves_mix log⟩
    have hc := con_shows (l := log.map entLeaf) (m := h.size.toNat) hto (by omega) (by rw [List.length_map]; omega)
    rw [← List.map_take, List.length_map] at hc
    rw [sh1.2, sh2.2, sh2.1]
    have e1 : ((h.size.toNat : Nat) : Int) = h.size := by omega
    rw [e1] at hc
    exact hc

/-! ### what is there can be shown -/
theorem incl_len : ∀ (n : Nat) (l : List Int) (i : Nat), i < l.length → (incl n l i).length ≤ l.length - 1
  | 0, l, i, h => by simp [incl]
  | n + 1, l, i, h => by
    rw [incl]
    split
    · simp
    · have hs := split_lt (n := l.length) (by omega)
      have hp := split_pos l.length
      split
      · have := incl_len n (l.take (split l.length)) i (by rw [List.length_take]; omega)
        rw [List.length_take] at this
        simp only [List.length_append, List.length_singleton]
        omega
      · have := incl_len n (l.drop (split l.length)) (i - split l.length) (by rw [List.length_drop]; omega)
        rw [List.length_drop] at this
        simp only [List.length_append, List.length_singleton]
        omega
theorem incl_mix : ∀ (n : Nat) (l : List Int) (i : Nat), l.all mixOk = true → (incl n l i).all mixOk = true
  | 0, l, i, h => by simp [incl]
  | n + 1, l, i, h => by
    rw [incl]
    split
    · rfl
    · split
      · simp [incl_mix n _ i (all_take h), root_mix _ (all_drop h)]
      · simp [incl_mix n _ _ (all_drop h), root_mix _ (all_take h)]
theorem incl_shows : ∀ (n : Nat) (l : List Int) (i : Nat) (x : Int), l[i]? = some x → l.length ≤ n → upR l.length i x (incl n l i).reverse = (root l, true)
  | 0, l, i, x, h, hn => by have := (List.getElem?_eq_some_iff.1 h).1; omega
  | n + 1, l, i, x, h, hn => by
    have hi := (List.getElem?_eq_some_iff.1 h).1
    rw [incl]
    by_cases h1 : l.length ≤ 1
    · rw [if_pos h1]
      match l, h, hi, h1 with
      | [y], h, hi, h1 =>
        have : i = 0 := by simpa using hi
        subst this
        have : y = x := by simpa using h
        subst this
        simp [upR, root]
    · rw [if_neg h1]
      have hs := split_lt (n := l.length) (by omega)
      have hp := split_pos l.length
      have hr := root_parts (xs := l) (by omega)
      by_cases hk : i < split l.length
      · rw [if_pos hk, List.reverse_append, List.reverse_singleton, List.singleton_append, upR, if_neg h1, if_pos hk]
        have hl : (l.take (split l.length)).length = split l.length := by rw [List.length_take]; omega
        have ih := incl_shows n (l.take (split l.length)) i x (by rw [List.getElem?_take, if_pos hk]; exact h) (by omega)
        rw [hl] at ih
        rw [ih, hr]
      · rw [if_neg hk, List.reverse_append, List.reverse_singleton, List.singleton_append, upR, if_neg h1, if_neg hk]
        have hl : (l.drop (split l.length)).length = l.length - split l.length := List.length_drop ..
        have ih := incl_shows n (l.drop (split l.length)) (i - split l.length) x (by rw [List.getElem?_drop, show split l.length + (i - split l.length) = i from by omega]; exact h) (by omega)
        rw [hl] at ih
        rw [ih, hr]
theorem leavesFrom_get : ∀ (rows : List Row) (t : Int) (k : Nat) (r : Row), rows[k]? = some r → (leavesFrom t rows)[k]? = some (ownLeaf (t + k) r)
  | [], t, k, r, h => by simp at h
  | x :: xs, t, 0, r, h => by
    simp at h
    subst h
    simp [leavesFrom]
  | x :: xs, t, k + 1, r, h => by
    have := leavesFrom_get xs (t + 1) k r (by simpa using h)
    rw [leavesFrom, List.getElem?_cons_succ, this]
    congr 2
    omega
theorem leavesFrom_len : ∀ (rows : List Row) (t : Int), (leavesFrom t rows).length = rows.length
  | [], _ => rfl
  | r :: rs, t => by simp [leavesFrom, leavesFrom_len rs]
theorem ownLeaves_len (rows : List Row) : (ownLeaves rows).length = rows.length := leavesFrom_len rows 0
theorem rowAt_get {rows : List Row} (h : ownOk rows = true) {t : Int} (ht : 0 ≤ t ∧ t ≤ 7) : rows[t.toNat]? = some (rowAt rows t) := by
  have h8 := ownOk_len h
  obtain ⟨r, hr⟩ : ∃ r, rows[t.toNat]? = some r := ⟨_, List.getElem?_eq_getElem (by omega)⟩
  rw [rowAt, getD_of hr]
  exact hr
/-- How a ticket stands is shown under the root of all rows. -/
theorem own_shows {rows : List Row} (h : ownOk rows = true) {t : Int} (ht : 0 ≤ t ∧ t ≤ 7) : ownCheck (ownRoot rows) t (rowAt rows t) (ownProof rows t) = true := by
  have h8 := ownOk_len h
  have hit : inR t 0 7 = true := inR_iff.2 ht
  have hg := leavesFrom_get rows 0 t.toNat _ (rowAt_get h ht)
  rw [show (0 : Int) + (t.toNat : Nat) = t from by omega] at hg
  have hl := ownLeaves_len rows
  have hs := incl_shows (ownLeaves rows).length (ownLeaves rows) t.toNat _ hg (Nat.le_refl _)
  have hp : ownProof rows t = inclusion (ownLeaves rows) t.toNat := by simp [ownProof, h, hit]
  have hr : ownRoot rows = root (ownLeaves rows) := by simp [ownRoot, h]
  unfold ownCheck treCheck
  rw [hit, Bool.true_and, hp, hr]
  have htp : treOk (inclusion (ownLeaves rows) t.toNat) = true := by
    have hm := incl_mix (ownLeaves rows).length (ownLeaves rows) t.toNat (ownLeaves_mix rows)
    have hn := incl_len (ownLeaves rows).length (ownLeaves rows) t.toNat (by omega)
    exact treOk_iff.2 ⟨by unfold inclusion; omega, hm⟩
  have hu : up 8 t.toNat (ownLeaf t (rowAt rows t)) (inclusion (ownLeaves rows) t.toNat) = (root (ownLeaves rows), true) := by
    unfold up inclusion
    rw [hl, h8] at hs
    rw [hl, h8]
    exact hs
  unfold treUp
  rw [if_pos (by
    simp only [Bool.and_eq_true, inR_iff]
    refine ⟨⟨⟨⟨by omega, by omega⟩, ownLeaf_mix _ _⟩, htp⟩, ?_⟩
    show (up 8 t.toNat _ _).2 = true
    rw [hu])]
  show (some (up 8 t.toNat _ _).1 == _) = true
  rw [hu]
  simp
end Go.Proofs.Ytncoiknpkebgoaa.Sw

namespace Go.Proofs.Ytncoiknpkebgoaa.Sw
set_option maxRecDepth 100000
set_option linter.unusedSimpArgs false
set_option linter.unusedVariables false
open Go.RowKit (wrap64)

/-- What came of a request. -/
inductive Did (m : Mkt) (rows : List Row) (r : Req) : Mkt → Int → Prop
  | again : r.n = lastOf m.nums r.user → Did m rows r m (lastOf m.said r.user)
  | old : r.n < lastOf m.nums r.user → Did m rows r m 7
  | no (a : Int) : lastOf m.nums r.user < r.n → 2 ≤ a → a ≤ 6 → Did m rows r (noted m r a) a
  | yes (x : Mkt) : lastOf m.nums r.user < r.n → DoneBy m rows r x → Eff m x → Did m rows r (noted x r 1) 1
theorem did {m : Mkt} {rows : List Row} {r : Req} (h : MOk m rows) (hr : reqOk r = true) : Did m rows r (doIt m r).1 (doIt m r).2 := by
  unfold doIt
  split
  · exact .again ‹_›
  split
  · exact .old ‹_›
  · have ha := effect_ans m r
    have he := effect_eff h hr
    show Did m rows r (noted (effect m r).1 r (effect m r).2) (effect m r).2
    rcases effect_done h hr with ⟨h1, h2⟩ | ⟨h1, h2⟩
    · rw [h2]
      exact .no _ (by omega) (by omega) (by omega)
    · rw [h1]
      exact .yes _ (by omega) h2 he
theorem lastOf_noted {m x : Mkt} {r : Req} {a : Int} {rows : List Row} (h : MOk m rows) (hr : reqOk r = true) (hn : x.nums = m.nums) (hs : x.said = m.said) :
    lastOf (noted x r a).nums r.user = r.n ∧ lastOf (noted x r a).said r.user = a := by
  have hr := reqOk_iff.1 hr
  constructor
  · show lastOf (x.nums.set _ _) _ = _
    rw [lastOf_set (by rw [hn, h.nlen]) hr.1 hr.1.1, if_pos rfl]
  · show lastOf (x.said.set _ _) _ = _
    rw [lastOf_set (by rw [hs, h.slen]) hr.1 hr.1.1, if_pos rfl]

/-! ### deals by their tickets -/
theorem dealOf_iff {clock : Int} {rows : List Row} {ds : List Deal} (h : DOk clock rows ds) {t : Int} {d : Deal} : dealOf ds t = some d ↔ d ∈ ds ∧ d.ticket = t := by
  unfold dealOf
  constructor
  · intro e
    exact ⟨List.mem_of_find?_eq_some e, by have := List.find?_some e; simpa using this⟩
  · rintro ⟨h1, h2⟩
    cases e : ds.find? (fun d => decide (d.ticket = t)) with
    | none =>
      have := List.find?_eq_none.1 e d h1
      simp [h2] at this
    | some d' =>
      have h3 := List.mem_of_find?_eq_some e
      have h4 : d'.ticket = t := by have := List.find?_some e; simpa using this
      obtain ⟨i, hi, rfl⟩ := List.getElem_of_mem h1
      obtain ⟨j, hj, rfl⟩ := List.getElem_of_mem h3
      have := h.inj (List.getElem?_eq_getElem hi) (List.getElem?_eq_getElem hj) (by rw [h2, h4])
      subst this
      rfl
theorem dealOf_none {ds : List Deal} {t : Int} : dealOf ds t = none ↔ ∀ d ∈ ds, d.ticket ≠ t := by
  unfold dealOf
  rw [List.find?_eq_none]
  simp
theorem dealOf_same {c c' : Int} {rows rows' : List Row} {ds es : List Deal} (h : DOk c rows ds) (k : DOk c' rows' es) {t : Int} (he : ∀ d, d.ticket = t → (d ∈ ds ↔ d ∈ es)) : dealOf ds t = dealOf es t := by
  cases e : dealOf ds t with
  | none =>
    symm
    rw [dealOf_none] at e ⊢
    intro d hd ht
    exact e d ((he d ht).2 hd) ht
  | some d =>
    symm
    rw [dealOf_iff h] at e
    rw [dealOf_iff k]
    exact ⟨(he d e.2).1 e.1, e.2⟩
theorem dealOf_at {clock : Int} {rows : List Row} {ds : List Deal} (h : DOk clock rows ds) {k : Nat} {d : Deal} (hk : ds[k]? = some d) : dealOf ds d.ticket = some d := (dealOf_iff h).2 ⟨List.mem_of_getElem? hk, rfl⟩
theorem erase_mem {ds : List Deal} {k : Nat} {d x : Deal} (hk : ds[k]? = some d) (hx : x.ticket ≠ d.ticket) : x ∈ ds.eraseIdx k ↔ x ∈ ds := by
  rw [List.mem_eraseIdx_iff_getElem?]
  constructor
  · rintro ⟨i, _, hi⟩
    exact List.mem_of_getElem? hi
  · intro h
    obtain ⟨i, hi⟩ := List.getElem?_of_mem h
    refine ⟨i, ?_, hi⟩
    rintro rfl
    rw [hk] at hi
    exact hx (by rw [Option.some.inj hi])
theorem set_mem {ds : List Deal} {k : Nat} {d e x : Deal} (hk : ds[k]? = some d) (h1 : x.ticket ≠ d.ticket) (h2 : x.ticket ≠ e.ticket) : x ∈ ds.set k e ↔ x ∈ ds := by
  have hk' := (List.getElem?_eq_some_iff.1 hk).1
  constructor
  · intro h
    rcases List.mem_or_eq_of_mem_set h with h | rfl
    · exact h
    · exact absurd rfl h2
  · intro h
    obtain ⟨i, hi⟩ := List.getElem?_of_mem h
    have hne : k ≠ i := by
      rintro rfl
      rw [hk] at hi
      exact h1 (by rw [Option.some.inj hi])
    exact List.mem_of_getElem? (i := i) (by rw [List.getElem?_set, if_neg hne]; exact hi)

/-! ### what a request leaves apart -/
/-- Rows behind what was done. -/
theorem DoneBy.fold {m x : Mkt} {rows : List Row} {r : Req} (h : MOk m rows) (hr : reqOk r = true) (d : DoneBy m rows r x) :
    ∃ rows', ownFold x.log = some rows' ∧ ∀ t, 0 ≤ t → t ≠ r.ticket → rowAt rows' t = rowAt rows t := by
  have hr := reqOk_iff.1 hr
  have ho := ownFold_ok h.fold
  have put : ∀ (e : Ent), e.ticket = r.ticket → ownFits rows e = true → m.log.length < 40 → ∃ rows', ownFold (m.log ++ [e]) = some rows' ∧ ∀ t, 0 ≤ t → t ≠ r.ticket → rowAt rows' t = rowAt rows t := by
    intro e he hf hl
    refine ⟨_, ownFold_snoc h.fold hl hf, fun t h0 ht => ?_⟩
    rw [rowAt_put (ownOk_len ho) (by rw [he]; exact hr.2.2.2.1) h0, if_neg (by rw [he]; exact ht)]
  cases d with
  | issue k1 h1 h2 h3 hl h4 =>
    refine put ⟨1, r.ticket, r.who, r.price⟩ rfl (ownFits_iff.2 ⟨ho, entOk_iff.2 ?_, (fitsRow_iff (.inl rfl)).2 (.inl ⟨rfl, h3⟩)⟩) hl
    dsimp only
    omega
  | offer => exact ⟨rows, h.fold, fun _ _ _ => rfl⟩
  | drop => exact ⟨rows, h.fold, fun _ _ _ => rfl⟩
  | fund => exact ⟨rows, h.fold, fun _ _ _ => rfl⟩
  | settle k d k5 hk hd ht hh hs hl hm =>
    have hdo := dealOk_iff.1 (h.deals.get hd)
    have hcap := entCap_le (rowAt rows d.ticket).face
    have hb : 0 < d.buyer := by simpa [held] using hh
    refine put ⟨2, r.ticket, d.buyer, d.price⟩ rfl (ownFits_iff.2 ⟨ho, entOk_iff.2 ?_, (fitsRow_iff (.inr (.inl rfl))).2 (.inr (.inl ⟨rfl, ?_⟩))⟩) hl <;> dsimp only
    · omega
    · rw [← ht]
      refine ⟨by omega, ?_, hdo.2.2.2.1, hdo.2.2.2.2.1.2⟩
      rw [hdo.2.2.1]; omega
  | enter k6 h1 h2 h3 hl =>
    refine put ⟨3, r.ticket, r.user, 0⟩ rfl (ownFits_iff.2 ⟨ho, entOk_iff.2 ?_, (fitsRow_iff (.inr (.inr rfl))).2 (.inr (.inr ⟨rfl, h1, h2⟩))⟩) hl
    dsimp only
    omega
/-- Behind what was done all other tickets are offered as they were. -/
theorem DoneBy.apart {m x : Mkt} {rows : List Row} {r : Req} (h : MOk m rows) (d : DoneBy m rows r x) (e : Eff m x) {t : Int} (ht : t ≠ r.ticket) : dealOf m.deals t = dealOf x.deals t := by
  obtain ⟨rows', _, hx⟩ := e.rows
  refine dealOf_same h.deals hx fun y hy => ?_
  cases d with
  | issue => exact Iff.rfl
  | offer =>
    rw [insertDeal_mem]
    constructor
    · exact .inr
    · rintro (rfl | h)
      · exact absurd hy.symm ht
      · exact h
  | drop k d k3 h1 hk hd hdt => exact (erase_mem hd (by rw [hdt, hy]; exact ht)).symm
  | fund k d k4 hk hd hdt => exact (set_mem hd (by rw [hdt, hy]; exact ht) (by dsimp only; rw [hdt, hy]; exact ht)).symm
  | settle k d k5 hk hd hdt => exact (erase_mem hd (by rw [hdt, hy]; exact ht)).symm
  | enter => exact Iff.rfl

/-! ### the clock -/
theorem back_idle {clock : Int} : ∀ (ds : List Deal) (p : List Int), (∀ d ∈ ds, (held d && decide (d.due < clock)) = false) → ds.foldl (backPurse clock) p = p ∧ ds.map (backDeal clock) = ds
  | [], p, _ => ⟨rfl, rfl⟩
  | d :: ds, p, h => by
    have h1 := h d (List.mem_cons_self ..)
    have h2 := back_idle ds p (fun x hx => h x (List.mem_cons_of_mem _ hx))
    rw [List.foldl_cons, List.map_cons]
    have e1 : backPurse clock p d = p := by unfold backPurse; rw [if_neg (by rw [h1]; simp)]
    have e2 : backDeal clock d = d := by unfold backDeal; rw [if_neg (by rw [h1]; simp)]
    rw [e1, e2, h2.1, h2.2]
    exact ⟨rfl, rfl⟩
/-- So many ticks, one behind the other; none, if the clock ends before. -/
def ticks : Nat → Mkt → Option Mkt
  | 0, m => some m
  | n + 1, m => if m.clock = 99999 then none else ticks n (tick m)
theorem tick_held {m : Mkt} {d : Deal} (hd : d ∈ (tick m).deals) (hh : held d = true) : d ∈ m.deals := by
  simp only [tick, List.mem_map] at hd
  obtain ⟨x, hx, rfl⟩ := hd
  unfold backDeal at hh ⊢
  split at hh
  · simp [held] at hh
  · rename_i hc
    rw [if_neg hc]
    exact hx
theorem ticks_ok : ∀ (n : Nat) (m x : Mkt) (rows : List Row), MOk m rows → ticks n m = some x → MOk x rows ∧ x.clock = m.clock + n ∧ total x = total m ∧ x.log = m.log ∧ ∀ d ∈ x.deals, held d = true → d ∈ m.deals
  | 0, m, x, rows, h, e => by
    obtain rfl : m = x := by simpa [ticks] using e
    exact ⟨h, by omega, rfl, rfl, fun d hd _ => hd⟩
  | n + 1, m, x, rows, h, e => by
    rw [ticks] at e
    split at e
    · cases e
    · rename_i hc
      obtain ⟨h1, h2, h3, h4, h5⟩ := ticks_ok n (tick m) x rows (tick_ok h hc) e
      have hck : (tick m).clock = m.clock + 1 := rfl
      rw [hck] at h2
      exact ⟨h1, by omega, by rw [h3, tick_total h], h4, fun d hd hh => tick_held (h5 d hd hh) hh⟩
/-- Behind six ticks nothing is held, and purses have what was. -/
theorem ends {m x : Mkt} {rows : List Row} (h : MOk m rows) (e : ticks 6 m = some x) : mktHeld x = 0 ∧ monSum x.purses = monSum m.purses + mktHeld m := by
  obtain ⟨h1, h2, h3, h4, h5⟩ := ticks_ok 6 m x rows h e
  have hno : ∀ d ∈ x.deals, heldIn d = 0 := by
    intro d hd
    unfold heldIn
    split
    · rename_i hh
      have ha := dealOk_iff.1 (h1.deals.1 d hd)
      have hb := dealOk_iff.1 (h.deals.1 d (h5 d hd hh))
      have hc : 0 < d.buyer := by simpa [held] using hh
      omega
    · rfl
  have h0 : heldSum x.deals = 0 := by
    unfold heldSum
    have key : ∀ ds : List Deal, (∀ d ∈ ds, heldIn d = 0) → (ds.map heldIn).sum = 0 := by
      intro ds
      induction ds with
      | nil => intro _; rfl
      | cons d ds ih =>
        intro hd
        rw [List.map_cons, List.sum_cons, hd d (List.mem_cons_self ..), ih (fun x hx => hd x (List.mem_cons_of_mem _ hx))]
        rfl
    exact key _ hno
  have ht := h.total
  have hs := monSum_eq h1.mon
  unfold total at h3
  refine ⟨by rw [mktHeld, heldOf_eq h1.deals h1.dlen, h0], ?_⟩
  rw [ht, hs]
  omega
end Go.Proofs.Ytncoiknpkebgoaa.Sw

