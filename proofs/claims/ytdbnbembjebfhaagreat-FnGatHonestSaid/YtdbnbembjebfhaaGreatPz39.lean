/-
  Texts joined: LawTo2.
-/
import Derived.Test.YtdbnbembjebfhaaGreatPz35
import Derived.Test.YtdbnbembjebfhaaGreatPz38
namespace Go.Proofs.YtdbnbembjebfhaaGreat
set_option maxRecDepth 100000
set_option linter.unusedSimpArgs false
set_option linter.unusedVariables false
open Go.RowKit Go
set_option maxHeartbeats 400000

theorem toWldMsg_c (q : Int) (t : Sw.Head) (A : Option Addr) (c n : Nat) (xs : List Int) (w : World) (hxs : RI w 0 A c n xs) (hn : n ≤ 4194304) : Calls Tryz.prog 151 #[.agg #[.int .i64 q, .int .i64 t.size, .int .i64 t.log, .int .i64 t.own, .slice A n c]] w fun E w' => ∃ g, E = .returned (.agg #[.int .i64 q, .int .i64 t.size, .int .i64 t.log, .int .i64 t.own, .slice (some ⟨g, 0, none⟩) n n]) ∧ OwI w' w.heap.size (some ⟨g, 0, none⟩) n n xs ∧ w.heap.size ≤ g ∧ g < w'.heap.size ∧ Ex w w' := by
  go_enter Tryz.func151, Tryz.ntmps151
  go_wp2_with (first | (go_at_call 211; refine (toHedHead_c _ _).mono ?_; rintro E w1 ⟨rfl, hb⟩; have hst := xr hb; (try simp only [zA, zC, zD, zN] at hst); obtain ⟨hc, hf, hz⟩ := hst) | (go_at_call 75; apply Calls.mono; apply toIntS_c; ((first | (apply Rs.at0; assumption) | (apply Ow.rs0; assumption)); exact kf_); (first | assumption | omega); rintro E w1 ⟨g, rfl, hr, hge, hlt, hb⟩; (try simp only [zA, zC, zD, zN] at hge); (try simp only [zA, zC, zD, zN] at hlt); have hst := xr hb; (try simp only [zA, zC, zD, zN] at hst); obtain ⟨hc, hf, hz⟩ := hst))
  refine bodyPost_ret (v := .agg #[.int .i64 q, .int .i64 t.size, .int .i64 t.log, .int .i64 t.own, .slice (some ⟨g, 0, none⟩) n n]) (by simp [results, Tryz.results151, go_sem, *]) rfl ?_
  exact ⟨g, rfl, (hr.keep (by (exact kf_))).less (by exact sz_), (by exact sz_), (by exact sz_), ext_⟩

/-- So many gates have been made: their own slices have marks of their own. -/
def GatesTo (τ : Nat → Nat) (w : World) (lo g0 k n : Nat) (gs : List Sw.Gate) : Prop :=
  ∃ vs : List GV, OwGV w lo (some ⟨g0, 0, none⟩) n n vs ∧ τ g0 = 8 ∧ ∀ (j : Nat) (v : GV) (g : Sw.Gate), j < k → vs[j]? = some v → gs[j]? = some g → v.h = g.head ∧ OwTI τ (fdS j) w lo v.A v.c v.n g.done
def MsgsTo (τ : Nat → Nat) (w : World) (lo g0 k n : Nat) (xs : List Sw.Msg) : Prop :=
  ∃ vs : List XV, OwXV w lo (some ⟨g0, 0, none⟩) n n vs ∧ τ g0 = 9 ∧ ∀ (j : Nat) (v : XV) (x : Sw.Msg), j < k → vs[j]? = some v → xs[j]? = some x → v.g = x.gate ∧ v.h = x.head ∧ OwTI τ (fpS j) w lo v.A v.c v.n x.proof
theorem GatesTo.start {w : World} {lo g0 n : Nat} {gs : List Sw.Gate} {vs : List GV} (h : OwGV w lo (some ⟨g0, 0, none⟩) n n vs) : GatesTo (fun _ => 8) w lo g0 0 n gs := ⟨vs, h, rfl, fun j v g hj => by omega⟩
theorem MsgsTo.start {w : World} {lo g0 n : Nat} {gs : List Sw.Msg} {vs : List XV} (h : OwXV w lo (some ⟨g0, 0, none⟩) n n vs) : MsgsTo (fun _ => 9) w lo g0 0 n gs := ⟨vs, h, rfl, fun j v g hj => by omega⟩
/-- The element's cells, before. -/
theorem GatesTo.at_ {τ : Nat → Nat} {w : World} {lo g0 k n j : Nat} {gs : List Sw.Gate} (h : GatesTo τ w lo g0 k n gs) (hj : j < n) :
    ∃ x : GV, lo ≤ g0 ∧ g0 < w.heap.size ∧ w.cell? ⟨g0, j * 4, none⟩ = some (.int .i64 x.h.size) ∧ w.cell? ⟨g0, j * 4 + 1, none⟩ = some (.int .i64 x.h.log) ∧
      w.cell? ⟨g0, j * 4 + 2, none⟩ = some (.int .i64 x.h.own) ∧ w.cell? ⟨g0, j * 4 + 3, none⟩ = some (.slice x.A x.n x.c) ∧ (∀ i, w.frozen? ⟨g0, i, none⟩ = false) := by
  obtain ⟨vs, h1, _, _⟩ := h
  obtain ⟨g, x, hA, h3, h4, _, h5, h6, h7, h8, h9⟩ := at_OGV h1 hj
  cases hA
  exact ⟨x, h3, h4, h5, h6, h7, h8, h9⟩
theorem MsgsTo.at_ {τ : Nat → Nat} {w : World} {lo g0 k n j : Nat} {gs : List Sw.Msg} (h : MsgsTo τ w lo g0 k n gs) (hj : j < n) :
    ∃ x : XV, lo ≤ g0 ∧ g0 < w.heap.size ∧ w.cell? ⟨g0, j * 5, none⟩ = some (.int .i64 x.g) ∧ w.cell? ⟨g0, j * 5 + 1, none⟩ = some (.int .i64 x.h.size) ∧ w.cell? ⟨g0, j * 5 + 2, none⟩ = some (.int .i64 x.h.log) ∧
      w.cell? ⟨g0, j * 5 + 3, none⟩ = some (.int .i64 x.h.own) ∧ w.cell? ⟨g0, j * 5 + 4, none⟩ = some (.slice x.A x.n x.c) ∧ (∀ i, w.frozen? ⟨g0, i, none⟩ = false) := by
  obtain ⟨vs, h1, _, _⟩ := h
  obtain ⟨g, x, hA, h3, h4, _, h5, h6, h7, h8, h9, h10⟩ := at_OXV h1 hj
  cases hA
  exact ⟨x, h3, h4, h5, h6, h7, h8, h9, h10⟩
theorem set_cells_heap {g b : Nat} (h : b ≠ g) : ∀ (vs : List Value) (w : World) (i : Nat), (setCells w g i vs).heap[b]? = w.heap[b]?
  | [], _, _ => rfl
  | v :: vs, w, i => by rw [setCells, set_cells_heap h vs]; exact Below.heap_setCell _ _ _ _ h
theorem set_cells_size {g : Nat} : ∀ (vs : List Value) (w : World) (i : Nat), (setCells w g i vs).heap.size = w.heap.size
  | [], _, _ => rfl
  | v :: vs, w, i => by rw [setCells, set_cells_size vs]; simp
/-- One gate more. -/
theorem GatesTo.step {τ : Nat → Nat} {w w1 : World} {lo g0 k n g1 m : Nat} {gs : List Sw.Gate} {y : Sw.Gate} (h : GatesTo τ w lo g0 k n gs) (hk : k < n) (hy : gs[k]? = some y) (hb : Ex w w1)
    (ho : OwI w1 w.heap.size (some ⟨g1, 0, none⟩) m m y.done) (hlo : lo ≤ w.heap.size) :
    GatesTo (glue τ w.heap.size (fun _ => fdS k)) (setCells w1 g0 (k * 4) (GV.enc ⟨y.head, some ⟨g1, 0, none⟩, m, m⟩)) lo g0 (k + 1) n gs := by
  obtain ⟨vs, h1, h2, h3⟩ := h
  have hg0 := (h1.blk rfl)
  dsimp only at hg0
  have h1' : OwGV w1 lo (some ⟨g0, 0, none⟩) n n vs := h1.keep (KF.ex hb (KF.refl _ _))
  refine ⟨_, Ow.put h1' (fun _ => rfl) ⟨y.head, some ⟨g1, 0, none⟩, m, m⟩ rfl hk, ?_, ?_⟩
  · unfold glue; rw [if_pos hg0.2]; exact h2
  · intro j v g hj hv hg
    rw [List.getElem?_set] at hv
    by_cases hjk : k = j
    · subst hjk
      rw [if_pos rfl, if_pos (by rw [← h1.1]; exact hk)] at hv
      cases hv
      rw [hy] at hg
      cases hg
      refine ⟨rfl, ⟨?_, ?_⟩⟩
      · refine (ho.less hlo).keep_ fun a ha => ?_
        cases ha
        have := (ho.blk rfl).1
        exact set_cells_heap (show g1 ≠ g0 by dsimp only at this; omega) _ _ _
      · intro a ha
        cases ha
        have := (ho.blk rfl).1
        unfold glue; dsimp only at this ⊢; rw [if_neg (by omega)]
    · rw [if_neg hjk] at hv
      obtain ⟨e, hr⟩ := h3 j v g (by omega) hv hg
      refine ⟨e, ⟨hr.ow.keep_ fun a ha => ?_, fun a ha => ?_⟩⟩
      · have hlt := (hr.ow.blk ha).2
        rw [set_cells_heap, hb.block _ hlt (fun h => h)]
        intro e
        have := hr.tag a ha
        rw [e, h2] at this
        unfold fdS at this; omega
      · unfold glue; rw [if_pos (hr.ow.blk ha).2]; exact hr.tag a ha
theorem MsgsTo.step {τ : Nat → Nat} {w w1 : World} {lo g0 k n g1 m : Nat} {gs : List Sw.Msg} {y : Sw.Msg} (h : MsgsTo τ w lo g0 k n gs) (hk : k < n) (hy : gs[k]? = some y) (hb : Ex w w1)
    (ho : OwI w1 w.heap.size (some ⟨g1, 0, none⟩) m m y.proof) (hlo : lo ≤ w.heap.size) :
    MsgsTo (glue τ w.heap.size (fun _ => fpS k)) (setCells w1 g0 (k * 5) (XV.enc ⟨y.gate, y.head, some ⟨g1, 0, none⟩, m, m⟩)) lo g0 (k + 1) n gs := by
  obtain ⟨vs, h1, h2, h3⟩ := h
  have hg0 := (h1.blk rfl)
  dsimp only at hg0
  have h1' : OwXV w1 lo (some ⟨g0, 0, none⟩) n n vs := h1.keep (KF.ex hb (KF.refl _ _))
  refine ⟨_, Ow.put h1' (fun _ => rfl) ⟨y.gate, y.head, some ⟨g1, 0, none⟩, m, m⟩ rfl hk, ?_, ?_⟩
  · unfold glue; rw [if_pos hg0.2]; exact h2
  · intro j v g hj hv hg
    rw [List.getElem?_set] at hv
    by_cases hjk : k = j
    · subst hjk
      rw [if_pos rfl, if_pos (by rw [← h1.1]; exact hk)] at hv
      cases hv
      rw [hy] at hg
      cases hg
      refine ⟨rfl, rfl, ⟨?_, ?_⟩⟩
      · refine (ho.less hlo).keep_ fun a ha => ?_
        cases ha
        have := (ho.blk rfl).1
        exact set_cells_heap (show g1 ≠ g0 by dsimp only at this; omega) _ _ _
      · intro a ha
        cases ha
        have := (ho.blk rfl).1
        unfold glue; dsimp only at this ⊢; rw [if_neg (by omega)]
    · rw [if_neg hjk] at hv
      obtain ⟨e1, e, hr⟩ := h3 j v g (by omega) hv hg
      refine ⟨e1, e, ⟨hr.ow.keep_ fun a ha => ?_, fun a ha => ?_⟩⟩
      · have hlt := (hr.ow.blk ha).2
        rw [set_cells_heap, hb.block _ hlt (fun h => h)]
        intro e
        have := hr.tag a ha
        rw [e, h2] at this
        unfold fpS at this; omega
      · unfold glue; rw [if_pos (hr.ow.blk ha).2]; exact hr.tag a ha
theorem GatesTo.all {τ : Nat → Nat} {w : World} {lo g0 n : Nat} {gs : List Sw.Gate} (h : GatesTo τ w lo g0 n n gs) (hn : n = gs.length) : OwG fdS τ w lo (some ⟨g0, 0, none⟩) n n gs := by
  obtain ⟨vs, h1, h2, h3⟩ := h
  exact ⟨vs, ⟨h1, fun a ha => by cases ha; exact h2⟩, hn, fun k v g hv hg => h3 k v g (by have := (List.getElem?_eq_some_iff.1 hg).1; omega) hv hg⟩
theorem MsgsTo.all {τ : Nat → Nat} {w : World} {lo g0 n : Nat} {gs : List Sw.Msg} (h : MsgsTo τ w lo g0 n n gs) (hn : n = gs.length) : OwX fpS τ w lo (some ⟨g0, 0, none⟩) n n gs := by
  obtain ⟨vs, h1, h2, h3⟩ := h
  exact ⟨vs, ⟨h1, fun a ha => by cases ha; exact h2⟩, hn, fun k v g hv hg => h3 k v g (by have := (List.getElem?_eq_some_iff.1 hg).1; omega) hv hg⟩

theorem toGatGateS_c (A : Option Addr) (c n : Nat) (xs : List Sw.Gate) (w : World) (hxs : RG w 0 A c n xs) (hn : n + dsz xs ≤ 1048576) : Calls Tryz.prog 78 #[.slice A n c] w fun E w' => ∃ g τ, E = .returned (.slice (some ⟨g, 0, none⟩) n n) ∧ OwG fdS τ w' w.heap.size (some ⟨g, 0, none⟩) n n xs ∧ Ex w w' := by
  have hl := Lib.hid hxs.len.1
  have hn1 : n ≤ 1048576 := by omega
  go_enter Tryz.func78, Tryz.ntmps78
  go_wp2_with (at_make; apply wpList_mk (lo := w.heap.size) el_G GV.zero z_G rfl rfl rfl rfl rfl; omega; (unfold maxLen; omega); exact sz_; intro wm hom hbm hzm; have hst := xr hbm; (try simp only [zA, zC, zD, zN] at hst); obtain ⟨hcm, hfm, hzm2⟩ := hst)
  go_loopw [4] (fun i wr => ∃ (k : Nat) (τ : Nat → Nat), k ≤ n ∧ i = .int .i64 k ∧ Ex w wr ∧ GatesTo τ wr w.heap.size w.heap.size k n xs ∧ dsz (xs.drop k) ≤ 1048576) (fun i _ => n - (intOf i).toNat)
  case atStart => exact ⟨0, _, Nat.zero_le _, rfl, by assumption, GatesTo.start hom, by simp; omega⟩
  case round =>
    obtain ⟨k, τ, hk, rfl, hb2, hrel, hds⟩ := hrel
    have hst := Ex.rules hb2 rfl
    obtain ⟨hc2, hf2, hz2⟩ := hst
    by_cases hlt : k < n
    · obtain ⟨g, off, y, B, d, m, rfl, hg0, hg, hd, hy, q0, q1, q2, q3, hr⟩ := at_G hxs hlt
      rw [hd, dsz_cons] at hds
      have hm : m ≤ 1048576 := by have := hr.1; omega
      obtain ⟨x', hg0', hg', p0, p1, p2, p3, hfr⟩ := hrel.at_ hlt
      have Ho := Lib.hid hrel
      have Hy := Lib.hid hy
      have hds2 : dsz (xs.drop (k + 1)) ≤ 1048576 := by omega
      clear hrel hd hy hds
      go_wp2_with (go_at_call 150; apply Calls.mono; apply toGatGate_c; ((first | (apply Rs.at0; assumption) | (apply Ow.rs0; assumption)); exact kf_); (first | assumption | omega); rintro E w1 ⟨g1, rfl, ho1, hge1, hlt1, hb⟩; (try simp only [zA, zC, zD, zN] at hge1); (try simp only [zA, zC, zD, zN] at hlt1); have hst := xr hb; (try simp only [zA, zC, zD, zN] at hst); obtain ⟨hc, hf, hz⟩ := hst)
      go_roundw
      case rel => exact ⟨k + 1, _, by omega, by go_num, ext_, Ho.out.step hlt Hy.out (by assumption) ho1 (by omega), hds2⟩
      case measure => simp [intOf]; omega
    · have Hrel := Lib.hid hrel; clear hrel
      go_wp2_with fail
      go_ret
      have := Hrel.out
      obtain rfl : k = n := by omega
      exact ⟨_, τ, rfl, this.all hl.out, ext_⟩
theorem toWldMsgS_c (A : Option Addr) (c n : Nat) (xs : List Sw.Msg) (w : World) (hxs : RX w 0 A c n xs) (hn : n + psz xs ≤ 1048576) : Calls Tryz.prog 79 #[.slice A n c] w fun E w' => ∃ g τ, E = .returned (.slice (some ⟨g, 0, none⟩) n n) ∧ OwX fpS τ w' w.heap.size (some ⟨g, 0, none⟩) n n xs ∧ Ex w w' := by
  have hl := Lib.hid hxs.len.1
  have hn1 : n ≤ 1048576 := by omega
  go_enter Tryz.func79, Tryz.ntmps79
  go_wp2_with (at_make; apply wpList_mk (lo := w.heap.size) el_X XV.zero z_X rfl rfl rfl rfl rfl; omega; (unfold maxLen; omega); exact sz_; intro wm hom hbm hzm; have hst := xr hbm; (try simp only [zA, zC, zD, zN] at hst); obtain ⟨hcm, hfm, hzm2⟩ := hst)
  go_loopw [4] (fun i wr => ∃ (k : Nat) (τ : Nat → Nat), k ≤ n ∧ i = .int .i64 k ∧ Ex w wr ∧ MsgsTo τ wr w.heap.size w.heap.size k n xs ∧ psz (xs.drop k) ≤ 1048576) (fun i _ => n - (intOf i).toNat)
  case atStart => exact ⟨0, _, Nat.zero_le _, rfl, by assumption, MsgsTo.start hom, by simp; omega⟩
  case round =>
    obtain ⟨k, τ, hk, rfl, hb2, hrel, hds⟩ := hrel
    have hst := Ex.rules hb2 rfl
    obtain ⟨hc2, hf2, hz2⟩ := hst
    by_cases hlt : k < n
    · obtain ⟨g, off, y, B, d, m, rfl, hg0, hg, hd, hy, q0, q1, q2, q3, q4, hr⟩ := at_X hxs hlt
      rw [hd, psz_cons] at hds
      have hm : m ≤ 1048576 := by have := hr.1; omega
      obtain ⟨x', hg0', hg', p0, p1, p2, p3, p4, hfr⟩ := hrel.at_ hlt
      have Ho := Lib.hid hrel
      have Hy := Lib.hid hy
      have hds2 : psz (xs.drop (k + 1)) ≤ 1048576 := by omega
      clear hrel hd hy hds
      go_wp2_with (go_at_call 151; apply Calls.mono; apply toWldMsg_c; ((first | (apply Rs.at0; assumption) | (apply Ow.rs0; assumption)); exact kf_); (first | assumption | omega); rintro E w1 ⟨g1, rfl, ho1, hge1, hlt1, hb⟩; (try simp only [zA, zC, zD, zN] at hge1); (try simp only [zA, zC, zD, zN] at hlt1); have hst := xr hb; (try simp only [zA, zC, zD, zN] at hst); obtain ⟨hc, hf, hz⟩ := hst)
      go_roundw
      case rel => exact ⟨k + 1, _, by omega, by go_num, ext_, Ho.out.step hlt Hy.out (by assumption) ho1 (by omega), hds2⟩
      case measure => simp [intOf]; omega
    · have Hrel := Lib.hid hrel; clear hrel
      go_wp2_with fail
      go_ret
      have := Hrel.out
      obtain rfl : k = n := by omega
      exact ⟨_, τ, rfl, this.all hl.out, ext_⟩
end Go.Proofs.YtdbnbembjebfhaaGreat

