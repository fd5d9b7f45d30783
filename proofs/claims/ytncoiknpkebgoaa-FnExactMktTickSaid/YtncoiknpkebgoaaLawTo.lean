/-
  Walks: the laws' helpers: the program's values out of the laws' own.
-/
import Derived.Test.YtncoiknpkebgoaaOwn2
import Derived.Test.YtncoiknpkebgoaaLaw2
namespace Go.Proofs.Ytncoiknpkebgoaa
set_option maxRecDepth 100000
set_option linter.unusedSimpArgs false
set_option linter.unusedVariables false
open Go.RowKit Go
set_option maxHeartbeats 400000

section
variable {w : World} {lo c n k : Nat} {A : Option Addr}
theorem at_OE {xs : List Sw.Ent} (h : OwE w lo A c n xs) (hk : k < n) :
    ∃ g x, A = some ⟨g, 0, none⟩ ∧ lo ≤ g ∧ g < w.heap.size ∧ xs[k]? = some x ∧ w.cell? ⟨g, k * 4, none⟩ = some (.int .i64 x.kind) ∧ w.cell? ⟨g, k * 4 + 1, none⟩ = some (.int .i64 x.ticket) ∧
      w.cell? ⟨g, k * 4 + 2, none⟩ = some (.int .i64 x.who) ∧ w.cell? ⟨g, k * 4 + 3, none⟩ = some (.int .i64 x.price) ∧ (∀ i, w.frozen? ⟨g, i, none⟩ = false) := by
  obtain ⟨g, x, h1, h2, h3, h4, h5, h6⟩ := Ow.at_ h (fun _ => rfl) hk
  exact ⟨g, x, h1, h2, h3, h4, by simpa using h5 0 _ (by omega) rfl, h5 1 _ (by omega) rfl, h5 2 _ (by omega) rfl, h5 3 _ (by omega) rfl, h6⟩
theorem at_OD {xs : List Sw.Deal} (h : OwD w lo A c n xs) (hk : k < n) :
    ∃ g x, A = some ⟨g, 0, none⟩ ∧ lo ≤ g ∧ g < w.heap.size ∧ xs[k]? = some x ∧ w.cell? ⟨g, k * 5, none⟩ = some (.int .i64 x.ticket) ∧ w.cell? ⟨g, k * 5 + 1, none⟩ = some (.int .i64 x.seller) ∧
      w.cell? ⟨g, k * 5 + 2, none⟩ = some (.int .i64 x.price) ∧ w.cell? ⟨g, k * 5 + 3, none⟩ = some (.int .i64 x.buyer) ∧ w.cell? ⟨g, k * 5 + 4, none⟩ = some (.int .i64 x.due) ∧ (∀ i, w.frozen? ⟨g, i, none⟩ = false) := by
  obtain ⟨g, x, h1, h2, h3, h4, h5, h6⟩ := Ow.at_ h (fun _ => rfl) hk
  exact ⟨g, x, h1, h2, h3, h4, by simpa using h5 0 _ (by omega) rfl, h5 1 _ (by omega) rfl, h5 2 _ (by omega) rfl, h5 3 _ (by omega) rfl, h5 4 _ (by omega) rfl, h6⟩
theorem at_OQ {xs : List Sw.Req} (h : OwQ w lo A c n xs) (hk : k < n) :
    ∃ g x, A = some ⟨g, 0, none⟩ ∧ lo ≤ g ∧ g < w.heap.size ∧ xs[k]? = some x ∧ w.cell? ⟨g, k * 6, none⟩ = some (.int .i64 x.user) ∧ w.cell? ⟨g, k * 6 + 1, none⟩ = some (.int .i64 x.n) ∧
      w.cell? ⟨g, k * 6 + 2, none⟩ = some (.int .i64 x.kind) ∧ w.cell? ⟨g, k * 6 + 3, none⟩ = some (.int .i64 x.ticket) ∧ w.cell? ⟨g, k * 6 + 4, none⟩ = some (.int .i64 x.who) ∧ w.cell? ⟨g, k * 6 + 5, none⟩ = some (.int .i64 x.price) ∧ (∀ i, w.frozen? ⟨g, i, none⟩ = false) := by
  obtain ⟨g, x, h1, h2, h3, h4, h5, h6⟩ := Ow.at_ h (fun _ => rfl) hk
  exact ⟨g, x, h1, h2, h3, h4, by simpa using h5 0 _ (by omega) rfl, h5 1 _ (by omega) rfl, h5 2 _ (by omega) rfl, h5 3 _ (by omega) rfl, h5 4 _ (by omega) rfl, h5 5 _ (by omega) rfl, h6⟩
theorem at_OGV {xs : List GV} (h : OwGV w lo A c n xs) (hk : k < n) :
    ∃ g x, A = some ⟨g, 0, none⟩ ∧ lo ≤ g ∧ g < w.heap.size ∧ xs[k]? = some x ∧ w.cell? ⟨g, k * 4, none⟩ = some (.int .i64 x.h.size) ∧ w.cell? ⟨g, k * 4 + 1, none⟩ = some (.int .i64 x.h.log) ∧
      w.cell? ⟨g, k * 4 + 2, none⟩ = some (.int .i64 x.h.own) ∧ w.cell? ⟨g, k * 4 + 3, none⟩ = some (.slice x.A x.n x.c) ∧ (∀ i, w.frozen? ⟨g, i, none⟩ = false) := by
  obtain ⟨g, x, h1, h2, h3, h4, h5, h6⟩ := Ow.at_ h (fun _ => rfl) hk
  exact ⟨g, x, h1, h2, h3, h4, by simpa using h5 0 _ (by omega) rfl, h5 1 _ (by omega) rfl, h5 2 _ (by omega) rfl, h5 3 _ (by omega) rfl, h6⟩
theorem at_OXV {xs : List XV} (h : OwXV w lo A c n xs) (hk : k < n) :
    ∃ g x, A = some ⟨g, 0, none⟩ ∧ lo ≤ g ∧ g < w.heap.size ∧ xs[k]? = some x ∧ w.cell? ⟨g, k * 5, none⟩ = some (.int .i64 x.g) ∧ w.cell? ⟨g, k * 5 + 1, none⟩ = some (.int .i64 x.h.size) ∧ w.cell? ⟨g, k * 5 + 2, none⟩ = some (.int .i64 x.h.log) ∧
      w.cell? ⟨g, k * 5 + 3, none⟩ = some (.int .i64 x.h.own) ∧ w.cell? ⟨g, k * 5 + 4, none⟩ = some (.slice x.A x.n x.c) ∧ (∀ i, w.frozen? ⟨g, i, none⟩ = false) := by
  obtain ⟨g, x, h1, h2, h3, h4, h5, h6⟩ := Ow.at_ h (fun _ => rfl) hk
  exact ⟨g, x, h1, h2, h3, h4, by simpa using h5 0 _ (by omega) rfl, h5 1 _ (by omega) rfl, h5 2 _ (by omega) rfl, h5 3 _ (by omega) rfl, h5 4 _ (by omega) rfl, h6⟩
end

theorem toEntEntry_c (t : Sw.Ent) (w : World) : Calls Try.prog 185 #[.agg #[.int .i64 t.kind, .int .i64 t.ticket, .int .i64 t.who, .int .i64 t.price]] w fun E w' => E = .returned (.agg #[.int .i64 t.kind, .int .i64 t.ticket, .int .i64 t.who, .int .i64 t.price]) ∧ Ex w w' := by
  go_enter Try.func185, Try.ntmps185
  go_wp2_with fail
  refine bodyPost_ret (v := .agg #[.int .i64 t.kind, .int .i64 t.ticket, .int .i64 t.who, .int .i64 t.price]) (by simp [results, Try.results185, go_sem, *]) rfl ?_
  exact ⟨rfl, (by (with_reducible repeat (first | exact cR _ _ | apply cA | apply cD | apply cN | (refine cS ?_ (Or.inr (by first | omega | (simp only [zA, zC, zD]; omega))) _) | (apply cE; assumption) | (apply cK; assumption) | (refine cG (by assumption) ?_ (by first | omega | (simp only [zA, zC, zD]; omega))))))⟩
theorem toMktDeal_c (t : Sw.Deal) (w : World) : Calls Try.prog 186 #[.agg #[.int .i64 t.ticket, .int .i64 t.seller, .int .i64 t.price, .int .i64 t.buyer, .int .i64 t.due]] w fun E w' => E = .returned (.agg #[.int .i64 t.ticket, .int .i64 t.seller, .int .i64 t.price, .int .i64 t.buyer, .int .i64 t.due]) ∧ Ex w w' := by
  go_enter Try.func186, Try.ntmps186
  go_wp2_with fail
  refine bodyPost_ret (v := .agg #[.int .i64 t.ticket, .int .i64 t.seller, .int .i64 t.price, .int .i64 t.buyer, .int .i64 t.due]) (by simp [results, Try.results186, go_sem, *]) rfl ?_
  exact ⟨rfl, (by (with_reducible repeat (first | exact cR _ _ | apply cA | apply cD | apply cN | (refine cS ?_ (Or.inr (by first | omega | (simp only [zA, zC, zD]; omega))) _) | (apply cE; assumption) | (apply cK; assumption) | (refine cG (by assumption) ?_ (by first | omega | (simp only [zA, zC, zD]; omega))))))⟩
theorem toMktReq_c (t : Sw.Req) (w : World) : Calls Try.prog 202 #[.agg #[.int .i64 t.user, .int .i64 t.n, .int .i64 t.kind, .int .i64 t.ticket, .int .i64 t.who, .int .i64 t.price]] w fun E w' => E = .returned (.agg #[.int .i64 t.user, .int .i64 t.n, .int .i64 t.kind, .int .i64 t.ticket, .int .i64 t.who, .int .i64 t.price]) ∧ Ex w w' := by
  go_enter Try.func202, Try.ntmps202
  go_wp2_with fail
  refine bodyPost_ret (v := .agg #[.int .i64 t.user, .int .i64 t.n, .int .i64 t.kind, .int .i64 t.ticket, .int .i64 t.who, .int .i64 t.price]) (by simp [results, Try.results202, go_sem, *]) rfl ?_
  exact ⟨rfl, (by (with_reducible repeat (first | exact cR _ _ | apply cA | apply cD | apply cN | (refine cS ?_ (Or.inr (by first | omega | (simp only [zA, zC, zD]; omega))) _) | (apply cE; assumption) | (apply cK; assumption) | (refine cG (by assumption) ?_ (by first | omega | (simp only [zA, zC, zD]; omega))))))⟩
theorem toWldLine_c (t : Sw.Req) (w : World) : Calls Try.prog 157 #[.agg #[.int .i64 t.user, .int .i64 t.n, .int .i64 t.kind, .int .i64 t.ticket, .int .i64 t.who, .int .i64 t.price]] w fun E w' => E = .returned (.agg #[.int .i64 t.user, .int .i64 t.n, .int .i64 t.kind, .int .i64 t.ticket, .int .i64 t.who, .int .i64 t.price]) ∧ Ex w w' := by
  go_enter Try.func157, Try.ntmps157
  go_wp2_with (first | (go_at_call 202; refine (toMktReq_c _ _).mono ?_; rintro E w1 ⟨rfl, hb⟩; have hst := xr hb; (try simp only [zA, zC, zD] at hst); obtain ⟨hc, hf, hz⟩ := hst))
  refine bodyPost_ret (v := .agg #[.int .i64 t.user, .int .i64 t.n, .int .i64 t.kind, .int .i64 t.ticket, .int .i64 t.who, .int .i64 t.price]) (by simp [results, Try.results157, go_sem, *]) rfl ?_
  exact ⟨rfl, (by (with_reducible repeat (first | exact cR _ _ | apply cA | apply cD | apply cN | (refine cS ?_ (Or.inr (by first | omega | (simp only [zA, zC, zD]; omega))) _) | (apply cE; assumption) | (apply cK; assumption) | (refine cG (by assumption) ?_ (by first | omega | (simp only [zA, zC, zD]; omega))))))⟩

theorem toEntEntryS_c (A : Option Addr) (c n : Nat) (xs : List Sw.Ent) (w : World) (hxs : RE w 0 A c n xs) (hn : n ≤ 1048576) : Calls Try.prog 121 #[.slice A n c] w fun E w' => ∃ g, E = .returned (.slice (some ⟨g, 0, none⟩) n n) ∧ OwE w' w.heap.size (some ⟨g, 0, none⟩) n n xs ∧ w.heap.size ≤ g ∧ g < w'.heap.size ∧ Ex w w' := by

  have hl := Lib.hid hxs.1
  go_enter Try.func121, Try.ntmps121
  go_wp2_with (at_make; apply wpList_mk (lo := w.heap.size) el_E Sw.entZ z_E rfl rfl rfl rfl rfl; omega; (unfold maxLen; omega); (first | omega | (simp only [zA, zC, zD]; omega) | (simp only [zA, zC, zD] at *; omega)); intro wm hom hbm hzm; have hst := xr hbm; (try simp only [zA, zC, zD] at hst); obtain ⟨hcm, hfm, hzm2⟩ := hst)
  go_loopw [4] (fun i wr => ∃ k : Nat, k ≤ n ∧ i = .int .i64 k ∧ Ex w wr ∧ OwE wr w.heap.size (some ⟨w.heap.size, 0, none⟩) n n (xs.take k ++ List.replicate (n - k) Sw.entZ)) (fun i _ => n - (intOf i).toNat)
  case atStart => exact ⟨0, Nat.zero_le _, rfl, by assumption, by simpa using hom⟩
  case round =>
    obtain ⟨k, hk, rfl, hb2, hrel⟩ := hrel
    have hst := Ex.rules hb2 rfl
    obtain ⟨hc2, hf2, hz2⟩ := hst
    by_cases hlt : k < n
    · obtain ⟨g, off, y, rfl, hg0, hg, hd, hy, hca0, hca1, hca2, hca3⟩ := at_E hxs hlt
      obtain ⟨g', x', hA', hg0', hg', hx', hcb0, hcb1, hcb2, hcb3, hfr⟩ := at_OE hrel hlt
      cases hA'
      have Ho := Lib.hid hrel
      have Hy := Lib.hid hy
      clear hrel hd hy hx'
      go_wp2_with (go_at_call 185; refine (toEntEntry_c _ _).mono ?_; rintro E w1 ⟨rfl, hb⟩; have hst := xr hb; (try simp only [zA, zC, zD] at hst); obtain ⟨hc, hf, hz⟩ := hst)
      go_roundw
      case rel =>
        refine ⟨k + 1, by omega, by go_num, (by (with_reducible repeat (first | exact cR _ _ | apply cA | apply cD | apply cN | (refine cS ?_ (Or.inr (by first | omega | (simp only [zA, zC, zD]; omega))) _) | (apply cE; assumption) | (apply cK; assumption) | (refine cG (by assumption) ?_ (by first | omega | (simp only [zA, zC, zD]; omega)))))), ?_⟩
        have key := fun W (h : OwE W w.heap.size (some ⟨w.heap.size, 0, none⟩) n n (xs.take k ++ List.replicate (n - k) Sw.entZ)) => Ow.put h (fun _ => rfl) y rfl hlt
        rw [take_set_step hl.out hlt Hy.out] at key
        exact key _ (Ow.keep Ho.out (by (with_reducible repeat (first | exact kR _ _ | apply kA | apply kD | apply kN | (refine kS ?_ (by first | omega | (simp only [zA, zC, zD]; omega))) | (apply kE; assumption) | (refine kC (by assumption) ?_ (by first | omega | (simp only [zA, zC, zD]; omega)))))))
      case measure => simp [intOf]; omega
    · have Hrel := Lib.hid hrel; clear hrel
      go_wp2_with fail
      go_ret
      have := Hrel.out
      obtain rfl : k = n := by omega
      rw [Nat.sub_self, List.take_of_length_le (by have := hl.out; omega)] at this
      exact ⟨_, rfl, by simpa using this, Nat.le_refl _, (this.blk rfl).2, (by (with_reducible repeat (first | exact cR _ _ | apply cA | apply cD | apply cN | (refine cS ?_ (Or.inr (by first | omega | (simp only [zA, zC, zD]; omega))) _) | (apply cE; assumption) | (apply cK; assumption) | (refine cG (by assumption) ?_ (by first | omega | (simp only [zA, zC, zD]; omega))))))⟩

theorem toMktDealS_c (A : Option Addr) (c n : Nat) (xs : List Sw.Deal) (w : World) (hxs : RDl w 0 A c n xs) (hn : n ≤ 1048576) : Calls Try.prog 122 #[.slice A n c] w fun E w' => ∃ g, E = .returned (.slice (some ⟨g, 0, none⟩) n n) ∧ OwD w' w.heap.size (some ⟨g, 0, none⟩) n n xs ∧ w.heap.size ≤ g ∧ g < w'.heap.size ∧ Ex w w' := by

  have hl := Lib.hid hxs.1
  go_enter Try.func122, Try.ntmps122
  go_wp2_with (at_make; apply wpList_mk (lo := w.heap.size) el_D Sw.dealZ z_D rfl rfl rfl rfl rfl; omega; (unfold maxLen; omega); (first | omega | (simp only [zA, zC, zD]; omega) | (simp only [zA, zC, zD] at *; omega)); intro wm hom hbm hzm; have hst := xr hbm; (try simp only [zA, zC, zD] at hst); obtain ⟨hcm, hfm, hzm2⟩ := hst)
  go_loopw [4] (fun i wr => ∃ k : Nat, k ≤ n ∧ i = .int .i64 k ∧ Ex w wr ∧ OwD wr w.heap.size (some ⟨w.heap.size, 0, none⟩) n n (xs.take k ++ List.replicate (n - k) Sw.dealZ)) (fun i _ => n - (intOf i).toNat)
  case atStart => exact ⟨0, Nat.zero_le _, rfl, by assumption, by simpa using hom⟩
  case round =>
    obtain ⟨k, hk, rfl, hb2, hrel⟩ := hrel
    have hst := Ex.rules hb2 rfl
    obtain ⟨hc2, hf2, hz2⟩ := hst
    by_cases hlt : k < n
    · obtain ⟨g, off, y, rfl, hg0, hg, hd, hy, hca0, hca1, hca2, hca3, hca4⟩ := at_D hxs hlt
      obtain ⟨g', x', hA', hg0', hg', hx', hcb0, hcb1, hcb2, hcb3, hcb4, hfr⟩ := at_OD hrel hlt
      cases hA'
      have Ho := Lib.hid hrel
      have Hy := Lib.hid hy
      clear hrel hd hy hx'
      go_wp2_with (go_at_call 186; refine (toMktDeal_c _ _).mono ?_; rintro E w1 ⟨rfl, hb⟩; have hst := xr hb; (try simp only [zA, zC, zD] at hst); obtain ⟨hc, hf, hz⟩ := hst)
      go_roundw
      case rel =>
        refine ⟨k + 1, by omega, by go_num, (by (with_reducible repeat (first | exact cR _ _ | apply cA | apply cD | apply cN | (refine cS ?_ (Or.inr (by first | omega | (simp only [zA, zC, zD]; omega))) _) | (apply cE; assumption) | (apply cK; assumption) | (refine cG (by assumption) ?_ (by first | omega | (simp only [zA, zC, zD]; omega)))))), ?_⟩
        have key := fun W (h : OwD W w.heap.size (some ⟨w.heap.size, 0, none⟩) n n (xs.take k ++ List.replicate (n - k) Sw.dealZ)) => Ow.put h (fun _ => rfl) y rfl hlt
        rw [take_set_step hl.out hlt Hy.out] at key
        exact key _ (Ow.keep Ho.out (by (with_reducible repeat (first | exact kR _ _ | apply kA | apply kD | apply kN | (refine kS ?_ (by first | omega | (simp only [zA, zC, zD]; omega))) | (apply kE; assumption) | (refine kC (by assumption) ?_ (by first | omega | (simp only [zA, zC, zD]; omega)))))))
      case measure => simp [intOf]; omega
    · have Hrel := Lib.hid hrel; clear hrel
      go_wp2_with fail
      go_ret
      have := Hrel.out
      obtain rfl : k = n := by omega
      rw [Nat.sub_self, List.take_of_length_le (by have := hl.out; omega)] at this
      exact ⟨_, rfl, by simpa using this, Nat.le_refl _, (this.blk rfl).2, (by (with_reducible repeat (first | exact cR _ _ | apply cA | apply cD | apply cN | (refine cS ?_ (Or.inr (by first | omega | (simp only [zA, zC, zD]; omega))) _) | (apply cE; assumption) | (apply cK; assumption) | (refine cG (by assumption) ?_ (by first | omega | (simp only [zA, zC, zD]; omega))))))⟩

theorem toWldLineS_c (A : Option Addr) (c n : Nat) (xs : List Sw.Req) (w : World) (hxs : RQ w 0 A c n xs) (hn : n ≤ 1048576) : Calls Try.prog 75 #[.slice A n c] w fun E w' => ∃ g, E = .returned (.slice (some ⟨g, 0, none⟩) n n) ∧ OwQ w' w.heap.size (some ⟨g, 0, none⟩) n n xs ∧ w.heap.size ≤ g ∧ g < w'.heap.size ∧ Ex w w' := by

  have hl := Lib.hid hxs.1
  go_enter Try.func75, Try.ntmps75
  go_wp2_with (at_make; apply wpList_mk (lo := w.heap.size) el_Q Sw.reqZ z_Q rfl rfl rfl rfl rfl; omega; (unfold maxLen; omega); (first | omega | (simp only [zA, zC, zD]; omega) | (simp only [zA, zC, zD] at *; omega)); intro wm hom hbm hzm; have hst := xr hbm; (try simp only [zA, zC, zD] at hst); obtain ⟨hcm, hfm, hzm2⟩ := hst)
  go_loopw [4] (fun i wr => ∃ k : Nat, k ≤ n ∧ i = .int .i64 k ∧ Ex w wr ∧ OwQ wr w.heap.size (some ⟨w.heap.size, 0, none⟩) n n (xs.take k ++ List.replicate (n - k) Sw.reqZ)) (fun i _ => n - (intOf i).toNat)
  case atStart => exact ⟨0, Nat.zero_le _, rfl, by assumption, by simpa using hom⟩
  case round =>
    obtain ⟨k, hk, rfl, hb2, hrel⟩ := hrel
    have hst := Ex.rules hb2 rfl
    obtain ⟨hc2, hf2, hz2⟩ := hst
    by_cases hlt : k < n
    · obtain ⟨g, off, y, rfl, hg0, hg, hd, hy, hca0, hca1, hca2, hca3, hca4, hca5⟩ := at_Q hxs hlt
      obtain ⟨g', x', hA', hg0', hg', hx', hcb0, hcb1, hcb2, hcb3, hcb4, hcb5, hfr⟩ := at_OQ hrel hlt
      cases hA'
      have Ho := Lib.hid hrel
      have Hy := Lib.hid hy
      clear hrel hd hy hx'
      go_wp2_with (go_at_call 157; refine (toWldLine_c _ _).mono ?_; rintro E w1 ⟨rfl, hb⟩; have hst := xr hb; (try simp only [zA, zC, zD] at hst); obtain ⟨hc, hf, hz⟩ := hst)
      go_roundw
      case rel =>
        refine ⟨k + 1, by omega, by go_num, (by (with_reducible repeat (first | exact cR _ _ | apply cA | apply cD | apply cN | (refine cS ?_ (Or.inr (by first | omega | (simp only [zA, zC, zD]; omega))) _) | (apply cE; assumption) | (apply cK; assumption) | (refine cG (by assumption) ?_ (by first | omega | (simp only [zA, zC, zD]; omega)))))), ?_⟩
        have key := fun W (h : OwQ W w.heap.size (some ⟨w.heap.size, 0, none⟩) n n (xs.take k ++ List.replicate (n - k) Sw.reqZ)) => Ow.put h (fun _ => rfl) y rfl hlt
        rw [take_set_step hl.out hlt Hy.out] at key
        exact key _ (Ow.keep Ho.out (by (with_reducible repeat (first | exact kR _ _ | apply kA | apply kD | apply kN | (refine kS ?_ (by first | omega | (simp only [zA, zC, zD]; omega))) | (apply kE; assumption) | (refine kC (by assumption) ?_ (by first | omega | (simp only [zA, zC, zD]; omega)))))))
      case measure => simp [intOf]; omega
    · have Hrel := Lib.hid hrel; clear hrel
      go_wp2_with fail
      go_ret
      have := Hrel.out
      obtain rfl : k = n := by omega
      rw [Nat.sub_self, List.take_of_length_le (by have := hl.out; omega)] at this
      exact ⟨_, rfl, by simpa using this, Nat.le_refl _, (this.blk rfl).2, (by (with_reducible repeat (first | exact cR _ _ | apply cA | apply cD | apply cN | (refine cS ?_ (Or.inr (by first | omega | (simp only [zA, zC, zD]; omega))) _) | (apply cE; assumption) | (apply cK; assumption) | (refine cG (by assumption) ?_ (by first | omega | (simp only [zA, zC, zD]; omega))))))⟩

end Go.Proofs.Ytncoiknpkebgoaa
