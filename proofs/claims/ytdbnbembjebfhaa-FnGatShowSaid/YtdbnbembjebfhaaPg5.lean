/-
  Texts joined: Rows2, Heads, Law1, Own2, Draw2, Reg.
-/
import Derived.Test.YtdbnbembjebfhaaPg4
import Derived.Test.YtdbnbembjebfhaaPg2
import Derived.Test.YtdbnbembjebfhaaPg3
import Derived.Deep.RegionHeld3
namespace Go.Proofs.Ytdbnbembjebfhaa
set_option maxRecDepth 100000
set_option linter.unusedSimpArgs false
set_option linter.unusedVariables false
open Go.RowKit Go
set_option maxHeartbeats 400000

theorem at_OR {w : World} {lo c n k : Nat} {A : Option Addr} {xs : List Sw.Row} (h : OwR w lo A c n xs) (hk : k < n) :
    ∃ g x, A = some ⟨g, 0, none⟩ ∧ lo ≤ g ∧ g < w.heap.size ∧ xs[k]? = some x ∧ w.cell? ⟨g, k * 3, none⟩ = some (.int .i64 x.who) ∧ w.cell? ⟨g, k * 3 + 1, none⟩ = some (.int .i64 x.face) ∧
      w.cell? ⟨g, k * 3 + 2, none⟩ = some (.bool x.used) ∧ (∀ i, w.frozen? ⟨g, i, none⟩ = false) := by
  obtain ⟨g, x, h1, h2, h3, h4, h5, h6⟩ := Ow.at_ h (fun _ => rfl) hk
  exact ⟨g, x, h1, h2, h3, h4, by simpa using h5 0 _ (by omega) rfl, h5 1 _ (by omega) rfl, h5 2 _ (by omega) rfl, h6⟩

theorem sNew_c (w : World) : Calls Try.prog 32 #[] w fun E w' => ∃ A, E = .returned (.slice A 8 8) ∧ OwR w' w.heap.size A 8 8 Sw.rows0 ∧ Ex w w' := by
  have hmk : ∀ w, (Instr.makeSlice 64 (.int .i64 8) (.int .i64 8)).run Try.prog w = .ok (.slice (some ⟨w.heap.size, 0, none⟩) 8 8) (w.alloc (.cells (Sw.rows0.flatMap Sw.Row.enc).toArray 29)) := fun _ => by kernel_rfl
  go_enter Try.func32, Try.ntmps32
  go_wp2
  go_ret
  exact ⟨_, rfl, Ow.new _ rfl rfl rfl (fun _ => rfl) (Nat.le_refl _) (by omega), ext_⟩

theorem OR_set0 {w : World} {lo c n k g : Nat} {A : Option Addr} {xs : List Sw.Row} (h : OwR w lo A c n xs) (hA : A = some ⟨g, 0, none⟩) {a b : Int} {u : Bool} (hx : xs[k]? = some ⟨a, b, u⟩) (v : Int) :
    OwR (w.setCell ⟨g, k * 3, none⟩ (.int .i64 v)) lo A c n (xs.set k ⟨v, b, u⟩) := by
  have := Ow.set h (fun _ => rfl) (j := 0) (u := .int .i64 v) hA hx (by omega) (y := ⟨v, b, u⟩) rfl
  simpa using this
theorem OR_set1 {w : World} {lo c n k g : Nat} {A : Option Addr} {xs : List Sw.Row} (h : OwR w lo A c n xs) (hA : A = some ⟨g, 0, none⟩) {a b : Int} {u : Bool} (hx : xs[k]? = some ⟨a, b, u⟩) (v : Int) :
    OwR (w.setCell ⟨g, k * 3 + 1, none⟩ (.int .i64 v)) lo A c n (xs.set k ⟨a, v, u⟩) :=
  Ow.set h (fun _ => rfl) (j := 1) (u := .int .i64 v) hA hx (by omega) (y := ⟨a, v, u⟩) rfl
theorem OR_set2 {w : World} {lo c n k g : Nat} {A : Option Addr} {xs : List Sw.Row} (h : OwR w lo A c n xs) (hA : A = some ⟨g, 0, none⟩) {a b : Int} {u : Bool} (hx : xs[k]? = some ⟨a, b, u⟩) (v : Bool) :
    OwR (w.setCell ⟨g, k * 3 + 2, none⟩ (.bool v)) lo A c n (xs.set k ⟨a, b, v⟩) :=
  Ow.set h (fun _ => rfl) (j := 2) (u := .bool v) hA hx (by omega) (y := ⟨a, b, v⟩) rfl
theorem set_at {α : Type} {xs : List α} {k : Nat} {x y : α} (h : xs[k]? = some x) : (xs.set k y)[k]? = some y := by
  have hk := (List.getElem?_eq_some_iff.1 h).1
  simp [hk]
theorem fits_facts {xs : List Sw.Row} {e : Sw.Ent} (h : Sw.ownFits xs e = true) : xs.length = 8 ∧ 0 ≤ e.ticket ∧ e.ticket < 8 ∧ (e.kind = 1 ∨ e.kind = 2 ∨ e.kind = 3) := by
  simp only [Sw.ownFits, Bool.and_eq_true, Sw.ownOk, Sw.entOk, Sw.inR, decide_eq_true_eq] at h
  obtain ⟨⟨⟨_, h1⟩, ⟨⟨h2, h3⟩, h4, h5⟩, h6⟩, h7⟩ := h
  refine ⟨h1, h2, by omega, ?_⟩
  split at h6
  · exact .inl ‹_›
  · split at h6
    · exact .inr (.inl ‹_›)
    · simp at h6; exact .inr (.inr h6.1)
/-- A ticket that is issued has not been used. -/
theorem fits_fresh {xs : List Sw.Row} {e : Sw.Ent} {t : Nat} {a b : Int} {u : Bool} (h : Sw.ownFits xs e = true) (hk : e.kind = 1) (ht : e.ticket = t) (hx : xs[t]? = some ⟨a, b, u⟩) : u = false := by
  simp only [Sw.ownFits, Bool.and_eq_true, Sw.ownOk, Sw.fitsRow, hk, Sw.rowAt, ht, Int.toNat_natCast, List.getD_eq_getElem?_getD, hx, Option.getD_some, if_true, decide_eq_true_eq] at h
  obtain ⟨⟨⟨h1, _⟩, _⟩, h2⟩ := h
  have := List.all_eq_true.1 h1 _ (List.mem_of_getElem? hx)
  simp [Sw.rowOk, Sw.inR] at this
  rcases this with h | h
  · exact h.2
  · omega
theorem put_eq {xs : List Sw.Row} {e : Sw.Ent} {t : Nat} {x : Sw.Row} (h : Sw.ownFits xs e = true) (ht : e.ticket = t) (hx : xs[t]? = some x) : Sw.ownPut xs e = xs.set t (Sw.putRow x e) := by
  simp [Sw.ownPut, h, Sw.putRows, Sw.rowAt, ht, hx]

theorem sOwnPut_c (A : Option Addr) (c n : Nat) (xs : List Sw.Row) (e : Sw.Ent) (w : World) (hxs : RR w 0 A c n xs) (hn : n ≤ 4194304) : Calls Try.prog 72 #[.slice A n c, .agg #[.int .i64 e.kind, .int .i64 e.ticket, .int .i64 e.who, .int .i64 e.price]] w fun E w' => ∃ A' c', E = .returned (.tuple #[.slice A' n c', .bool (Sw.ownFits xs e)]) ∧ OwR w' w.heap.size A' c' n (Sw.ownPut xs e) ∧ Ex w w' := by
  by_cases hfit : Sw.ownFits xs e = true
  · have hl := Lib.hid hxs.1
    obtain ⟨h8, t0, t1, hk⟩ := fits_facts hfit
    obtain ⟨t, ht⟩ := Int.eq_ofNat_of_zero_le t0
    have e0 : e.ticket.toNat = t := by omega
    have Ht := Lib.hid ht
    have htn : t < n := by have := hl.out; omega
    have hn8 : n = 8 := by have := hl.out; omega
    subst hn8
    have Hk := Lib.hid hk
    have H8 := Lib.hid h8
    clear ht hk h8
    have key : ∀ (b1 b2 : Bool), (e.kind == 1) = b1 → (e.kind == 2) = b2 → Calls Try.prog 72 #[.slice A 8 c, .agg #[.int .i64 e.kind, .int .i64 e.ticket, .int .i64 e.who, .int .i64 e.price]] w fun E w' => ∃ A' c', E = .returned (.tuple #[.slice A' 8 c', .bool (Sw.ownFits xs e)]) ∧ OwR w' w.heap.size A' c' 8 (Sw.ownPut xs e) ∧ Ex w w' := by
      intro b1 b2 hb1 hb2
      go_enter Try.func72, Try.ntmps72
      go_wp2_with (first | (at_builtin; apply wpList_app (lo := w.heap.size + 1) el_R one_R rfl rfl rfl rfl; (first | assumption | exact Ow.nil _ _ | (apply Ow.keep; assumption; exact kf_) | (refine Ow.new [] (by (first | rfl | (simp only [zA, zC, zD, zN]; done) | omega)) rfl rfl (fun _ => rfl) (by exact sz_) (by omega))); (first | ((first | (apply Rs.at0; assumption) | (apply Ow.rs0; assumption)); exact kf_)); omega; exact sz_; intro A1 c1 w2 ho1 hch1 hat1 hex1 hlow1; have hb := hex1 (fun _ => False) w (by exact ext_) (by exact sz_); have hz := hch1.size; (try simp only [zA, zC, zD, zN] at hz); obtain ⟨hc, hf⟩ := low_rules hlow1; clear hlow1 hex1))
      simp only [Nat.zero_add, List.nil_append] at ho1
      apply Calls.mono; apply sOwnFits_c; (first | assumption | ((first | (apply Rs.at0; assumption) | (apply Ow.rs0; assumption)); exact kf_) | omega); rintro E w3 ⟨rfl, hb3⟩; have hst := Ex.rules hb3 rfl; obtain ⟨hc3, hf3, hz3⟩ := hst
      have ho3 := Ow.keep ho1 (KF.ex hb3 (KF.refl _ _))
      obtain ⟨g, x, hA, hlo, hlt, hx, c0, c1, c2, hfz⟩ := at_OR ho3 htn
      obtain ⟨ya, yb, yu⟩ := x
      have Hx := Lib.hid hx
      have hlo' : w.heap.size ≤ g := by omega
      clear hx
      subst hA
      dsimp only at c0 c1 c2
      cases b1 with
      | true =>
        go_wp2_with fail
        go_ret2
        refine ⟨_, _, by rw [hfit]; rfl, ?_, ext_⟩
        have k1 : e.kind = 1 := by simpa using hb1
        rw [put_eq hfit Ht.out Hx.out]
        have hu := fits_fresh hfit k1 Ht.out Hx.out
        subst hu
        have r := OR_set2 (OR_set1 (OR_set0 ho3 rfl Hx.out e.who) rfl (set_at Hx.out) e.price) rfl (set_at (set_at Hx.out)) false
        simp only [List.set_set] at r
        simp only [Sw.putRow, k1, if_true]
        exact r.less (by omega)
      | false =>
        have k1 : ¬ e.kind = 1 := by simpa using hb1
        cases b2 with
        | true =>
          go_wp2_with fail
          go_ret2
          refine ⟨_, _, by rw [hfit]; rfl, ?_, ext_⟩
          have k2 : e.kind = 2 := by simpa using hb2
          rw [put_eq hfit Ht.out Hx.out]
          have r := OR_set0 ho3 rfl Hx.out e.who
          simp only [Sw.putRow, if_neg k1, k2, if_true]
          exact r.less (by omega)
        | false =>
          go_wp2_with fail
          go_ret2
          refine ⟨_, _, by rw [hfit]; rfl, ?_, ext_⟩
          have k2 : ¬ e.kind = 2 := by simpa using hb2
          rw [put_eq hfit Ht.out Hx.out]
          have r := OR_set2 ho3 rfl Hx.out true
          simp only [Sw.putRow, if_neg k1, if_neg k2]
          exact r.less (by omega)
    exact key _ _ rfl rfl
  · have hf0 : Sw.ownFits xs e = false := by simpa using hfit
    go_enter Try.func72, Try.ntmps72
    go_wp2_with (first | (at_builtin; apply wpList_app (lo := w.heap.size + 1) el_R one_R rfl rfl rfl rfl; (first | assumption | exact Ow.nil _ _ | (apply Ow.keep; assumption; exact kf_) | (refine Ow.new [] (by (first | rfl | (simp only [zA, zC, zD, zN]; done) | omega)) rfl rfl (fun _ => rfl) (by exact sz_) (by omega))); (first | ((first | (apply Rs.at0; assumption) | (apply Ow.rs0; assumption)); exact kf_)); omega; exact sz_; intro A1 c1 w2 ho1 hch1 hat1 hex1 hlow1; have hb := hex1 (fun _ => False) w (by exact ext_) (by exact sz_); have hz := hch1.size; (try simp only [zA, zC, zD, zN] at hz); obtain ⟨hc, hf⟩ := low_rules hlow1; clear hlow1 hex1) | (go_at_call 106; apply Calls.mono; apply sOwnFits_c; ((first | (apply Rs.at0; assumption) | (apply Ow.rs0; assumption)); exact kf_); rintro E w1 ⟨rfl, hb⟩; have hst := xr hb; (try simp only [zA, zC, zD, zN] at hst); obtain ⟨hc, hf, hz⟩ := hst))
    go_ret2
    refine ⟨_, _, by rw [hf0]; rfl, ?_, ext_⟩
    rw [show Sw.ownPut xs e = xs from by simp [Sw.ownPut, hf0]]
    simp only [Nat.zero_add, List.nil_append] at ho1
    refine Ow.less ?_ (show w.heap.size ≤ w.heap.size + 1 by omega)
    apply Ow.keep ho1; (exact kf_)
end Go.Proofs.Ytdbnbembjebfhaa

namespace Go.Proofs.Ytdbnbembjebfhaa
set_option maxRecDepth 100000
set_option linter.unusedSimpArgs false
set_option linter.unusedVariables false
open Go.RowKit Go
set_option maxHeartbeats 400000

theorem fold_ok : ∀ (es : List Sw.Ent) (rows r : List Sw.Row), Sw.foldFrom rows es = some r → rows.length = 8 → r.length = 8
  | [], rows, r, h, h8 => by simp [Sw.foldFrom] at h; rw [← h]; exact h8
  | e :: es, rows, r, h, h8 => by
    rw [Sw.foldFrom] at h
    split at h
    · exact fold_ok es _ r h (by simp [Sw.putRows, h8])
    · cases h
theorem ownFold_len {es : List Sw.Ent} {r : List Sw.Row} (h : Sw.ownFold es = some r) : r.length = 8 := by
  unfold Sw.ownFold at h
  split at h
  · exact fold_ok es _ r h rfl
  · cases h

theorem sOwnFold_c (A : Option Addr) (c n : Nat) (xs : List Sw.Ent) (w : World) (hxs : RE w 0 A c n xs) : Calls Try.prog 31 #[.slice A n c] w fun E w' => ∃ A' c' n', E = .returned (.tuple #[.slice A' n' c', .bool (Sw.ownFold xs).isSome]) ∧ OwR w' w.heap.size A' c' n' ((Sw.ownFold xs).getD []) ∧ Ex w w' := by
  have hl := Lib.hid hxs.1
  by_cases hn : n ≤ 40
  · have hn' : decide (40 < n) = false := by simp; omega
    go_enter Try.func31, Try.ntmps31
    go_wp2_with (first | (go_at_call 32; refine (sNew_c _).mono ?_; rintro E w1 ⟨A, rfl, hr, hb⟩; have hst := xr hb; (try simp only [zA, zC, zD, zN] at hst); obtain ⟨hc, hf, hz⟩ := hst))
    go_loopw [4, 5] (fun r i wr => ∃ (k : Nat) (B : Option Addr) (d : Nat) (rows : List Sw.Row), k ≤ n ∧ i = .int .i64 k ∧ r = .slice B 8 d ∧ Ex w wr ∧ OwR wr w.heap.size B d 8 rows ∧ Sw.ownFold xs = Sw.foldFrom rows (xs.drop k)) (fun _ i _ => n - (intOf i).toNat)
    case atStart => exact ⟨0, _, _, _, Nat.zero_le _, rfl, rfl, ext_, hr, by rw [Sw.ownFold, if_pos (by have := hl.out; omega)]; rfl⟩
    case round =>
      clear hb hc hf hz hr
      obtain ⟨k, B, d, rows, hk, rfl, rfl, hb, ho, hrel⟩ := hrel
      have hst := Ex.rules hb rfl
      obtain ⟨hc, hf, hz⟩ := hst
      by_cases hlt : k < n
      · obtain ⟨g, off, y, rfl, hg0, hg, hd, hy, hc0, hc1, hc2, hc3⟩ := at_E hxs hlt
        rw [hd, Sw.foldFrom] at hrel
        have Hrel := Lib.hid hrel
        clear hd hy hrel
        go_wp2_with (first | (go_at_call 72; apply Calls.mono; apply sOwnPut_c; (apply Ow.rs0 ho; exact KF.refl _ _); omega; rintro E w1 ⟨A1, c1, rfl, ho1, hb1⟩; have hst := Ex.rules hb1 rfl; obtain ⟨hc1', hf1', hz1'⟩ := hst))
        · go_ret2
          have hfit : Sw.ownFits rows y = false := by rename_i h; simpa using h
          have hh := Hrel.out
          rw [if_neg (by simp [hfit])] at hh
          refine ⟨_, _, _, by rw [hh]; rfl, ?_, ext_⟩
          rw [hh]
          (refine Ow.new [] (by (first | rfl | (simp only [zA, zC, zD, zN]; done) | omega)) rfl rfl (fun _ => rfl) (by exact sz_) (by omega))
        · have hfit : Sw.ownFits rows y = true := by rename_i h; simpa using h
          have hh := Hrel.out
          rw [if_pos hfit] at hh
          refine ⟨⟨k + 1, _, _, _, by omega, by go_num, rfl, ext_, ho1.less (by omega), ?_⟩, by simp [intOf]; omega⟩
          rw [hh, Sw.ownPut, if_pos hfit]
      · have Hrel := Lib.hid hrel; clear hrel
        go_wp2_with fail
        go_ret2
        obtain rfl : k = n := by omega
        have hh := Hrel.out
        rw [List.drop_of_length_le (by have := hl.out; omega)] at hh
        refine ⟨_, _, _, by rw [hh]; rfl, ?_, ext_⟩
        rw [hh]
        exact ho
  · have hn' : decide (40 < n) = true := by simp; omega
    go_enter Try.func31, Try.ntmps31
    go_wp2_with (first | (go_at_call 32; refine (sNew_c _).mono ?_; rintro E w1 ⟨A, rfl, hr, hb⟩; have hst := xr hb; (try simp only [zA, zC, zD, zN] at hst); obtain ⟨hc, hf, hz⟩ := hst))
    go_ret2
    have hh : Sw.ownFold xs = none := by rw [Sw.ownFold, if_neg (by have := hl.out; omega)]
    refine ⟨_, _, _, by rw [hh]; rfl, ?_, ext_⟩
    rw [hh]
    (refine Ow.new [] (by (first | rfl | (simp only [zA, zC, zD, zN]; done) | omega)) rfl rfl (fun _ => rfl) (by exact sz_) (by omega))

theorem mixLeaf_ok (l : List Int) : Sw.mixOk (Sw.mixLeaf l) = true := by
  rw [mixOk_bd]; unfold Sw.mixLeaf
  exact ⟨Int.emod_nonneg _ (by omega), by have := Int.emod_lt_of_pos (Sw.mixLeafFrom 7 l * 31 + l.length) (show (0 : Int) < 65521 by omega); omega⟩
theorem ownLeaf_ok (t : Int) (r : Sw.Row) : Sw.mixOk (Sw.ownLeaf t r) = true := by
  unfold Sw.ownLeaf
  split
  · exact mixLeaf_ok _
  · rfl
theorem leavesFrom_ok : ∀ (rows : List Sw.Row) (t : Int), (Sw.leavesFrom t rows).all Sw.mixOk = true
  | [], _ => rfl
  | r :: rs, t => by simp only [Sw.leavesFrom, List.all_cons, ownLeaf_ok, leavesFrom_ok rs, Bool.and_self]
theorem ownLeaves_ok (rows : List Sw.Row) : (Sw.ownLeaves rows).all Sw.mixOk = true := leavesFrom_ok rows 0
theorem entLeaves_ok (es : List Sw.Ent) : (es.map Sw.entLeaf).all Sw.mixOk = true := by
  rw [List.all_map, List.all_eq_true]; exact fun e _ => mixLeaf_ok _

theorem sOwnRoot_c (A : Option Addr) (c n : Nat) (xs : List Sw.Row) (w : World) (hxs : RR w 0 A c n xs) : Calls Try.prog 145 #[.slice A n c] w fun E w' => E = .returned (.int .i64 (Sw.ownRoot xs)) ∧ Ex w w' := by
  have hl := Lib.hid hxs.1
  by_cases hok : Sw.ownOk xs = true
  · have hn : n = 8 := by have := hl.out; simp [Sw.ownOk] at hok; omega
    subst hn
    go_enter Try.func145, Try.ntmps145
    go_wp2_with (first | (go_at_call 77; apply Calls.mono; apply sOwnOk_c; ((first | (apply Rs.at0; assumption) | (apply Ow.rs0; assumption)); exact kf_); rintro E w1 ⟨rfl, hb⟩; have hst := xr hb; (try simp only [zA, zC, zD, zN] at hst); obtain ⟨hc, hf, hz⟩ := hst) | (go_at_call 79; apply Calls.mono; apply sLeaves_c; (first | assumption | ((first | (apply Rs.at0; assumption) | (apply Ow.rs0; assumption)); exact kf_) | omega); omega; rintro E w1 ⟨A1, c1, rfl, ho1, hb1⟩) | (go_at_call 109; apply Calls.mono; apply (sRoot_c 8); omega; (apply Ow.rs0 ho1; exact KF.refl _ _); omega; exact ownLeaves_ok _; rintro E w2 ⟨rfl, hb2⟩))
    go_ret
    exact ⟨ret_i (by simp [Sw.ownRoot, hok]), ext_⟩
  · have hok' : Sw.ownOk xs = false := by simpa using hok
    go_enter Try.func145, Try.ntmps145
    go_wp2_with (first | (go_at_call 77; apply Calls.mono; apply sOwnOk_c; ((first | (apply Rs.at0; assumption) | (apply Ow.rs0; assumption)); exact kf_); rintro E w1 ⟨rfl, hb⟩; have hst := xr hb; (try simp only [zA, zC, zD, zN] at hst); obtain ⟨hc, hf, hz⟩ := hst))
    go_ret
    exact ⟨ret_i (by simp [Sw.ownRoot, hok']), ext_⟩

theorem sHedOf_c (A : Option Addr) (c n : Nat) (xs : List Sw.Ent) (w : World) (hxs : RE w 0 A c n xs) : Calls Try.prog 107 #[.slice A n c] w fun E w' => E = .returned (.tuple #[.agg #[.int .i64 ((Sw.hedOf xs).getD Sw.headZ).size, .int .i64 ((Sw.hedOf xs).getD Sw.headZ).log, .int .i64 ((Sw.hedOf xs).getD Sw.headZ).own], .bool (Sw.hedOf xs).isSome]) ∧ Ex w w' := by
  have hl := Lib.hid hxs.1
  cases hf : Sw.ownFold xs with
  | none =>
    have hh : Sw.hedOf xs = none := by simp [Sw.hedOf, hf]
    have hs : (Sw.ownFold xs).isSome = false := by simp [hf]
    have Hf := Lib.hid hf; have HH := Lib.hid hh; clear hf hh
    go_enter Try.func107, Try.ntmps107
    go_wp2_with (first | (go_at_call 31; apply Calls.mono; apply sOwnFold_c; ((first | (apply Rs.at0; assumption) | (apply Ow.rs0; assumption)); exact kf_); rintro E w1 ⟨A', c', n', rfl, hr, hb⟩; have hst := xr hb; (try simp only [zA, zC, zD, zN] at hst); obtain ⟨hc, hf, hz⟩ := hst))
    refine bodyPost_ret (v := .tuple #[.agg #[.int .i64 0, .int .i64 0, .int .i64 0], .bool false]) (by simp [results, Try.results107, go_sem, *]) rfl ?_
    exact ⟨by rw [HH.out]; rfl, ext_⟩
  | some rows =>
    have h8 := ownFold_len hf
    have hn : n ≤ 40 := by
      have := hl.out
      unfold Sw.ownFold at hf
      split at hf
      · omega
      · cases hf
    have hh : Sw.hedOf xs = some ⟨xs.length, Sw.root (xs.map Sw.entLeaf), Sw.ownRoot rows⟩ := by simp [Sw.hedOf, hf]
    have hs : (Sw.ownFold xs).isSome = true := by simp [hf]
    have hg : (Sw.ownFold xs).getD [] = rows := by simp [hf]
    have Hf := Lib.hid hf; have HH := Lib.hid hh; have H8 := Lib.hid h8; have HG := Lib.hid hg; clear hf hh h8 hg
    go_enter Try.func107, Try.ntmps107
    go_wp2_with (first | (go_at_call 31; apply Calls.mono; apply sOwnFold_c; (first | assumption | ((first | (apply Rs.at0; assumption) | (apply Ow.rs0; assumption)); exact kf_) | omega); rintro E w1 ⟨A1, c1, n1, rfl, ho1, hb⟩; rw [HG.out] at ho1; have hst := Ex.rules hb rfl; (try simp only [World.size_alloc, World.size_setCell, World.size_drew] at hst); obtain ⟨hc, hf, hz⟩ := hst) | (go_at_call 144; apply Calls.mono; apply sEntLeaves_c; (first | assumption | ((first | (apply Rs.at0; assumption) | (apply Ow.rs0; assumption)); exact kf_) | omega); omega; rintro E w2 ⟨A2, c2, rfl, ho2, hb2⟩; have hst := Ex.rules hb2 rfl; obtain ⟨hc2, hf2, hz2⟩ := hst) | (go_at_call 109; apply Calls.mono; apply (sRoot_c 40); omega; (apply Ow.rs0 ho2; exact KF.refl _ _); omega; exact entLeaves_ok _; rintro E w3 ⟨rfl, hb3⟩; have hst := Ex.rules hb3 rfl; obtain ⟨hc3, hf3, hz3⟩ := hst) | (go_at_call 145; apply Calls.mono; apply sOwnRoot_c; (apply Ow.rs0 ho1; (exact kf_)); rintro E w4 ⟨rfl, hb4⟩; have hst := Ex.rules hb4 rfl; obtain ⟨hc4, hf4, hz4⟩ := hst))
    refine bodyPost_ret (v := .tuple #[.agg #[.int .i64 n, .int .i64 (Sw.root (xs.map Sw.entLeaf)), .int .i64 (Sw.ownRoot rows)], .bool true]) (by simp [results, Try.results107, go_sem, *]) rfl ?_
    exact ⟨by rw [HH.out, ← hl.out]; rfl, ext_⟩
end Go.Proofs.Ytdbnbembjebfhaa

namespace Go.Proofs.Ytdbnbembjebfhaa
set_option maxRecDepth 100000
set_option linter.unusedSimpArgs false
set_option linter.unusedVariables false
open Go.RowKit Go
set_option maxHeartbeats 400000

theorem z_I : ∀ i z, Try.prog.info? 3 = some i → i.zero = some z → z.cells = (encI 0).toArray := by
  have h : (Try.prog.info? 3).map (·.zero) = some (some (.int .i64 0)) := by kernel_rfl
  intro i z hi hz
  rw [hi] at h
  simp only [Option.map_some, Option.some.injEq] at h
  rw [hz] at h
  cases h
  rfl

theorem at_OI {w : World} {lo c n k : Nat} {A : Option Addr} {xs : List Int} (h : OwI w lo A c n xs) (hk : k < n) :
    ∃ g x, A = some ⟨g, 0, none⟩ ∧ lo ≤ g ∧ g < w.heap.size ∧ xs[k]? = some x ∧ w.cell? ⟨g, k, none⟩ = some (.int .i64 x) ∧ (∀ i, w.frozen? ⟨g, i, none⟩ = false) := by
  obtain ⟨g, x, h1, h2, h3, h4, h5, h6⟩ := Ow.at_ h (fun _ => rfl) hk
  exact ⟨g, x, h1, h2, h3, h4, by simpa using h5 0 _ (by omega) rfl, h6⟩
theorem OI_set {w : World} {lo c n k g : Nat} {A : Option Addr} {xs : List Int} (h : OwI w lo A c n xs) (hA : A = some ⟨g, 0, none⟩) {a : Int} (hx : xs[k]? = some a) (v : Int) :
    OwI (w.setCell ⟨g, k, none⟩ (.int .i64 v)) lo A c n (xs.set k v) := by
  have := Ow.set h (fun _ => rfl) (j := 0) (u := .int .i64 v) hA hx (by omega) (y := v) rfl
  simpa using this

theorem take_set_step {α : Type} {xs : List α} {k n : Nat} {y z : α} (hn : n = xs.length) (hk : k < n) (hy : xs[k]? = some y) : (xs.take k ++ List.replicate (n - k) z).set k y = xs.take (k + 1) ++ List.replicate (n - (k + 1)) z := by
  have hl : (xs.take k).length = k := by rw [List.length_take]; omega
  rw [List.set_append_right _ _ (by omega), hl, Nat.sub_self, List.take_add_one, hy]
  obtain ⟨m, hm⟩ : ∃ m, n - k = m + 1 := ⟨n - k - 1, by omega⟩
  rw [hm, List.replicate_succ, List.set_cons_zero, show n - (k + 1) = m by omega]
  simp
theorem take_rep_at {α : Type} {xs : List α} {k n : Nat} {z : α} (hn : n = xs.length) (hk : k < n) : (xs.take k ++ List.replicate (n - k) z)[k]? = some z := by
  have hl : (xs.take k).length = k := by rw [List.length_take]; omega
  rw [List.getElem?_append_right (by omega), hl, Nat.sub_self, List.getElem?_replicate]
  simp; omega

theorem toIntS_c (A : Option Addr) (c n : Nat) (xs : List Int) (w : World) (hxs : RI w 0 A c n xs) (hn : n ≤ 4194304) : Calls Try.prog 16 #[.slice A n c] w fun E w' => ∃ g, E = .returned (.slice (some ⟨g, 0, none⟩) n n) ∧ OwI w' w.heap.size (some ⟨g, 0, none⟩) n n xs ∧ w.heap.size ≤ g ∧ g < w'.heap.size ∧ Ex w w' := by
  have hl := Lib.hid hxs.1
  go_enter Try.func16, Try.ntmps16
  go_wp2_with (at_make; apply wpList_mk (lo := w.heap.size) el_I 0 z_I rfl rfl rfl rfl rfl; omega; (unfold maxLen; omega); exact sz_; intro wm hom hbm hzm; have hst := xr hbm; (try simp only [zA, zC, zD, zN] at hst); obtain ⟨hcm, hfm, hzm2⟩ := hst)
  go_loopw [4] (fun i wr => ∃ k : Nat, k ≤ n ∧ i = .int .i64 k ∧ Ex w wr ∧ OwI wr w.heap.size (some ⟨w.heap.size, 0, none⟩) n n (xs.take k ++ List.replicate (n - k) 0)) (fun i _ => n - (intOf i).toNat)
  case atStart => exact ⟨0, Nat.zero_le _, rfl, by assumption, by simpa using hom⟩
  case round =>
    obtain ⟨k, hk, rfl, hb2, hrel⟩ := hrel
    have hst := Ex.rules hb2 rfl
    obtain ⟨hc2, hf2, hz2⟩ := hst
    by_cases hlt : k < n
    · obtain ⟨g, off, y, rfl, hg0, hg, hd, hy, hcy⟩ := at_I hxs hlt
      obtain ⟨g', x', hA', hg0', hg', hx', hc', hfr⟩ := at_OI hrel hlt
      cases hA'
      have Hs := Lib.hid (OI_set hrel rfl hx' y)
      have Hy := Lib.hid hy
      have Hd := Lib.hid hd
      clear hrel hd hy hx'
      go_wp2_with fail
      go_roundw
      case rel =>
        refine ⟨k + 1, by omega, by go_num, ext_, ?_⟩
        have := Hs.out
        rw [take_set_step hl.out hlt Hy.out] at this
        exact this
      case measure => simp [intOf]; omega
    · have Hrel := Lib.hid hrel; clear hrel
      go_wp2_with fail
      go_ret
      have := Hrel.out
      obtain rfl : k = n := by omega
      rw [Nat.sub_self, List.take_of_length_le (by have := hl.out; omega)] at this
      exact ⟨_, rfl, by simpa using this, Nat.le_refl _, (this.blk rfl).2, ext_⟩
end Go.Proofs.Ytdbnbembjebfhaa

namespace Go.Proofs.Ytdbnbembjebfhaa
set_option maxRecDepth 100000
set_option linter.unusedSimpArgs false
set_option linter.unusedVariables false
open Go.RowKit Go

/-! ### what the tables say -/
theorem el_D : ElemOk Try.prog 43 122 5 40 := .mk' (z := .agg #[.int .i64 0, .int .i64 0, .int .i64 0, .int .i64 0, .int .i64 0]) Try.underlying43 (by kernel_rfl) rfl (by omega)
theorem el_Q : ElemOk Try.prog 49 83 6 48 := .mk' (z := .agg #[.int .i64 0, .int .i64 0, .int .i64 0, .int .i64 0, .int .i64 0, .int .i64 0]) Try.underlying49 (by kernel_rfl) rfl (by omega)
theorem one_D (x : Sw.Deal) : ∀ u ∈ x.enc, u.oneCell' = true := by simp [Sw.Deal.enc, Value.oneCell']
theorem one_Q (x : Sw.Req) : ∀ u ∈ x.enc, u.oneCell' = true := by simp [Sw.Req.enc, Value.oneCell']
theorem one_G (x : GV) : ∀ u ∈ x.enc, u.oneCell' = true := by simp [GV.enc, Value.oneCell']
theorem one_X (x : XV) : ∀ u ∈ x.enc, u.oneCell' = true := by simp [XV.enc, Value.oneCell']
abbrev OwD := Ow Sw.Deal.enc 5 122
abbrev OwQ := Ow Sw.Req.enc 6 83
abbrev OwGV := Ow GV.enc 4 27
theorem zero_law {P : Program} {e : TypeId} {z : Value} {cs : Array Value} (h : (P.info? e).map (·.zero) = some (some z)) (hz : z.cells = cs) : ∀ i z', P.info? e = some i → i.zero = some z' → z'.cells = cs := by
  intro i z' hi hz'
  rw [hi] at h
  simp only [Option.map_some, Option.some.injEq] at h
  rw [hz'] at h
  cases h
  exact hz
def Sw.entZ : Sw.Ent := ⟨0, 0, 0, 0⟩
def GV.zero : GV := ⟨Sw.headZ, none, 0, 0⟩
def XV.zero : XV := ⟨0, Sw.headZ, none, 0, 0⟩
theorem z_E : ∀ i z, Try.prog.info? 103 = some i → i.zero = some z → z.cells = (Sw.entZ.enc).toArray := zero_law (z := .agg #[.int .i64 0, .int .i64 0, .int .i64 0, .int .i64 0]) (by kernel_rfl) rfl
theorem z_D : ∀ i z, Try.prog.info? 122 = some i → i.zero = some z → z.cells = (Sw.dealZ.enc).toArray := zero_law (z := .agg #[.int .i64 0, .int .i64 0, .int .i64 0, .int .i64 0, .int .i64 0]) (by kernel_rfl) rfl
theorem z_Q : ∀ i z, Try.prog.info? 83 = some i → i.zero = some z → z.cells = (Sw.reqZ.enc).toArray := zero_law (z := .agg #[.int .i64 0, .int .i64 0, .int .i64 0, .int .i64 0, .int .i64 0, .int .i64 0]) (by kernel_rfl) rfl
theorem z_G : ∀ i z, Try.prog.info? 27 = some i → i.zero = some z → z.cells = (GV.zero.enc).toArray := zero_law (z := .agg #[.int .i64 0, .int .i64 0, .int .i64 0, .slice none 0 0]) (by kernel_rfl) rfl
/-! ### a whole element written -/
def setMany : List Value → Nat → List Value → List Value
  | cs, _, [] => cs
  | cs, i, v :: vs => setMany (cs.set i v) (i + 1) vs
/-- One cell behind the other is written. -/
def setCells : World → Nat → Nat → List Value → World
  | w, _, _, [] => w
  | w, g, i, v :: vs => setCells (w.setCell ⟨g, i, none⟩ v) g (i + 1) vs
theorem setMany_eq : ∀ (vs cs : List Value) (i : Nat), i + vs.length ≤ cs.length → setMany cs i vs = cs.take i ++ vs ++ cs.drop (i + vs.length)
  | [], cs, i, h => by simp [setMany]
  | v :: vs, cs, i, h => by
    rw [List.length_cons] at h
    rw [setMany, setMany_eq vs (cs.set i v) (i + 1) (by rw [List.length_set]; omega), List.take_add_one, List.getElem?_set]
    rw [if_pos rfl, if_pos (by omega), List.take_set_of_le (Nat.le_refl _), List.drop_set_of_lt (by omega), List.length_cons]
    simp only [Option.toList_some, List.append_assoc, List.singleton_append]
    rw [show i + 1 + vs.length = i + (vs.length + 1) from by omega]
section
variable {α : Type} {enc : α → List Value} {sz : Nat} {e : TypeId} {w w' : World} {lo lo' c n : Nat} {A : Option Addr} {xs : List α}
theorem flat_len (hsz : ∀ x, (enc x).length = sz) : ∀ xs : List α, (xs.flatMap enc).length = xs.length * sz := by
  intro xs
  induction xs with
  | nil => simp
  | cons x xs ih => simp only [List.flatMap_cons, List.length_append, hsz, ih, List.length_cons, Nat.succ_mul]; omega
theorem flat_split' (hsz : ∀ x, (enc x).length = sz) (P : List α) (x y : α) (Q : List α) :
    ((P ++ x :: Q).set P.length y).flatMap enc = ((P ++ x :: Q).flatMap enc).take (P.length * sz) ++ enc y ++ ((P ++ x :: Q).flatMap enc).drop (P.length * sz + sz) := by
  have hf : (P.flatMap enc).length = P.length * sz := flat_len hsz P
  rw [List.set_append_right _ _ (Nat.le_refl _), Nat.sub_self, List.set_cons_zero]
  simp only [List.flatMap_append, List.flatMap_cons]
  rw [List.take_append_of_le_length (by omega), List.take_of_length_le (by omega), List.drop_append, List.drop_of_length_le (by omega), hf, List.nil_append]
  rw [show P.length * sz + sz - P.length * sz = sz from by omega, List.drop_append, hsz, Nat.sub_self, List.drop_zero, List.drop_of_length_le (by rw [hsz]; omega), List.nil_append, List.append_assoc]
theorem flat_split (hsz : ∀ x, (enc x).length = sz) (xs : List α) {k : Nat} (hk : k < xs.length) (y : α) : (xs.set k y).flatMap enc = (xs.flatMap enc).take (k * sz) ++ enc y ++ (xs.flatMap enc).drop (k * sz + sz) := by
  have e : xs.take k ++ xs[k] :: xs.drop (k + 1) = xs := by rw [← List.drop_eq_getElem_cons hk, List.take_append_drop]
  have hl : (xs.take k).length = k := by rw [List.length_take]; omega
  have := flat_split' hsz (xs.take k) xs[k] y (xs.drop (k + 1))
  rw [e, hl] at this
  exact this
/-- One cell of an owned block is written. -/
theorem ownsRow_set {cs : List Value} {g i m : Nat} {u : Value} (h : w.ownsRow lo e sz (.slice (some ⟨g, 0, none⟩) n c) m cs) (hi : i < cs.length) :
    (w.setCell ⟨g, i, none⟩ u).ownsRow lo e sz (.slice (some ⟨g, 0, none⟩) n c) m (cs.set i u) := by
  refine ⟨by rw [List.length_set]; exact h.1, ?_⟩
  rcases h.2 with ⟨hv, h0⟩ | ⟨g', cap, cur, hv, hb, hh, hn, hm, hs, ht⟩
  · injection hv with h1; cases h1
  · injection hv with h1 h2 h3
    injection h1 with h1; injection h1 with h1
    subst h1 h2 h3
    refine .inr ⟨g, c, cur.setIfInBounds i u, rfl, hb, ?_, hn, hm, by simpa using hs, ?_⟩
    · simp [World.setCell, Array.getElem?_modify, hh]
    · rw [Array.toList_setIfInBounds, List.take_set, ht]
theorem ownsRow_sets : ∀ (vs cs : List Value) (w : World) {g i m : Nat}, w.ownsRow lo e sz (.slice (some ⟨g, 0, none⟩) n c) m cs → i + vs.length ≤ cs.length →
    (setCells w g i vs).ownsRow lo e sz (.slice (some ⟨g, 0, none⟩) n c) m (setMany cs i vs)
  | [], cs, w, g, i, m, h, _ => h
  | v :: vs, cs, w, g, i, m, h, hi => by
    rw [List.length_cons] at hi
    exact ownsRow_sets vs (cs.set i v) _ (ownsRow_set h (by omega)) (by rw [List.length_set]; omega)
theorem Ow.put (h : Ow enc sz e w lo A c n xs) (hsz : ∀ x, (enc x).length = sz) {g k : Nat} (y : α) (hA : A = some ⟨g, 0, none⟩) (hk : k < n) : Ow enc sz e (setCells w g (k * sz) (enc y)) lo A c n (xs.set k y) := by
  subst hA
  have hk' : k < xs.length := by rw [← h.1]; exact hk
  have hle : k * sz + (enc y).length ≤ (xs.flatMap enc).length := by
    rw [hsz, flat_len hsz]
    calc k * sz + sz = (k + 1) * sz := (Nat.succ_mul k sz).symm
      _ ≤ xs.length * sz := Nat.mul_le_mul_right _ hk'
  have := ownsRow_sets (enc y) (xs.flatMap enc) w h.2 hle
  rw [setMany_eq _ _ _ hle, hsz, ← flat_split hsz xs hk' y] at this
  exact ⟨by rw [List.length_set]; exact h.1, this⟩
end

/-- An owned block is whole. -/
theorem Ow.lb {α : Type} {enc : α → List Value} {sz : Nat} {e : TypeId} {w : World} {lo c n g : Nat} {A : Option Addr} {xs : List α} (h : Ow enc sz e w lo A c n xs) (hA : A = some ⟨g, 0, none⟩) : Lb w g (c * sz) := by
  rcases h.form with ⟨h1, _⟩ | ⟨g', cur, h1, h2, h3, h4, h5, h6, h7, h8⟩
  · rw [h1] at hA; cases hA
  · rw [h1] at hA; cases hA; exact ⟨cur, e, h4, h7⟩

/-! ### marks on blocks -/
structure OwT {α : Type} (enc : α → List Value) (sz : Nat) (e : TypeId) (τ : Nat → Nat) (t : Nat) (w : World) (lo : Nat) (A : Option Addr) (c n : Nat) (xs : List α) : Prop where
  ow : Ow enc sz e w lo A c n xs
  tag : ∀ a, A = some a → τ a.block = t
/-- Blocks from lo on with the mark t are as they were. -/
structure KT (τ : Nat → Nat) (t lo : Nat) (w w' : World) : Prop where
  size : w.heap.size ≤ w'.heap.size
  block : ∀ b, lo ≤ b → b < w.heap.size → τ b = t → w'.heap[b]? = w.heap[b]?
theorem KT.refl (τ : Nat → Nat) (t lo : Nat) (w : World) : KT τ t lo w w := ⟨Nat.le_refl _, fun _ _ _ _ => rfl⟩
theorem KT.of {τ : Nat → Nat} {t lo : Nat} {w w' : World} (h : KF lo w w') : KT τ t lo w w' := ⟨h.size, fun b h1 h2 _ => h.block b h1 h2⟩
section
variable {τ : Nat → Nat} {t lo : Nat} {a w w' : World}
theorem KT.alloc {o : Obj} (h : KT τ t lo a w) : KT τ t lo a (w.alloc o) :=
  ⟨by simp; have := h.size; omega, fun i hl hi ht => (Below.heap_alloc _ _ _ (Nat.lt_of_lt_of_le hi h.size)).trans (h.block i hl hi ht)⟩
theorem KT.drew (h : KT τ t lo a w) : KT τ t lo a w.drew := ⟨h.size, h.block⟩
theorem KT.drewN {n : Nat} (h : KT τ t lo a w) : KT τ t lo a (w.drewN n) := ⟨h.size, h.block⟩
theorem KT.setCell {p : Addr} {u : Value} (h : KT τ t lo a w) (hp : a.heap.size ≤ p.block ∨ τ p.block ≠ t) : KT τ t lo a (w.setCell p u) :=
  ⟨by simpa [World.setCell] using h.size, fun i hl hi ht => (Below.heap_setCell _ _ _ _ (by rintro rfl; rcases hp with hp | hp <;> first | omega | exact hp ht)).trans (h.block i hl hi ht)⟩
theorem KT.ch {S : Nat → Prop} (hb : Ch S w w') (h : KT τ t lo a w) (hS : ∀ i, S i → a.heap.size ≤ i ∨ τ i ≠ t) : KT τ t lo a w' :=
  ⟨Nat.le_trans h.size hb.size, fun i hl hi ht => (hb.block i (Nat.lt_of_lt_of_le hi h.size) (fun hs => by rcases hS i hs with h1 | h1 <;> first | omega | exact h1 ht)).trans (h.block i hl hi ht)⟩
theorem KT.ex (hb : Ex w w') (h : KT τ t lo a w) : KT τ t lo a w' := h.ch hb (fun _ h => h.elim)
end
/-- τ up to n, τ' from there on. -/
def glue (τ : Nat → Nat) (n : Nat) (τ' : Nat → Nat) : Nat → Nat := fun b => if b < n then τ b else τ' b
section
variable {α : Type} {enc : α → List Value} {sz : Nat} {e : TypeId} {τ τ' : Nat → Nat} {t : Nat} {w w' : World} {lo lo' c n : Nat} {A : Option Addr} {xs : List α}
theorem OwT.keep (h : OwT enc sz e τ t w lo A c n xs) (hk : KT τ t lo w w') : OwT enc sz e τ t w' lo A c n xs :=
  ⟨h.ow.keep_ fun a ha => hk.block _ (h.ow.blk ha).1 (h.ow.blk ha).2 (h.tag a ha), h.tag⟩
theorem OwT.less (h : OwT enc sz e τ t w lo A c n xs) (hl : lo' ≤ lo) : OwT enc sz e τ t w lo' A c n xs := ⟨h.ow.less hl, h.tag⟩
theorem OwT.retag (h : OwT enc sz e τ t w lo A c n xs) (ht : ∀ b, b < w.heap.size → τ' b = τ b) : OwT enc sz e τ' t w lo A c n xs :=
  ⟨h.ow, fun a ha => (ht _ (h.ow.blk ha).2).trans (h.tag a ha)⟩
theorem OwT.fresh (h : Ow enc sz e w lo A c n xs) (ht : ∀ b, lo ≤ b → b < w.heap.size → τ b = t) : OwT enc sz e τ t w lo A c n xs :=
  ⟨h, fun a ha => ht _ (h.blk ha).1 (h.blk ha).2⟩
theorem OwT.nil (τ : Nat → Nat) (t : Nat) (w : World) (lo : Nat) : OwT enc sz e τ t w lo none 0 0 [] := ⟨Ow.nil w lo, fun _ h => by cases h⟩
theorem OwT.glueL {k : Nat} (h : OwT enc sz e τ t w lo A c n xs) (hk : w.heap.size ≤ k) : OwT enc sz e (glue τ k τ') t w lo A c n xs := h.retag fun b hb => if_pos (by omega)
theorem OwT.glueR {k : Nat} (h : OwT enc sz e τ t w lo A c n xs) (hk : k ≤ lo) : OwT enc sz e (glue τ' k τ) t w lo A c n xs :=
  ⟨h.ow, fun a ha => by have := (h.ow.blk ha).1; unfold glue; rw [if_neg (by omega)]; exact h.tag a ha⟩
theorem OwT.rs (h : OwT enc sz e τ t w lo A c n xs) : Rs enc sz w lo A c n xs := h.ow.rs
end
abbrev OwTE := OwT Sw.Ent.enc 4 103
abbrev OwTI := OwT encI 1 3
abbrev OwTD := OwT Sw.Deal.enc 5 122
abbrev OwTQ := OwT Sw.Req.enc 6 83
abbrev OwTG := OwT GV.enc 4 27
/-- A market, gates, messages, a world of the call's own: marks 1 to 9; the gates' and the messages' own slices by fd, fp. -/
structure OwM (τ : Nat → Nat) (w : World) (lo : Nat) (aL : Option Addr) (aLc aLn : Nat) (aP : Option Addr) (aPc aPn : Nat) (aD : Option Addr) (aDc aDn : Nat) (aN : Option Addr) (aNc aNn : Nat) (aS : Option Addr) (aSc aSn : Nat) (m : Sw.Mkt) : Prop where
  log : OwTE τ 1 w lo aL aLc aLn m.log
  purses : OwTI τ 2 w lo aP aPc aPn m.purses
  deals : OwTD τ 3 w lo aD aDc aDn m.deals
  nums : OwTI τ 4 w lo aN aNc aNn m.nums
  said : OwTI τ 5 w lo aS aSc aSn m.said
structure OwG (fd : Nat → Nat) (τ : Nat → Nat) (w : World) (lo : Nat) (A : Option Addr) (c n : Nat) (gs : List Sw.Gate) : Prop where
  ex : ∃ vs : List GV, OwTG τ 8 w lo A c n vs ∧ n = gs.length ∧ ∀ (k : Nat) (v : GV) (g : Sw.Gate), vs[k]? = some v → gs[k]? = some g → v.h = g.head ∧ OwTI τ (fd k) w lo v.A v.c v.n g.done
/-- The gates', the messages' own slices: each with a mark of its own; all with one. -/
def fdS (k : Nat) : Nat := 20 + 2 * k
def fpS (k : Nat) : Nat := 21 + 2 * k
def fdL (_ : Nat) : Nat := 10
def fpL (_ : Nat) : Nat := 11
section
variable {fd fp τ τ' : Nat → Nat} {w w' : World} {lo lo' c n k : Nat} {A : Option Addr}
theorem OwM.rm {aL : Option Addr} {aLc aLn : Nat} {aP : Option Addr} {aPc aPn : Nat} {aD : Option Addr} {aDc aDn : Nat} {aN : Option Addr} {aNc aNn : Nat} {aS : Option Addr} {aSc aSn : Nat} {m : Sw.Mkt} (h : OwM τ w lo aL aLc aLn aP aPc aPn aD aDc aDn aN aNc aNn aS aSc aSn m) : RM w lo aL aLc aLn aP aPc aPn aD aDc aDn aN aNc aNn aS aSc aSn m := ⟨h.1.rs, h.2.rs, h.3.rs, h.4.rs, h.5.rs⟩
theorem OwG.rg {gs : List Sw.Gate} (h : OwG fd τ w lo A c n gs) : RG w lo A c n gs := by
  obtain ⟨vs, h1, h2, h3⟩ := h.ex
  exact ⟨vs, h1.rs, h2, fun k v g hv hg => ⟨(h3 k v g hv hg).1, (h3 k v g hv hg).2.rs⟩⟩
theorem OwM.keep {aL : Option Addr} {aLc aLn : Nat} {aP : Option Addr} {aPc aPn : Nat} {aD : Option Addr} {aDc aDn : Nat} {aN : Option Addr} {aNc aNn : Nat} {aS : Option Addr} {aSc aSn : Nat} {m : Sw.Mkt} (h : OwM τ w lo aL aLc aLn aP aPc aPn aD aDc aDn aN aNc aNn aS aSc aSn m) (hk : ∀ t, 1 ≤ t → t ≤ 5 → KT τ t lo w w') : OwM τ w' lo aL aLc aLn aP aPc aPn aD aDc aDn aN aNc aNn aS aSc aSn m :=
  ⟨h.1.keep (hk _ (by omega) (by omega)), h.2.keep (hk _ (by omega) (by omega)), h.3.keep (hk _ (by omega) (by omega)), h.4.keep (hk _ (by omega) (by omega)), h.5.keep (hk _ (by omega) (by omega))⟩
theorem OwM.less {aL : Option Addr} {aLc aLn : Nat} {aP : Option Addr} {aPc aPn : Nat} {aD : Option Addr} {aDc aDn : Nat} {aN : Option Addr} {aNc aNn : Nat} {aS : Option Addr} {aSc aSn : Nat} {m : Sw.Mkt} (h : OwM τ w lo aL aLc aLn aP aPc aPn aD aDc aDn aN aNc aNn aS aSc aSn m) (hl : lo' ≤ lo) : OwM τ w lo' aL aLc aLn aP aPc aPn aD aDc aDn aN aNc aNn aS aSc aSn m := ⟨h.1.less hl, h.2.less hl, h.3.less hl, h.4.less hl, h.5.less hl⟩
theorem OwM.retag {aL : Option Addr} {aLc aLn : Nat} {aP : Option Addr} {aPc aPn : Nat} {aD : Option Addr} {aDc aDn : Nat} {aN : Option Addr} {aNc aNn : Nat} {aS : Option Addr} {aSc aSn : Nat} {m : Sw.Mkt} (h : OwM τ w lo aL aLc aLn aP aPc aPn aD aDc aDn aN aNc aNn aS aSc aSn m) (ht : ∀ b, b < w.heap.size → τ' b = τ b) : OwM τ' w lo aL aLc aLn aP aPc aPn aD aDc aDn aN aNc aNn aS aSc aSn m := ⟨h.1.retag ht, h.2.retag ht, h.3.retag ht, h.4.retag ht, h.5.retag ht⟩
theorem OwM.glueR {aL : Option Addr} {aLc aLn : Nat} {aP : Option Addr} {aPc aPn : Nat} {aD : Option Addr} {aDc aDn : Nat} {aN : Option Addr} {aNc aNn : Nat} {aS : Option Addr} {aSc aSn : Nat} {m : Sw.Mkt} (h : OwM τ w lo aL aLc aLn aP aPc aPn aD aDc aDn aN aNc aNn aS aSc aSn m) (hk : k ≤ lo) : OwM (glue τ' k τ) w lo aL aLc aLn aP aPc aPn aD aDc aDn aN aNc aNn aS aSc aSn m := ⟨h.1.glueR hk, h.2.glueR hk, h.3.glueR hk, h.4.glueR hk, h.5.glueR hk⟩
theorem OwG.keep {gs : List Sw.Gate} (h : OwG fd τ w lo A c n gs) (h8 : KT τ 8 lo w w') (hk : ∀ k, KT τ (fd k) lo w w') : OwG fd τ w' lo A c n gs := by
  obtain ⟨vs, h1, h2, h3⟩ := h.ex
  exact ⟨vs, h1.keep h8, h2, fun k v g hv hg => ⟨(h3 k v g hv hg).1, (h3 k v g hv hg).2.keep (hk k)⟩⟩
theorem OwG.less {gs : List Sw.Gate} (h : OwG fd τ w lo A c n gs) (hl : lo' ≤ lo) : OwG fd τ w lo' A c n gs := by
  obtain ⟨vs, h1, h2, h3⟩ := h.ex
  exact ⟨vs, h1.less hl, h2, fun k v g hv hg => ⟨(h3 k v g hv hg).1, (h3 k v g hv hg).2.less hl⟩⟩
theorem OwG.retag {gs : List Sw.Gate} (h : OwG fd τ w lo A c n gs) (ht : ∀ b, b < w.heap.size → τ' b = τ b) : OwG fd τ' w lo A c n gs := by
  obtain ⟨vs, h1, h2, h3⟩ := h.ex
  exact ⟨vs, h1.retag ht, h2, fun k v g hv hg => ⟨(h3 k v g hv hg).1, (h3 k v g hv hg).2.retag ht⟩⟩
theorem OwG.glueR {gs : List Sw.Gate} (h : OwG fd τ w lo A c n gs) (hk : k ≤ lo) : OwG fd (glue τ' k τ) w lo A c n gs := by
  obtain ⟨vs, h1, h2, h3⟩ := h.ex
  exact ⟨vs, h1.glueR hk, h2, fun k v g hv hg => ⟨(h3 k v g hv hg).1, (h3 k v g hv hg).2.glueR hk⟩⟩
end
end Go.Proofs.Ytdbnbembjebfhaa

namespace Go.Proofs.Ytdbnbembjebfhaa
set_option maxRecDepth 100000
set_option linter.unusedSimpArgs false
set_option linter.unusedVariables false
open Go.RowKit Go
set_option maxHeartbeats 2000000

/-- What lies in another block than the one that an append may turn. -/
theorem Ow.keepApp {α : Type} {enc : α → List Value} {sz : Nat} {e : TypeId} {w w' : World} {lo c n : Nat} {A B : Option Addr} {xs : List α} (h : Ow enc sz e w lo B c n xs) (hch : Ch (atA A) w w') (hs : ∀ a b, A = some a → B = some b → a.block ≠ b.block) : Ow enc sz e w' lo B c n xs :=
  h.keep_ fun b hb => hch.block b.block (h.blk hb).2 (fun ⟨a, ha, hk⟩ => hs a b ha hb hk.symm)
/-- Two slices, a block of its own each. -/
def Sep (A B : Option Addr) : Prop := ∀ a b, A = some a → B = some b → a.block ≠ b.block
theorem Sep.fresh {α β : Type} {enc : α → List Value} {sz : Nat} {e : TypeId} {enc' : β → List Value} {sz' : Nat} {e' : TypeId} {w w' : World} {lo lo' c n d m : Nat} {A B : Option Addr} {xs : List α} {ys : List β} (h : Ow enc sz e w lo A c n xs) (k : Ow enc' sz' e' w' lo' B d m ys) (hl : w.heap.size ≤ lo') : Sep A B := by
  intro a b ha hb
  have := (h.blk ha).2
  have := (k.blk hb).1
  omega
theorem Sep.grown {α : Type} {enc : α → List Value} {sz : Nat} {e : TypeId} {w : World} {lo c n : Nat} {A A' B : Option Addr} {ys : List α} (h : Sep A B) (k : Ow enc sz e w lo B c n ys) (hat : ∀ b, A' = some b → A = some b ∨ w.heap.size ≤ b.block) : Sep A' B := by
  intro a b ha hb
  rcases hat a ha with h1 | h1
  · exact h a b h1 hb
  · have := (k.blk hb).2
    omega
theorem sOwnPutA_c (A : Option Addr) (c n : Nat) (xs : List Sw.Row) (p q r s : Int) (w : World) (hxs : RR w 0 A c n xs) (hn : n ≤ 4194304) : Calls Try.prog 72 #[.slice A n c, .agg #[.int .i64 p, .int .i64 q, .int .i64 r, .int .i64 s]] w fun E w' => ∃ A' c', E = .returned (.tuple #[.slice A' n c', .bool (Sw.ownFits xs ⟨p, q, r, s⟩)]) ∧ OwR w' w.heap.size A' c' n (Sw.ownPut xs ⟨p, q, r, s⟩) ∧ Ex w w' :=
  sOwnPut_c A c n xs ⟨p, q, r, s⟩ w hxs hn
theorem ownPut_len (xs : List Sw.Row) (e : Sw.Ent) : (Sw.ownPut xs e).length = xs.length := by
  unfold Sw.ownPut
  split
  · simp [Sw.putRows]
  · rfl
theorem entCap_bd (f : Int) : 0 ≤ Sw.entCap f ∧ Sw.entCap f ≤ 60 := by
  unfold Sw.entCap
  split
  · rename_i h
    simp only [Sw.inR, Bool.and_eq_true, decide_eq_true_eq] at h
    omega
  · omega

/-- A reader in a later world, where it alone has turned. -/
structure RdCh (w0 w : World) (rb P : Nat) : Prop where
  rd : Rdp w rb P
  ch : Ch (· = rb) w0 w
theorem OI_put {w : World} {lo c n g k : Nat} {A : Option Addr} {xs : List Int} (h : OwI w lo A c n xs) (hA : A = some ⟨g, 0, none⟩) (hk : k < xs.length) (u : Int) : OwI (w.setCell ⟨g, k, none⟩ (.int .i64 u)) lo A c n (xs.set k u) := by
  have := Ow.set h (fun _ => rfl) (j := 0) (u := .int .i64 u) (y := u) hA (List.getElem?_eq_getElem hk) (by omega) rfl
  rwa [Nat.mul_one] at this
theorem pickN_c (rb P N : Nat) (n : Int) (w : World) (hr : Rdp w rb P) (hP : P ≤ 1000000) (hn : n = (N : Int)) (h1 : 1 ≤ N) : Calls Try.prog 29 #[.pointer (some ⟨rb, 0, none⟩), .int .i64 n] w fun E w' => ∃ v : Nat, E = .returned (.int .i64 (v : Int)) ∧ v < N ∧ Rdp w' rb (P + 1) ∧ Ch (· = rb) w w' := by
  subst hn
  refine (pick_c rb P N w hr hP (by omega)).mono ?_
  rintro E w' ⟨v, rfl, ⟨h0, h2⟩, h3, h4⟩
  exact ⟨v.toNat, by rw [show ((v.toNat : Nat) : Int) = v by omega], by omega, h3, h4⟩
end Go.Proofs.Ytdbnbembjebfhaa

namespace Go.Proofs.Ytdbnbembjebfhaa
set_option maxRecDepth 100000
set_option linter.unusedSimpArgs false
set_option linter.unusedVariables false
open Go
section
variable {P : Program} {ops : Array Oper} {Q : Exit → Act → World → Prop} {md : Region.Mode} {S : World → Prop}
/-- An operation that is not wanted. -/
theorem regU (i d : Nat) {oi : Oper} {fuel : Nat} {listed : Array Bool} {a : Act} {w : World} (hi : ops[i]? = some oi) (hd : oi.dst = some d)
    (hs : Region.noSelect ops = true) (hf : Region.free md ops listed i = true) (hr : (Region.ready md ops listed).contains i = true)
    (hQ : ∀ c a w, Q (.panic c) (a.put (some d) undef) w → Q (.panic c) a w) (hw : Region.wanted oi (yielded ops a.tmps) = false) (hS : S w)
    (h : wpAnyH P md ops Q S fuel (listed.setIfInBounds i true) (a.put (some d) undef) w) : wpAnyH P md ops Q S (fuel + 1) listed a w :=
  wpAnyH_take (v := undef) hi hs hf hr (by rw [hd]; exact hQ) (Or.inr ⟨hw, rfl⟩) hS (by rw [hd]; exact h)
/-- One that is wanted, and yields v wherever S holds. -/
theorem regT (i d : Nat) {v : Value} {oi : Oper} {fuel : Nat} {listed : Array Bool} {a : Act} {w : World} (hi : ops[i]? = some oi) (hd : oi.dst = some d)
    (hs : Region.noSelect ops = true) (hf : Region.free md ops listed i = true) (hr : (Region.ready md ops listed).contains i = true)
    (hQ : ∀ c a w, Q (.panic c) (a.put (some d) v) w → Q (.panic c) a w) (hw : Region.wanted oi (yielded ops a.tmps) = true) (hy : ∀ w, S w → (execOp a.eval oi).run P w = .ok (.value v) w) (hS : S w)
    (h : wpAnyH P md ops Q S fuel (listed.setIfInBounds i true) (a.put (some d) v) w) : wpAnyH P md ops Q S (fuel + 1) listed a w :=
  wpAnyH_take (v := v) hi hs hf hr (by rw [hd]; exact hQ) (Or.inl ⟨hw, hy⟩) hS (by rw [hd]; exact h)
/-- A region walked by what holds behind so many more operations, in whatever order they come up. -/
theorem wpAnyH_inv {Inv : Nat → Array Bool → Act → World → Prop} {k : Nat}
    (h0 : ∀ l a w, Inv 0 l a w → wpAnyH P md ops Q S k l a w)
    (hd : ∀ n l a w, Inv (n + 1) l a w → Region.ready md ops l ≠ [])
    (hs : ∀ n l a w, Inv (n + 1) l a w → ∀ i ∈ Region.ready md ops l, wpOp P ops Q i (fun a' w' => S w' ∧ Inv n (l.setIfInBounds i true) a' w') a w) :
    ∀ n l a w, Inv n l a w → wpAnyH P md ops Q S (n + k) l a w
  | 0, l, a, w, h => by rw [Nat.zero_add]; exact h0 l a w h
  | n + 1, l, a, w, h => by
    rw [show n + 1 + k = n + k + 1 by omega]
    exact ⟨fun he => absurd he (hd n l a w h), fun i hi => wpOp_mono (fun a' w' h' => ⟨h'.1, wpAnyH_inv h0 hd hs n _ _ _ h'.2⟩) (hs n l a w h i hi)⟩
end
end Go.Proofs.Ytdbnbembjebfhaa

