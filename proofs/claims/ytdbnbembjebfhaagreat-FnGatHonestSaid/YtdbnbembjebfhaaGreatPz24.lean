/-
  Texts joined: ImpB.
-/
import Derived.Test.YtdbnbembjebfhaaGreatPz23
import Derived.Test.YtdbnbembjebfhaaGreatPz7
import Derived.Test.YtdbnbembjebfhaaGreatPz15
namespace Go.Proofs.YtdbnbembjebfhaaGreat
set_option maxRecDepth 100000
set_option linter.unusedSimpArgs false
set_option linter.unusedVariables false
open Go.RowKit Go
set_option maxHeartbeats 1000000

theorem iOwnPut_c (A : Option Addr) (c n : Nat) (xs : List Sw.Row) (e : Sw.Ent) (w : World) (hxs : RR w 0 A c n xs) (hn : n ≤ 4194304) : Calls Tryz.prog 49 #[.slice A n c, .agg #[.int .i64 e.kind, .int .i64 e.ticket, .int .i64 e.who, .int .i64 e.price]] w fun E w' => ∃ A' c', E = .returned (.tuple #[.slice A' n c', .bool (Sw.ownFits xs e)]) ∧ OwR w' w.heap.size A' c' n (Sw.ownPut xs e) ∧ Ex w w' := by
  by_cases hfit : Sw.ownFits xs e = true
  · have hl := Lib.hid hxs.1
    obtain ⟨h8, t0, t1, hk⟩ := fits_facts hfit
    obtain ⟨t, ht⟩ := Int.eq_ofNat_of_zero_le t0
    have e0 : e.ticket.toNat = t := by omega
    have Ht := Lib.hid ht
    have htn : t < n := by have := hl.out; omega
    have hn8 : n = 8 := by have := hl.out; omega
    subst hn8
    have Hk := Lib.hid hk
    have H8 := Lib.hid h8
    clear ht hk h8
    have key : ∀ (b1 b2 : Bool), (e.kind == 1) = b1 → (e.kind == 2) = b2 → Calls Tryz.prog 49 #[.slice A 8 c, .agg #[.int .i64 e.kind, .int .i64 e.ticket, .int .i64 e.who, .int .i64 e.price]] w fun E w' => ∃ A' c', E = .returned (.tuple #[.slice A' 8 c', .bool (Sw.ownFits xs e)]) ∧ OwR w' w.heap.size A' c' 8 (Sw.ownPut xs e) ∧ Ex w w' := by
      intro b1 b2 hb1 hb2
      go_enter Tryz.func49, Tryz.ntmps49
      go_wp2_with (go_at_call 115; apply Calls.mono; apply iCloneRows_c; ((first | (apply Rs.at0; assumption) | (apply Ow.rs0; assumption)); exact kf_); (first | assumption | omega); rintro E w1 ⟨A1, A1c, rfl, ho1, hb⟩; have hst := xr hb; (try simp only [zA, zC, zD, zN] at hst); obtain ⟨hc, hf, hz⟩ := hst)
      apply Calls.mono; apply iOwnFits_c; (first | assumption | ((first | (apply Rs.at0; assumption) | (apply Ow.rs0; assumption)); exact kf_) | omega); rintro E w3 ⟨rfl, hb3⟩; have hst := xr hb3; (try simp only [zA, zC, zD] at hst); obtain ⟨hc3, hf3, hz3⟩ := hst
      have ho3 := Ow.keep ho1 (KF.ex hb3 (KF.refl _ _))
      obtain ⟨g, x, hA, hlo, hlt, hx, c0, c1, c2, hfz⟩ := at_OR ho3 htn
      obtain ⟨ya, yb, yu⟩ := x
      have Hx := Lib.hid hx
      have hlo' : w.heap.size + 1 ≤ g := by exact sz_
      clear hx
      subst hA
      dsimp only at c0 c1 c2
      cases b1 with
      | true =>
        have hLg : Lb w3 g (A1c * 3) := ho3.lb rfl
        go_wp2_with fail
        (refine wp_name ?_; intro W0 hb0; have hst := xr hb0; (try simp only [zA, zC, zD, zN] at hst); obtain ⟨hc0, hf0, hz0⟩ := hst; have hLb : Lb W0 (g) (A1c * 3) := Lb.ex (by exact lbc_) hb0; go_region_held3 (fun w' => HeldB (g) (A1c * 3) W0 w') ((first | with_reducible assumption | with_reducible exact HeldB.start hLb | with_reducible exact HeldB.of (by assumption) (by assumption) | ((repeat (first | with_reducible refine HeldB.set ?_ (by first | exact Or.inl rfl | exact Or.inr (by simp only [zA, zC, zD, zN]; omega) | exact Or.inr (by omega)) | with_reducible refine HeldB.alloc ?_ _ | with_reducible refine HeldB.drew ?_)); (first | with_reducible assumption | with_reducible exact HeldB.refl hLb | with_reducible exact HeldB.of (by assumption) (by assumption) | with_reducible exact HeldB.ex (by assumption) (by assumption))))) (fail); all_goals (rename HeldB (g) (A1c * 3) W0 _ => hHx; have hb := HeldB.ch hHx; have hst := xc hb; (try simp only [zA, zC, zD, zN] at hst); obtain ⟨hc, hf, hz⟩ := hst; have hLb3 := HeldB.lb hHx; (repeat (first | with_reducible replace hLb3 := Lb.unset hLb3 | with_reducible replace hLb3 := Lb.undrew hLb3)); obtain ⟨hcb, hfb⟩ := Lb.rules hLb3; clear hHx))
        go_wp2
        go_ret2
        refine ⟨_, _, by rw [hfit]; rfl, ?_, ext_⟩
        have k1 : e.kind = 1 := by simpa using hb1
        rw [put_eq hfit Ht.out Hx.out]
        have hu := fits_fresh hfit k1 Ht.out Hx.out
        subst hu
        have hoW := Ow.keep ho3 (KF.ex hb0 (KF.refl _ _))
        have r := OR_set1 (OR_set0 hoW rfl Hx.out e.who) rfl (set_at Hx.out) e.price
        simp only [List.set_set] at r
        simp only [Sw.putRow, k1, if_true]
        exact (r.keep (kD (kR _ _))).less (by exact sz_)
      | false =>
        have k1 : ¬ e.kind = 1 := by simpa using hb1
        cases b2 with
        | true =>
          go_wp2_with fail
          go_ret2
          refine ⟨_, _, by rw [hfit]; rfl, ?_, ext_⟩
          have k2 : e.kind = 2 := by simpa using hb2
          rw [put_eq hfit Ht.out Hx.out]
          have r := OR_set0 ho3 rfl Hx.out e.who
          simp only [Sw.putRow, if_neg k1, k2, if_true]
          exact r.less (by exact sz_)
        | false =>
          go_wp2_with fail
          go_ret2
          refine ⟨_, _, by rw [hfit]; rfl, ?_, ext_⟩
          have k2 : ¬ e.kind = 2 := by simpa using hb2
          rw [put_eq hfit Ht.out Hx.out]
          have r := OR_set2 ho3 rfl Hx.out true
          simp only [Sw.putRow, if_neg k1, if_neg k2]
          exact r.less (by exact sz_)
    exact key _ _ rfl rfl
  · have hf0 : Sw.ownFits xs e = false := by simpa using hfit
    go_enter Tryz.func49, Tryz.ntmps49
    go_wp2_with (first | (go_at_call 115; apply Calls.mono; apply iCloneRows_c; ((first | (apply Rs.at0; assumption) | (apply Ow.rs0; assumption)); exact kf_); (first | assumption | omega); rintro E w1 ⟨A', c', rfl, hr, hb⟩; have hst := xr hb; (try simp only [zA, zC, zD, zN] at hst); obtain ⟨hc, hf, hz⟩ := hst) | (go_at_call 116; apply Calls.mono; apply iOwnFits_c; ((first | (apply Rs.at0; assumption) | (apply Ow.rs0; assumption)); exact kf_); rintro E w1 ⟨rfl, hb⟩; have hst := xr hb; (try simp only [zA, zC, zD, zN] at hst); obtain ⟨hc, hf, hz⟩ := hst))
    go_ret2
    refine ⟨_, _, by rw [hf0]; rfl, ?_, ext_⟩
    rw [show Sw.ownPut xs e = xs from by simp [Sw.ownPut, hf0]]
    exact (hr.keep (by (exact kf_))).less (by exact sz_)

theorem z_R : ∀ i z, Tryz.prog.info? 31 = some i → i.zero = some z → z.cells = (Sw.rowZ.enc).toArray := zero_law (z := .agg #[.int .i64 0, .int .i64 0, .bool false]) (by kernel_rfl) rfl
theorem iOwnFold_c (A : Option Addr) (c n : Nat) (xs : List Sw.Ent) (w : World) (hxs : RE w 0 A c n xs) : Calls Tryz.prog 11 #[.slice A n c] w fun E w' => ∃ A' c' n', E = .returned (.tuple #[.slice A' n' c', .bool (Sw.ownFold xs).isSome]) ∧ OwR w' w.heap.size A' c' n' ((Sw.ownFold xs).getD []) ∧ Ex w w' := by
  have hl := Lib.hid hxs.1
  have hbig := Rs.big hxs
  by_cases hn : n ≤ 40
  · have hn' : decide (40 < n) = false := by simp; omega
    have hmk : ∀ w, (Instr.makeSlice 37 (.int .i64 8) (.int .i64 8)).run Tryz.prog w = .ok (.slice (some ⟨w.heap.size, 0, none⟩) 8 8) (w.alloc (.cells (Sw.rows0.flatMap Sw.Row.enc).toArray 31)) := fun _ => by kernel_rfl
    go_enter Tryz.func11, Tryz.ntmps11
    go_wp2_with fail
    go_loopw [4, 15] (fun r i wr => ∃ (k : Nat) (B : Option Addr) (d : Nat) (rows : List Sw.Row), k ≤ n ∧ i = .int .i64 k ∧ r = .slice B 8 d ∧ Ex w wr ∧ OwR wr w.heap.size B d 8 rows ∧ Sw.ownFold xs = Sw.foldFrom rows (xs.drop k)) (fun _ i _ => n - (intOf i).toNat)
    case atStart => exact ⟨0, _, _, _, Nat.zero_le _, rfl, rfl, ext_, Ow.new _ rfl rfl rfl (fun _ => rfl) (Nat.le_refl _) (by omega), by rw [Sw.ownFold, if_pos (by have := hl.out; omega)]; rfl⟩
    case round =>
      clear hmk
      obtain ⟨k, B, d, rows, hk, rfl, rfl, hb, ho, hrel⟩ := hrel
      have hst := Ex.rules hb rfl
      obtain ⟨hc, hf, hz⟩ := hst
      by_cases hlt : k < n
      · obtain ⟨g, off, y, rfl, hg0, hg, hd, hy, hc0, hc1, hc2, hc3⟩ := at_E hxs hlt
        rw [hd, Sw.foldFrom] at hrel
        have Hrel := Lib.hid hrel
        clear hd hy hrel
        cases hfit : Sw.ownFits rows y
        case false =>
          go_wp2_with (first | (go_at_call 49; apply Calls.mono; apply iOwnPut_c; (apply Ow.rs0 ho; (exact kf_)); omega; rintro E w1 ⟨A1, c1, rfl, ho1, hb1⟩; have hst := Ex.rules hb1 rfl; obtain ⟨hc1', hf1', hz1'⟩ := hst))
          go_ret2
          have hh := Hrel.out
          rw [if_neg (by simp [hfit])] at hh
          refine ⟨_, _, _, by rw [hh]; rfl, ?_, ext_⟩
          rw [hh]
          exact Ow.nil _ _
        case true =>
          go_wp2_with (first | (go_at_call 49; apply Calls.mono; apply iOwnPut_c; (apply Ow.rs0 ho; (exact kf_)); omega; rintro E w1 ⟨A1, c1, rfl, ho1, hb1⟩; have hst := Ex.rules hb1 rfl; obtain ⟨hc1', hf1', hz1'⟩ := hst))
          have hh := Hrel.out
          rw [if_pos hfit] at hh
          refine ⟨⟨k + 1, _, _, _, by omega, by go_num, rfl, ext_, ho1.less (by exact sz_), ?_⟩, by simp [intOf]; omega⟩
          rw [hh, Sw.ownPut, if_pos hfit]
      · have Hrel := Lib.hid hrel; clear hrel
        go_wp2_with fail
        go_ret2
        obtain rfl : k = n := by omega
        have hh := Hrel.out
        rw [List.drop_of_length_le (by have := hl.out; omega)] at hh
        refine ⟨_, _, _, by rw [hh]; rfl, ?_, ext_⟩
        rw [hh]
        exact ho
  · have hn' : decide (40 < n) = true := by simp; omega
    go_enter Tryz.func11, Tryz.ntmps11
    go_wp2_with fail
    go_ret2
    have hh : Sw.ownFold xs = none := by rw [Sw.ownFold, if_neg (by have := hl.out; omega)]
    refine ⟨_, _, _, by rw [hh]; rfl, ?_, ext_⟩
    rw [hh]
    exact Ow.nil _ _

theorem iRoot_c (N : Nat) (A : Option Addr) (c n : Nat) (xs : List Int) (w : World) (hN : n ≤ N) (hxs : RI w 0 A c n xs) (h40 : n ≤ 40) (hok : xs.all Sw.mixOk = true) : Calls Tryz.prog 64 #[.slice A n c] w fun E w' => E = .returned (.int .i64 (Sw.root xs)) ∧ Ex w w' := by
  induction N generalizing A c n xs w with
  | zero =>
    have hl := hxs.1
    obtain rfl : n = 0 := by omega
    have hx : xs = [] := List.eq_nil_of_length_eq_zero (by omega)
    subst hx
    clear hl
    go_enter Tryz.func64, Tryz.ntmps64
    go_wp2_with fail
    go_ret
    exact ⟨ret_i (by simp [Sw.root]), ext_⟩
  | succ N ih =>
    have hl := Lib.hid hxs.1
    have hcap := hxs.2.le
    by_cases h0 : n = 0
    · subst h0
      have hx : xs = [] := List.eq_nil_of_length_eq_zero (by have := hl.out; omega)
      subst hx
      go_enter Tryz.func64, Tryz.ntmps64
      go_wp2_with fail
      go_ret
      exact ⟨ret_i (by simp [Sw.root]), ext_⟩
    by_cases h1 : n = 1
    · subst h1
      obtain ⟨g, off, y, rfl, hg0, hg, hd, hy, hc⟩ := at_I hxs (show 0 < 1 by omega)
      have hx : xs = [y] := by
        have := hl.out
        match xs, this, hy with
        | [z], _, hy => simpa using hy
      subst hx
      clear hd hy
      simp only [Nat.add_zero] at hc
      go_enter Tryz.func64, Tryz.ntmps64
      go_wp2_with fail
      go_ret
      exact ⟨ret_i (by simp [Sw.root]), ext_⟩
    have h2 : 2 ≤ n := by omega
    have hb0 : ((n : Int) == 0) = false := by simp; omega
    have hb1 : ((n : Int) == 1) = false := by simp; omega
    have hs1 := Sw.split_lt h2
    have hs0 := Sw.split_pos n
    have z3 : ¬ (c = Sw.split n) := by omega
    have z0 : (0 : Int) ≤ ↑(Sw.split n) := by omega
    have z1 : (↑(Sw.split n) : Int) ≤ ↑n := by omega
    have z2 : (↑(Sw.split n) : Int) ≤ ↑c := by omega
    have m1 := root_ok _ (List.all_take (k := Sw.split n) hok)
    have m2 := root_ok _ (List.all_drop (k := Sw.split n) hok)
    go_enter Tryz.func64, Tryz.ntmps64
    go_wp2_with (first | (go_at_call 63; apply Calls.mono; apply iSplit_c; (first | assumption | omega); (first | assumption | omega); rintro E w' ⟨rfl, rfl⟩))
    (refine wp_name ?_; intro W0 hb0; have hst := xr hb0; (try simp only [zA, zC, zD, zN] at hst); obtain ⟨hc0, hf0, hz0⟩ := hst; go_region_held3 (fun w' => Held W0 w') ((first | with_reducible assumption | with_reducible exact Held.start _ | with_reducible exact Held.of (by assumption) | with_reducible exact Held.ex (by assumption) (by assumption) | ((repeat (first | with_reducible refine Held.set ?_ (by simp only [zA, zC, zD, zN]; omega) | with_reducible refine Held.alloc ?_ _ | with_reducible refine Held.drew ?_)); (first | with_reducible assumption | with_reducible exact Held.refl _ | with_reducible exact Held.of (by assumption) | with_reducible exact Held.ex (by assumption) (by assumption))) | exact Held.of (by exact ext_))) ((first | (go_at_call 64; apply Calls.mono; apply ih; omega; (first | (apply Rs.at0; apply RI_take hxs; omega; (exact kf_)) | (apply Rs.at0; apply RI_drop hxs; omega; (exact kf_))); omega; (first | exact List.all_take hok | exact List.all_drop hok); rintro E w1 ⟨rfl, hb⟩) | (go_at_call 66; apply Calls.mono; apply pair_c; (first | assumption | omega); (first | assumption | omega); rintro E w' ⟨rfl, rfl⟩))); all_goals (have hb := And.right (by assumption : Held W0 _); have hst := xr hb; (try simp only [zA, zC, zD, zN] at hst); obtain ⟨hc, hf, hz⟩ := hst))
    go_wp2
    go_ret
    refine ⟨ret_i ?_, ext_⟩
    have e := root_two (xs := xs) (by have := hl.out; omega)
    rw [← hl.out] at e
    rw [e]

theorem iTreRoot_c (A : Option Addr) (c n : Nat) (xs : List Int) (w : World) (hxs : RI w 0 A c n xs) : Calls Tryz.prog 42 #[.slice A n c] w fun E w' => E = .returned (.int .i64 (Sw.treRoot xs)) ∧ Ex w w' := by
  have hl := Lib.hid hxs.1
  cases h1 : Sw.treOk xs
  case false =>
    go_enter Tryz.func42, Tryz.ntmps42; go_wp2_with (first | (go_at_call 61; apply Calls.mono; apply iTreOk_c; ((first | (apply Rs.at0; assumption) | (apply Ow.rs0; assumption)); exact kf_); rintro E w' ⟨rfl, rfl⟩)); go_ret; exact ⟨ret_i (by simp [Sw.treRoot, h1]), ext_⟩
  obtain ⟨h40, hall⟩ := Sw.treOk_iff.1 h1
  have hn40 : n ≤ 40 := by have := hl.out; omega
  go_enter Tryz.func42, Tryz.ntmps42
  go_wp2_with (first | (go_at_call 61; apply Calls.mono; apply iTreOk_c; ((first | (apply Rs.at0; assumption) | (apply Ow.rs0; assumption)); exact kf_); rintro E w' ⟨rfl, rfl⟩) | (go_at_call 64; apply Calls.mono; apply (iRoot_c 40); omega; ((first | (apply Rs.at0; assumption) | (apply Ow.rs0; assumption)); exact kf_); omega; exact hall; rintro E w1 ⟨rfl, hb⟩; have hst := xr hb; (try simp only [zA, zC, zD, zN] at hst); obtain ⟨hc, hf, hz⟩ := hst))
  go_ret
  exact ⟨ret_i (by simp [Sw.treRoot, h1]), ext_⟩

theorem iEntLeaves_c (A : Option Addr) (c n : Nat) (xs : List Sw.Ent) (w : World) (hxs : RE w 0 A c n xs) (hn : n ≤ 4194304) : Calls Tryz.prog 43 #[.slice A n c] w fun E w' => ∃ A' c', E = .returned (.slice A' n c') ∧ OwI w' w.heap.size A' c' n (xs.map Sw.entLeaf) ∧ Ex w w' := by
  have hl := Lib.hid hxs.1
  go_enter Tryz.func43, Tryz.ntmps43
  go_wp2_with fail
  go_loopw [3, 8] (fun o i wr => ∃ (k : Nat) (B : Option Addr) (d : Nat), k ≤ n ∧ i = .int .i64 k ∧ o = .slice B k d ∧ Ex w wr ∧ OwI wr w.heap.size B d k ((xs.take k).map Sw.entLeaf)) (fun _ i _ => n - (intOf i).toNat)
  case atStart => exact ⟨0, _, 0, Nat.zero_le _, rfl, rfl, ext_, Ow.nil _ _⟩
  case round =>
    obtain ⟨k, B, d, hk, rfl, rfl, hb, ho⟩ := hrel
    have hst := Ex.rules hb rfl
    obtain ⟨hc, hf, hz⟩ := hst
    by_cases hlt : k < n
    · obtain ⟨g, off, y, rfl, hg0, hg, hd, hy, hc0, hc1, hc2, hc3⟩ := at_E hxs hlt
      have Hd := Lib.hid hd; have Hy := Lib.hid hy; clear hd hy
      go_wp2_with (first | (go_at_call 110; refine (iEntLeaf_c _ _).mono ?_; rintro E w1 ⟨rfl, hb⟩; have hst := xr hb; (try simp only [zA, zC, zD, zN] at hst); obtain ⟨hc, hf, hz⟩ := hst) | (at_builtin; apply wpList_app (lo := w.heap.size) el_I one_I rfl rfl rfl rfl; (first | assumption | exact Ow.nil _ _ | (apply Ow.keep; assumption; exact kf_) | (refine Ow.new [] (by (first | rfl | (simp only [zA, zC, zD, zN]; done) | omega)) rfl rfl (fun _ => rfl) (by exact sz_) (by omega))); (first | (refine Rs.new [Sw.entLeaf y] (by (first | rfl | (simp only [zA, zC, zD, zN]; done) | omega)) rfl rfl (fun _ => rfl) (by omega))); omega; exact sz_; intro A1 c1 w2 ho1 hch1 hat1 hex1 hlow1; have hb := hex1 (fun _ => False) w (by exact ext_) (by exact sz_); have hz := hch1.size; (try simp only [zA, zC, zD, zN] at hz); obtain ⟨hc, hf⟩ := low_rules hlow1; clear hlow1 hex1))
      go_roundw
      case rel => exact ⟨k + 1, A1, c1, by omega, by go_num, rfl, hb, by rw [take_snoc Hy.out, List.map_append]; exact ho1⟩
      case measure => simp [intOf]; omega
    · go_wp2_with fail
      go_ret
      obtain rfl : k = n := by omega
      refine ⟨_, _, rfl, ?_, ext_⟩
      rw [List.take_of_length_le (by have := hl.out; omega)] at ho
      exact ho
theorem iLeaves_c (A : Option Addr) (c n : Nat) (xs : List Sw.Row) (w : World) (hxs : RR w 0 A c n xs) (hn : n ≤ 4194304) : Calls Tryz.prog 59 #[.slice A n c] w fun E w' => ∃ A' c', E = .returned (.slice A' n c') ∧ OwI w' w.heap.size A' c' n (Sw.ownLeaves xs) ∧ Ex w w' := by
  have hl := Lib.hid hxs.1
  go_enter Tryz.func59, Tryz.ntmps59
  go_wp2_with fail
  go_loopw [3, 8] (fun o i wr => ∃ (k : Nat) (B : Option Addr) (d : Nat), k ≤ n ∧ i = .int .i64 k ∧ o = .slice B k d ∧ Ex w wr ∧ OwI wr w.heap.size B d k (Sw.ownLeaves (xs.take k))) (fun _ i _ => n - (intOf i).toNat)
  case atStart => exact ⟨0, _, 0, Nat.zero_le _, rfl, rfl, ext_, Ow.nil _ _⟩
  case round =>
    obtain ⟨k, B, d, hk, rfl, rfl, hb, ho⟩ := hrel
    have hst := Ex.rules hb rfl
    obtain ⟨hc, hf, hz⟩ := hst
    by_cases hlt : k < n
    · obtain ⟨g, off, y, rfl, hg0, hg, hd, hy, hc0, hc1, hc2⟩ := at_R hxs hlt
      have Hy := Lib.hid hy; clear hd hy
      go_wp2_with (first | (go_at_call 14; refine (iOwnLeaf_c _ _ _).mono ?_; rintro E w1 ⟨rfl, hb⟩; have hst := xr hb; (try simp only [zA, zC, zD, zN] at hst); obtain ⟨hc, hf, hz⟩ := hst) | (at_builtin; apply wpList_app (lo := w.heap.size) el_I one_I rfl rfl rfl rfl; (first | assumption | exact Ow.nil _ _ | (apply Ow.keep; assumption; exact kf_) | (refine Ow.new [] (by (first | rfl | (simp only [zA, zC, zD, zN]; done) | omega)) rfl rfl (fun _ => rfl) (by exact sz_) (by omega))); (first | (refine Rs.new [Sw.ownLeaf k y] (by (first | rfl | (simp only [zA, zC, zD, zN]; done) | omega)) rfl rfl (fun _ => rfl) (by omega))); omega; exact sz_; intro A1 c1 w2 ho1 hch1 hat1 hex1 hlow1; have hb := hex1 (fun _ => False) w (by exact ext_) (by exact sz_); have hz := hch1.size; (try simp only [zA, zC, zD, zN] at hz); obtain ⟨hc, hf⟩ := low_rules hlow1; clear hlow1 hex1))
      go_roundw
      case rel =>
        refine ⟨k + 1, A1, c1, by omega, by go_num, rfl, hb, ?_⟩
        rw [take_snoc Hy.out]
        unfold Sw.ownLeaves at ho1 ⊢
        rw [leavesFrom_snoc, List.length_take, Nat.min_eq_left (by have := hl.out; omega), Int.zero_add]
        exact ho1
      case measure => simp [intOf]; omega
    · go_wp2_with fail
      go_ret
      obtain rfl : k = n := by omega
      refine ⟨_, _, rfl, ?_, ext_⟩
      rw [List.take_of_length_le (by have := hl.out; omega)] at ho
      exact ho

theorem treRoot_own {rows : List Sw.Row} (h : Sw.ownOk rows = true) : Sw.treRoot (Sw.ownLeaves rows) = Sw.root (Sw.ownLeaves rows) := by
  rw [Sw.treRoot, if_pos]
  exact Sw.treOk_iff.2 ⟨by rw [Sw.ownLeaves, leavesFrom_length, Sw.ownOk_len h]; omega, ownLeaves_ok _⟩
theorem treRoot_ent {es : List Sw.Ent} (h : es.length ≤ 40) : Sw.treRoot (es.map Sw.entLeaf) = Sw.root (es.map Sw.entLeaf) := by
  rw [Sw.treRoot, if_pos]
  exact Sw.treOk_iff.2 ⟨by rw [List.length_map]; omega, entLeaves_ok _⟩
theorem iOwnRoot_c (A : Option Addr) (c n : Nat) (xs : List Sw.Row) (w : World) (hxs : RR w 0 A c n xs) : Calls Tryz.prog 44 #[.slice A n c] w fun E w' => E = .returned (.int .i64 (Sw.ownRoot xs)) ∧ Ex w w' := by
  have hl := Lib.hid hxs.1
  cases hok : Sw.ownOk xs
  case false =>
    go_enter Tryz.func44, Tryz.ntmps44; go_wp2_with (first | (go_at_call 56; apply Calls.mono; apply iOwnOk_c; ((first | (apply Rs.at0; assumption) | (apply Ow.rs0; assumption)); exact kf_); rintro E w1 ⟨rfl, hb⟩; have hst := xr hb; (try simp only [zA, zC, zD, zN] at hst); obtain ⟨hc, hf, hz⟩ := hst)); go_ret; exact ⟨ret_i (by simp [Sw.ownRoot, hok]), ext_⟩
  have hn : n = 8 := by have := hl.out; have := Sw.ownOk_len hok; omega
  subst hn
  have e := Lib.hid (treRoot_own hok)
  go_enter Tryz.func44, Tryz.ntmps44
  go_wp2_with (first | (go_at_call 56; apply Calls.mono; apply iOwnOk_c; ((first | (apply Rs.at0; assumption) | (apply Ow.rs0; assumption)); exact kf_); rintro E w1 ⟨rfl, hb⟩; have hst := xr hb; (try simp only [zA, zC, zD, zN] at hst); obtain ⟨hc, hf, hz⟩ := hst) | (go_at_call 59; apply Calls.mono; apply iLeaves_c; ((first | (apply Rs.at0; assumption) | (apply Ow.rs0; assumption)); exact kf_); (first | assumption | omega); rintro E w1 ⟨A', c', rfl, hr, hb⟩; have hst := xr hb; (try simp only [zA, zC, zD, zN] at hst); obtain ⟨hc, hf, hz⟩ := hst) | (go_at_call 42; apply Calls.mono; apply iTreRoot_c; ((first | (apply Rs.at0; assumption) | (apply Ow.rs0; assumption)); exact kf_); rintro E w1 ⟨rfl, hb⟩; have hst := xr hb; (try simp only [zA, zC, zD, zN] at hst); obtain ⟨hc, hf, hz⟩ := hst))
  go_ret
  exact ⟨ret_i (by rw [e.out]; simp [Sw.ownRoot, hok]), ext_⟩
end Go.Proofs.YtdbnbembjebfhaaGreat

