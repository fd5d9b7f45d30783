/-
  Texts joined: LawEq.
-/
import Derived.Test.YtdbnbembjebfhaaGreatPz35
import Derived.Test.YtdbnbembjebfhaaGreatPz8
namespace Go.Proofs.YtdbnbembjebfhaaGreat
set_option maxRecDepth 100000
set_option linter.unusedSimpArgs false
set_option linter.unusedVariables false
open Go.RowKit Go
set_option maxHeartbeats 400000

theorem ent_ext {a b : Sw.Ent} : a = b ↔ a.kind = b.kind ∧ a.ticket = b.ticket ∧ a.who = b.who ∧ a.price = b.price := by cases a; cases b; simp
theorem row_ext {a b : Sw.Row} : a = b ↔ a.who = b.who ∧ a.face = b.face ∧ a.used = b.used := by cases a; cases b; simp
theorem deal_ext {a b : Sw.Deal} : a = b ↔ a.ticket = b.ticket ∧ a.seller = b.seller ∧ a.price = b.price ∧ a.buyer = b.buyer ∧ a.due = b.due := by cases a; cases b; simp
theorem req_ext {a b : Sw.Req} : a = b ↔ a.user = b.user ∧ a.n = b.n ∧ a.kind = b.kind ∧ a.ticket = b.ticket ∧ a.who = b.who ∧ a.price = b.price := by cases a; cases b; simp

/-! ### sizes -/
def szOf (l n : Int) : Int := if l - n < 0 then -1 else l - n
theorem szEntEntryS_c (A : Option Addr) (c n : Nat) (xs : List Sw.Ent) (l : Int) (w : World) (hxs : RE w 0 A c n xs) (h0 : 0 ≤ l) (h1 : l ≤ 1048576) : Calls Tryz.prog 127 #[.slice A n c, .int .i64 l] w fun E w' => E = .returned (.int .i64 (if l - n < 0 then -1 else l - n)) ∧ w = w' := by

  have hm := Rs.big hxs
  have hw : IntKind.i64.wrap (l - n) = l - n := by rw [IntWalk.i64_in _ (by omega)]
  by_cases hn : l - n < 0
  · go_enter Tryz.func127, Tryz.ntmps127
    go_wp2
    go_ret
    exact ⟨ret_i (by simp [hn]), rfl⟩
  · go_enter Tryz.func127, Tryz.ntmps127
    go_wp2
    go_ret
    exact ⟨ret_i (by simp [hn]), rfl⟩

theorem szMktDealS_c (A : Option Addr) (c n : Nat) (xs : List Sw.Deal) (l : Int) (w : World) (hxs : RDl w 0 A c n xs) (h0 : 0 ≤ l) (h1 : l ≤ 1048576) : Calls Tryz.prog 128 #[.slice A n c, .int .i64 l] w fun E w' => E = .returned (.int .i64 (if l - n < 0 then -1 else l - n)) ∧ w = w' := by

  have hm := Rs.big hxs
  have hw : IntKind.i64.wrap (l - n) = l - n := by rw [IntWalk.i64_in _ (by omega)]
  by_cases hn : l - n < 0
  · go_enter Tryz.func128, Tryz.ntmps128
    go_wp2
    go_ret
    exact ⟨ret_i (by simp [hn]), rfl⟩
  · go_enter Tryz.func128, Tryz.ntmps128
    go_wp2
    go_ret
    exact ⟨ret_i (by simp [hn]), rfl⟩

theorem szWldLineS_c (A : Option Addr) (c n : Nat) (xs : List Sw.Req) (l : Int) (w : World) (hxs : RQ w 0 A c n xs) (h0 : 0 ≤ l) (h1 : l ≤ 1048576) : Calls Tryz.prog 69 #[.slice A n c, .int .i64 l] w fun E w' => E = .returned (.int .i64 (if l - n < 0 then -1 else l - n)) ∧ w = w' := by

  have hm := Rs.big hxs
  have hw : IntKind.i64.wrap (l - n) = l - n := by rw [IntWalk.i64_in _ (by omega)]
  by_cases hn : l - n < 0
  · go_enter Tryz.func69, Tryz.ntmps69
    go_wp2
    go_ret
    exact ⟨ret_i (by simp [hn]), rfl⟩
  · go_enter Tryz.func69, Tryz.ntmps69
    go_wp2
    go_ret
    exact ⟨ret_i (by simp [hn]), rfl⟩


/-! ### equality -/
theorem eqEntEntry_c (t u : Sw.Ent) (w : World) : Calls Tryz.prog 227 #[.agg #[.int .i64 t.kind, .int .i64 t.ticket, .int .i64 t.who, .int .i64 t.price], .agg #[.int .i64 u.kind, .int .i64 u.ticket, .int .i64 u.who, .int .i64 u.price]] w fun E w' => E = .returned (.bool (decide (t = u))) ∧ Ex w w' := by
  go_enter Tryz.func227, Tryz.ntmps227
  go_wp2_with fail
  all_goals (go_ret; refine ⟨ret_b ?_, ext_⟩; go_tidy; simp only [ent_ext])
  all_goals (first | (simp [*]; done) | (simp_all; done))
theorem eqMktDeal_c (t u : Sw.Deal) (w : World) : Calls Tryz.prog 228 #[.agg #[.int .i64 t.ticket, .int .i64 t.seller, .int .i64 t.price, .int .i64 t.buyer, .int .i64 t.due], .agg #[.int .i64 u.ticket, .int .i64 u.seller, .int .i64 u.price, .int .i64 u.buyer, .int .i64 u.due]] w fun E w' => E = .returned (.bool (decide (t = u))) ∧ Ex w w' := by
  go_enter Tryz.func228, Tryz.ntmps228
  go_wp2_with fail
  all_goals (go_ret; refine ⟨ret_b ?_, ext_⟩; go_tidy; simp only [deal_ext])
  all_goals (first | (simp [*]; done) | (simp_all; done))
theorem eqMktReq_c (t u : Sw.Req) (w : World) : Calls Tryz.prog 180 #[.agg #[.int .i64 t.user, .int .i64 t.n, .int .i64 t.kind, .int .i64 t.ticket, .int .i64 t.who, .int .i64 t.price], .agg #[.int .i64 u.user, .int .i64 u.n, .int .i64 u.kind, .int .i64 u.ticket, .int .i64 u.who, .int .i64 u.price]] w fun E w' => E = .returned (.bool (decide (t = u))) ∧ Ex w w' := by
  go_enter Tryz.func180, Tryz.ntmps180
  go_wp2_with fail
  all_goals (go_ret; refine ⟨ret_b ?_, ext_⟩; go_tidy; simp only [req_ext])
  all_goals (first | (simp [*]; done) | (simp_all; done))
theorem eqWldLine_c (t u : Sw.Req) (w : World) : Calls Tryz.prog 173 #[.agg #[.int .i64 t.user, .int .i64 t.n, .int .i64 t.kind, .int .i64 t.ticket, .int .i64 t.who, .int .i64 t.price], .agg #[.int .i64 u.user, .int .i64 u.n, .int .i64 u.kind, .int .i64 u.ticket, .int .i64 u.who, .int .i64 u.price]] w fun E w' => E = .returned (.bool (decide (t = u))) ∧ Ex w w' := by
  go_enter Tryz.func173, Tryz.ntmps173
  cases hyz : decide (t = u)
  all_goals
    go_wp2_with (first | (go_at_call 180; refine (eqMktReq_c _ _ _).mono ?_; rintro E w1 ⟨rfl, hb⟩; have hst := xr hb; (try simp only [zA, zC, zD, zN] at hst); obtain ⟨hc, hf, hz⟩ := hst))
    go_ret
    exact ⟨rfl, ext_⟩
theorem eqEntEntryS_c (A : Option Addr) (c n : Nat) (xs : List Sw.Ent) (B : Option Addr) (d m : Nat) (ys : List Sw.Ent) (w : World) (hxs : RE w 0 A c n xs) (hys : RE w 0 B d m ys) : Calls Tryz.prog 171 #[.slice A n c, .slice B m d] w fun E w' => E = .returned (.bool (decide (xs = ys))) ∧ Ex w w' := by

  have hl := Lib.hid hxs.1
  have hl' := Lib.hid hys.1
  have hbig := Rs.big hxs
  by_cases hnm : n = m
  case neg =>
    have hb : ((n : Int) == m) = false := by simp; omega
    have e : decide (xs = ys) = false := by
      rw [decide_eq_false_iff_not]; rintro rfl
      have := hl.out; have := hl'.out; omega
    rw [e]; clear e
    go_enter Tryz.func171, Tryz.ntmps171
    go_wp2_with fail
    go_ret
    exact ⟨rfl, (by exact ext_)⟩
  subst hnm
  go_enter Tryz.func171, Tryz.ntmps171
  go_wp2_with fail
  go_loopw [5] (fun i wr => ∃ k : Nat, k ≤ n ∧ i = .int .i64 k ∧ Ex w wr ∧ decide (xs = ys) = decide (xs.drop k = ys.drop k)) (fun i _ => n - (intOf i).toNat)
  case atStart => exact ⟨0, Nat.zero_le _, rfl, Ch.refl _ _, rfl⟩
  case round =>
    obtain ⟨k, hk, rfl, hb2, hrel⟩ := hrel
    have hst := Ex.rules hb2 rfl
    obtain ⟨hc2, hf2, hz2⟩ := hst
    by_cases hlt : k < n
    · obtain ⟨g, off, y, rfl, hg0, hg, hd, hy, hca0, hca1, hca2, hca3⟩ := at_E hxs hlt
      obtain ⟨g', off', z, rfl, hg0', hg', hd', hz', hcb0, hcb1, hcb2, hcb3⟩ := at_E hys hlt
      have t1 : (0 : Int) ≤ (k : Int) := by omega
      have t2 : (k : Int) < (n : Int) := by omega
      rw [hd, hd'] at hrel
      have Hrel := Lib.hid hrel
      clear hrel hd hd' hy hz'
      cases hyz : decide (y = z) with
      | true =>
        go_wp2_with fail
        (refine wp_name ?_; intro W0 hb0; have hst := xr hb0; (try simp only [zA, zC, zD, zN] at hst); obtain ⟨hc0, hf0, hz0⟩ := hst; go_region_held3 (fun w' => Held W0 w') ((first | with_reducible assumption | with_reducible exact Held.start _ | with_reducible exact Held.of (by assumption) | with_reducible exact Held.ex (by assumption) (by assumption) | ((repeat (first | with_reducible refine Held.set ?_ (by simp only [zA, zC, zD, zN]; omega) | with_reducible refine Held.alloc ?_ _ | with_reducible refine Held.drew ?_)); (first | with_reducible assumption | with_reducible exact Held.refl _ | with_reducible exact Held.of (by assumption) | with_reducible exact Held.ex (by assumption) (by assumption))) | exact Held.of (by exact ext_))) ((first | (go_at_call 227; refine (eqEntEntry_c _ _ _).mono ?_; rintro E w1 ⟨rfl, hb⟩; have hst := xr hb; (try simp only [zA, zC, zD, zN] at hst); obtain ⟨hc, hf, hz⟩ := hst))); all_goals (have hb := And.right (by assumption : Held W0 _); have hst := xr hb; (try simp only [zA, zC, zD, zN] at hst); obtain ⟨hc, hf, hz⟩ := hst))
        all_goals go_wp2
        all_goals go_roundw
        case rel => exact ⟨k + 1, by omega, by go_num, (by exact ext_), by rw [Hrel.out]; simp [of_decide_eq_true hyz]⟩
        case measure => simp [intOf]; omega
      | false =>
        go_wp2_with fail
        (refine wp_name ?_; intro W0 hb0; have hst := xr hb0; (try simp only [zA, zC, zD, zN] at hst); obtain ⟨hc0, hf0, hz0⟩ := hst; go_region_held3 (fun w' => Held W0 w') ((first | with_reducible assumption | with_reducible exact Held.start _ | with_reducible exact Held.of (by assumption) | with_reducible exact Held.ex (by assumption) (by assumption) | ((repeat (first | with_reducible refine Held.set ?_ (by simp only [zA, zC, zD, zN]; omega) | with_reducible refine Held.alloc ?_ _ | with_reducible refine Held.drew ?_)); (first | with_reducible assumption | with_reducible exact Held.refl _ | with_reducible exact Held.of (by assumption) | with_reducible exact Held.ex (by assumption) (by assumption))) | exact Held.of (by exact ext_))) ((first | (go_at_call 227; refine (eqEntEntry_c _ _ _).mono ?_; rintro E w1 ⟨rfl, hb⟩; have hst := xr hb; (try simp only [zA, zC, zD, zN] at hst); obtain ⟨hc, hf, hz⟩ := hst))); all_goals (have hb := And.right (by assumption : Held W0 _); have hst := xr hb; (try simp only [zA, zC, zD, zN] at hst); obtain ⟨hc, hf, hz⟩ := hst))
        all_goals go_wp2
        all_goals go_ret
        all_goals exact ⟨ret_b (by rw [Hrel.out]; simp [of_decide_eq_false hyz]), (by exact ext_)⟩
    · have Hrel := Lib.hid hrel; clear hrel
      go_wp2_with fail
      go_ret
      refine ⟨ret_b ?_, (by exact ext_)⟩
      rw [Hrel.out, List.drop_of_length_le (by have := hl.out; omega), List.drop_of_length_le (by have := hl'.out; omega)]
      simp

theorem eqMktDealS_c (A : Option Addr) (c n : Nat) (xs : List Sw.Deal) (B : Option Addr) (d m : Nat) (ys : List Sw.Deal) (w : World) (hxs : RDl w 0 A c n xs) (hys : RDl w 0 B d m ys) : Calls Tryz.prog 172 #[.slice A n c, .slice B m d] w fun E w' => E = .returned (.bool (decide (xs = ys))) ∧ Ex w w' := by

  have hl := Lib.hid hxs.1
  have hl' := Lib.hid hys.1
  have hbig := Rs.big hxs
  by_cases hnm : n = m
  case neg =>
    have hb : ((n : Int) == m) = false := by simp; omega
    have e : decide (xs = ys) = false := by
      rw [decide_eq_false_iff_not]; rintro rfl
      have := hl.out; have := hl'.out; omega
    rw [e]; clear e
    go_enter Tryz.func172, Tryz.ntmps172
    go_wp2_with fail
    go_ret
    exact ⟨rfl, (by exact ext_)⟩
  subst hnm
  go_enter Tryz.func172, Tryz.ntmps172
  go_wp2_with fail
  go_loopw [5] (fun i wr => ∃ k : Nat, k ≤ n ∧ i = .int .i64 k ∧ Ex w wr ∧ decide (xs = ys) = decide (xs.drop k = ys.drop k)) (fun i _ => n - (intOf i).toNat)
  case atStart => exact ⟨0, Nat.zero_le _, rfl, Ch.refl _ _, rfl⟩
  case round =>
    obtain ⟨k, hk, rfl, hb2, hrel⟩ := hrel
    have hst := Ex.rules hb2 rfl
    obtain ⟨hc2, hf2, hz2⟩ := hst
    by_cases hlt : k < n
    · obtain ⟨g, off, y, rfl, hg0, hg, hd, hy, hca0, hca1, hca2, hca3, hca4⟩ := at_D hxs hlt
      obtain ⟨g', off', z, rfl, hg0', hg', hd', hz', hcb0, hcb1, hcb2, hcb3, hcb4⟩ := at_D hys hlt
      have t1 : (0 : Int) ≤ (k : Int) := by omega
      have t2 : (k : Int) < (n : Int) := by omega
      rw [hd, hd'] at hrel
      have Hrel := Lib.hid hrel
      clear hrel hd hd' hy hz'
      cases hyz : decide (y = z) with
      | true =>
        go_wp2_with fail
        (refine wp_name ?_; intro W0 hb0; have hst := xr hb0; (try simp only [zA, zC, zD, zN] at hst); obtain ⟨hc0, hf0, hz0⟩ := hst; go_region_held3 (fun w' => Held W0 w') ((first | with_reducible assumption | with_reducible exact Held.start _ | with_reducible exact Held.of (by assumption) | with_reducible exact Held.ex (by assumption) (by assumption) | ((repeat (first | with_reducible refine Held.set ?_ (by simp only [zA, zC, zD, zN]; omega) | with_reducible refine Held.alloc ?_ _ | with_reducible refine Held.drew ?_)); (first | with_reducible assumption | with_reducible exact Held.refl _ | with_reducible exact Held.of (by assumption) | with_reducible exact Held.ex (by assumption) (by assumption))) | exact Held.of (by exact ext_))) ((first | (go_at_call 228; refine (eqMktDeal_c _ _ _).mono ?_; rintro E w1 ⟨rfl, hb⟩; have hst := xr hb; (try simp only [zA, zC, zD, zN] at hst); obtain ⟨hc, hf, hz⟩ := hst))); all_goals (have hb := And.right (by assumption : Held W0 _); have hst := xr hb; (try simp only [zA, zC, zD, zN] at hst); obtain ⟨hc, hf, hz⟩ := hst))
        all_goals go_wp2
        all_goals go_roundw
        case rel => exact ⟨k + 1, by omega, by go_num, (by exact ext_), by rw [Hrel.out]; simp [of_decide_eq_true hyz]⟩
        case measure => simp [intOf]; omega
      | false =>
        go_wp2_with fail
        (refine wp_name ?_; intro W0 hb0; have hst := xr hb0; (try simp only [zA, zC, zD, zN] at hst); obtain ⟨hc0, hf0, hz0⟩ := hst; go_region_held3 (fun w' => Held W0 w') ((first | with_reducible assumption | with_reducible exact Held.start _ | with_reducible exact Held.of (by assumption) | with_reducible exact Held.ex (by assumption) (by assumption) | ((repeat (first | with_reducible refine Held.set ?_ (by simp only [zA, zC, zD, zN]; omega) | with_reducible refine Held.alloc ?_ _ | with_reducible refine Held.drew ?_)); (first | with_reducible assumption | with_reducible exact Held.refl _ | with_reducible exact Held.of (by assumption) | with_reducible exact Held.ex (by assumption) (by assumption))) | exact Held.of (by exact ext_))) ((first | (go_at_call 228; refine (eqMktDeal_c _ _ _).mono ?_; rintro E w1 ⟨rfl, hb⟩; have hst := xr hb; (try simp only [zA, zC, zD, zN] at hst); obtain ⟨hc, hf, hz⟩ := hst))); all_goals (have hb := And.right (by assumption : Held W0 _); have hst := xr hb; (try simp only [zA, zC, zD, zN] at hst); obtain ⟨hc, hf, hz⟩ := hst))
        all_goals go_wp2
        all_goals go_ret
        all_goals exact ⟨ret_b (by rw [Hrel.out]; simp [of_decide_eq_false hyz]), (by exact ext_)⟩
    · have Hrel := Lib.hid hrel; clear hrel
      go_wp2_with fail
      go_ret
      refine ⟨ret_b ?_, (by exact ext_)⟩
      rw [Hrel.out, List.drop_of_length_le (by have := hl.out; omega), List.drop_of_length_le (by have := hl'.out; omega)]
      simp

theorem eqWldLineS_c (A : Option Addr) (c n : Nat) (xs : List Sw.Req) (B : Option Addr) (d m : Nat) (ys : List Sw.Req) (w : World) (hxs : RQ w 0 A c n xs) (hys : RQ w 0 B d m ys) : Calls Tryz.prog 86 #[.slice A n c, .slice B m d] w fun E w' => E = .returned (.bool (decide (xs = ys))) ∧ Ex w w' := by

  have hl := Lib.hid hxs.1
  have hl' := Lib.hid hys.1
  have hbig := Rs.big hxs
  by_cases hnm : n = m
  case neg =>
    have hb : ((n : Int) == m) = false := by simp; omega
    have e : decide (xs = ys) = false := by
      rw [decide_eq_false_iff_not]; rintro rfl
      have := hl.out; have := hl'.out; omega
    rw [e]; clear e
    go_enter Tryz.func86, Tryz.ntmps86
    go_wp2_with fail
    go_ret
    exact ⟨rfl, (by exact ext_)⟩
  subst hnm
  go_enter Tryz.func86, Tryz.ntmps86
  go_wp2_with fail
  go_loopw [5] (fun i wr => ∃ k : Nat, k ≤ n ∧ i = .int .i64 k ∧ Ex w wr ∧ decide (xs = ys) = decide (xs.drop k = ys.drop k)) (fun i _ => n - (intOf i).toNat)
  case atStart => exact ⟨0, Nat.zero_le _, rfl, Ch.refl _ _, rfl⟩
  case round =>
    obtain ⟨k, hk, rfl, hb2, hrel⟩ := hrel
    have hst := Ex.rules hb2 rfl
    obtain ⟨hc2, hf2, hz2⟩ := hst
    by_cases hlt : k < n
    · obtain ⟨g, off, y, rfl, hg0, hg, hd, hy, hca0, hca1, hca2, hca3, hca4, hca5⟩ := at_Q hxs hlt
      obtain ⟨g', off', z, rfl, hg0', hg', hd', hz', hcb0, hcb1, hcb2, hcb3, hcb4, hcb5⟩ := at_Q hys hlt
      have t1 : (0 : Int) ≤ (k : Int) := by omega
      have t2 : (k : Int) < (n : Int) := by omega
      rw [hd, hd'] at hrel
      have Hrel := Lib.hid hrel
      clear hrel hd hd' hy hz'
      cases hyz : decide (y = z) with
      | true =>
        go_wp2_with fail
        (refine wp_name ?_; intro W0 hb0; have hst := xr hb0; (try simp only [zA, zC, zD, zN] at hst); obtain ⟨hc0, hf0, hz0⟩ := hst; go_region_held3 (fun w' => Held W0 w') ((first | with_reducible assumption | with_reducible exact Held.start _ | with_reducible exact Held.of (by assumption) | with_reducible exact Held.ex (by assumption) (by assumption) | ((repeat (first | with_reducible refine Held.set ?_ (by simp only [zA, zC, zD, zN]; omega) | with_reducible refine Held.alloc ?_ _ | with_reducible refine Held.drew ?_)); (first | with_reducible assumption | with_reducible exact Held.refl _ | with_reducible exact Held.of (by assumption) | with_reducible exact Held.ex (by assumption) (by assumption))) | exact Held.of (by exact ext_))) ((first | (go_at_call 173; refine (eqWldLine_c _ _ _).mono ?_; rintro E w1 ⟨rfl, hb⟩; have hst := xr hb; (try simp only [zA, zC, zD, zN] at hst); obtain ⟨hc, hf, hz⟩ := hst))); all_goals (have hb := And.right (by assumption : Held W0 _); have hst := xr hb; (try simp only [zA, zC, zD, zN] at hst); obtain ⟨hc, hf, hz⟩ := hst))
        all_goals go_wp2
        all_goals go_roundw
        case rel => exact ⟨k + 1, by omega, by go_num, (by exact ext_), by rw [Hrel.out]; simp [of_decide_eq_true hyz]⟩
        case measure => simp [intOf]; omega
      | false =>
        go_wp2_with fail
        (refine wp_name ?_; intro W0 hb0; have hst := xr hb0; (try simp only [zA, zC, zD, zN] at hst); obtain ⟨hc0, hf0, hz0⟩ := hst; go_region_held3 (fun w' => Held W0 w') ((first | with_reducible assumption | with_reducible exact Held.start _ | with_reducible exact Held.of (by assumption) | with_reducible exact Held.ex (by assumption) (by assumption) | ((repeat (first | with_reducible refine Held.set ?_ (by simp only [zA, zC, zD, zN]; omega) | with_reducible refine Held.alloc ?_ _ | with_reducible refine Held.drew ?_)); (first | with_reducible assumption | with_reducible exact Held.refl _ | with_reducible exact Held.of (by assumption) | with_reducible exact Held.ex (by assumption) (by assumption))) | exact Held.of (by exact ext_))) ((first | (go_at_call 173; refine (eqWldLine_c _ _ _).mono ?_; rintro E w1 ⟨rfl, hb⟩; have hst := xr hb; (try simp only [zA, zC, zD, zN] at hst); obtain ⟨hc, hf, hz⟩ := hst))); all_goals (have hb := And.right (by assumption : Held W0 _); have hst := xr hb; (try simp only [zA, zC, zD, zN] at hst); obtain ⟨hc, hf, hz⟩ := hst))
        all_goals go_wp2
        all_goals go_ret
        all_goals exact ⟨ret_b (by rw [Hrel.out]; simp [of_decide_eq_false hyz]), (by exact ext_)⟩
    · have Hrel := Lib.hid hrel; clear hrel
      go_wp2_with fail
      go_ret
      refine ⟨ret_b ?_, (by exact ext_)⟩
      rw [Hrel.out, List.drop_of_length_le (by have := hl.out; omega), List.drop_of_length_le (by have := hl'.out; omega)]
      simp

end Go.Proofs.YtdbnbembjebfhaaGreat

