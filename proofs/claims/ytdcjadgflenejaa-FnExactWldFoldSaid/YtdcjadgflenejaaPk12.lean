/-
  Texts joined: ImpC, Law2, LawEq.
-/
import Derived.Test.YtdcjadgflenejaaPk11
import Derived.Test.YtdcjadgflenejaaPk10
import Derived.Test.YtdcjadgflenejaaPk9
namespace Go.Proofs.Ytdcjadgflenejaa
set_option maxRecDepth 100000
set_option linter.unusedSimpArgs false
set_option linter.unusedVariables false
open Go.RowKit Go
set_option maxHeartbeats 1000000

theorem hedOf_n {xs : List Sw.Ent} (h : Sw.ownFold xs = none) : Sw.hedOf xs = none := by simp [Sw.hedOf, h]
theorem hedOf_y {xs : List Sw.Ent} {rows : List Sw.Row} (h : Sw.ownFold xs = some rows) : Sw.hedOf xs = some ⟨xs.length, Sw.root (xs.map Sw.entLeaf), Sw.ownRoot rows⟩ := by simp [Sw.hedOf, h]
/-! ### the first one of which something holds -/
def hitAt {α : Type} (p : α → Bool) (xs : List α) : Int := match xs.findIdx? p with
  | some i => i
  | none => -1
theorem hitAt_iff {α : Type} (p : α → Bool) (xs : List α) : decide (0 ≤ hitAt p xs) = xs.any p := by
  unfold hitAt
  cases h : xs.findIdx? p with
  | none =>
    rw [List.findIdx?_eq_none_iff] at h
    rw [show xs.any p = false from List.any_eq_false.2 fun x hx => by simp [h x hx]]; rfl
  | some i =>
    rw [List.findIdx?_eq_some_iff_getElem] at h
    obtain ⟨h1, h2, _⟩ := h
    rw [show xs.any p = true from List.any_eq_true.2 ⟨xs[i], List.getElem_mem h1, h2⟩]
    simp
theorem hitAt_here {α : Type} {p : α → Bool} {xs : List α} {k : Nat} {y : α} (hy : xs[k]? = some y) (h : ∀ j, j < k → ∀ z, xs[j]? = some z → p z = false) (hm : p y = true) : hitAt p xs = k := by
  unfold hitAt
  obtain ⟨hk, rfl⟩ := List.getElem?_eq_some_iff.1 hy
  have : xs.findIdx? p = some k := by
    rw [List.findIdx?_eq_some_iff_getElem]
    exact ⟨hk, hm, fun j hj => by simp [h j hj xs[j] (by simp)]⟩
  rw [this]
theorem hitAt_none {α : Type} {p : α → Bool} {xs : List α} {k : Nat} (hk : xs.length ≤ k) (h : ∀ j, j < k → ∀ z, xs[j]? = some z → p z = false) : hitAt p xs = -1 := by
  unfold hitAt
  have : xs.findIdx? p = none := by
    rw [List.findIdx?_eq_none_iff]
    intro x hx
    obtain ⟨i, hi, rfl⟩ := List.getElem_of_mem hx
    exact h i (by omega) xs[i] (by simp)
  rw [this]
theorem notHit_step {α : Type} {p : α → Bool} {xs : List α} {k : Nat} {y : α} (hy : xs[k]? = some y) (h : ∀ j, j < k → ∀ z, xs[j]? = some z → p z = false) (hm : p y = false) : ∀ j, j < k + 1 → ∀ z, xs[j]? = some z → p z = false := by
  intro j hj z hz
  rcases Nat.lt_succ_iff_lt_or_eq.1 hj with hj' | rfl
  · exact h j hj' z hz
  · rw [hy] at hz; cases hz; exact hm

def monBad (n : Int) : Bool := !Sw.inR n 0 100000
theorem iMonBad_c (x : Int) (w : World) : Calls Try.prog 66 #[.int .i64 x] w fun E w' => E = .returned (.bool (monBad x)) ∧ w = w' := by
  go_enter Try.func66, Try.ntmps66
  go_wp2_with (first | (go_at_call 48; refine (in_c _ _ _ _).mono ?_; rintro E w' ⟨rfl, rfl⟩))
  go_ret
  exact ⟨ret_b rfl, rfl⟩
theorem iMonBadAt_c (A : Option Addr) (c n : Nat) (xs : List Int) (w : World) (hxs : RI w 0 A c n xs) : Calls Try.prog 84 #[.slice A n c, .func (.func 66) #[] #[]] w fun E w' => E = .returned (.int .i64 (hitAt monBad xs)) ∧ Ex w w' := by

  have hl := Lib.hid hxs.1
  have hbig := Rs.big hxs
  go_enter Try.func84, Try.ntmps84
  go_wp2_with fail
  go_loopw [8] (fun i wr => ∃ k : Nat, k ≤ n ∧ i = .int .i64 k ∧ Ex w wr ∧ ∀ j, j < k → ∀ z, xs[j]? = some z → monBad z = false) (fun i _ => n - (intOf i).toNat)
  case atStart => exact ⟨0, Nat.zero_le _, rfl, (by exact ext_), by omega⟩
  case round =>
    obtain ⟨k, hk, rfl, hb2, hrel⟩ := hrel
    have Hrel := Lib.hid hrel; clear hrel
    have hst := xr hb2
    (try simp only [zA, zC, zD, zN] at hst)
    obtain ⟨hc2, hf2, hz2⟩ := hst
    by_cases hlt : k < n
    · obtain ⟨g, off, y, rfl, hg0, hg, hd, hy, hca0⟩ := at_I hxs hlt
      have Hy := Lib.hid hy; clear hd hy
      cases hmx : monBad y
      case true =>
        go_wp2_with (first | (go_at_call 66; refine (iMonBad_c _ _).mono ?_; rintro E w' ⟨rfl, rfl⟩))
        go_ret
        exact ⟨ret_i (hitAt_here Hy.out Hrel.out hmx).symm, (by exact ext_)⟩
      case false =>
        go_wp2_with (first | (go_at_call 66; refine (iMonBad_c _ _).mono ?_; rintro E w' ⟨rfl, rfl⟩))
        go_roundw
        case rel => exact ⟨k + 1, by omega, by go_num, (by exact ext_), notHit_step Hy.out Hrel.out hmx⟩
        case measure => simp [intOf]; omega
    · go_wp2_with fail
      go_ret
      exact ⟨ret_i (hitAt_none (by have := hl.out; omega) Hrel.out).symm, (by exact ext_)⟩

theorem iMonHasBad_c (A : Option Addr) (c n : Nat) (xs : List Int) (w : World) (hxs : RI w 0 A c n xs) : Calls Try.prog 65 #[.slice A n c, .func (.func 66) #[] #[]] w fun E w' => E = .returned (.bool (xs.any monBad)) ∧ Ex w w' := by
  have Hb := Lib.hid (hitAt_iff monBad xs)
  go_enter Try.func65, Try.ntmps65
  go_wp2_with (first | (go_at_call 84; apply Calls.mono; apply iMonBadAt_c; ((first | (apply Rs.at0; assumption) | (apply Ow.rs0; assumption)); exact kf_); rintro E w1 ⟨rfl, hb⟩; have hst := xr hb; (try simp only [zA, zC, zD, zN] at hst); obtain ⟨hc, hf, hz⟩ := hst))
  go_ret
  exact ⟨ret_b Hb.out, ext_⟩
theorem any_not {α : Type} (p : α → Bool) (xs : List α) : (!xs.any (fun x => !p x)) = xs.all p := by
  rw [List.all_eq_not_any_not]
theorem iMonOk_c (A : Option Addr) (c n : Nat) (xs : List Int) (w : World) (hxs : RI w 0 A c n xs) : Calls Try.prog 42 #[.slice A n c] w fun E w' => E = .returned (.bool (Sw.monOk xs)) ∧ Ex w w' := by
  have hl := Lib.hid hxs.1
  have hbig := Rs.big hxs
  have e : Sw.monOk xs = (decide (n = 5) && !xs.any monBad) := by
    rw [Sw.monOk, ← hl.out, ← any_not]; rfl
  have He := Lib.hid e; clear e
  by_cases hn : n = 5
  · subst hn
    go_enter Try.func42, Try.ntmps42
    go_wp2_with (first | (go_at_call 65; apply Calls.mono; apply iMonHasBad_c; ((first | (apply Rs.at0; assumption) | (apply Ow.rs0; assumption)); exact kf_); rintro E w1 ⟨rfl, hb⟩; have hst := xr hb; (try simp only [zA, zC, zD, zN] at hst); obtain ⟨hc, hf, hz⟩ := hst))
    go_ret
    exact ⟨ret_b (by rw [He.out]; simp), ext_⟩
  · have hb : ((n : Int) == 5) = false := by simp; omega
    go_enter Try.func42, Try.ntmps42
    go_wp2_with (first | (go_at_call 65; apply Calls.mono; apply iMonHasBad_c; ((first | (apply Rs.at0; assumption) | (apply Ow.rs0; assumption)); exact kf_); rintro E w1 ⟨rfl, hb⟩; have hst := xr hb; (try simp only [zA, zC, zD, zN] at hst); obtain ⟨hc, hf, hz⟩ := hst))
    go_ret
    exact ⟨ret_b (by rw [He.out]; simp [hn]), ext_⟩
end Go.Proofs.Ytdcjadgflenejaa

namespace Go.Proofs.Ytdcjadgflenejaa
set_option maxRecDepth 100000
set_option linter.unusedSimpArgs false
set_option linter.unusedVariables false
open Go.RowKit Go
set_option maxHeartbeats 400000

theorem eqIntS_c (A : Option Addr) (c n : Nat) (xs : List Int) (B : Option Addr) (d m : Nat) (ys : List Int) (w : World) (hxs : RI w 0 A c n xs) (hys : RI w 0 B d m ys) : Calls Try.prog 10 #[.slice A n c, .slice B m d] w fun E w' => E = .returned (.bool (decide (xs = ys))) ∧ Ex w w' := by
  have hl := Lib.hid hxs.1
  have hl' := Lib.hid hys.1
  have hbig : n ≤ 9223372036854775807 := by have := hxs.2.le; have := hxs.2.cap; unfold maxLen at this; omega
  by_cases hnm : n = m
  case neg =>
    have hb : ((n : Int) == m) = false := by simp; omega
    have e : decide (xs = ys) = false := by
      rw [decide_eq_false_iff_not]; rintro rfl
      have := hl.out; have := hl'.out; omega
    rw [e]; clear e
    go_enter Try.func10, Try.ntmps10
    go_wp2_with fail
    go_ret
    exact ⟨rfl, ext_⟩
  subst hnm
  go_enter Try.func10, Try.ntmps10
  go_wp2_with fail
  go_loopw [5] (fun i wr => ∃ k : Nat, k ≤ n ∧ i = .int .i64 k ∧ Ex w wr ∧ decide (xs = ys) = decide (xs.drop k = ys.drop k)) (fun i _ => n - (intOf i).toNat)
  case atStart => exact ⟨0, Nat.zero_le _, rfl, Ch.refl _ _, rfl⟩
  case round =>
    obtain ⟨k, hk, rfl, hb2, hrel⟩ := hrel
    have hst := Ex.rules hb2 rfl
    obtain ⟨hc2, hf2, hz2⟩ := hst
    by_cases hlt : k < n
    · obtain ⟨g, off, y, rfl, hg0, hg, hd, hy, hcy⟩ := at_I hxs hlt
      obtain ⟨g', off', z, rfl, hg0', hg', hd', hz', hcz⟩ := at_I hys hlt
      have t1 : (0 : Int) ≤ (k : Int) := by omega
      have t2 : (k : Int) < (n : Int) := by omega
      rw [hd, hd'] at hrel
      have Hrel := Lib.hid hrel
      clear hrel hd hd' hy hz'
      by_cases hyz : y = z
      · subst hyz
        go_wp2_with fail
        go_quiet ((first | fail))
        go_wp2
        go_roundw
        case rel => exact ⟨k + 1, by omega, by go_num, ext_, by rw [Hrel.out]; simp⟩
        case measure => simp [intOf]; omega
      · go_wp2_with fail
        go_quiet ((first | fail))
        go_wp2
        go_ret
        exact ⟨ret_b (by rw [Hrel.out]; simp [hyz]), ext_⟩
    · have Hrel := Lib.hid hrel; clear hrel
      go_wp2_with fail
      go_ret
      refine ⟨ret_b ?_, ext_⟩
      rw [Hrel.out, List.drop_of_length_le (by have := hl.out; omega), List.drop_of_length_le (by have := hl'.out; omega)]
      simp

end Go.Proofs.Ytdcjadgflenejaa

namespace Go.Proofs.Ytdcjadgflenejaa
set_option maxRecDepth 100000
set_option linter.unusedSimpArgs false
set_option linter.unusedVariables false
open Go.RowKit Go
set_option maxHeartbeats 400000

theorem ent_ext {a b : Sw.Ent} : a = b ↔ a.kind = b.kind ∧ a.ticket = b.ticket ∧ a.who = b.who ∧ a.price = b.price := by cases a; cases b; simp
theorem row_ext {a b : Sw.Row} : a = b ↔ a.who = b.who ∧ a.face = b.face ∧ a.used = b.used := by cases a; cases b; simp
theorem deal_ext {a b : Sw.Deal} : a = b ↔ a.ticket = b.ticket ∧ a.seller = b.seller ∧ a.price = b.price ∧ a.buyer = b.buyer ∧ a.due = b.due := by cases a; cases b; simp
theorem req_ext {a b : Sw.Req} : a = b ↔ a.user = b.user ∧ a.n = b.n ∧ a.kind = b.kind ∧ a.ticket = b.ticket ∧ a.who = b.who ∧ a.price = b.price := by cases a; cases b; simp

/-! ### sizes -/
def szOf (l n : Int) : Int := if l - n < 0 then -1 else l - n
theorem szWldLineS_c (A : Option Addr) (c n : Nat) (xs : List Sw.Req) (l : Int) (w : World) (hxs : RQ w 0 A c n xs) (h0 : 0 ≤ l) (h1 : l ≤ 1048576) : Calls Try.prog 4 #[.slice A n c, .int .i64 l] w fun E w' => E = .returned (.int .i64 (if l - n < 0 then -1 else l - n)) ∧ w = w' := by

  have hm := Rs.big hxs
  have hw : IntKind.i64.wrap (l - n) = l - n := by rw [IntWalk.i64_in _ (by omega)]
  by_cases hn : l - n < 0
  · go_enter Try.func4, Try.ntmps4
    go_wp2
    go_ret
    exact ⟨ret_i (by simp [hn]), rfl⟩
  · go_enter Try.func4, Try.ntmps4
    go_wp2
    go_ret
    exact ⟨ret_i (by simp [hn]), rfl⟩


/-! ### equality -/
theorem eqEntEntry_c (t u : Sw.Ent) (w : World) : Calls Try.prog 53 #[.agg #[.int .i64 t.kind, .int .i64 t.ticket, .int .i64 t.who, .int .i64 t.price], .agg #[.int .i64 u.kind, .int .i64 u.ticket, .int .i64 u.who, .int .i64 u.price]] w fun E w' => E = .returned (.bool (decide (t = u))) ∧ Ex w w' := by
  go_enter Try.func53, Try.ntmps53
  go_wp2_with fail
  all_goals (go_ret; refine ⟨ret_b ?_, ext_⟩; go_tidy; simp only [ent_ext])
  all_goals (first | (simp [*]; done) | (simp_all; done))
theorem eqMktDeal_c (t u : Sw.Deal) (w : World) : Calls Try.prog 54 #[.agg #[.int .i64 t.ticket, .int .i64 t.seller, .int .i64 t.price, .int .i64 t.buyer, .int .i64 t.due], .agg #[.int .i64 u.ticket, .int .i64 u.seller, .int .i64 u.price, .int .i64 u.buyer, .int .i64 u.due]] w fun E w' => E = .returned (.bool (decide (t = u))) ∧ Ex w w' := by
  go_enter Try.func54, Try.ntmps54
  go_wp2_with fail
  all_goals (go_ret; refine ⟨ret_b ?_, ext_⟩; go_tidy; simp only [deal_ext])
  all_goals (first | (simp [*]; done) | (simp_all; done))
theorem eqMktReq_c (t u : Sw.Req) (w : World) : Calls Try.prog 55 #[.agg #[.int .i64 t.user, .int .i64 t.n, .int .i64 t.kind, .int .i64 t.ticket, .int .i64 t.who, .int .i64 t.price], .agg #[.int .i64 u.user, .int .i64 u.n, .int .i64 u.kind, .int .i64 u.ticket, .int .i64 u.who, .int .i64 u.price]] w fun E w' => E = .returned (.bool (decide (t = u))) ∧ Ex w w' := by
  go_enter Try.func55, Try.ntmps55
  go_wp2_with fail
  all_goals (go_ret; refine ⟨ret_b ?_, ext_⟩; go_tidy; simp only [req_ext])
  all_goals (first | (simp [*]; done) | (simp_all; done))
theorem eqWldLine_c (t u : Sw.Req) (w : World) : Calls Try.prog 29 #[.agg #[.int .i64 t.user, .int .i64 t.n, .int .i64 t.kind, .int .i64 t.ticket, .int .i64 t.who, .int .i64 t.price], .agg #[.int .i64 u.user, .int .i64 u.n, .int .i64 u.kind, .int .i64 u.ticket, .int .i64 u.who, .int .i64 u.price]] w fun E w' => E = .returned (.bool (decide (t = u))) ∧ Ex w w' := by
  go_enter Try.func29, Try.ntmps29
  cases hyz : decide (t = u)
  all_goals
    go_wp2_with (first | (go_at_call 55; refine (eqMktReq_c _ _ _).mono ?_; rintro E w1 ⟨rfl, hb⟩; have hst := xr hb; (try simp only [zA, zC, zD, zN] at hst); obtain ⟨hc, hf, hz⟩ := hst))
    go_ret
    exact ⟨rfl, ext_⟩
theorem eqEntEntryS_c (A : Option Addr) (c n : Nat) (xs : List Sw.Ent) (B : Option Addr) (d m : Nat) (ys : List Sw.Ent) (w : World) (hxs : RE w 0 A c n xs) (hys : RE w 0 B d m ys) : Calls Try.prog 27 #[.slice A n c, .slice B m d] w fun E w' => E = .returned (.bool (decide (xs = ys))) ∧ Ex w w' := by

  have hl := Lib.hid hxs.1
  have hl' := Lib.hid hys.1
  have hbig := Rs.big hxs
  by_cases hnm : n = m
  case neg =>
    have hb : ((n : Int) == m) = false := by simp; omega
    have e : decide (xs = ys) = false := by
      rw [decide_eq_false_iff_not]; rintro rfl
      have := hl.out; have := hl'.out; omega
    rw [e]; clear e
    go_enter Try.func27, Try.ntmps27
    go_wp2_with fail
    go_ret
    exact ⟨rfl, (by exact ext_)⟩
  subst hnm
  go_enter Try.func27, Try.ntmps27
  go_wp2_with fail
  go_loopw [5] (fun i wr => ∃ k : Nat, k ≤ n ∧ i = .int .i64 k ∧ Ex w wr ∧ decide (xs = ys) = decide (xs.drop k = ys.drop k)) (fun i _ => n - (intOf i).toNat)
  case atStart => exact ⟨0, Nat.zero_le _, rfl, Ch.refl _ _, rfl⟩
  case round =>
    obtain ⟨k, hk, rfl, hb2, hrel⟩ := hrel
    have hst := Ex.rules hb2 rfl
    obtain ⟨hc2, hf2, hz2⟩ := hst
    by_cases hlt : k < n
    · obtain ⟨g, off, y, rfl, hg0, hg, hd, hy, hca0, hca1, hca2, hca3⟩ := at_E hxs hlt
      obtain ⟨g', off', z, rfl, hg0', hg', hd', hz', hcb0, hcb1, hcb2, hcb3⟩ := at_E hys hlt
      have t1 : (0 : Int) ≤ (k : Int) := by omega
      have t2 : (k : Int) < (n : Int) := by omega
      rw [hd, hd'] at hrel
      have Hrel := Lib.hid hrel
      clear hrel hd hd' hy hz'
      cases hyz : decide (y = z) with
      | true =>
        go_wp2_with fail
        (refine wp_name ?_; intro W0 hb0; have hst := xr hb0; (try simp only [zA, zC, zD, zN] at hst); obtain ⟨hc0, hf0, hz0⟩ := hst; go_region_held3 (fun w' => Held W0 w') ((first | with_reducible assumption | with_reducible exact Held.start _ | with_reducible exact Held.of (by assumption) | with_reducible exact Held.ex (by assumption) (by assumption) | ((repeat (first | with_reducible refine Held.set ?_ (by simp only [zA, zC, zD, zN]; omega) | with_reducible refine Held.alloc ?_ _ | with_reducible refine Held.drew ?_)); (first | with_reducible assumption | with_reducible exact Held.refl _ | with_reducible exact Held.of (by assumption) | with_reducible exact Held.ex (by assumption) (by assumption))) | exact Held.of (by exact ext_))) ((first | (go_at_call 53; refine (eqEntEntry_c _ _ _).mono ?_; rintro E w1 ⟨rfl, hb⟩; have hst := xr hb; (try simp only [zA, zC, zD, zN] at hst); obtain ⟨hc, hf, hz⟩ := hst))); all_goals (have hb := And.right (by assumption : Held W0 _); have hst := xr hb; (try simp only [zA, zC, zD, zN] at hst); obtain ⟨hc, hf, hz⟩ := hst))
        all_goals go_wp2
        all_goals go_roundw
        case rel => exact ⟨k + 1, by omega, by go_num, (by exact ext_), by rw [Hrel.out]; simp [of_decide_eq_true hyz]⟩
        case measure => simp [intOf]; omega
      | false =>
        go_wp2_with fail
        (refine wp_name ?_; intro W0 hb0; have hst := xr hb0; (try simp only [zA, zC, zD, zN] at hst); obtain ⟨hc0, hf0, hz0⟩ := hst; go_region_held3 (fun w' => Held W0 w') ((first | with_reducible assumption | with_reducible exact Held.start _ | with_reducible exact Held.of (by assumption) | with_reducible exact Held.ex (by assumption) (by assumption) | ((repeat (first | with_reducible refine Held.set ?_ (by simp only [zA, zC, zD, zN]; omega) | with_reducible refine Held.alloc ?_ _ | with_reducible refine Held.drew ?_)); (first | with_reducible assumption | with_reducible exact Held.refl _ | with_reducible exact Held.of (by assumption) | with_reducible exact Held.ex (by assumption) (by assumption))) | exact Held.of (by exact ext_))) ((first | (go_at_call 53; refine (eqEntEntry_c _ _ _).mono ?_; rintro E w1 ⟨rfl, hb⟩; have hst := xr hb; (try simp only [zA, zC, zD, zN] at hst); obtain ⟨hc, hf, hz⟩ := hst))); all_goals (have hb := And.right (by assumption : Held W0 _); have hst := xr hb; (try simp only [zA, zC, zD, zN] at hst); obtain ⟨hc, hf, hz⟩ := hst))
        all_goals go_wp2
        all_goals go_ret
        all_goals exact ⟨ret_b (by rw [Hrel.out]; simp [of_decide_eq_false hyz]), (by exact ext_)⟩
    · have Hrel := Lib.hid hrel; clear hrel
      go_wp2_with fail
      go_ret
      refine ⟨ret_b ?_, (by exact ext_)⟩
      rw [Hrel.out, List.drop_of_length_le (by have := hl.out; omega), List.drop_of_length_le (by have := hl'.out; omega)]
      simp

theorem eqMktDealS_c (A : Option Addr) (c n : Nat) (xs : List Sw.Deal) (B : Option Addr) (d m : Nat) (ys : List Sw.Deal) (w : World) (hxs : RDl w 0 A c n xs) (hys : RDl w 0 B d m ys) : Calls Try.prog 28 #[.slice A n c, .slice B m d] w fun E w' => E = .returned (.bool (decide (xs = ys))) ∧ Ex w w' := by

  have hl := Lib.hid hxs.1
  have hl' := Lib.hid hys.1
  have hbig := Rs.big hxs
  by_cases hnm : n = m
  case neg =>
    have hb : ((n : Int) == m) = false := by simp; omega
    have e : decide (xs = ys) = false := by
      rw [decide_eq_false_iff_not]; rintro rfl
      have := hl.out; have := hl'.out; omega
    rw [e]; clear e
    go_enter Try.func28, Try.ntmps28
    go_wp2_with fail
    go_ret
    exact ⟨rfl, (by exact ext_)⟩
  subst hnm
  go_enter Try.func28, Try.ntmps28
  go_wp2_with fail
  go_loopw [5] (fun i wr => ∃ k : Nat, k ≤ n ∧ i = .int .i64 k ∧ Ex w wr ∧ decide (xs = ys) = decide (xs.drop k = ys.drop k)) (fun i _ => n - (intOf i).toNat)
  case atStart => exact ⟨0, Nat.zero_le _, rfl, Ch.refl _ _, rfl⟩
  case round =>
    obtain ⟨k, hk, rfl, hb2, hrel⟩ := hrel
    have hst := Ex.rules hb2 rfl
    obtain ⟨hc2, hf2, hz2⟩ := hst
    by_cases hlt : k < n
    · obtain ⟨g, off, y, rfl, hg0, hg, hd, hy, hca0, hca1, hca2, hca3, hca4⟩ := at_D hxs hlt
      obtain ⟨g', off', z, rfl, hg0', hg', hd', hz', hcb0, hcb1, hcb2, hcb3, hcb4⟩ := at_D hys hlt
      have t1 : (0 : Int) ≤ (k : Int) := by omega
      have t2 : (k : Int) < (n : Int) := by omega
      rw [hd, hd'] at hrel
      have Hrel := Lib.hid hrel
      clear hrel hd hd' hy hz'
      cases hyz : decide (y = z) with
      | true =>
        go_wp2_with fail
        (refine wp_name ?_; intro W0 hb0; have hst := xr hb0; (try simp only [zA, zC, zD, zN] at hst); obtain ⟨hc0, hf0, hz0⟩ := hst; go_region_held3 (fun w' => Held W0 w') ((first | with_reducible assumption | with_reducible exact Held.start _ | with_reducible exact Held.of (by assumption) | with_reducible exact Held.ex (by assumption) (by assumption) | ((repeat (first | with_reducible refine Held.set ?_ (by simp only [zA, zC, zD, zN]; omega) | with_reducible refine Held.alloc ?_ _ | with_reducible refine Held.drew ?_)); (first | with_reducible assumption | with_reducible exact Held.refl _ | with_reducible exact Held.of (by assumption) | with_reducible exact Held.ex (by assumption) (by assumption))) | exact Held.of (by exact ext_))) ((first | (go_at_call 54; refine (eqMktDeal_c _ _ _).mono ?_; rintro E w1 ⟨rfl, hb⟩; have hst := xr hb; (try simp only [zA, zC, zD, zN] at hst); obtain ⟨hc, hf, hz⟩ := hst))); all_goals (have hb := And.right (by assumption : Held W0 _); have hst := xr hb; (try simp only [zA, zC, zD, zN] at hst); obtain ⟨hc, hf, hz⟩ := hst))
        all_goals go_wp2
        all_goals go_roundw
        case rel => exact ⟨k + 1, by omega, by go_num, (by exact ext_), by rw [Hrel.out]; simp [of_decide_eq_true hyz]⟩
        case measure => simp [intOf]; omega
      | false =>
        go_wp2_with fail
        (refine wp_name ?_; intro W0 hb0; have hst := xr hb0; (try simp only [zA, zC, zD, zN] at hst); obtain ⟨hc0, hf0, hz0⟩ := hst; go_region_held3 (fun w' => Held W0 w') ((first | with_reducible assumption | with_reducible exact Held.start _ | with_reducible exact Held.of (by assumption) | with_reducible exact Held.ex (by assumption) (by assumption) | ((repeat (first | with_reducible refine Held.set ?_ (by simp only [zA, zC, zD, zN]; omega) | with_reducible refine Held.alloc ?_ _ | with_reducible refine Held.drew ?_)); (first | with_reducible assumption | with_reducible exact Held.refl _ | with_reducible exact Held.of (by assumption) | with_reducible exact Held.ex (by assumption) (by assumption))) | exact Held.of (by exact ext_))) ((first | (go_at_call 54; refine (eqMktDeal_c _ _ _).mono ?_; rintro E w1 ⟨rfl, hb⟩; have hst := xr hb; (try simp only [zA, zC, zD, zN] at hst); obtain ⟨hc, hf, hz⟩ := hst))); all_goals (have hb := And.right (by assumption : Held W0 _); have hst := xr hb; (try simp only [zA, zC, zD, zN] at hst); obtain ⟨hc, hf, hz⟩ := hst))
        all_goals go_wp2
        all_goals go_ret
        all_goals exact ⟨ret_b (by rw [Hrel.out]; simp [of_decide_eq_false hyz]), (by exact ext_)⟩
    · have Hrel := Lib.hid hrel; clear hrel
      go_wp2_with fail
      go_ret
      refine ⟨ret_b ?_, (by exact ext_)⟩
      rw [Hrel.out, List.drop_of_length_le (by have := hl.out; omega), List.drop_of_length_le (by have := hl'.out; omega)]
      simp

theorem eqWldLineS_c (A : Option Addr) (c n : Nat) (xs : List Sw.Req) (B : Option Addr) (d m : Nat) (ys : List Sw.Req) (w : World) (hxs : RQ w 0 A c n xs) (hys : RQ w 0 B d m ys) : Calls Try.prog 11 #[.slice A n c, .slice B m d] w fun E w' => E = .returned (.bool (decide (xs = ys))) ∧ Ex w w' := by

  have hl := Lib.hid hxs.1
  have hl' := Lib.hid hys.1
  have hbig := Rs.big hxs
  by_cases hnm : n = m
  case neg =>
    have hb : ((n : Int) == m) = false := by simp; omega
    have e : decide (xs = ys) = false := by
      rw [decide_eq_false_iff_not]; rintro rfl
      have := hl.out; have := hl'.out; omega
    rw [e]; clear e
    go_enter Try.func11, Try.ntmps11
    go_wp2_with fail
    go_ret
    exact ⟨rfl, (by exact ext_)⟩
  subst hnm
  go_enter Try.func11, Try.ntmps11
  go_wp2_with fail
  go_loopw [5] (fun i wr => ∃ k : Nat, k ≤ n ∧ i = .int .i64 k ∧ Ex w wr ∧ decide (xs = ys) = decide (xs.drop k = ys.drop k)) (fun i _ => n - (intOf i).toNat)
  case atStart => exact ⟨0, Nat.zero_le _, rfl, Ch.refl _ _, rfl⟩
  case round =>
    obtain ⟨k, hk, rfl, hb2, hrel⟩ := hrel
    have hst := Ex.rules hb2 rfl
    obtain ⟨hc2, hf2, hz2⟩ := hst
    by_cases hlt : k < n
    · obtain ⟨g, off, y, rfl, hg0, hg, hd, hy, hca0, hca1, hca2, hca3, hca4, hca5⟩ := at_Q hxs hlt
      obtain ⟨g', off', z, rfl, hg0', hg', hd', hz', hcb0, hcb1, hcb2, hcb3, hcb4, hcb5⟩ := at_Q hys hlt
      have t1 : (0 : Int) ≤ (k : Int) := by omega
      have t2 : (k : Int) < (n : Int) := by omega
      rw [hd, hd'] at hrel
      have Hrel := Lib.hid hrel
      clear hrel hd hd' hy hz'
      cases hyz : decide (y = z) with
      | true =>
        go_wp2_with fail
        (refine wp_name ?_; intro W0 hb0; have hst := xr hb0; (try simp only [zA, zC, zD, zN] at hst); obtain ⟨hc0, hf0, hz0⟩ := hst; go_region_held3 (fun w' => Held W0 w') ((first | with_reducible assumption | with_reducible exact Held.start _ | with_reducible exact Held.of (by assumption) | with_reducible exact Held.ex (by assumption) (by assumption) | ((repeat (first | with_reducible refine Held.set ?_ (by simp only [zA, zC, zD, zN]; omega) | with_reducible refine Held.alloc ?_ _ | with_reducible refine Held.drew ?_)); (first | with_reducible assumption | with_reducible exact Held.refl _ | with_reducible exact Held.of (by assumption) | with_reducible exact Held.ex (by assumption) (by assumption))) | exact Held.of (by exact ext_))) ((first | (go_at_call 29; refine (eqWldLine_c _ _ _).mono ?_; rintro E w1 ⟨rfl, hb⟩; have hst := xr hb; (try simp only [zA, zC, zD, zN] at hst); obtain ⟨hc, hf, hz⟩ := hst))); all_goals (have hb := And.right (by assumption : Held W0 _); have hst := xr hb; (try simp only [zA, zC, zD, zN] at hst); obtain ⟨hc, hf, hz⟩ := hst))
        all_goals go_wp2
        all_goals go_roundw
        case rel => exact ⟨k + 1, by omega, by go_num, (by exact ext_), by rw [Hrel.out]; simp [of_decide_eq_true hyz]⟩
        case measure => simp [intOf]; omega
      | false =>
        go_wp2_with fail
        (refine wp_name ?_; intro W0 hb0; have hst := xr hb0; (try simp only [zA, zC, zD, zN] at hst); obtain ⟨hc0, hf0, hz0⟩ := hst; go_region_held3 (fun w' => Held W0 w') ((first | with_reducible assumption | with_reducible exact Held.start _ | with_reducible exact Held.of (by assumption) | with_reducible exact Held.ex (by assumption) (by assumption) | ((repeat (first | with_reducible refine Held.set ?_ (by simp only [zA, zC, zD, zN]; omega) | with_reducible refine Held.alloc ?_ _ | with_reducible refine Held.drew ?_)); (first | with_reducible assumption | with_reducible exact Held.refl _ | with_reducible exact Held.of (by assumption) | with_reducible exact Held.ex (by assumption) (by assumption))) | exact Held.of (by exact ext_))) ((first | (go_at_call 29; refine (eqWldLine_c _ _ _).mono ?_; rintro E w1 ⟨rfl, hb⟩; have hst := xr hb; (try simp only [zA, zC, zD, zN] at hst); obtain ⟨hc, hf, hz⟩ := hst))); all_goals (have hb := And.right (by assumption : Held W0 _); have hst := xr hb; (try simp only [zA, zC, zD, zN] at hst); obtain ⟨hc, hf, hz⟩ := hst))
        all_goals go_wp2
        all_goals go_ret
        all_goals exact ⟨ret_b (by rw [Hrel.out]; simp [of_decide_eq_false hyz]), (by exact ext_)⟩
    · have Hrel := Lib.hid hrel; clear hrel
      go_wp2_with fail
      go_ret
      refine ⟨ret_b ?_, (by exact ext_)⟩
      rw [Hrel.out, List.drop_of_length_le (by have := hl.out; omega), List.drop_of_length_le (by have := hl'.out; omega)]
      simp

end Go.Proofs.Ytdcjadgflenejaa

