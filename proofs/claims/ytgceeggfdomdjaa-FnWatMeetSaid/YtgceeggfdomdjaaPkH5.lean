/-
  Texts joined: ImpC, Plain4, Plain5, Plain8, Wat, Law2, Law3, Law4, FnWatMeet, Frame, Open, OpenB, End.
-/
import Derived.Test.YtgceeggfdomdjaaPkH4
import Derived.Test.YtgceeggfdomdjaaPkH2
import Derived.Test.YtgceeggfdomdjaaPkH3
import Derived.Test.YtgceeggfdomdjaaPkH1
import Derived.Carry
import Derived.WalkKit
import Derived.ProofKit
import Derived.ChangeSame
import Derived.OpenShut
import Derived.ChangeSlices
import Derived.Deep.Slices
import Derived.Test.YtgceeggfdomdjaaRows
import Derived.Handed
import Derived.JoinedOf
namespace Go.Proofs.Ytgceeggfdomdjaa
set_option maxRecDepth 100000
set_option linter.unusedSimpArgs false
set_option linter.unusedVariables false
open Go.RowKit Go
set_option maxHeartbeats 1000000

theorem hedOf_n {xs : List Sw.Ent} (h : Sw.ownFold xs = none) : Sw.hedOf xs = none := by simp [Sw.hedOf, h]
theorem hedOf_y {xs : List Sw.Ent} {rows : List Sw.Row} (h : Sw.ownFold xs = some rows) : Sw.hedOf xs = some ⟨xs.length, Sw.root (xs.map Sw.entLeaf), Sw.ownRoot rows⟩ := by simp [Sw.hedOf, h]
theorem iHedOf_c (A : Option Addr) (c n : Nat) (xs : List Sw.Ent) (w : World) (hxs : RE w 0 A c n xs) : Calls Try.prog 98 #[.slice A n c] w fun E w' => E = .returned (.tuple #[.agg #[.int .i64 ((Sw.hedOf xs).getD Sw.headZ).size, .int .i64 ((Sw.hedOf xs).getD Sw.headZ).log, .int .i64 ((Sw.hedOf xs).getD Sw.headZ).own], .bool (Sw.hedOf xs).isSome]) ∧ Ex w w' := by
  have hl := Lib.hid hxs.1
  cases hf : Sw.ownFold xs with
  | none =>
    have hs : (Sw.ownFold xs).isSome = false := by simp [hf]
    have HH := Lib.hid (hedOf_n hf); clear hf
    go_enter Try.func98, Try.ntmps98
    go_wp2_with (first | (go_at_call 57; apply Calls.mono; apply iOwnFold_c; ((first | (apply Rs.at0; assumption) | (apply Ow.rs0; assumption)); exact kf_); rintro E w1 ⟨A', c', n', rfl, hr, hb⟩; have hst := xr hb; (try simp only [zA, zC, zD, zN] at hst); obtain ⟨hc, hf, hz⟩ := hst))
    refine bodyPost_ret (v := .tuple #[.agg #[.int .i64 0, .int .i64 0, .int .i64 0], .bool false]) (by simp [results, Try.results98, go_sem, *]) rfl ?_
    exact ⟨by rw [HH.out]; rfl, ext_⟩
  | some rows =>
    have hn : n ≤ 40 := by have := hl.out; have := (Sw.ownFold_some.1 hf).1; omega
    have hs : (Sw.ownFold xs).isSome = true := by simp [hf]
    have hg : (Sw.ownFold xs).getD [] = rows := by simp [hf]
    have HT := Lib.hid (treRoot_ent (Sw.ownFold_some.1 hf).1)
    have HH := Lib.hid (hedOf_y hf); have HG := Lib.hid hg; clear hf hg
    go_enter Try.func98, Try.ntmps98
    go_wp2_with (first | (go_at_call 57; apply Calls.mono; apply iOwnFold_c; (first | assumption | ((first | (apply Rs.at0; assumption) | (apply Ow.rs0; assumption)); exact kf_) | omega); rintro E w1 ⟨A1, c1, n1, rfl, ho1, hb⟩; rw [HG.out] at ho1; have hst := xr hb; (try simp only [zA, zC, zD, zN] at hst); obtain ⟨hc, hf, hz⟩ := hst) | (go_at_call 155; apply Calls.mono; apply iEntLeaves_c; ((first | (apply Rs.at0; assumption) | (apply Ow.rs0; assumption)); exact kf_); (first | assumption | omega); rintro E w1 ⟨A', c', rfl, ho2, hb⟩; have hst := xr hb; (try simp only [zA, zC, zD, zN] at hst); obtain ⟨hc, hf, hz⟩ := hst) | (go_at_call 154; apply Calls.mono; apply iTreRoot_c; ((first | (apply Rs.at0; assumption) | (apply Ow.rs0; assumption)); exact kf_); rintro E w1 ⟨rfl, hb⟩; have hst := xr hb; (try simp only [zA, zC, zD, zN] at hst); obtain ⟨hc, hf, hz⟩ := hst) | (go_at_call 156; apply Calls.mono; apply iOwnRoot_c; ((first | (apply Rs.at0; assumption) | (apply Ow.rs0; assumption)); exact kf_); rintro E w1 ⟨rfl, hb⟩; have hst := xr hb; (try simp only [zA, zC, zD, zN] at hst); obtain ⟨hc, hf, hz⟩ := hst))
    all_goals (try (refine wp_name ?_; intro W0 hb0; have hst := xr hb0; (try simp only [zA, zC, zD, zN] at hst); obtain ⟨hc0, hf0, hz0⟩ := hst; have hLb : Lb W0 (w.heap.size) 3 := Lb.ex (by exact lbc_) hb0; go_region_held3 (fun w' => HeldB (w.heap.size) 3 W0 w') ((first | with_reducible assumption | with_reducible exact HeldB.start hLb | with_reducible exact HeldB.of (by assumption) (by assumption) | ((repeat (first | with_reducible refine HeldB.set ?_ (by first | exact Or.inl rfl | exact Or.inr (by simp only [zA, zC, zD, zN]; omega) | exact Or.inr (by omega)) | with_reducible refine HeldB.alloc ?_ _ | with_reducible refine HeldB.drew ?_)); (first | with_reducible assumption | with_reducible exact HeldB.refl hLb | with_reducible exact HeldB.of (by assumption) (by assumption) | with_reducible exact HeldB.ex (by assumption) (by assumption))))) ((first | (go_at_call 155; apply Calls.mono; apply iEntLeaves_c; ((first | (apply Rs.at0; assumption) | (apply Ow.rs0; assumption)); exact kf_); (first | assumption | omega); rintro E w1 ⟨A', c', rfl, ho2, hb⟩; have hst := xr hb; (try simp only [zA, zC, zD, zN] at hst); obtain ⟨hc, hf, hz⟩ := hst) | (go_at_call 154; apply Calls.mono; apply iTreRoot_c; ((first | (apply Rs.at0; assumption) | (apply Ow.rs0; assumption)); exact kf_); rintro E w1 ⟨rfl, hb⟩; have hst := xr hb; (try simp only [zA, zC, zD, zN] at hst); obtain ⟨hc, hf, hz⟩ := hst) | (go_at_call 156; apply Calls.mono; apply iOwnRoot_c; ((first | (apply Rs.at0; assumption) | (apply Ow.rs0; assumption)); exact kf_); rintro E w1 ⟨rfl, hb⟩; have hst := xr hb; (try simp only [zA, zC, zD, zN] at hst); obtain ⟨hc, hf, hz⟩ := hst))); all_goals (rename HeldB (w.heap.size) 3 W0 _ => hHx; have hb := HeldB.ch hHx; have hst := xc hb; (try simp only [zA, zC, zD, zN] at hst); obtain ⟨hc, hf, hz⟩ := hst; have hLb3 := HeldB.lb hHx; (repeat (first | with_reducible replace hLb3 := Lb.unset hLb3 | with_reducible replace hLb3 := Lb.undrew hLb3)); obtain ⟨hcb, hfb⟩ := Lb.rules hLb3; clear hHx)))
    all_goals (try go_wp2)
    refine bodyPost_ret (v := .tuple #[.agg #[.int .i64 n, .int .i64 (Sw.treRoot (xs.map Sw.entLeaf)), .int .i64 (Sw.ownRoot rows)], .bool true]) (by simp [results, Try.results98, go_sem, *]) rfl ?_
    exact ⟨by rw [HH.out, ← hl.out, HT.out]; rfl, ext_⟩
theorem iHedFork_c (a b : Sw.Head) (w : World) : Calls Try.prog 27 #[.agg #[.int .i64 a.size, .int .i64 a.log, .int .i64 a.own], .agg #[.int .i64 b.size, .int .i64 b.log, .int .i64 b.own]] w fun E w' => E = .returned (.bool (Sw.hedFork a b)) ∧ Ex w w' := by
  have e : Sw.hedFork a b = (Sw.hedOk a && Sw.hedOk b && decide (a.size = b.size) && !decide (a.size = b.size ∧ a.log = b.log ∧ a.own = b.own)) := by
    unfold Sw.hedFork; rw [show decide (a ≠ b) = !decide (a = b) from decide_not ..]; simp only [head_ext]
  rw [e]; clear e
  go_enter Try.func27, Try.ntmps27
  go_wp2_with (first | (go_at_call 76; refine (iHedOk_c _ _).mono ?_; rintro E w1 ⟨rfl, hb⟩; have hst := xr hb; (try simp only [zA, zC, zD, zN] at hst); obtain ⟨hc, hf, hz⟩ := hst))
  all_goals (go_ret; refine ⟨ret_b ?_, ext_⟩; go_tidy)
  all_goals (first | (simp [*]; done) | (simp_all; done))
theorem sHedFork_c (a b : Sw.Head) (w : World) : Calls Try.prog 83 #[.agg #[.int .i64 a.size, .int .i64 a.log, .int .i64 a.own], .agg #[.int .i64 b.size, .int .i64 b.log, .int .i64 b.own]] w fun E w' => E = .returned (.bool (Sw.hedFork a b)) ∧ Ex w w' := by
  have e : Sw.hedFork a b = (Sw.hedOk a && Sw.hedOk b && decide (a.size = b.size) && !decide (a.size = b.size ∧ a.log = b.log ∧ a.own = b.own)) := by
    unfold Sw.hedFork; rw [show decide (a ≠ b) = !decide (a = b) from decide_not ..]; simp only [head_ext]
  rw [e]; clear e
  go_enter Try.func83, Try.ntmps83
  go_wp2_with (first | (go_at_call 77; refine (sHedOk_c _ _).mono ?_; rintro E w1 ⟨rfl, hb⟩; have hst := xr hb; (try simp only [zA, zC, zD, zN] at hst); obtain ⟨hc, hf, hz⟩ := hst))
  all_goals (go_ret; refine ⟨ret_b ?_, ext_⟩; go_tidy)
  all_goals (first | (simp [*]; done) | (simp_all; done))
theorem iGatNew_c (w : World) : Calls Try.prog 36 #[] w fun E w' => E = .returned (.agg #[.int .i64 ((Sw.hedOf []).getD Sw.headZ).size, .int .i64 ((Sw.hedOf []).getD Sw.headZ).log, .int .i64 ((Sw.hedOf []).getD Sw.headZ).own, .slice none 0 0]) ∧ Ex w w' := by
  go_enter Try.func36, Try.ntmps36
  go_wp2_with (first | (go_at_call 98; apply Calls.mono; apply (iHedOf_c (xs := [])); exact (Ow.nil (enc := Sw.Ent.enc) (sz := 4) (e := 134) _ 0).rs; rintro E w1 ⟨rfl, hb⟩; have hst := xr hb; (try simp only [zA, zC, zD, zN] at hst); obtain ⟨hc, hf, hz⟩ := hst))
  refine bodyPost_ret (v := .agg #[.int .i64 ((Sw.hedOf []).getD Sw.headZ).size, .int .i64 ((Sw.hedOf []).getD Sw.headZ).log, .int .i64 ((Sw.hedOf []).getD Sw.headZ).own, .slice none 0 0]) (by simp [results, Try.results36, go_sem, *]) rfl ?_
  exact ⟨rfl, ext_⟩

/-! ### the first one of which something holds -/
def hitAt {α : Type} (p : α → Bool) (xs : List α) : Int := match xs.findIdx? p with
  | some i => i
  | none => -1
theorem hitAt_iff {α : Type} (p : α → Bool) (xs : List α) : decide (0 ≤ hitAt p xs) = xs.any p := by
  unfold hitAt
  cases h : xs.findIdx? p with
  | none =>
    rw [List.findIdx?_eq_none_iff] at h
    rw [show xs.any p = false from List.any_eq_false.2 fun x hx => by simp [h x hx]]; rfl
  | some i =>
    rw [List.findIdx?_eq_some_iff_getElem] at h
    obtain ⟨h1, h2, _⟩ := h
    rw [show xs.any p = true from List.any_eq_true.2 ⟨xs[i], List.getElem_mem h1, h2⟩]
    simp
theorem hitAt_here {α : Type} {p : α → Bool} {xs : List α} {k : Nat} {y : α} (hy : xs[k]? = some y) (h : ∀ j, j < k → ∀ z, xs[j]? = some z → p z = false) (hm : p y = true) : hitAt p xs = k := by
  unfold hitAt
  obtain ⟨hk, rfl⟩ := List.getElem?_eq_some_iff.1 hy
  have : xs.findIdx? p = some k := by
    rw [List.findIdx?_eq_some_iff_getElem]
    exact ⟨hk, hm, fun j hj => by simp [h j hj xs[j] (by simp)]⟩
  rw [this]
theorem hitAt_none {α : Type} {p : α → Bool} {xs : List α} {k : Nat} (hk : xs.length ≤ k) (h : ∀ j, j < k → ∀ z, xs[j]? = some z → p z = false) : hitAt p xs = -1 := by
  unfold hitAt
  have : xs.findIdx? p = none := by
    rw [List.findIdx?_eq_none_iff]
    intro x hx
    obtain ⟨i, hi, rfl⟩ := List.getElem_of_mem hx
    exact h i (by omega) xs[i] (by simp)
  rw [this]
theorem notHit_step {α : Type} {p : α → Bool} {xs : List α} {k : Nat} {y : α} (hy : xs[k]? = some y) (h : ∀ j, j < k → ∀ z, xs[j]? = some z → p z = false) (hm : p y = false) : ∀ j, j < k + 1 → ∀ z, xs[j]? = some z → p z = false := by
  intro j hj z hz
  rcases Nat.lt_succ_iff_lt_or_eq.1 hj with hj' | rfl
  · exact h j hj' z hz
  · rw [hy] at hz; cases hz; exact hm

def monBad (n : Int) : Bool := !Sw.inR n 0 100000
theorem iMonBad_c (x : Int) (w : World) : Calls Try.prog 131 #[.int .i64 x] w fun E w' => E = .returned (.bool (monBad x)) ∧ w = w' := by
  go_enter Try.func131, Try.ntmps131
  go_wp2_with (first | (go_at_call 96; refine (in_c _ _ _ _).mono ?_; rintro E w' ⟨rfl, rfl⟩))
  go_ret
  exact ⟨ret_b rfl, rfl⟩
theorem iMonBadAt_c (A : Option Addr) (c n : Nat) (xs : List Int) (w : World) (hxs : RI w 0 A c n xs) : Calls Try.prog 168 #[.slice A n c, .func (.func 131) #[] #[]] w fun E w' => E = .returned (.int .i64 (hitAt monBad xs)) ∧ Ex w w' := by

  have hl := Lib.hid hxs.1
  have hbig := Rs.big hxs
  go_enter Try.func168, Try.ntmps168
  go_wp2_with fail
  go_loopw [8] (fun i wr => ∃ k : Nat, k ≤ n ∧ i = .int .i64 k ∧ Ex w wr ∧ ∀ j, j < k → ∀ z, xs[j]? = some z → monBad z = false) (fun i _ => n - (intOf i).toNat)
  case atStart => exact ⟨0, Nat.zero_le _, rfl, (by exact ext_), by omega⟩
  case round =>
    obtain ⟨k, hk, rfl, hb2, hrel⟩ := hrel
    have Hrel := Lib.hid hrel; clear hrel
    have hst := xr hb2
    (try simp only [zA, zC, zD, zN] at hst)
    obtain ⟨hc2, hf2, hz2⟩ := hst
    by_cases hlt : k < n
    · obtain ⟨g, off, y, rfl, hg0, hg, hd, hy, hca0⟩ := at_I hxs hlt
      have Hy := Lib.hid hy; clear hd hy
      cases hmx : monBad y
      case true =>
        go_wp2_with (first | (go_at_call 131; refine (iMonBad_c _ _).mono ?_; rintro E w' ⟨rfl, rfl⟩))
        go_ret
        exact ⟨ret_i (hitAt_here Hy.out Hrel.out hmx).symm, (by exact ext_)⟩
      case false =>
        go_wp2_with (first | (go_at_call 131; refine (iMonBad_c _ _).mono ?_; rintro E w' ⟨rfl, rfl⟩))
        go_roundw
        case rel => exact ⟨k + 1, by omega, by go_num, (by exact ext_), notHit_step Hy.out Hrel.out hmx⟩
        case measure => simp [intOf]; omega
    · go_wp2_with fail
      go_ret
      exact ⟨ret_i (hitAt_none (by have := hl.out; omega) Hrel.out).symm, (by exact ext_)⟩

theorem iMonHasBad_c (A : Option Addr) (c n : Nat) (xs : List Int) (w : World) (hxs : RI w 0 A c n xs) : Calls Try.prog 130 #[.slice A n c, .func (.func 131) #[] #[]] w fun E w' => E = .returned (.bool (xs.any monBad)) ∧ Ex w w' := by
  have Hb := Lib.hid (hitAt_iff monBad xs)
  go_enter Try.func130, Try.ntmps130
  go_wp2_with (first | (go_at_call 168; apply Calls.mono; apply iMonBadAt_c; ((first | (apply Rs.at0; assumption) | (apply Ow.rs0; assumption)); exact kf_); rintro E w1 ⟨rfl, hb⟩; have hst := xr hb; (try simp only [zA, zC, zD, zN] at hst); obtain ⟨hc, hf, hz⟩ := hst))
  go_ret
  exact ⟨ret_b Hb.out, ext_⟩
theorem any_not {α : Type} (p : α → Bool) (xs : List α) : (!xs.any (fun x => !p x)) = xs.all p := by
  rw [List.all_eq_not_any_not]
theorem iMonOk_c (A : Option Addr) (c n : Nat) (xs : List Int) (w : World) (hxs : RI w 0 A c n xs) : Calls Try.prog 59 #[.slice A n c] w fun E w' => E = .returned (.bool (Sw.monOk xs)) ∧ Ex w w' := by
  have hl := Lib.hid hxs.1
  have hbig := Rs.big hxs
  have e : Sw.monOk xs = (decide (n = 5) && !xs.any monBad) := by
    rw [Sw.monOk, ← hl.out, ← any_not]; rfl
  have He := Lib.hid e; clear e
  by_cases hn : n = 5
  · subst hn
    go_enter Try.func59, Try.ntmps59
    go_wp2_with (first | (go_at_call 130; apply Calls.mono; apply iMonHasBad_c; ((first | (apply Rs.at0; assumption) | (apply Ow.rs0; assumption)); exact kf_); rintro E w1 ⟨rfl, hb⟩; have hst := xr hb; (try simp only [zA, zC, zD, zN] at hst); obtain ⟨hc, hf, hz⟩ := hst))
    go_ret
    exact ⟨ret_b (by rw [He.out]; simp), ext_⟩
  · have hb : ((n : Int) == 5) = false := by simp; omega
    go_enter Try.func59, Try.ntmps59
    go_wp2_with (first | (go_at_call 130; apply Calls.mono; apply iMonHasBad_c; ((first | (apply Rs.at0; assumption) | (apply Ow.rs0; assumption)); exact kf_); rintro E w1 ⟨rfl, hb⟩; have hst := xr hb; (try simp only [zA, zC, zD, zN] at hst); obtain ⟨hc, hf, hz⟩ := hst))
    go_ret
    exact ⟨ret_b (by rw [He.out]; simp [hn]), ext_⟩
end Go.Proofs.Ytgceeggfdomdjaa

namespace Go.Proofs.Ytgceeggfdomdjaa.Sw
set_option maxRecDepth 100000
set_option linter.unusedSimpArgs false
set_option linter.unusedVariables false
open Go.RowKit (wrap64)

/-- How a request was done: the market behind it, but its numbers. -/
inductive DoneBy (m : Mkt) (rows : List Row) (r : Req) : Mkt → Prop
  | issue : r.kind = 1 → r.user = 1 → r.who ≠ 1 → (rowAt rows r.ticket).who = 0 → m.log.length < 40 → moveMay m.purses r.who 1 r.price = true →
      DoneBy m rows r { m with purses := turned (turned m.purses r.who (-r.price)) 1 r.price, log := m.log ++ [⟨1, r.ticket, r.who, r.price⟩] }
  | offer : r.kind = 2 → (rowAt rows r.ticket).who = r.user → dealAt m.deals r.ticket = none → (rowAt rows r.ticket).used = false → r.price ≤ entCap (rowAt rows r.ticket).face →
      DoneBy m rows r { m with deals := insertDeal ⟨r.ticket, r.user, r.price, 0, 0⟩ m.deals }
  | drop (k : Nat) (d : Deal) : r.kind = 3 → (rowAt rows r.ticket).who = r.user → dealAt m.deals r.ticket = some k → m.deals[k]? = some d → d.ticket = r.ticket → held d = false →
      DoneBy m rows r { m with deals := m.deals.eraseIdx k }
  | fund (k : Nat) (d : Deal) : r.kind = 4 → dealAt m.deals r.ticket = some k → m.deals[k]? = some d → d.ticket = r.ticket → held d = false → d.seller ≠ r.user → turnMay m.purses r.user (-d.price) = true →
      DoneBy m rows r { m with purses := turned m.purses r.user (-d.price), deals := m.deals.set k { d with buyer := r.user, due := m.clock + 5 } }
  | settle (k : Nat) (d : Deal) : r.kind = 5 → dealAt m.deals r.ticket = some k → m.deals[k]? = some d → d.ticket = r.ticket → held d = true → d.seller = r.user → m.log.length < 40 → turnMay m.purses d.seller d.price = true →
      DoneBy m rows r { m with purses := turned m.purses d.seller d.price, log := m.log ++ [⟨2, r.ticket, d.buyer, d.price⟩], deals := m.deals.eraseIdx k }
  | enter : r.kind = 6 → (rowAt rows r.ticket).who = r.user → (rowAt rows r.ticket).used = false → dealAt m.deals r.ticket = none → m.log.length < 40 →
      DoneBy m rows r { m with log := m.log ++ [⟨3, r.ticket, r.user, 0⟩] }
theorem settle_may {m : Mkt} {rows : List Row} (h : MOk m rows) {k : Nat} {d : Deal} (hd : m.deals[k]? = some d) (hh : held d = true) : turnMay m.purses d.seller d.price = true := by
  have hdo := dealOk_iff.1 (h.deals.get hd)
  refine turnMay_in h.mon hdo.2.1 (by have := hdo.2.2.2.2.1; omega) ?_
  have h4 := h.sum
  have h5 := heldSum_erase hd
  have h6 := (heldSum_bd (h.deals.sub (List.eraseIdx_sublist m.deals k)).1).1
  have : heldIn d = d.price := by simp [heldIn, hh]
  omega
/-- A request that is not done turns nothing; one that is done does what its kind does. -/
theorem effect_done {m : Mkt} {rows : List Row} {r : Req} (h : MOk m rows) (hr : reqOk r = true) : ((effect m r).2 ≠ 1 ∧ (effect m r).1 = m) ∨ ((effect m r).2 = 1 ∧ DoneBy m rows r (effect m r).1) := by
  have hr := reqOk_iff.1 hr
  have hlog := (ownFold_some.1 h.fold).1
  unfold effect
  rw [mktRows_of h.fold]
  by_cases k1 : r.kind = 1
  · rw [if_pos k1]
    unfold issue
    split
    · exact .inl ⟨by simp, rfl⟩
    split
    · exact .inl ⟨by simp, rfl⟩
    split
    · exact .inl ⟨by simp, rfl⟩
    split
    · rename_i h1 h2 h3 h4
      exact .inr ⟨rfl, .issue k1 (by omega) (by omega) (by omega) (by omega) h4⟩
    · exact .inl ⟨by simp, rfl⟩
  rw [if_neg k1]
  by_cases k2 : r.kind = 2
  · rw [if_pos k2]
    unfold offer
    split
    · exact .inl ⟨by simp, rfl⟩
    split
    · exact .inl ⟨by simp, rfl⟩
    split
    · exact .inl ⟨by simp, rfl⟩
    · rename_i h1 h2 h3
      simp only [not_or, Bool.not_eq_true] at h2
      exact .inr ⟨rfl, .offer k2 (by simpa using h1) (none_of h2.1) h2.2 (by omega)⟩
  rw [if_neg k2]
  by_cases k3 : r.kind = 3
  · rw [if_pos k3]
    unfold dropIt
    split
    · exact .inl ⟨by simp, rfl⟩
    rename_i h1
    split
    · exact .inl ⟨by simp, rfl⟩
    rename_i k hk
    obtain ⟨d, hd, ht⟩ := dealAt_some hk
    rw [getD_of hd]
    split
    · exact .inl ⟨by simp, rfl⟩
    · exact .inr ⟨rfl, .drop k d k3 (by simpa using h1) hk hd ht (by simpa using ‹¬ held d = true›)⟩
  rw [if_neg k3]
  by_cases k4 : r.kind = 4
  · rw [if_pos k4]
    unfold fund
    split
    · exact .inl ⟨by simp, rfl⟩
    rename_i k hk
    obtain ⟨d, hd, ht⟩ := dealAt_some hk
    rw [getD_of hd]
    split
    · exact .inl ⟨by simp, rfl⟩
    split
    · exact .inl ⟨by simp, rfl⟩
    split
    · exact .inr ⟨rfl, .fund k d k4 hk hd ht (by simpa using ‹¬ held d = true›) ‹_› ‹_›⟩
    · exact .inl ⟨by simp, rfl⟩
  rw [if_neg k4]
  by_cases k5 : r.kind = 5
  · rw [if_pos k5]
    unfold settle
    split
    · exact .inl ⟨by simp, rfl⟩
    rename_i k hk
    obtain ⟨d, hd, ht⟩ := dealAt_some hk
    rw [getD_of hd]
    split
    · exact .inl ⟨by simp, rfl⟩
    split
    · exact .inl ⟨by simp, rfl⟩
    split
    · exact .inl ⟨by simp, rfl⟩
    · rename_i h1 h2 h3
      have hh : held d = true := by simpa using h1
      have hm := settle_may h hd hh
      refine .inr ⟨rfl, ?_⟩
      rw [show monTurn m.purses d.seller d.price = turned m.purses d.seller d.price from by simp [monTurn, hm]]
      exact .settle k d k5 hk hd ht hh (by simpa using h2) (by omega) hm
  rw [if_neg k5]
  unfold enter
  split
  · exact .inl ⟨by simp, rfl⟩
  split
  · exact .inl ⟨by simp, rfl⟩
  split
  · exact .inl ⟨by simp, rfl⟩
  · rename_i h1 h2 h3
    simp only [not_or, Bool.not_eq_true] at h2
    exact .inr ⟨rfl, .enter (by omega) (by simpa using h1) h2.1 (none_of h2.2) (by omega)⟩

/-! ### numbers -/
theorem lastOf_set {l : List Int} {u v x : Int} (h5 : l.length = 5) (hu : 1 ≤ u ∧ u ≤ 5) (hv : 1 ≤ v) : lastOf (l.set (u - 1).toNat x) v = if v = u then x else lastOf l v := by
  unfold lastOf
  rw [List.getD_eq_getElem?_getD, List.getElem?_set]
  by_cases h : v = u
  · subst h
    rw [if_pos rfl, if_pos (by omega), if_pos rfl]; rfl
  · rw [if_neg (by omega), if_neg h, List.getD_eq_getElem?_getD]
theorem said_of {m : Mkt} {rows : List Row} (h : MOk m rows) {u : Int} (hu : 1 ≤ u ∧ u ≤ 5) : numOk (lastOf m.nums u) (lastOf m.said u) = true := by
  have hn := h.nlen
  have hs := h.slen
  obtain ⟨a, ha⟩ : ∃ a, m.nums[(u - 1).toNat]? = some a := ⟨_, List.getElem?_eq_getElem (by omega)⟩
  obtain ⟨b, hb⟩ : ∃ b, m.said[(u - 1).toNat]? = some b := ⟨_, List.getElem?_eq_getElem (by omega)⟩
  unfold lastOf
  rw [getD_of ha, getD_of hb]
  exact (numsOk_iff (by rw [hn, hs])).1 h.nums _ _ _ ha hb
theorem doIt_ans {m : Mkt} {rows : List Row} {r : Req} (h : MOk m rows) (hr : reqOk r = true) : 1 ≤ (doIt m r).2 ∧ (doIt m r).2 ≤ 7 := by
  have hr' := reqOk_iff.1 hr
  unfold doIt
  split
  · have := numOk_iff.1 (said_of h hr'.1)
    dsimp only
    omega
  split
  · simp
  · have := effect_ans m r
    dsimp only
    omega
/-- The log grows by one entry at most. -/
theorem doIt_log {m : Mkt} {rows : List Row} {r : Req} (h : MOk m rows) (hr : reqOk r = true) : (doIt m r).1.log = m.log ∨ ∃ e, (doIt m r).1.log = m.log ++ [e] := by
  unfold doIt
  split
  · exact .inl rfl
  split
  · exact .inl rfl
  · show (effect m r).1.log = m.log ∨ ∃ e, (effect m r).1.log = m.log ++ [e]
    rcases effect_done h hr with ⟨_, e⟩ | ⟨_, d⟩
    · exact .inl (by rw [e])
    · generalize (effect m r).1 = x at d
      cases d
      · exact .inr ⟨_, rfl⟩
      · exact .inl rfl
      · exact .inl rfl
      · exact .inl rfl
      · exact .inr ⟨_, rfl⟩
      · exact .inr ⟨_, rfl⟩
theorem doIt_clock {m : Mkt} {rows : List Row} {r : Req} (h : MOk m rows) (hr : reqOk r = true) : (doIt m r).1.clock = m.clock := by
  unfold doIt
  split
  · rfl
  split
  · rfl
  · exact (effect_eff h hr).clk
end Go.Proofs.Ytgceeggfdomdjaa.Sw

namespace Go.Proofs.Ytgceeggfdomdjaa.Sw
set_option maxRecDepth 100000
set_option linter.unusedSimpArgs false
set_option linter.unusedVariables false
open Go.RowKit (wrap64)

theorem foldLines_append : ∀ (a b : List Req) (m : Mkt), foldLines m (a ++ b) = (foldLines m a).bind fun x => foldLines x b
  | [], b, m => rfl
  | r :: a, b, m => by
    rw [List.cons_append, foldLines, foldLines]
    split
    · split
      · rfl
      · exact foldLines_append a b _
    · split
      · exact foldLines_append a b _
      · rfl
theorem reqZ_no : reqOk reqZ = false := rfl
theorem ne_reqZ {r : Req} (h : reqOk r = true) : r ≠ reqZ := by rintro rfl; rw [reqZ_no] at h; cases h
theorem wldFold_snoc {first : List Int} {ls : List Req} {m : Mkt} (h : wldFold first ls = some m) (hl : ls.length < 300) (r : Req) : wldFold first (ls ++ [r]) = foldLines m [r] := by
  unfold wldFold at h ⊢
  split at h
  · rename_i hc
    simp only [Bool.and_eq_true, decide_eq_true_eq] at hc
    rw [if_pos (by simp only [Bool.and_eq_true, decide_eq_true_eq]; exact ⟨hc.1, by simp; omega⟩), foldLines_append, h]
    rfl
  · cases h

/-- A head of the first so many entries. -/
def Of (log : List Ent) (h : Head) : Prop := hedAt log h.size = some h
theorem hedAt_some {log : List Ent} {s : Int} {h : Head} : hedAt log s = some h ↔ (0 ≤ s ∧ s ≤ log.length) ∧ hedOf (log.take s.toNat) = some h := by
  unfold hedAt
  split
  · rename_i hc; rw [inR_iff] at hc; simp [hc]
  · rename_i hc
    have : ¬ (0 ≤ s ∧ s ≤ log.length) := fun h => hc (inR_iff.2 h)
    simp [this]
theorem hedAt_size {log : List Ent} {s : Int} {h : Head} (e : hedAt log s = some h) : h.size = s := by
  rw [hedAt_some] at e
  have := (hedOf_ok e.2).2
  rw [this, List.length_take]
  omega
theorem hedAt_append {log : List Ent} {s : Int} (es : List Ent) (h : 0 ≤ s ∧ s ≤ log.length) : hedAt (log ++ es) s = hedAt log s := by
  unfold hedAt
  rw [if_pos (inR_iff.2 h), if_pos (inR_iff.2 (by rw [List.length_append]; omega)), List.take_append_of_le_length (by omega)]
theorem Of.append {log : List Ent} {h : Head} (e : Of log h) (es : List Ent) : Of (log ++ es) h := by
  unfold Of at *
  rw [hedAt_append es (hedAt_some.1 e).1, e]
theorem Of.whole {log : List Ent} {h : Head} (e : hedOf log = some h) : Of log h := by
  have hs := (hedOf_ok e).2
  unfold Of
  rw [hedAt_some]
  refine ⟨by omega, ?_⟩
  rw [List.take_of_length_le (by omega)]
  exact e
theorem hedOf_of_fold {log : List Ent} {rows : List Row} (h : ownFold log = some rows) : ∃ x, hedOf log = some x := ⟨_, hedOf_some.2 ⟨rows, h, rfl⟩⟩
/-- Two heads of one log never fork. -/
theorem Of.nofork {log : List Ent} {a b : Head} (ha : Of log a) (hb : Of log b) : hedFork a b = false := by
  unfold Of at *
  by_cases h : a.size = b.size
  · rw [h, hb] at ha
    obtain rfl := Option.some.inj ha
    simp [hedFork]
  · simp [hedFork, h]

/-- What holds of a world that events have led to, from purses first on. -/
structure Inv (first : List Int) (w : World) : Prop where
  ok : WOk w
  isFirst : w.first = first
  fold : wldFold first w.lines = some w.market
  money : total w.market = first.sum
  gates : ∀ g ∈ w.gates, Of w.market.log g.head
  bag : ∀ x ∈ w.bag, Of w.market.log x.head
theorem Inv.rows {first : List Int} {w : World} (h : Inv first w) : ∃ rows, MOk w.market rows := mktOk_iff.1 h.ok.mkt
theorem inv_new {p : List Int} (hp : monOk p = true) (hs : monSum p ≤ 100000) : Inv p (wldNew p) := by
  have ok := wldNew_ok hp hs
  have e : wldNew p = ⟨p, mktNew p, [], [gatNew, gatNew], []⟩ := by simp [wldNew, hp, hs]
  have em : mktNew p = ⟨[], p, [], 0, [0, 0, 0, 0, 0], [0, 0, 0, 0, 0]⟩ := by simp [mktNew, hp, hs]
  rw [e] at ok ⊢
  refine ⟨ok, rfl, by simp [wldFold, hp, hs, foldLines], by rw [em]; simp [total, heldSum], fun g hg => ?_, by simp⟩
  have hg : g = gatNew := by simpa using hg
  subst hg
  rw [em]
  obtain ⟨x, hx⟩ := hedOf_of_fold (log := []) (rows := rows0) rfl
  have : gatNew.head = x := by simp [gatNew, hx]
  rw [this]
  exact Of.whole hx
theorem inv_ask {first : List Int} {w : World} (h : Inv first w) (r : Req) : Inv first (ask w r).1 := by
  have hok := ask_ok h.ok r
  unfold ask at hok ⊢
  split at hok
  · rename_i hr
    rw [if_pos hr]
    simp only [Bool.and_eq_true, decide_eq_true_eq] at hr
    obtain ⟨rows, hm⟩ := h.rows
    have hlog : ∃ es, (doIt w.market r).1.log = w.market.log ++ es := by
      rcases doIt_log hm hr.1 with e | ⟨x, e⟩
      · exact ⟨[], by rw [e, List.append_nil]⟩
      · exact ⟨[x], e⟩
    obtain ⟨es, he⟩ := hlog
    refine ⟨hok, h.isFirst, ?_, ?_, fun g hg => ?_, fun x hx => ?_⟩
    · show wldFold first (w.lines ++ [r]) = _
      rw [wldFold_snoc h.fold hr.2, foldLines, if_neg (ne_reqZ hr.1), if_pos hr.1, foldLines]
    · show total (doIt w.market r).1 = _
      rw [doIt_total hm hr.1, h.money]
    · show Of (doIt w.market r).1.log g.head
      rw [he]
      exact (h.gates g hg).append es
    · show Of (doIt w.market r).1.log x.head
      rw [he]
      exact (h.bag x hx).append es
  · rename_i hr
    rw [if_neg hr]
    exact h
theorem inv_tick {first : List Int} {w : World} (h : Inv first w) : Inv first (tickW w) := by
  have hok := tickW_ok h.ok
  unfold tickW at hok ⊢
  split at hok
  · rename_i hr
    rw [if_pos hr]
    simp only [Bool.and_eq_true, decide_eq_true_eq] at hr
    obtain ⟨rows, hm⟩ := h.rows
    refine ⟨hok, h.isFirst, ?_, ?_, h.gates, h.bag⟩
    · show wldFold first (w.lines ++ [reqZ]) = _
      rw [wldFold_snoc h.fold hr.2, foldLines, if_pos rfl, if_neg hr.1, foldLines]
    · show total (tick w.market) = _
      rw [tick_total hm, h.money]
  · rename_i hr
    rw [if_neg hr]
    exact h
theorem fall_market {first : List Int} {w : World} (h : Inv first w) : (fall w).market = w.market := by
  show (wldFold w.first w.lines).getD w.market = _
  rw [h.isFirst, h.fold]
  rfl
theorem inv_fall {first : List Int} {w : World} (h : Inv first w) : Inv first (fall w) := by
  have e := fall_market h
  refine ⟨fall_ok h.ok, h.isFirst, ?_, ?_, fun g hg => ?_, by simp [fall]⟩
  · rw [e]; exact h.fold
  · rw [e]; exact h.money
  · rw [e]; exact h.gates g hg
theorem inv_send {first : List Int} {w : World} (h : Inv first w) (k : Int) : Inv first (send w k) := by
  have hok := send_ok h.ok k
  unfold send at hok ⊢
  split at hok
  · rename_i hr
    rw [if_pos hr]
    refine ⟨hok, h.isFirst, h.fold, h.money, h.gates, fun x hx => ?_⟩
    rcases List.mem_append.1 hx with hx | hx
    · exact h.bag x hx
    · obtain rfl := List.mem_singleton.1 hx
      obtain ⟨rows, hm⟩ := h.rows
      obtain ⟨y, hy⟩ := hedOf_of_fold hm.fold
      show Of _ ((hedOf w.market.log).getD headZ)
      rw [hy]
      exact Of.whole hy
  · rename_i hr
    rw [if_neg hr]
    exact h
theorem inv_lose {first : List Int} {w : World} (h : Inv first w) (i : Int) : Inv first (lose w i) :=
  ⟨lose_ok h.ok i, h.isFirst, h.fold, h.money, h.gates, fun x hx => h.bag x ((List.eraseIdx_sublist w.bag i.toNat).subset hx)⟩
theorem inv_setGate {first : List Int} {w : World} (h : Inv first w) {k : Nat} {g : Gate} (hg : gatOk g = true) (ho : Of w.market.log g.head) : Inv first { w with gates := w.gates.set k g } := by
  refine ⟨setGate_ok h.ok hg, h.isFirst, h.fold, h.money, fun x hx => ?_, h.bag⟩
  rcases List.mem_or_eq_of_mem_set hx with hx | rfl
  · exact h.gates x hx
  · exact ho
theorem gateAt_mem {w : World} (h : WOk w) {k : Int} (hk : 0 ≤ k ∧ k ≤ 1) : gateAt w k ∈ w.gates := by
  unfold gateAt
  have hl := h.glen
  obtain ⟨g, hg⟩ : ∃ g, w.gates[k.toNat]? = some g := ⟨_, List.getElem?_eq_getElem (by omega)⟩
  rw [getD_of hg]
  exact List.mem_of_getElem? hg
theorem msgAt_mem {w : World} {i : Int} (hi : 0 ≤ i ∧ i ≤ (w.bag.length : Int) - 1) : msgAt w i ∈ w.bag := by
  unfold msgAt
  obtain ⟨g, hg⟩ : ∃ g, w.bag[i.toNat]? = some g := ⟨_, List.getElem?_eq_getElem (by omega)⟩
  rw [getD_of hg]
  exact List.mem_of_getElem? hg
theorem gatSync_head (g : Gate) (h : Head) (p : List Int) (hg : gatOk g = true) : (gatSync g h p).1.done = g.done ∧ g.head.size ≤ (gatSync g h p).1.head.size ∧ ((gatSync g h p).1.head = h ∨ (gatSync g h p).1.head = g.head) := by
  unfold gatSync
  rw [if_pos hg]
  split
  · exact ⟨rfl, (hedFollows_ok ‹_›).2.2, .inl rfl⟩
  · exact ⟨rfl, Int.le_refl _, .inr rfl⟩
theorem inv_heard {first : List Int} {w : World} (h : Inv first w) {x : Msg} (hx : msgOk x = true) (ho : Of w.market.log x.head) : Inv first (heard w x) := by
  simp only [msgOk, Bool.and_eq_true, inR_iff] at hx
  have hg := gateAt_ok h.ok hx.1.1
  refine inv_setGate h (gatSync_ok hg) ?_
  rcases (gatSync_head (gateAt w x.gate) x.head x.proof hg).2.2 with e | e
  · rw [e]; exact ho
  · rw [e]; exact h.gates _ (gateAt_mem h.ok hx.1.1)
theorem inv_hear {first : List Int} {w : World} (h : Inv first w) {i : Int} (hi : 0 ≤ i ∧ i ≤ (w.bag.length : Int) - 1) : Inv first (hear w i) :=
  inv_heard (inv_lose h i) (msgAt_ok h.ok hi) (h.bag _ (msgAt_mem hi))
theorem inv_twice {first : List Int} {w : World} (h : Inv first w) {i : Int} (hi : 0 ≤ i ∧ i ≤ (w.bag.length : Int) - 1) : Inv first (twice w i) := by
  have hok := twice_ok h.ok hi
  unfold twice at hok ⊢
  split at hok
  · rename_i hr
    rw [if_pos hr]
    refine ⟨hok, h.isFirst, h.fold, h.money, h.gates, fun x hx => ?_⟩
    rcases List.mem_append.1 hx with hx | hx
    · exact h.bag x hx
    · obtain rfl := List.mem_singleton.1 hx
      exact h.bag _ (msgAt_mem hi)
  · rename_i hr
    rw [if_neg hr]
    exact h
theorem gatShow_head (g : Gate) (t who : Int) (r : Row) (p : List Int) (hg : gatOk g = true) : (gatShow g t who r p).1.head = g.head := by
  unfold gatShow
  rw [if_pos hg]
  split <;> rfl
theorem inv_show {first : List Int} {w : World} (h : Inv first w) (k t who : Int) : Inv first (showIt w k t who).1 := by
  unfold showIt
  split
  · rename_i hr
    simp only [Bool.and_eq_true, decide_eq_true_eq, inR_iff] at hr
    split
    · exact h
    · split
      · have hg := gateAt_ok h.ok hr.1.1
        refine inv_setGate h (gatShow_ok hg) ?_
        rw [gatShow_head _ _ _ _ _ hg]
        exact h.gates _ (gateAt_mem h.ok hr.1.1)
      · exact h
  · exact h
theorem inv_tellOne {first : List Int} {w : World} (h : Inv first w) (t : Int) : Inv first (tellOne w t) := by
  unfold tellOne
  split
  · exact inv_ask h _
  · exact h
theorem inv_tells {first : List Int} : ∀ (ts : List Int) {w : World}, Inv first w → Inv first (ts.foldl tellOne w)
  | [], _, h => h
  | t :: ts, _, h => inv_tells ts (inv_tellOne h t)
theorem inv_tell {first : List Int} {w : World} (h : Inv first w) (k : Int) : Inv first (tell w k) := by
  unfold tell
  split
  · exact inv_tells _ h
  · exact h
theorem inv_step {first : List Int} {w : World} (h : Inv first w) (e : Ev) : Inv first (step w e).1 := by
  unfold step
  split
  · exact inv_ask h _
  split
  · exact inv_tick h
  split
  · exact inv_fall h
  split
  · exact inv_send h _
  split
  · dsimp only; split
    · exact inv_hear h (inR_iff.1 ‹_›)
    · exact h
  split
  · dsimp only; split
    · exact inv_lose h _
    · exact h
  split
  · dsimp only; split
    · exact inv_twice h (inR_iff.1 ‹_›)
    · exact h
  split
  · exact inv_show h _ _ _
  split
  · exact inv_tell h _
  · exact h
theorem inv_run {first : List Int} : ∀ (es : List Ev) {w : World}, Inv first w → Inv first (runFrom w es)
  | [], _, h => h
  | e :: es, _, h => inv_run es (inv_step h e)
theorem Inv.wldMoney {first : List Int} {w : World} (h : Inv first w) : wldMoney w = first.sum := by
  obtain ⟨rows, hm⟩ := h.rows
  unfold Sw.wldMoney
  rw [hm.total]
  have := h.money
  unfold total at this
  rw [this]
  have hs := hm.sum
  have h1 := (sum_bd w.market.purses 100000 (by omega) (monOk_iff.1 hm.mon).2).1
  have h2 := (heldSum_bd hm.deals.1).1
  exact wrap64_in (by omega)
end Go.Proofs.Ytgceeggfdomdjaa.Sw

namespace Go.Proofs.Ytgceeggfdomdjaa.Sw
set_option maxRecDepth 100000
set_option linter.unusedSimpArgs false
set_option linter.unusedVariables false
open Go.RowKit (wrap64)

/-! ### who meets -/
def anyFork (a b : List Head) : Bool := a.any fun x => b.any fun y => hedFork x y
theorem forkIn_some {x : Head} {b : List Head} {p : Head × Head} (h : forkIn x b = some p) : p.1 = x ∧ p.2 ∈ b ∧ hedFork p.1 p.2 = true := by
  unfold forkIn at h
  rw [Option.map_eq_some_iff] at h
  obtain ⟨y, hy, rfl⟩ := h
  exact ⟨rfl, List.mem_of_find?_eq_some hy, List.find?_some hy⟩
theorem forkIn_isSome (x : Head) (b : List Head) : (forkIn x b).isSome = b.any fun y => hedFork x y := by
  unfold forkIn
  rw [Option.isSome_map, List.isSome_find?]
theorem findFork (a b : List Head) : (a.findSome? fun x => forkIn x b).isSome = anyFork a b := by
  unfold anyFork
  induction a with
  | nil => rfl
  | cons x a ih =>
    rw [List.findSome?_cons, List.any_cons, ← ih, ← forkIn_isSome]
    cases forkIn x b <;> simp
theorem watMeet_iff {a b : List Head} (ha : watOk a = true) (hb : watOk b = true) : (watMeet a b).isSome = anyFork a b := by
  unfold watMeet
  rw [if_pos (by simp [ha, hb]), findFork]
theorem watMeet_fork {a b : List Head} {p : Head × Head} (h : watMeet a b = some p) : p.1 ∈ a ∧ p.2 ∈ b ∧ hedFork p.1 p.2 = true := by
  unfold watMeet at h
  split at h
  · obtain ⟨x, hx, e⟩ := List.exists_of_findSome?_eq_some h
    obtain ⟨rfl, h2, h3⟩ := forkIn_some e
    exact ⟨hx, h2, h3⟩
  · cases h
theorem watAll_mem {l : List Head} {log : List Ent} (h : watAll l log = true) {x : Head} (hx : x ∈ l) : Of log x := by
  unfold watAll at h
  simp only [Bool.and_eq_true, List.all_eq_true, decide_eq_true_eq] at h
  exact h.2 x hx
theorem watMeet_all {a c : List Head} {log : List Ent} (ha : watAll a log = true) (hc : watAll c log = true) : watMeet a c = none := by
  cases h : watMeet a c with
  | none => rfl
  | some p =>
    obtain ⟨h1, h2, h3⟩ := watMeet_fork h
    rw [Of.nofork (watAll_mem ha h1) (watAll_mem hc h2)] at h3
    cases h3

/-! ### a world at its beginning -/
def newOk (p : List Int) : Bool := monOk p && decide (monSum p ≤ 100000)
theorem wldNew_y {p : List Int} (h : newOk p = true) : wldNew p = ⟨p, ⟨[], p, [], 0, [0, 0, 0, 0, 0], [0, 0, 0, 0, 0]⟩, [], [gatNew, gatNew], []⟩ := by
  unfold newOk at h
  rw [wldNew, if_pos h, mktNew, if_pos h]
theorem wldNew_n {p : List Int} (h : newOk p = false) : wldNew p = worldZ := by
  unfold newOk at h
  rw [wldNew, if_neg (by rw [h]; simp)]
theorem mktNew_y {p : List Int} (h : newOk p = true) : mktNew p = ⟨[], p, [], 0, [0, 0, 0, 0, 0], [0, 0, 0, 0, 0]⟩ := by
  unfold newOk at h
  rw [mktNew, if_pos h]
theorem mktNew_n {p : List Int} (h : newOk p = false) : mktNew p = mktZ := by
  unfold newOk at h
  rw [mktNew, if_neg (by rw [h]; simp)]
theorem newOk_len {p : List Int} (h : newOk p = true) : p.length = 5 := by
  simp only [newOk, Bool.and_eq_true] at h
  exact (monOk_iff.1 h.1).1
theorem wldOk_worldZ : wldOk worldZ = false := by
  simp [wldOk, worldZ, mktOk, mktZ, monOk]
theorem wldOk_new {p : List Int} (h : newOk p = true) : wldOk (wldNew p) = true := by
  simp only [newOk, Bool.and_eq_true, decide_eq_true_eq] at h
  exact wldOk_iff.2 (wldNew_ok h.1 h.2)
theorem wldMoney_new {p : List Int} (h : newOk p = true) : wldMoney (wldNew p) = monSum p := by
  rw [wldNew_y h]
  simp only [newOk, Bool.and_eq_true, decide_eq_true_eq] at h
  have := monSum_bd h.1
  show wrap64 (monSum p + 0) = monSum p
  rw [Int.add_zero]
  unfold wrap64; omega
theorem gatNew_size : gatNew.head.size = 0 := by
  have : hedOf [] = some ⟨0, root [], ownRoot rows0⟩ := rfl
  rw [gatNew, this]
  rfl
end Go.Proofs.Ytgceeggfdomdjaa.Sw

namespace Go.Proofs.Ytgceeggfdomdjaa
set_option maxRecDepth 100000
set_option linter.unusedSimpArgs false
set_option linter.unusedVariables false
open Go.RowKit Go
set_option maxHeartbeats 2000000

theorem sWatOk_c (A : Option Addr) (c n : Nat) (xs : List Sw.Head) (w : World) (hxs : RH w 0 A c n xs) : Calls Try.prog 28 #[.slice A n c] w fun E w' => E = .returned (.bool (Sw.watOk xs)) ∧ Ex w w' := by
  have hl := Lib.hid hxs.1
  have hcap := hxs.2.le
  have hbig := Rs.big hxs
  by_cases hn : n ≤ 12
  case neg =>
    have hb : decide (12 < n) = true := by simp; omega
    go_enter Try.func28, Try.ntmps28; go_wp2_with fail; go_ret; exact ⟨ret_b (by simp [Sw.watOk, ← hl.out, hn]), ext_⟩
  have hb : decide (12 < n) = false := by simp; omega
  have e : Sw.watOk xs = Sw.watFrom (-1) xs := by simp [Sw.watOk, ← hl.out, hn]
  rw [e]; clear e
  go_enter Try.func28, Try.ntmps28
  go_wp2_with fail
  go_loopw [3] (fun i wr => ∃ (k : Nat) (p : Int), k ≤ n ∧ i = .int .i64 k ∧ Ex w wr ∧ (k = 0 ∧ p = -1 ∨ ∃ j, ∃ y : Sw.Head, k = j + 1 ∧ xs[j]? = some y ∧ y.size = p ∧ 0 ≤ p) ∧ Sw.watFrom (-1) xs = Sw.watFrom p (xs.drop k)) (fun i _ => n - (intOf i).toNat)
  case atStart => exact ⟨0, -1, Nat.zero_le _, rfl, Ch.refl _ _, .inl ⟨rfl, rfl⟩, rfl⟩
  case round =>
    obtain ⟨k, p, hk, rfl, hb2, hp, hrel⟩ := hrel
    have hst := xr hb2
    obtain ⟨hc2, hf2, hz2⟩ := hst
    by_cases hlt : k < n
    · obtain ⟨g, off, y, rfl, hg0, hg, hd, hy, q0, q1, q2⟩ := at_H hxs hlt
      rw [hd, Sw.watFrom] at hrel
      have Hrel := Lib.hid hrel
      have Hy := Lib.hid hy
      clear hd hy hrel
      cases hin : Sw.hedOk y
      case false =>
        clear hp
        go_wp2_with fail
        (focus (refine wp_name ?_; intro W0 hb0; have hst := xr hb0; (try simp only [zA, zC, zD, zN] at hst); obtain ⟨hc0, hf0, hz0⟩ := hst; refine wp_regionX [] (S := fun w' => Held W0 w') hdH (fun hHeld => ?_); refine GoesX.take 0 13 [] hHeld (h := ?_); refine GoesX.take 1 14 [] hHeld (h := ?_); refine GoesX.take 2 15 [] hHeld (h := ?_); refine GoesX.take 3 16 [] hHeld (h := ?_); refine GoesX.one 4 (h := fun K hK => ?_); go_simp; (first | (go_at_call 77; refine (sHedOk_c _ _).mono ?_; rintro E w1 ⟨rfl, hb⟩; have hst := xr hb; (try simp only [zA, zC, zD, zN] at hst); obtain ⟨hc, hf, hz⟩ := hst)); (try go_wp2_with fail); refine outS hK hdH (h := fun hH2 => ?_); clear hK K hHeld; have hHeld := hH2; clear hH2; refine GoesX.take 5 18 [] hHeld (h := ?_); refine GoesX.take 6 19 [] hHeld (h := ?_); (first | refine GoesX.take 7 20 [] hHeld (h := ?_) | refine GoesX.skip 7 20 [] hHeld (h := ?_)); (first | refine GoesX.take 8 21 [] hHeld (h := ?_) | refine GoesX.skip 8 21 [] hHeld (h := ?_)); (first | refine GoesX.take 9 22 [] hHeld (h := ?_) | refine GoesX.skip 9 22 [] hHeld (h := ?_)); (first | refine GoesX.take 10 23 [] hHeld (h := ?_) | refine GoesX.skip 10 23 [] hHeld (h := ?_)); (first | refine GoesX.take 11 24 [] hHeld (h := ?_) | refine GoesX.skip 11 24 [] hHeld (h := ?_)); (first | refine GoesX.take 12 25 [] hHeld (h := ?_) | refine GoesX.skip 12 25 [] hHeld (h := ?_)); (first | refine GoesX.take 13 26 [] hHeld (h := ?_) | refine GoesX.skip 13 26 [] hHeld (h := ?_)); (first | refine GoesX.take 14 27 [] hHeld (h := ?_) | refine GoesX.skip 14 27 [] hHeld (h := ?_)); (first | refine GoesX.take 15 28 [] hHeld (h := ?_) | refine GoesX.skip 15 28 [] hHeld (h := ?_)); (first | refine GoesX.take 16 29 [] hHeld (h := ?_) | refine GoesX.skip 16 29 [] hHeld (h := ?_)); (first | refine GoesX.take 17 30 [] hHeld (h := ?_) | refine GoesX.skip 17 30 [] hHeld (h := ?_)); (first | refine GoesX.take 18 31 [] hHeld (h := ?_) | refine GoesX.skip 18 31 [] hHeld (h := ?_)); (first | refine GoesX.take 19 32 [] hHeld (h := ?_) | refine GoesX.skip 19 32 [] hHeld (h := ?_)); (first | refine GoesX.take 20 33 [] hHeld (h := ?_) | refine GoesX.skip 20 33 [] hHeld (h := ?_)); (first | refine GoesX.take 21 34 [] hHeld (h := ?_) | refine GoesX.skip 21 34 [] hHeld (h := ?_)); (first | refine GoesX.take 22 35 [] hHeld (h := ?_) | refine GoesX.skip 22 35 [] hHeld (h := ?_)); refine GoesX.take 23 36 [] hHeld (h := ?_); refine GoesX.done (by kernel_rfl) ?_ _; all_goals (have hb := And.right (by assumption : Held W0 _); have hst := xr hb; (try simp only [zA, zC, zD, zN] at hst); obtain ⟨hc, hf, hz⟩ := hst)))
        all_goals go_wp2
        all_goals go_ret
        all_goals exact ⟨ret_b (by rw [Hrel.out, hin]; simp), ext_⟩
      have hy0 := (Sw.hedOk_iff.1 hin).1
      obtain ⟨y0, y40⟩ := hy0
      rcases hp with ⟨rfl, rfl⟩ | ⟨j, yj, rfl, hj, rfl, hj0⟩
      · simp only [Nat.zero_mul, Nat.add_zero] at q0 q1 q2
        go_wp2_with fail
        (focus (refine wp_name ?_; intro W0 hb0; have hst := xr hb0; (try simp only [zA, zC, zD, zN] at hst); obtain ⟨hc0, hf0, hz0⟩ := hst; refine wp_regionX [] (S := fun w' => Held W0 w') hdH (fun hHeld => ?_); refine GoesX.take 0 13 [] hHeld (h := ?_); refine GoesX.take 1 14 [] hHeld (h := ?_); refine GoesX.take 2 15 [] hHeld (h := ?_); refine GoesX.take 3 16 [] hHeld (h := ?_); refine GoesX.one 4 (h := fun K hK => ?_); go_simp; (first | (go_at_call 77; refine (sHedOk_c _ _).mono ?_; rintro E w1 ⟨rfl, hb⟩; have hst := xr hb; (try simp only [zA, zC, zD, zN] at hst); obtain ⟨hc, hf, hz⟩ := hst)); (try go_wp2_with fail); refine outS hK hdH (h := fun hH2 => ?_); clear hK K hHeld; have hHeld := hH2; clear hH2; refine GoesX.take 5 18 [] hHeld (h := ?_); refine GoesX.take 6 19 [] hHeld (h := ?_); (first | refine GoesX.take 7 20 [] hHeld (h := ?_) | refine GoesX.skip 7 20 [] hHeld (h := ?_)); (first | refine GoesX.take 8 21 [] hHeld (h := ?_) | refine GoesX.skip 8 21 [] hHeld (h := ?_)); (first | refine GoesX.take 9 22 [] hHeld (h := ?_) | refine GoesX.skip 9 22 [] hHeld (h := ?_)); (first | refine GoesX.take 10 23 [] hHeld (h := ?_) | refine GoesX.skip 10 23 [] hHeld (h := ?_)); (first | refine GoesX.take 11 24 [] hHeld (h := ?_) | refine GoesX.skip 11 24 [] hHeld (h := ?_)); (first | refine GoesX.take 12 25 [] hHeld (h := ?_) | refine GoesX.skip 12 25 [] hHeld (h := ?_)); (first | refine GoesX.take 13 26 [] hHeld (h := ?_) | refine GoesX.skip 13 26 [] hHeld (h := ?_)); (first | refine GoesX.take 14 27 [] hHeld (h := ?_) | refine GoesX.skip 14 27 [] hHeld (h := ?_)); (first | refine GoesX.take 15 28 [] hHeld (h := ?_) | refine GoesX.skip 15 28 [] hHeld (h := ?_)); (first | refine GoesX.take 16 29 [] hHeld (h := ?_) | refine GoesX.skip 16 29 [] hHeld (h := ?_)); (first | refine GoesX.take 17 30 [] hHeld (h := ?_) | refine GoesX.skip 17 30 [] hHeld (h := ?_)); (first | refine GoesX.take 18 31 [] hHeld (h := ?_) | refine GoesX.skip 18 31 [] hHeld (h := ?_)); (first | refine GoesX.take 19 32 [] hHeld (h := ?_) | refine GoesX.skip 19 32 [] hHeld (h := ?_)); (first | refine GoesX.take 20 33 [] hHeld (h := ?_) | refine GoesX.skip 20 33 [] hHeld (h := ?_)); (first | refine GoesX.take 21 34 [] hHeld (h := ?_) | refine GoesX.skip 21 34 [] hHeld (h := ?_)); (first | refine GoesX.take 22 35 [] hHeld (h := ?_) | refine GoesX.skip 22 35 [] hHeld (h := ?_)); refine GoesX.take 23 36 [] hHeld (h := ?_); refine GoesX.done (by kernel_rfl) ?_ _; all_goals (have hb := And.right (by assumption : Held W0 _); have hst := xr hb; (try simp only [zA, zC, zD, zN] at hst); obtain ⟨hc, hf, hz⟩ := hst)))
        all_goals go_wp2
        all_goals go_roundw
        case rel => exact ⟨0 + 1, y.size, by omega, by go_num, ext_, .inr ⟨0, y, rfl, Hy.out, rfl, y0⟩, by rw [Hrel.out, hin]; simp; omega⟩
        case measure => simp [intOf]; omega
      · obtain ⟨g', off', z, hA', _, _, _, hz', p0, p1, p2⟩ := at_H hxs (show j < n by omega)
        cases hA'
        obtain rfl : z = yj := by rw [hj] at hz'; exact (Option.some.inj hz').symm
        clear hj hz' p1 p2
        have t1 : ((j : Int) + 1).toNat = j + 1 := by omega
        have t2 : IntKind.i64.wrap ((j : Int) + 1 - 1) = j := by rw [IntWalk.i64_in _ (by omega)]; omega
        have t2b : IntKind.i64.wrap (j : Int) = j := IntWalk.i64_in _ (by omega)
        have t3 : (0 : Int) ≤ (j : Int) + 1 := by omega
        have t4 : (j : Int) + 1 < (n : Int) := by omega
        have t5 : (j : Int) < (n : Int) := by omega
        have t6 : (0 : Int) < (j : Int) + 1 := by omega
        by_cases hpy : z.size < y.size
        · have hpy' : decide (y.size ≤ z.size) = false := by simp; omega
          go_wp2_with fail
          (focus (refine wp_name ?_; intro W0 hb0; have hst := xr hb0; (try simp only [zA, zC, zD, zN] at hst); obtain ⟨hc0, hf0, hz0⟩ := hst; refine wp_regionX [] (S := fun w' => Held W0 w') hdH (fun hHeld => ?_); refine GoesX.take 0 13 [] hHeld (h := ?_); refine GoesX.take 1 14 [] hHeld (h := ?_); refine GoesX.take 2 15 [] hHeld (h := ?_); refine GoesX.take 3 16 [] hHeld (h := ?_); refine GoesX.one 4 (h := fun K hK => ?_); go_simp; (first | (go_at_call 77; refine (sHedOk_c _ _).mono ?_; rintro E w1 ⟨rfl, hb⟩; have hst := xr hb; (try simp only [zA, zC, zD, zN] at hst); obtain ⟨hc, hf, hz⟩ := hst)); (try go_wp2_with fail); refine outS hK hdH (h := fun hH2 => ?_); clear hK K hHeld; have hHeld := hH2; clear hH2; refine GoesX.take 5 18 [] hHeld (h := ?_); refine GoesX.take 6 19 [] hHeld (h := ?_); (first | refine GoesX.take 7 20 [] hHeld (h := ?_) | refine GoesX.skip 7 20 [] hHeld (h := ?_)); (first | refine GoesX.take 8 21 [] hHeld (h := ?_) | refine GoesX.skip 8 21 [] hHeld (h := ?_)); (first | refine GoesX.take 9 22 [] hHeld (h := ?_) | refine GoesX.skip 9 22 [] hHeld (h := ?_)); (first | refine GoesX.take 10 23 [] hHeld (h := ?_) | refine GoesX.skip 10 23 [] hHeld (h := ?_)); (first | refine GoesX.take 11 24 [] hHeld (h := ?_) | refine GoesX.skip 11 24 [] hHeld (h := ?_)); (first | refine GoesX.take 12 25 [] hHeld (h := ?_) | refine GoesX.skip 12 25 [] hHeld (h := ?_)); (first | refine GoesX.take 13 26 [] hHeld (h := ?_) | refine GoesX.skip 13 26 [] hHeld (h := ?_)); (first | refine GoesX.take 14 27 [] hHeld (h := ?_) | refine GoesX.skip 14 27 [] hHeld (h := ?_)); (first | refine GoesX.take 15 28 [] hHeld (h := ?_) | refine GoesX.skip 15 28 [] hHeld (h := ?_)); (first | refine GoesX.take 16 29 [] hHeld (h := ?_) | refine GoesX.skip 16 29 [] hHeld (h := ?_)); (first | refine GoesX.take 17 30 [] hHeld (h := ?_) | refine GoesX.skip 17 30 [] hHeld (h := ?_)); (first | refine GoesX.take 18 31 [] hHeld (h := ?_) | refine GoesX.skip 18 31 [] hHeld (h := ?_)); (first | refine GoesX.take 19 32 [] hHeld (h := ?_) | refine GoesX.skip 19 32 [] hHeld (h := ?_)); (first | refine GoesX.take 20 33 [] hHeld (h := ?_) | refine GoesX.skip 20 33 [] hHeld (h := ?_)); (first | refine GoesX.take 21 34 [] hHeld (h := ?_) | refine GoesX.skip 21 34 [] hHeld (h := ?_)); (first | refine GoesX.take 22 35 [] hHeld (h := ?_) | refine GoesX.skip 22 35 [] hHeld (h := ?_)); refine GoesX.take 23 36 [] hHeld (h := ?_); refine GoesX.done (by kernel_rfl) ?_ _; all_goals (have hb := And.right (by assumption : Held W0 _); have hst := xr hb; (try simp only [zA, zC, zD, zN] at hst); obtain ⟨hc, hf, hz⟩ := hst)))
          all_goals go_wp2
          all_goals go_roundw
          case rel => exact ⟨j + 1 + 1, y.size, by omega, by go_num, ext_, .inr ⟨j + 1, y, rfl, Hy.out, rfl, y0⟩, by rw [Hrel.out, hin]; simp [hpy]⟩
          case measure => simp [intOf]; omega
        · have hpy' : y.size ≤ z.size := by omega
          have hlt' : decide (z.size < y.size) = false := by rw [decide_eq_false_iff_not]; omega
          go_wp2_with fail
          (focus (refine wp_name ?_; intro W0 hb0; have hst := xr hb0; (try simp only [zA, zC, zD, zN] at hst); obtain ⟨hc0, hf0, hz0⟩ := hst; refine wp_regionX [] (S := fun w' => Held W0 w') hdH (fun hHeld => ?_); refine GoesX.take 0 13 [] hHeld (h := ?_); refine GoesX.take 1 14 [] hHeld (h := ?_); refine GoesX.take 2 15 [] hHeld (h := ?_); refine GoesX.take 3 16 [] hHeld (h := ?_); refine GoesX.one 4 (h := fun K hK => ?_); go_simp; (first | (go_at_call 77; refine (sHedOk_c _ _).mono ?_; rintro E w1 ⟨rfl, hb⟩; have hst := xr hb; (try simp only [zA, zC, zD, zN] at hst); obtain ⟨hc, hf, hz⟩ := hst)); (try go_wp2_with fail); refine outS hK hdH (h := fun hH2 => ?_); clear hK K hHeld; have hHeld := hH2; clear hH2; refine GoesX.take 5 18 [] hHeld (h := ?_); refine GoesX.take 6 19 [] hHeld (h := ?_); (first | refine GoesX.take 7 20 [] hHeld (h := ?_) | refine GoesX.skip 7 20 [] hHeld (h := ?_)); (first | refine GoesX.take 8 21 [] hHeld (h := ?_) | refine GoesX.skip 8 21 [] hHeld (h := ?_)); (first | refine GoesX.take 9 22 [] hHeld (h := ?_) | refine GoesX.skip 9 22 [] hHeld (h := ?_)); (first | refine GoesX.take 10 23 [] hHeld (h := ?_) | refine GoesX.skip 10 23 [] hHeld (h := ?_)); (first | refine GoesX.take 11 24 [] hHeld (h := ?_) | refine GoesX.skip 11 24 [] hHeld (h := ?_)); (first | refine GoesX.take 12 25 [] hHeld (h := ?_) | refine GoesX.skip 12 25 [] hHeld (h := ?_)); (first | refine GoesX.take 13 26 [] hHeld (h := ?_) | refine GoesX.skip 13 26 [] hHeld (h := ?_)); (first | refine GoesX.take 14 27 [] hHeld (h := ?_) | refine GoesX.skip 14 27 [] hHeld (h := ?_)); (first | refine GoesX.take 15 28 [] hHeld (h := ?_) | refine GoesX.skip 15 28 [] hHeld (h := ?_)); (first | refine GoesX.take 16 29 [] hHeld (h := ?_) | refine GoesX.skip 16 29 [] hHeld (h := ?_)); (first | refine GoesX.take 17 30 [] hHeld (h := ?_) | refine GoesX.skip 17 30 [] hHeld (h := ?_)); (first | refine GoesX.take 18 31 [] hHeld (h := ?_) | refine GoesX.skip 18 31 [] hHeld (h := ?_)); (first | refine GoesX.take 19 32 [] hHeld (h := ?_) | refine GoesX.skip 19 32 [] hHeld (h := ?_)); (first | refine GoesX.take 20 33 [] hHeld (h := ?_) | refine GoesX.skip 20 33 [] hHeld (h := ?_)); (first | refine GoesX.take 21 34 [] hHeld (h := ?_) | refine GoesX.skip 21 34 [] hHeld (h := ?_)); (first | refine GoesX.take 22 35 [] hHeld (h := ?_) | refine GoesX.skip 22 35 [] hHeld (h := ?_)); refine GoesX.take 23 36 [] hHeld (h := ?_); refine GoesX.done (by kernel_rfl) ?_ _; all_goals (have hb := And.right (by assumption : Held W0 _); have hst := xr hb; (try simp only [zA, zC, zD, zN] at hst); obtain ⟨hc, hf, hz⟩ := hst)))
          all_goals go_wp2
          all_goals go_ret
          all_goals exact ⟨ret_b (by rw [Hrel.out, hin, hlt']; simp), ext_⟩
    · have Hrel := Lib.hid hrel; clear hrel hp
      go_wp2_with fail
      go_ret
      refine ⟨ret_b ?_, ext_⟩
      have hh := Hrel.out
      rw [List.drop_of_length_le (by have := hl.out; omega)] at hh
      rw [hh]; (first | (simp [Sw.watFrom]; done) | (simp [Sw.watFrom]; omega))

theorem iWatOk_c (A : Option Addr) (c n : Nat) (xs : List Sw.Head) (w : World) (hxs : RH w 0 A c n xs) : Calls Try.prog 82 #[.slice A n c] w fun E w' => E = .returned (.bool (Sw.watOk xs)) ∧ Ex w w' := by
  have hl := Lib.hid hxs.1
  have hcap := hxs.2.le
  have hbig := Rs.big hxs
  have e : Sw.watOk xs = (Sw.watFrom (-1) xs && decide (n ≤ 12)) := by simp [Sw.watOk, ← hl.out, Bool.and_comm]
  rw [e]; clear e
  go_enter Try.func82, Try.ntmps82
  go_wp2_with fail
  go_loopw [7] (fun i wr => ∃ (k : Nat) (p : Int), k ≤ n ∧ i = .int .i64 k ∧ Ex w wr ∧ (k = 0 ∧ p = -1 ∨ ∃ j, ∃ y : Sw.Head, k = j + 1 ∧ xs[j]? = some y ∧ y.size = p ∧ 0 ≤ p) ∧ Sw.watFrom (-1) xs = Sw.watFrom p (xs.drop k)) (fun i _ => n - (intOf i).toNat)
  case atStart => exact ⟨0, -1, Nat.zero_le _, rfl, Ch.refl _ _, .inl ⟨rfl, rfl⟩, rfl⟩
  case round =>
    obtain ⟨k, p, hk, rfl, hb2, hp, hrel⟩ := hrel
    have hst := xr hb2
    obtain ⟨hc2, hf2, hz2⟩ := hst
    by_cases hlt : k < n
    · obtain ⟨g, off, y, rfl, hg0, hg, hd, hy, q0, q1, q2⟩ := at_H hxs hlt
      rw [hd, Sw.watFrom] at hrel
      have Hrel := Lib.hid hrel
      have Hy := Lib.hid hy
      clear hd hy hrel
      cases hin : Sw.hedOk y
      case false =>
        clear hp
        go_wp2_with fail
        (focus (refine wp_name ?_; intro W0 hb0; have hst := xr hb0; (try simp only [zA, zC, zD, zN] at hst); obtain ⟨hc0, hf0, hz0⟩ := hst; refine wp_regionX [] (S := fun w' => Held W0 w') hdH (fun hHeld => ?_); refine GoesX.take 0 12 [] hHeld (h := ?_); refine GoesX.one 1 (h := fun K hK => ?_); go_simp; (first | (go_at_call 76; refine (iHedOk_c _ _).mono ?_; rintro E w1 ⟨rfl, hb⟩; have hst := xr hb; (try simp only [zA, zC, zD, zN] at hst); obtain ⟨hc, hf, hz⟩ := hst)); (try go_wp2_with fail); refine outS hK hdH (h := fun hH2 => ?_); clear hK K hHeld; have hHeld := hH2; clear hH2; refine GoesX.take 2 14 [] hHeld (h := ?_); refine GoesX.take 3 15 [] hHeld (h := ?_); (first | refine GoesX.take 4 16 [] hHeld (h := ?_) | refine GoesX.skip 4 16 [] hHeld (h := ?_)); (first | refine GoesX.take 5 17 [] hHeld (h := ?_) | refine GoesX.skip 5 17 [] hHeld (h := ?_)); (first | refine GoesX.take 6 18 [] hHeld (h := ?_) | refine GoesX.skip 6 18 [] hHeld (h := ?_)); (first | refine GoesX.take 7 19 [] hHeld (h := ?_) | refine GoesX.skip 7 19 [] hHeld (h := ?_)); (first | refine GoesX.take 8 20 [] hHeld (h := ?_) | refine GoesX.skip 8 20 [] hHeld (h := ?_)); (first | refine GoesX.take 9 21 [] hHeld (h := ?_) | refine GoesX.skip 9 21 [] hHeld (h := ?_)); (first | refine GoesX.take 10 22 [] hHeld (h := ?_) | refine GoesX.skip 10 22 [] hHeld (h := ?_)); (first | refine GoesX.take 11 23 [] hHeld (h := ?_) | refine GoesX.skip 11 23 [] hHeld (h := ?_)); (first | refine GoesX.take 12 24 [] hHeld (h := ?_) | refine GoesX.skip 12 24 [] hHeld (h := ?_)); (first | refine GoesX.take 13 25 [] hHeld (h := ?_) | refine GoesX.skip 13 25 [] hHeld (h := ?_)); (first | refine GoesX.take 14 26 [] hHeld (h := ?_) | refine GoesX.skip 14 26 [] hHeld (h := ?_)); (first | refine GoesX.take 15 27 [] hHeld (h := ?_) | refine GoesX.skip 15 27 [] hHeld (h := ?_)); (first | refine GoesX.take 16 28 [] hHeld (h := ?_) | refine GoesX.skip 16 28 [] hHeld (h := ?_)); refine GoesX.take 17 29 [] hHeld (h := ?_); refine GoesX.done (by kernel_rfl) ?_ _; all_goals (have hb := And.right (by assumption : Held W0 _); have hst := xr hb; (try simp only [zA, zC, zD, zN] at hst); obtain ⟨hc, hf, hz⟩ := hst)))
        all_goals go_wp2
        all_goals go_ret
        all_goals exact ⟨ret_b (by rw [Hrel.out, hin]; simp), ext_⟩
      have hy0 := (Sw.hedOk_iff.1 hin).1
      obtain ⟨y0, y40⟩ := hy0
      rcases hp with ⟨rfl, rfl⟩ | ⟨j, yj, rfl, hj, rfl, hj0⟩
      · simp only [Nat.zero_mul, Nat.add_zero] at q0 q1 q2
        go_wp2_with fail
        (focus (refine wp_name ?_; intro W0 hb0; have hst := xr hb0; (try simp only [zA, zC, zD, zN] at hst); obtain ⟨hc0, hf0, hz0⟩ := hst; refine wp_regionX [] (S := fun w' => Held W0 w') hdH (fun hHeld => ?_); refine GoesX.take 0 12 [] hHeld (h := ?_); refine GoesX.one 1 (h := fun K hK => ?_); go_simp; (first | (go_at_call 76; refine (iHedOk_c _ _).mono ?_; rintro E w1 ⟨rfl, hb⟩; have hst := xr hb; (try simp only [zA, zC, zD, zN] at hst); obtain ⟨hc, hf, hz⟩ := hst)); (try go_wp2_with fail); refine outS hK hdH (h := fun hH2 => ?_); clear hK K hHeld; have hHeld := hH2; clear hH2; refine GoesX.take 2 14 [] hHeld (h := ?_); refine GoesX.take 3 15 [] hHeld (h := ?_); (first | refine GoesX.take 4 16 [] hHeld (h := ?_) | refine GoesX.skip 4 16 [] hHeld (h := ?_)); (first | refine GoesX.take 5 17 [] hHeld (h := ?_) | refine GoesX.skip 5 17 [] hHeld (h := ?_)); (first | refine GoesX.take 6 18 [] hHeld (h := ?_) | refine GoesX.skip 6 18 [] hHeld (h := ?_)); (first | refine GoesX.take 7 19 [] hHeld (h := ?_) | refine GoesX.skip 7 19 [] hHeld (h := ?_)); (first | refine GoesX.take 8 20 [] hHeld (h := ?_) | refine GoesX.skip 8 20 [] hHeld (h := ?_)); (first | refine GoesX.take 9 21 [] hHeld (h := ?_) | refine GoesX.skip 9 21 [] hHeld (h := ?_)); (first | refine GoesX.take 10 22 [] hHeld (h := ?_) | refine GoesX.skip 10 22 [] hHeld (h := ?_)); (first | refine GoesX.take 11 23 [] hHeld (h := ?_) | refine GoesX.skip 11 23 [] hHeld (h := ?_)); (first | refine GoesX.take 12 24 [] hHeld (h := ?_) | refine GoesX.skip 12 24 [] hHeld (h := ?_)); (first | refine GoesX.take 13 25 [] hHeld (h := ?_) | refine GoesX.skip 13 25 [] hHeld (h := ?_)); (first | refine GoesX.take 14 26 [] hHeld (h := ?_) | refine GoesX.skip 14 26 [] hHeld (h := ?_)); (first | refine GoesX.take 15 27 [] hHeld (h := ?_) | refine GoesX.skip 15 27 [] hHeld (h := ?_)); (first | refine GoesX.take 16 28 [] hHeld (h := ?_) | refine GoesX.skip 16 28 [] hHeld (h := ?_)); refine GoesX.take 17 29 [] hHeld (h := ?_); refine GoesX.done (by kernel_rfl) ?_ _; all_goals (have hb := And.right (by assumption : Held W0 _); have hst := xr hb; (try simp only [zA, zC, zD, zN] at hst); obtain ⟨hc, hf, hz⟩ := hst)))
        all_goals go_wp2
        all_goals go_roundw
        case rel => exact ⟨0 + 1, y.size, by omega, by go_num, ext_, .inr ⟨0, y, rfl, Hy.out, rfl, y0⟩, by rw [Hrel.out, hin]; simp; omega⟩
        case measure => simp [intOf]; omega
      · obtain ⟨g', off', z, hA', _, _, _, hz', p0, p1, p2⟩ := at_H hxs (show j < n by omega)
        cases hA'
        obtain rfl : z = yj := by rw [hj] at hz'; exact (Option.some.inj hz').symm
        clear hj hz' p1 p2
        have t1 : ((j : Int) + 1).toNat = j + 1 := by omega
        have t2 : IntKind.i64.wrap ((j : Int) + 1 - 1) = j := by rw [IntWalk.i64_in _ (by omega)]; omega
        have t2b : IntKind.i64.wrap (j : Int) = j := IntWalk.i64_in _ (by omega)
        have t3 : (0 : Int) ≤ (j : Int) + 1 := by omega
        have t4 : (j : Int) + 1 < (n : Int) := by omega
        have t5 : (j : Int) < (n : Int) := by omega
        have t6 : (0 : Int) < (j : Int) + 1 := by omega
        by_cases hpy : z.size < y.size
        · have hpy' : decide (y.size ≤ z.size) = false := by simp; omega
          go_wp2_with fail
          (focus (refine wp_name ?_; intro W0 hb0; have hst := xr hb0; (try simp only [zA, zC, zD, zN] at hst); obtain ⟨hc0, hf0, hz0⟩ := hst; refine wp_regionX [] (S := fun w' => Held W0 w') hdH (fun hHeld => ?_); refine GoesX.take 0 12 [] hHeld (h := ?_); refine GoesX.one 1 (h := fun K hK => ?_); go_simp; (first | (go_at_call 76; refine (iHedOk_c _ _).mono ?_; rintro E w1 ⟨rfl, hb⟩; have hst := xr hb; (try simp only [zA, zC, zD, zN] at hst); obtain ⟨hc, hf, hz⟩ := hst)); (try go_wp2_with fail); refine outS hK hdH (h := fun hH2 => ?_); clear hK K hHeld; have hHeld := hH2; clear hH2; refine GoesX.take 2 14 [] hHeld (h := ?_); refine GoesX.take 3 15 [] hHeld (h := ?_); (first | refine GoesX.take 4 16 [] hHeld (h := ?_) | refine GoesX.skip 4 16 [] hHeld (h := ?_)); (first | refine GoesX.take 5 17 [] hHeld (h := ?_) | refine GoesX.skip 5 17 [] hHeld (h := ?_)); (first | refine GoesX.take 6 18 [] hHeld (h := ?_) | refine GoesX.skip 6 18 [] hHeld (h := ?_)); (first | refine GoesX.take 7 19 [] hHeld (h := ?_) | refine GoesX.skip 7 19 [] hHeld (h := ?_)); (first | refine GoesX.take 8 20 [] hHeld (h := ?_) | refine GoesX.skip 8 20 [] hHeld (h := ?_)); (first | refine GoesX.take 9 21 [] hHeld (h := ?_) | refine GoesX.skip 9 21 [] hHeld (h := ?_)); (first | refine GoesX.take 10 22 [] hHeld (h := ?_) | refine GoesX.skip 10 22 [] hHeld (h := ?_)); (first | refine GoesX.take 11 23 [] hHeld (h := ?_) | refine GoesX.skip 11 23 [] hHeld (h := ?_)); (first | refine GoesX.take 12 24 [] hHeld (h := ?_) | refine GoesX.skip 12 24 [] hHeld (h := ?_)); (first | refine GoesX.take 13 25 [] hHeld (h := ?_) | refine GoesX.skip 13 25 [] hHeld (h := ?_)); (first | refine GoesX.take 14 26 [] hHeld (h := ?_) | refine GoesX.skip 14 26 [] hHeld (h := ?_)); (first | refine GoesX.take 15 27 [] hHeld (h := ?_) | refine GoesX.skip 15 27 [] hHeld (h := ?_)); (first | refine GoesX.take 16 28 [] hHeld (h := ?_) | refine GoesX.skip 16 28 [] hHeld (h := ?_)); refine GoesX.take 17 29 [] hHeld (h := ?_); refine GoesX.done (by kernel_rfl) ?_ _; all_goals (have hb := And.right (by assumption : Held W0 _); have hst := xr hb; (try simp only [zA, zC, zD, zN] at hst); obtain ⟨hc, hf, hz⟩ := hst)))
          all_goals go_wp2
          all_goals go_roundw
          case rel => exact ⟨j + 1 + 1, y.size, by omega, by go_num, ext_, .inr ⟨j + 1, y, rfl, Hy.out, rfl, y0⟩, by rw [Hrel.out, hin]; simp [hpy]⟩
          case measure => simp [intOf]; omega
        · have hpy' : y.size ≤ z.size := by omega
          have hlt' : decide (z.size < y.size) = false := by rw [decide_eq_false_iff_not]; omega
          go_wp2_with fail
          (focus (refine wp_name ?_; intro W0 hb0; have hst := xr hb0; (try simp only [zA, zC, zD, zN] at hst); obtain ⟨hc0, hf0, hz0⟩ := hst; refine wp_regionX [] (S := fun w' => Held W0 w') hdH (fun hHeld => ?_); refine GoesX.take 0 12 [] hHeld (h := ?_); refine GoesX.one 1 (h := fun K hK => ?_); go_simp; (first | (go_at_call 76; refine (iHedOk_c _ _).mono ?_; rintro E w1 ⟨rfl, hb⟩; have hst := xr hb; (try simp only [zA, zC, zD, zN] at hst); obtain ⟨hc, hf, hz⟩ := hst)); (try go_wp2_with fail); refine outS hK hdH (h := fun hH2 => ?_); clear hK K hHeld; have hHeld := hH2; clear hH2; refine GoesX.take 2 14 [] hHeld (h := ?_); refine GoesX.take 3 15 [] hHeld (h := ?_); (first | refine GoesX.take 4 16 [] hHeld (h := ?_) | refine GoesX.skip 4 16 [] hHeld (h := ?_)); (first | refine GoesX.take 5 17 [] hHeld (h := ?_) | refine GoesX.skip 5 17 [] hHeld (h := ?_)); (first | refine GoesX.take 6 18 [] hHeld (h := ?_) | refine GoesX.skip 6 18 [] hHeld (h := ?_)); (first | refine GoesX.take 7 19 [] hHeld (h := ?_) | refine GoesX.skip 7 19 [] hHeld (h := ?_)); (first | refine GoesX.take 8 20 [] hHeld (h := ?_) | refine GoesX.skip 8 20 [] hHeld (h := ?_)); (first | refine GoesX.take 9 21 [] hHeld (h := ?_) | refine GoesX.skip 9 21 [] hHeld (h := ?_)); (first | refine GoesX.take 10 22 [] hHeld (h := ?_) | refine GoesX.skip 10 22 [] hHeld (h := ?_)); (first | refine GoesX.take 11 23 [] hHeld (h := ?_) | refine GoesX.skip 11 23 [] hHeld (h := ?_)); (first | refine GoesX.take 12 24 [] hHeld (h := ?_) | refine GoesX.skip 12 24 [] hHeld (h := ?_)); (first | refine GoesX.take 13 25 [] hHeld (h := ?_) | refine GoesX.skip 13 25 [] hHeld (h := ?_)); (first | refine GoesX.take 14 26 [] hHeld (h := ?_) | refine GoesX.skip 14 26 [] hHeld (h := ?_)); (first | refine GoesX.take 15 27 [] hHeld (h := ?_) | refine GoesX.skip 15 27 [] hHeld (h := ?_)); (first | refine GoesX.take 16 28 [] hHeld (h := ?_) | refine GoesX.skip 16 28 [] hHeld (h := ?_)); refine GoesX.take 17 29 [] hHeld (h := ?_); refine GoesX.done (by kernel_rfl) ?_ _; all_goals (have hb := And.right (by assumption : Held W0 _); have hst := xr hb; (try simp only [zA, zC, zD, zN] at hst); obtain ⟨hc, hf, hz⟩ := hst)))
          all_goals go_wp2
          all_goals go_ret
          all_goals exact ⟨ret_b (by rw [Hrel.out, hin, hlt']; simp), ext_⟩
    · have Hrel := Lib.hid hrel; clear hrel hp
      go_wp2_with fail
      go_ret
      refine ⟨ret_b ?_, ext_⟩
      have hh := Hrel.out
      rw [List.drop_of_length_le (by have := hl.out; omega)] at hh
      rw [hh]; (first | (simp [Sw.watFrom]; done) | (simp [Sw.watFrom]; omega))

/-- Who meets: what is told. -/
def met (a b : List Sw.Head) : Sw.Head × Sw.Head := (Sw.watMeet a b).getD (Sw.headZ, Sw.headZ)
theorem meet_n {a b : List Sw.Head} (h : (Sw.watOk a && Sw.watOk b) = false) : Sw.watMeet a b = none := by rw [Sw.watMeet, if_neg (by rw [h]; simp)]
theorem meet_y {a b : List Sw.Head} (h : (Sw.watOk a && Sw.watOk b) = true) : Sw.watMeet a b = a.findSome? (fun x => Sw.forkIn x b) := by rw [Sw.watMeet, if_pos h]
theorem forkIn_at {x y : Sw.Head} {b : List Sw.Head} {k : Nat} (hd : b.drop k = y :: b.drop (k + 1)) : Sw.forkIn x (b.drop k) = if Sw.hedFork x y then some (x, y) else Sw.forkIn x (b.drop (k + 1)) := by
  rw [hd]; unfold Sw.forkIn; rw [List.find?_cons]; cases Sw.hedFork x y <;> rfl
theorem find_at {x : Sw.Head} {a b : List Sw.Head} {k : Nat} (hd : a.drop k = x :: a.drop (k + 1)) : (a.drop k).findSome? (fun x => Sw.forkIn x b) = (Sw.forkIn x b).or ((a.drop (k + 1)).findSome? fun x => Sw.forkIn x b) := by
  rw [hd, List.findSome?_cons]; cases Sw.forkIn x b <;> rfl

theorem met_y {a b : List Sw.Head} {p : Sw.Head × Sw.Head} (h : Sw.watMeet a b = some p) : met a b = p := by rw [met, h]; rfl
theorem met_n {a b : List Sw.Head} (h : Sw.watMeet a b = none) : met a b = (Sw.headZ, Sw.headZ) := by rw [met, h]; rfl

theorem sWatMeet_c (A : Option Addr) (c n : Nat) (xs : List Sw.Head) (B : Option Addr) (d m : Nat) (ys : List Sw.Head) (w : World) (hxs : RH w 0 A c n xs) (hys : RH w 0 B d m ys) : Calls Try.prog 26 #[.slice A n c, .slice B m d] w fun E w' => E = .returned (.tuple #[.agg #[.int .i64 (met xs ys).1.size, .int .i64 (met xs ys).1.log, .int .i64 (met xs ys).1.own], .agg #[.int .i64 (met xs ys).2.size, .int .i64 (met xs ys).2.log, .int .i64 (met xs ys).2.own], .bool (Sw.watMeet xs ys).isSome]) ∧ Ex w w' := by
  have hl := Lib.hid hxs.1
  have hl' := Lib.hid hys.1
  have hbig := Rs.big hxs
  have hbig' := Rs.big hys
  cases h1 : (Sw.watOk xs && Sw.watOk ys)
  case false =>
    have e : Sw.watMeet xs ys = none := meet_n h1
    have He := Lib.hid e; clear e
    have H1 := Lib.hid h1; clear h1
    go_enter Try.func26, Try.ntmps26
    go_wp2_with fail
    (refine wp_name ?_; intro W0 hb0; have hst := xr hb0; (try simp only [zA, zC, zD, zN] at hst); obtain ⟨hc0, hf0, hz0⟩ := hst)
    go_loopw [7] (fun i wr => i = .int .i64 0 ∧ Ex W0 wr) (fun _ _ => 0)
    case atStart => exact ⟨rfl, Ch.refl _ _⟩
    case round =>
      obtain ⟨rfl, hb2⟩ := hrel
      have hst := xr hb2
      obtain ⟨hc2, hf2, hz2⟩ := hst
      by_cases h0 : n = 0
      · subst h0
        go_wp2_with fail
        refine bodyPost_ret (v := .tuple #[.agg #[.int .i64 0, .int .i64 0, .int .i64 0], .agg #[.int .i64 0, .int .i64 0, .int .i64 0], .bool false]) (by simp [results, Try.results26, go_sem, *]) rfl ?_
        exact ⟨by rw [met_n He.out, He.out]; rfl, ext_⟩
      · have h0' : (0 : Int) < n := by omega
        cases g1 : Sw.watOk xs
        all_goals cases g2 : Sw.watOk ys
        case true.true => have := H1.out; rw [g1, g2] at this; cases this
        all_goals
          go_wp2_with (first | (go_at_call 28; apply Calls.mono; apply sWatOk_c; ((first | (apply Rs.at0; assumption) | (apply Ow.rs0; assumption) | (apply OwT.rs0; assumption)); exact kf_); rintro E w1 ⟨rfl, hb⟩; have hst := xr hb; (try simp only [zA, zC, zD, zN] at hst); obtain ⟨hc, hf, hz⟩ := hst))
          refine bodyPost_ret (v := .tuple #[.agg #[.int .i64 0, .int .i64 0, .int .i64 0], .agg #[.int .i64 0, .int .i64 0, .int .i64 0], .bool false]) (by simp [results, Try.results26, go_sem, *]) rfl ?_
          exact ⟨by rw [met_n He.out, He.out]; rfl, ext_⟩
  have e := meet_y h1
  have He := Lib.hid e; clear e
  obtain ⟨g1, g2⟩ := Bool.and_eq_true_iff.1 h1
  clear h1
  go_enter Try.func26, Try.ntmps26
  go_wp2_with fail
  (refine wp_name ?_; intro W0 hb0; have hst := xr hb0; (try simp only [zA, zC, zD, zN] at hst); obtain ⟨hc0, hf0, hz0⟩ := hst)
  have hL4 : Lb W0 w.heap.size 3 := Lb.ex (Lb.alloc (Lb.new (by simp) rfl)) hb0
  have hL5 : Lb W0 (w.heap.size + 1) 3 := Lb.ex (Lb.new (by simp) rfl) hb0
  go_loopw [7] (fun i wr => ∃ k : Nat, k ≤ n ∧ i = .int .i64 k ∧ Ex W0 wr ∧ Sw.watMeet xs ys = (xs.drop k).findSome? (fun x => Sw.forkIn x ys)) (fun i _ => n - (intOf i).toNat)
  case atStart => exact ⟨0, Nat.zero_le _, rfl, Ch.refl _ _, He.out⟩
  case round =>
    obtain ⟨k, hk, rfl, hb2, hrel⟩ := hrel
    have hst := xr hb2
    obtain ⟨hc2, hf2, hz2⟩ := hst
    by_cases hlt : k < n
    · obtain ⟨g, off, x, rfl, hg0, hg, hd, hy, q0, q1, q2⟩ := at_H hxs hlt
      rw [find_at hd] at hrel
      have Hrel := Lib.hid hrel
      clear hd hy hrel
      have hlt' : (k : Int) < n := by omega
      go_wp2_with (first | (go_at_call 28; apply Calls.mono; apply sWatOk_c; ((first | (apply Rs.at0; assumption) | (apply Ow.rs0; assumption) | (apply OwT.rs0; assumption)); exact kf_); rintro E w1 ⟨rfl, hb⟩; have hst := xr hb; (try simp only [zA, zC, zD, zN] at hst); obtain ⟨hc, hf, hz⟩ := hst))
      go_loopw [8] (fun i wr => ∃ j : Nat, j ≤ m ∧ i = .int .i64 j ∧ Ex W0 wr ∧ Sw.forkIn x ys = Sw.forkIn x (ys.drop j)) (fun i _ => m - (intOf i).toNat)
      case atStart => exact ⟨0, Nat.zero_le _, rfl, ext_, rfl⟩
      case round =>
        obtain ⟨j, hj, rfl, hb3, hrel⟩ := hrel
        have hst := xr hb3
        obtain ⟨hc3, hf3, hz3⟩ := hst
        by_cases hltj : j < m
        · obtain ⟨g', off', y, rfl, hg0', hg', hd', hy', p0, p1, p2⟩ := at_H hys hltj
          rw [forkIn_at hd'] at hrel
          have HR := Lib.hid hrel
          clear hd' hy' hrel
          cases hfk : Sw.hedFork x y
          case false =>
            go_wp2_with fail
            (refine wp_name ?_; intro W0 hb0; have hst := xr hb0; (try simp only [zA, zC, zD, zN] at hst); obtain ⟨hc0, hf0, hz0⟩ := hst; go_region_held3 (fun w' => Held W0 w') ((first | with_reducible assumption | with_reducible exact Held.start _ | with_reducible exact Held.of (by assumption) | with_reducible exact Held.ex (by assumption) (by assumption) | ((repeat (first | with_reducible refine Held.set ?_ (by simp only [zA, zC, zD, zN]; omega) | with_reducible refine Held.alloc ?_ _ | with_reducible refine Held.drew ?_)); (first | with_reducible assumption | with_reducible exact Held.refl _ | with_reducible exact Held.of (by assumption) | with_reducible exact Held.ex (by assumption) (by assumption))) | exact Held.of (by exact ext_))) ((first | (go_at_call 83; refine (sHedFork_c _ _ _).mono ?_; rintro E w1 ⟨rfl, hb⟩; have hst := xr hb; (try simp only [zA, zC, zD, zN] at hst); obtain ⟨hc, hf, hz⟩ := hst))); all_goals (have hb := And.right (by assumption : Held W0 _); have hst := xr hb; (try simp only [zA, zC, zD, zN] at hst); obtain ⟨hc, hf, hz⟩ := hst))
            all_goals go_wp2
            all_goals go_roundw
            case rel => exact ⟨j + 1, by omega, by go_num, ext_, by have h1 := HR.out; rw [h1, hfk]; simp⟩
            case measure => simp [intOf]; omega
          case true =>
            have HM : Sw.watMeet xs ys = some (x, y) := by rw [Hrel.out, HR.out, hfk]; simp
            have HM := Lib.hid HM
            go_wp2_with fail
            (refine wp_name ?_; intro W0 hb0; have hst := xr hb0; (try simp only [zA, zC, zD, zN] at hst); obtain ⟨hc0, hf0, hz0⟩ := hst; go_region_held3 (fun w' => Held W0 w') ((first | with_reducible assumption | with_reducible exact Held.start _ | with_reducible exact Held.of (by assumption) | with_reducible exact Held.ex (by assumption) (by assumption) | ((repeat (first | with_reducible refine Held.set ?_ (by simp only [zA, zC, zD, zN]; omega) | with_reducible refine Held.alloc ?_ _ | with_reducible refine Held.drew ?_)); (first | with_reducible assumption | with_reducible exact Held.refl _ | with_reducible exact Held.of (by assumption) | with_reducible exact Held.ex (by assumption) (by assumption))) | exact Held.of (by exact ext_))) ((first | (go_at_call 83; refine (sHedFork_c _ _ _).mono ?_; rintro E w1 ⟨rfl, hb⟩; have hst := xr hb; (try simp only [zA, zC, zD, zN] at hst); obtain ⟨hc, hf, hz⟩ := hst))); all_goals (have hb := And.right (by assumption : Held W0 _); have hst := xr hb; (try simp only [zA, zC, zD, zN] at hst); obtain ⟨hc, hf, hz⟩ := hst))
            all_goals go_wp2
            all_goals (refine wp_name ?_; intro W0 hb0; have hst := xr hb0; (try simp only [zA, zC, zD, zN] at hst); obtain ⟨hc0, hf0, hz0⟩ := hst; have hLb : Lb W0 (w.heap.size) 3 := Lb.ex (by exact lbc_) hb0; have hLc : Lb W0 (w.heap.size + 1) 3 := Lb.ex (by exact lbc_) hb0; go_region_held3 (fun w' => HeldC (w.heap.size) 3 (w.heap.size + 1) 3 W0 w') ((first | with_reducible assumption | with_reducible exact HeldC.start hLb hLc | with_reducible exact HeldC.of (by assumption) (by assumption) (by assumption) | ((repeat (first | with_reducible refine HeldC.set ?_ (by first | exact Or.inl (Or.inl rfl) | exact Or.inl (Or.inr rfl) | exact Or.inr (by simp only [zA, zC, zD, zN]; omega) | exact Or.inr (by omega)) | with_reducible refine HeldC.alloc ?_ _ | with_reducible refine HeldC.drew ?_)); (first | with_reducible assumption | with_reducible exact HeldC.chr (by assumption) (by assumption) (Rdp.lb (by assumption)) | with_reducible exact HeldC.refl hLb hLc | with_reducible exact HeldC.of (by assumption) (by assumption) (by assumption) | with_reducible exact HeldC.ex (by assumption) (by assumption))))) (fail); all_goals (rename HeldC (w.heap.size) 3 (w.heap.size + 1) 3 W0 _ => hHx; have hb := HeldC.ch hHx; have hLb3 := HeldC.lb hHx; (repeat (first | with_reducible replace hLb3 := Lb.unset hLb3 | with_reducible replace hLb3 := Lb.undrew hLb3)); obtain ⟨hcb, hfb⟩ := Lb.rules hLb3; have hLc3 := HeldC.lc hHx; (repeat (first | with_reducible replace hLc3 := Lb.unset hLc3 | with_reducible replace hLc3 := Lb.undrew hLc3)); obtain ⟨hcc, hfc⟩ := Lb.rules hLc3; clear hHx))
            all_goals go_wp2
            all_goals refine bodyPost_ret (v := .tuple #[.agg #[.int .i64 x.size, .int .i64 x.log, .int .i64 x.own], .agg #[.int .i64 y.size, .int .i64 y.log, .int .i64 y.own], .bool true]) (by simp [results, Try.results26, go_sem, *]) rfl ?_
            all_goals exact ⟨by rw [met_y HM.out, HM.out]; rfl, ext_⟩
        · have HR := Lib.hid hrel; clear hrel
          go_wp2_with fail
          refine ⟨⟨k + 1, by omega, by go_num, ext_, ?_⟩, by simp [intOf]; omega⟩
          rw [Hrel.out, HR.out, List.drop_of_length_le (by have := hl'.out; omega)]
          rfl
    · have Hrel := Lib.hid hrel; clear hrel
      go_wp2_with fail
      have e : Sw.watMeet xs ys = none := by rw [Hrel.out, List.drop_of_length_le (by have := hl.out; omega)]; rfl
      have HE := Lib.hid e; clear e
      refine bodyPost_ret (v := .tuple #[.agg #[.int .i64 0, .int .i64 0, .int .i64 0], .agg #[.int .i64 0, .int .i64 0, .int .i64 0], .bool false]) (by simp [results, Try.results26, go_sem, *]) rfl ?_
      exact ⟨by rw [met_n HE.out, HE.out]; rfl, ext_⟩

theorem iWatMeet_c (A : Option Addr) (c n : Nat) (xs : List Sw.Head) (B : Option Addr) (d m : Nat) (ys : List Sw.Head) (w : World) (hxs : RH w 0 A c n xs) (hys : RH w 0 B d m ys) : Calls Try.prog 25 #[.slice A n c, .slice B m d] w fun E w' => E = .returned (.tuple #[.agg #[.int .i64 (met xs ys).1.size, .int .i64 (met xs ys).1.log, .int .i64 (met xs ys).1.own], .agg #[.int .i64 (met xs ys).2.size, .int .i64 (met xs ys).2.log, .int .i64 (met xs ys).2.own], .bool (Sw.watMeet xs ys).isSome]) ∧ Ex w w' := by
  have hl := Lib.hid hxs.1
  have hl' := Lib.hid hys.1
  have hbig := Rs.big hxs
  have hbig' := Rs.big hys
  cases h1 : (Sw.watOk xs && Sw.watOk ys)
  case false =>
    have e : Sw.watMeet xs ys = none := meet_n h1
    have He := Lib.hid e; clear e
    have H1 := Lib.hid h1; clear h1
    cases g1 : Sw.watOk xs
    all_goals cases g2 : Sw.watOk ys
    case true.true => have := H1.out; rw [g1, g2] at this; cases this
    all_goals
      go_enter Try.func25, Try.ntmps25
      go_wp2_with (first | (go_at_call 82; apply Calls.mono; apply iWatOk_c; ((first | (apply Rs.at0; assumption) | (apply Ow.rs0; assumption) | (apply OwT.rs0; assumption)); exact kf_); rintro E w1 ⟨rfl, hb⟩; have hst := xr hb; (try simp only [zA, zC, zD, zN] at hst); obtain ⟨hc, hf, hz⟩ := hst))
      refine bodyPost_ret (v := .tuple #[.agg #[.int .i64 0, .int .i64 0, .int .i64 0], .agg #[.int .i64 0, .int .i64 0, .int .i64 0], .bool false]) (by simp [results, Try.results25, go_sem, *]) rfl ?_
      exact ⟨by rw [met_n He.out, He.out]; rfl, ext_⟩
  have e := meet_y h1
  have He := Lib.hid e; clear e
  obtain ⟨g1, g2⟩ := Bool.and_eq_true_iff.1 h1
  clear h1
  go_enter Try.func25, Try.ntmps25
  go_wp2_with (first | (go_at_call 82; apply Calls.mono; apply iWatOk_c; ((first | (apply Rs.at0; assumption) | (apply Ow.rs0; assumption) | (apply OwT.rs0; assumption)); exact kf_); rintro E w1 ⟨rfl, hb⟩; have hst := xr hb; (try simp only [zA, zC, zD, zN] at hst); obtain ⟨hc, hf, hz⟩ := hst))
  (refine wp_name ?_; intro W0 hb0; have hst := xr hb0; (try simp only [zA, zC, zD, zN] at hst); obtain ⟨hc0, hf0, hz0⟩ := hst)
  have hL4 : Lb W0 w.heap.size 3 := (by (repeat (apply Lb.ex; rotate_left; assumption)); exact Lb.alloc (Lb.new (by simp) rfl))
  have hL5 : Lb W0 (w.heap.size + 1) 3 := (by (repeat (apply Lb.ex; rotate_left; assumption)); exact Lb.new (by simp) rfl)
  go_loopw [23] (fun i wr => ∃ k : Nat, k ≤ n ∧ i = .int .i64 k ∧ Ex W0 wr ∧ Sw.watMeet xs ys = (xs.drop k).findSome? (fun x => Sw.forkIn x ys)) (fun i _ => n - (intOf i).toNat)
  case atStart => exact ⟨0, Nat.zero_le _, rfl, Ch.refl _ _, He.out⟩
  case round =>
    obtain ⟨k, hk, rfl, hb2, hrel⟩ := hrel
    have hst := xr hb2
    obtain ⟨hc2, hf2, hz2⟩ := hst
    by_cases hlt : k < n
    · obtain ⟨g, off, x, rfl, hg0, hg, hd, hy, q0, q1, q2⟩ := at_H hxs hlt
      rw [find_at hd] at hrel
      have Hrel := Lib.hid hrel
      clear hd hy hrel
      have hlt' : (k : Int) < n := by omega
      go_wp2_with fail
      refine wp_name ?_; intro W1 hb1; have hst := xr hb1; (try simp only [zA, zC, zD] at hst); obtain ⟨hc1, hf1, hz1⟩ := hst
      go_loopw [29] (fun i wr => ∃ j : Nat, j ≤ m ∧ i = .int .i64 j ∧ Ex W1 wr ∧ Sw.forkIn x ys = Sw.forkIn x (ys.drop j)) (fun i _ => m - (intOf i).toNat)
      case atStart => exact ⟨0, Nat.zero_le _, rfl, ext_, rfl⟩
      case round =>
        obtain ⟨j, hj, rfl, hb3, hrel⟩ := hrel
        have hst := xr hb3
        obtain ⟨hc3, hf3, hz3⟩ := hst
        by_cases hltj : j < m
        · obtain ⟨g', off', y, rfl, hg0', hg', hd', hy', p0, p1, p2⟩ := at_H hys hltj
          rw [forkIn_at hd'] at hrel
          have HR := Lib.hid hrel
          clear hd' hy' hrel
          cases hfk : Sw.hedFork x y
          case false =>
            go_wp2_with (first | (go_at_call 27; refine (iHedFork_c _ _ _).mono ?_; rintro E w1 ⟨rfl, hb⟩; have hst := xr hb; (try simp only [zA, zC, zD, zN] at hst); obtain ⟨hc, hf, hz⟩ := hst))
            all_goals go_roundw
            case rel => exact ⟨j + 1, by omega, by go_num, ext_, by have h1 := HR.out; rw [h1, hfk]; simp⟩
            case measure => simp [intOf]; omega
          case true =>
            have HM : Sw.watMeet xs ys = some (x, y) := by rw [Hrel.out, HR.out, hfk]; simp
            have HM := Lib.hid HM
            go_wp2_with (first | (go_at_call 27; refine (iHedFork_c _ _ _).mono ?_; rintro E w1 ⟨rfl, hb⟩; have hst := xr hb; (try simp only [zA, zC, zD, zN] at hst); obtain ⟨hc, hf, hz⟩ := hst))
            all_goals (refine wp_name ?_; intro W0 hb0; have hst := xr hb0; (try simp only [zA, zC, zD, zN] at hst); obtain ⟨hc0, hf0, hz0⟩ := hst; have hLb : Lb W0 (w.heap.size) 3 := Lb.ex (by exact lbc_) hb0; have hLc : Lb W0 (w.heap.size + 1) 3 := Lb.ex (by exact lbc_) hb0; go_region_held3 (fun w' => HeldC (w.heap.size) 3 (w.heap.size + 1) 3 W0 w') ((first | with_reducible assumption | with_reducible exact HeldC.start hLb hLc | with_reducible exact HeldC.of (by assumption) (by assumption) (by assumption) | ((repeat (first | with_reducible refine HeldC.set ?_ (by first | exact Or.inl (Or.inl rfl) | exact Or.inl (Or.inr rfl) | exact Or.inr (by simp only [zA, zC, zD, zN]; omega) | exact Or.inr (by omega)) | with_reducible refine HeldC.alloc ?_ _ | with_reducible refine HeldC.drew ?_)); (first | with_reducible assumption | with_reducible exact HeldC.chr (by assumption) (by assumption) (Rdp.lb (by assumption)) | with_reducible exact HeldC.refl hLb hLc | with_reducible exact HeldC.of (by assumption) (by assumption) (by assumption) | with_reducible exact HeldC.ex (by assumption) (by assumption))))) (fail); all_goals (rename HeldC (w.heap.size) 3 (w.heap.size + 1) 3 W0 _ => hHx; have hb := HeldC.ch hHx; have hLb3 := HeldC.lb hHx; (repeat (first | with_reducible replace hLb3 := Lb.unset hLb3 | with_reducible replace hLb3 := Lb.undrew hLb3)); obtain ⟨hcb, hfb⟩ := Lb.rules hLb3; have hLc3 := HeldC.lc hHx; (repeat (first | with_reducible replace hLc3 := Lb.unset hLc3 | with_reducible replace hLc3 := Lb.undrew hLc3)); obtain ⟨hcc, hfc⟩ := Lb.rules hLc3; clear hHx))
            all_goals go_wp2
            all_goals refine bodyPost_ret (v := .tuple #[.agg #[.int .i64 x.size, .int .i64 x.log, .int .i64 x.own], .agg #[.int .i64 y.size, .int .i64 y.log, .int .i64 y.own], .bool true]) (by simp [results, Try.results25, go_sem, *]) rfl ?_
            all_goals exact ⟨by rw [met_y HM.out, HM.out]; rfl, ext_⟩
        · have HR := Lib.hid hrel; clear hrel
          go_wp2_with fail
          refine ⟨⟨k + 1, by omega, by go_num, ext_, ?_⟩, by simp [intOf]; omega⟩
          rw [Hrel.out, HR.out, List.drop_of_length_le (by have := hl'.out; omega)]
          rfl
    · have Hrel := Lib.hid hrel; clear hrel
      go_wp2_with fail
      have e : Sw.watMeet xs ys = none := by rw [Hrel.out, List.drop_of_length_le (by have := hl.out; omega)]; rfl
      have HE := Lib.hid e; clear e
      refine bodyPost_ret (v := .tuple #[.agg #[.int .i64 0, .int .i64 0, .int .i64 0], .agg #[.int .i64 0, .int .i64 0, .int .i64 0], .bool false]) (by simp [results, Try.results25, go_sem, *]) rfl ?_
      exact ⟨by rw [met_n HE.out, HE.out]; rfl, ext_⟩

theorem iHedAt_c (A : Option Addr) (c n : Nat) (s : Int) (xs : List Sw.Ent) (w : World) (hxs : RE w 0 A c n xs) : Calls Try.prog 84 #[.slice A n c, .int .i64 s] w fun E w' => E = .returned (.tuple #[.agg #[.int .i64 ((Sw.hedAt xs s).getD Sw.headZ).size, .int .i64 ((Sw.hedAt xs s).getD Sw.headZ).log, .int .i64 ((Sw.hedAt xs s).getD Sw.headZ).own], .bool (Sw.hedAt xs s).isSome]) ∧ Ex w w' := by
  have hl := Lib.hid hxs.1
  have hcap := hxs.2.le
  have hbig := Rs.big hxs
  cases h1 : Sw.inR s 0 n with
  | true =>
    have b1 : 0 ≤ s ∧ s ≤ n := by simpa [Sw.inR] using h1
    obtain ⟨k, rfl⟩ := Int.eq_ofNat_of_zero_le (show 0 ≤ s by omega)
    have z0 : (0 : Int) ≤ ↑k := by omega
    have z1 : (↑k : Int) ≤ ↑n := by omega
    have z2 : (↑k : Int) ≤ ↑c := by omega
    have e : Sw.hedAt xs k = Sw.hedOf (xs.take k) := by rw [Sw.hedAt, ← hl.out, h1]; rfl
    rw [e]
    clear e
    go_enter Try.func84, Try.ntmps84
    go_wp2_with (first | (go_at_call 96; refine (in_c _ _ _ _).mono ?_; rintro E w' ⟨rfl, rfl⟩) | (go_at_call 98; apply Calls.mono; apply iHedOf_c; (apply Rs.at0; apply Rs.take hxs (fun _ => rfl); omega; (exact kf_)); rintro E w1 ⟨rfl, hb⟩; have hst := xr hb; (try simp only [zA, zC, zD, zN] at hst); obtain ⟨hc, hf, hz⟩ := hst))
    refine bodyPost_ret (v := .tuple #[.agg #[.int .i64 ((Sw.hedOf (xs.take k)).getD Sw.headZ).size, .int .i64 ((Sw.hedOf (xs.take k)).getD Sw.headZ).log, .int .i64 ((Sw.hedOf (xs.take k)).getD Sw.headZ).own], .bool (Sw.hedOf (xs.take k)).isSome]) (by simp [results, Try.results84, go_sem, *]) rfl ?_
    exact ⟨rfl, ext_⟩
  | false =>
    have e : Sw.hedAt xs s = none := by rw [Sw.hedAt, ← hl.out, h1]; rfl
    rw [e]
    go_enter Try.func84, Try.ntmps84
    go_wp2_with (first | (go_at_call 96; refine (in_c _ _ _ _).mono ?_; rintro E w' ⟨rfl, rfl⟩))
    refine bodyPost_ret (v := .tuple #[.agg #[.int .i64 0, .int .i64 0, .int .i64 0], .bool false]) (by simp [results, Try.results84, go_sem, *]) rfl ?_
    exact ⟨rfl, ext_⟩

def headAt (log : List Sw.Ent) (h : Sw.Head) : Bool := decide (Sw.hedAt log h.size = some h)
theorem iWatAll_c (A : Option Addr) (c n : Nat) (xs : List Sw.Head) (B : Option Addr) (d m : Nat) (log : List Sw.Ent) (w : World) (hxs : RH w 0 A c n xs) (hlog : RE w 0 B d m log) : Calls Try.prog 30 #[.slice A n c, .slice B m d] w fun E w' => E = .returned (.bool (Sw.watAll xs log)) ∧ Ex w w' := by
  have hl := Lib.hid hxs.1
  have hbig := Rs.big hxs
  have e : Sw.watAll xs log = (xs.all (headAt log) && Sw.watOk xs) := by rw [Bool.and_comm]; rfl
  rw [e]; clear e
  go_enter Try.func30, Try.ntmps30
  go_wp2_with fail
  go_loopw [11] (fun i wr => ∃ k : Nat, k ≤ n ∧ i = .int .i64 k ∧ Ex w wr ∧ xs.all (headAt log) = (xs.drop k).all (headAt log)) (fun i _ => n - (intOf i).toNat)
  case atStart => exact ⟨0, Nat.zero_le _, rfl, Ch.refl _ _, rfl⟩
  case round =>
    obtain ⟨k, hk, rfl, hb2, hrel⟩ := hrel
    have hst := xr hb2
    obtain ⟨hc2, hf2, hz2⟩ := hst
    by_cases hlt : k < n
    · obtain ⟨g, off, y, rfl, hg0, hg, hd, hy, q0, q1, q2⟩ := at_H hxs hlt
      rw [hd, List.all_cons] at hrel
      have Hrel := Lib.hid hrel
      clear hd hy hrel
      cases he : Sw.hedAt log y.size with
      | none =>
        have hs : (Sw.hedAt log y.size).isSome = false := by rw [he]; rfl
        have hp : headAt log y = false := by unfold headAt; rw [he]; rfl
        clear he
        have Hp := Lib.hid hp; clear hp
        go_wp2_with (first | (go_at_call 84; apply Calls.mono; apply iHedAt_c; ((first | (apply Rs.at0; assumption) | (apply Ow.rs0; assumption) | (apply OwT.rs0; assumption)); exact kf_); rintro E w1 ⟨rfl, hb⟩; have hst := xr hb; (try simp only [zA, zC, zD, zN] at hst); obtain ⟨hc, hf, hz⟩ := hst))
        all_goals go_ret
        all_goals exact ⟨ret_b (by rw [Hrel.out, Hp.out]; simp), ext_⟩
      | some x =>
        have hs : (Sw.hedAt log y.size).isSome = true := by rw [he]; rfl
        have hg1 : (Sw.hedAt log y.size).getD Sw.headZ = x := by rw [he]; rfl
        by_cases hxy : x = y
        · have hp : headAt log y = true := by unfold headAt; rw [he, hxy]; simp
          subst hxy
          clear he
          have Hp := Lib.hid hp; clear hp
          go_wp2_with (first | (go_at_call 84; apply Calls.mono; apply iHedAt_c; ((first | (apply Rs.at0; assumption) | (apply Ow.rs0; assumption) | (apply OwT.rs0; assumption)); exact kf_); rintro E w1 ⟨rfl, hb⟩; have hst := xr hb; (try simp only [zA, zC, zD, zN] at hst); obtain ⟨hc, hf, hz⟩ := hst))
          all_goals go_roundw
          case rel => exact ⟨k + 1, by omega, by go_num, ext_, by rw [Hrel.out, Hp.out]; simp⟩
          case measure => simp [intOf]; omega
        · have hp : headAt log y = false := by unfold headAt; rw [he]; simp [hxy]
          have hne : decide (x.size = y.size ∧ x.log = y.log ∧ x.own = y.own) = false := by rw [decide_eq_false_iff_not]; exact fun h => hxy (head_ext.2 h)
          clear he hxy
          have Hp := Lib.hid hp; clear hp
          go_wp2_with (first | (go_at_call 84; apply Calls.mono; apply iHedAt_c; ((first | (apply Rs.at0; assumption) | (apply Ow.rs0; assumption) | (apply OwT.rs0; assumption)); exact kf_); rintro E w1 ⟨rfl, hb⟩; have hst := xr hb; (try simp only [zA, zC, zD, zN] at hst); obtain ⟨hc, hf, hz⟩ := hst))
          all_goals first | (go_ret; exact ⟨ret_b (by rw [Hrel.out, Hp.out]; simp), ext_⟩) | (exfalso; have h1 := of_decide_eq_false hne; simp_all; done)
    · have Hrel := Lib.hid hrel; clear hrel
      go_wp2_with (first | (go_at_call 82; apply Calls.mono; apply iWatOk_c; ((first | (apply Rs.at0; assumption) | (apply Ow.rs0; assumption) | (apply OwT.rs0; assumption)); exact kf_); rintro E w1 ⟨rfl, hb⟩; have hst := xr hb; (try simp only [zA, zC, zD, zN] at hst); obtain ⟨hc, hf, hz⟩ := hst))
      go_ret
      exact ⟨ret_b (by rw [Hrel.out, List.drop_of_length_le (by have := hl.out; omega)]; simp), ext_⟩
end Go.Proofs.Ytgceeggfdomdjaa

namespace Go.Proofs.Ytgceeggfdomdjaa
set_option maxRecDepth 100000
set_option linter.unusedSimpArgs false
set_option linter.unusedVariables false
open Go.RowKit Go
set_option maxHeartbeats 400000

theorem eqIntS_c (A : Option Addr) (c n : Nat) (xs : List Int) (B : Option Addr) (d m : Nat) (ys : List Int) (w : World) (hxs : RI w 0 A c n xs) (hys : RI w 0 B d m ys) : Calls Try.prog 120 #[.slice A n c, .slice B m d] w fun E w' => E = .returned (.bool (decide (xs = ys))) ∧ Ex w w' := by
  have hl := Lib.hid hxs.1
  have hl' := Lib.hid hys.1
  have hbig : n ≤ 9223372036854775807 := by have := hxs.2.le; have := hxs.2.cap; unfold maxLen at this; omega
  by_cases hnm : n = m
  case neg =>
    have hb : ((n : Int) == m) = false := by simp; omega
    have e : decide (xs = ys) = false := by
      rw [decide_eq_false_iff_not]; rintro rfl
      have := hl.out; have := hl'.out; omega
    rw [e]; clear e
    go_enter Try.func120, Try.ntmps120
    go_wp2_with fail
    go_ret
    exact ⟨rfl, ext_⟩
  subst hnm
  go_enter Try.func120, Try.ntmps120
  go_wp2_with fail
  go_loopw [5] (fun i wr => ∃ k : Nat, k ≤ n ∧ i = .int .i64 k ∧ Ex w wr ∧ decide (xs = ys) = decide (xs.drop k = ys.drop k)) (fun i _ => n - (intOf i).toNat)
  case atStart => exact ⟨0, Nat.zero_le _, rfl, Ch.refl _ _, rfl⟩
  case round =>
    obtain ⟨k, hk, rfl, hb2, hrel⟩ := hrel
    have hst := Ex.rules hb2 rfl
    obtain ⟨hc2, hf2, hz2⟩ := hst
    by_cases hlt : k < n
    · obtain ⟨g, off, y, rfl, hg0, hg, hd, hy, hcy⟩ := at_I hxs hlt
      obtain ⟨g', off', z, rfl, hg0', hg', hd', hz', hcz⟩ := at_I hys hlt
      have t1 : (0 : Int) ≤ (k : Int) := by omega
      have t2 : (k : Int) < (n : Int) := by omega
      rw [hd, hd'] at hrel
      have Hrel := Lib.hid hrel
      clear hrel hd hd' hy hz'
      by_cases hyz : y = z
      · subst hyz
        go_wp2_with fail
        go_quiet ((first | fail))
        go_wp2
        go_roundw
        case rel => exact ⟨k + 1, by omega, by go_num, ext_, by rw [Hrel.out]; simp⟩
        case measure => simp [intOf]; omega
      · go_wp2_with fail
        go_quiet ((first | fail))
        go_wp2
        go_ret
        exact ⟨ret_b (by rw [Hrel.out]; simp [hyz]), ext_⟩
    · have Hrel := Lib.hid hrel; clear hrel
      go_wp2_with fail
      go_ret
      refine ⟨ret_b ?_, ext_⟩
      rw [Hrel.out, List.drop_of_length_le (by have := hl.out; omega), List.drop_of_length_le (by have := hl'.out; omega)]
      simp

end Go.Proofs.Ytgceeggfdomdjaa

namespace Go.Proofs.Ytgceeggfdomdjaa
set_option maxRecDepth 100000
set_option linter.unusedSimpArgs false
set_option linter.unusedVariables false
open Go.RowKit Go
set_option maxHeartbeats 400000

/-- n numbers from k on. -/
def marks : Int → Nat → List Int
  | _, 0 => []
  | k, n + 1 => k :: marks (k + 1) n
theorem marks_len : ∀ (n : Nat) (k : Int), (marks k n).length = n
  | 0, _ => rfl
  | n + 1, k => by rw [marks, List.length_cons, marks_len n]
theorem marks_at : ∀ (n j : Nat) (k : Int), j < n → (marks k n)[j]? = some (k + j)
  | 0, j, k, h => absurd h (Nat.not_lt_zero _)
  | n + 1, 0, k, _ => by simp [marks]
  | n + 1, j + 1, k, h => by
    rw [marks, List.getElem?_cons_succ, marks_at n j (k + 1) (by omega)]
    congr 1; omega
theorem marks_succ : ∀ (n : Nat) (k : Int), marks k (n + 1) = marks k n ++ [k + n]
  | 0, k => by simp [marks]
  | n + 1, k => by
    rw [marks, marks_succ n (k + 1)]
    simp only [marks, List.cons_append, List.cons.injEq, true_and]
    congr 2; omega
theorem marks_set {xs : List Int} {k : Int} {j n : Nat} (hn : n = xs.length) (hj : j < n) : (marks k j ++ xs.drop j).set j (k + j) = marks k (j + 1) ++ xs.drop (j + 1) := by
  rw [List.set_append_right _ _ (by rw [marks_len]; omega), marks_len, Nat.sub_self, marks_succ, List.append_assoc]
  congr 1
  rw [List.drop_eq_getElem_cons (by omega), List.set_cons_zero]
  rfl
theorem marks_old {xs : List Int} {k : Int} {j n : Nat} (hn : n = xs.length) (hj : j < n) : ∃ y, (marks k j ++ xs.drop j)[j]? = some y := by
  refine ⟨xs[j]'(by omega), ?_⟩
  rw [List.getElem?_append_right (by rw [marks_len]; omega), marks_len, Nat.sub_self, List.getElem?_drop]
  simp

theorem markIntS_c (A : Option Addr) (c n lo : Nat) (xs : List Int) (k : Int) (w : World) (hxs : OwI w lo A c n xs) (hk0 : 0 ≤ k) (hk1 : k ≤ 67108864) (hn : n ≤ 4194304) : Calls Try.prog 123 #[.slice A n c, .int .i64 k] w fun E w' => E = .returned (.int .i64 (k + n)) ∧ OwI w' lo A c n (marks k n) ∧ Ch (atA A) w w' := by
  have hl := Lib.hid hxs.1
  go_enter Try.func123, Try.ntmps123
  go_wp2_with fail
  go_loopw [5, 1] (fun i kk wr => ∃ j : Nat, j ≤ n ∧ i = .int .i64 j ∧ kk = .int .i64 (k + j) ∧ Ch (atA A) w wr ∧ OwI wr lo A c n (marks k j ++ xs.drop j)) (fun i _ _ => n - (intOf i).toNat)
  case atStart => exact ⟨0, Nat.zero_le _, rfl, by simp, Ch.refl _ _, hxs⟩
  case round =>
    obtain ⟨j, hj, rfl, rfl, hb2, hrel⟩ := hrel
    by_cases hlt : j < n
    · obtain ⟨g', x', rfl, hg0', hg', hx', hc', hfr⟩ := at_OI hrel hlt
      have Hs := Lib.hid (OI_set hrel rfl hx' (k + j))
      have hw : IntKind.i64.wrap (k + j + 1) = k + ((j + 1 : Nat) : Int) := by rw [IntWalk.i64_in _ (by omega)]; omega
      have Hb := Lib.hid hb2
      clear hrel hx' hb2
      go_wp2_with fail
      go_roundw
      case rel =>
        refine ⟨j + 1, by omega, by go_num, rfl, Ch.setCell (p := ⟨g', j, none⟩) Hb.out (Or.inl ⟨⟨g', 0, none⟩, rfl, rfl⟩) _, ?_⟩
        have := Hs.out
        rw [marks_set hl.out hlt] at this
        exact this
      case measure => simp [intOf]; omega
    · have Hrel := Lib.hid hrel; clear hrel
      go_wp2_with fail
      go_ret
      obtain rfl : j = n := by omega
      have := Hrel.out
      rw [List.drop_of_length_le (by have := hl.out; omega), List.append_nil] at this
      exact ⟨rfl, this, hb2⟩

theorem heldIntS_c (A : Option Addr) (c n : Nat) (k : Int) (w : World) (hxs : RI w 0 A c n (marks k n)) (hk0 : 0 ≤ k) (hk1 : k ≤ 67108864) (hn : n ≤ 4194304) : Calls Try.prog 126 #[.slice A n c, .int .i64 k] w fun E w' => E = .returned (.int .i64 (k + n)) ∧ w = w' := by
  go_enter Try.func126, Try.ntmps126
  go_wp2
  go_loop [5, 1] (fun i kk => ∃ j : Nat, j ≤ n ∧ i = .int .i64 j ∧ kk = .int .i64 (k + j)) (fun i _ => n - (intOf i).toNat)
  case atStart => exact ⟨0, Nat.zero_le _, rfl, by simp⟩
  case round =>
    obtain ⟨j, hj, rfl, rfl⟩ := hrel
    by_cases hlt : j < n
    · obtain ⟨g, off, y, rfl, hg0, hg, hd, hy, hcy⟩ := at_I hxs hlt
      rw [marks_at n j k hlt] at hy
      obtain rfl := Option.some.inj hy
      have hw : IntKind.i64.wrap (k + j + 1) = k + ((j + 1 : Nat) : Int) := by rw [IntWalk.i64_in _ (by omega)]; omega
      clear hd hy
      go_wp2
      go_round
      case rel => exact ⟨j + 1, by omega, by go_num, rfl⟩
      case measure => simp [intOf]; omega
    · go_wp2
      go_ret
      obtain rfl : j = n := by omega
      exact ⟨rfl, rfl⟩

end Go.Proofs.Ytgceeggfdomdjaa

namespace Go.Proofs.Ytgceeggfdomdjaa
set_option maxRecDepth 100000
set_option linter.unusedSimpArgs false
set_option linter.unusedVariables false
open Go.RowKit Go
set_option maxHeartbeats 400000

theorem swInts_c (A : Option Addr) (c n : Nat) (xs : List Int) (B : Option Addr) (d m : Nat) (ys : List Int) (w : World) (hxs : RI w 0 A c n xs) (hys : RI w 0 B d m ys) : Calls Try.prog 23 #[.slice A n c, .slice B m d] w fun E w' => E = .returned (.bool (decide (xs = ys))) ∧ Ex w w' := by
  have hl := Lib.hid hxs.1
  have hl' := Lib.hid hys.1
  have hbig : n ≤ 9223372036854775807 := by have := hxs.2.le; have := hxs.2.cap; unfold maxLen at this; omega
  by_cases hnm : n = m
  case neg =>
    have hb : ((n : Int) == m) = false := by simp; omega
    have e : decide (xs = ys) = false := by
      rw [decide_eq_false_iff_not]; rintro rfl
      have := hl.out; have := hl'.out; omega
    rw [e]; clear e
    go_enter Try.func23, Try.ntmps23
    go_wp2_with fail
    go_ret
    exact ⟨rfl, ext_⟩
  subst hnm
  go_enter Try.func23, Try.ntmps23
  go_wp2_with fail
  go_loopw [5] (fun i wr => ∃ k : Nat, k ≤ n ∧ i = .int .i64 k ∧ Ex w wr ∧ decide (xs = ys) = decide (xs.drop k = ys.drop k)) (fun i _ => n - (intOf i).toNat)
  case atStart => exact ⟨0, Nat.zero_le _, rfl, Ch.refl _ _, rfl⟩
  case round =>
    obtain ⟨k, hk, rfl, hb2, hrel⟩ := hrel
    have hst := Ex.rules hb2 rfl
    obtain ⟨hc2, hf2, hz2⟩ := hst
    by_cases hlt : k < n
    · obtain ⟨g, off, y, rfl, hg0, hg, hd, hy, hcy⟩ := at_I hxs hlt
      obtain ⟨g', off', z, rfl, hg0', hg', hd', hz', hcz⟩ := at_I hys hlt
      have t1 : (0 : Int) ≤ (k : Int) := by omega
      have t2 : (k : Int) < (n : Int) := by omega
      rw [hd, hd'] at hrel
      have Hrel := Lib.hid hrel
      clear hrel hd hd' hy hz'
      by_cases hyz : y = z
      · subst hyz
        go_wp2_with fail
        go_quiet ((first | fail))
        go_wp2
        go_roundw
        case rel => exact ⟨k + 1, by omega, by go_num, ext_, by rw [Hrel.out]; simp⟩
        case measure => simp [intOf]; omega
      · go_wp2_with fail
        go_quiet ((first | fail))
        go_wp2
        go_ret
        exact ⟨ret_b (by rw [Hrel.out]; simp [hyz]), ext_⟩
    · have Hrel := Lib.hid hrel; clear hrel
      go_wp2_with fail
      go_ret
      refine ⟨ret_b ?_, ext_⟩
      rw [Hrel.out, List.drop_of_length_le (by have := hl.out; omega), List.drop_of_length_le (by have := hl'.out; omega)]
      simp


theorem swOk_c (w : World) : Calls Try.prog 21 #[] w fun E w' => E = .returned (.bool true) ∧ w = w' := by
  have h1 : Sw.mixOk 1 = true := rfl
  go_enter Try.func21, Try.ntmps21
  go_wp2_with (first | (go_at_call 79; refine (iMixOk_c _ _).mono ?_; rintro E w' ⟨rfl, rfl⟩))
  go_ret
  exact ⟨ret_b (by simp [h1]), rfl⟩

theorem swGate_c (t : Sw.Head) (A : Option Addr) (c n : Nat) (xs : List Int) (u : Sw.Head) (B : Option Addr) (d m : Nat) (ys : List Int) (w : World) (hxs : RI w 0 A c n xs) (hys : RI w 0 B d m ys) : Calls Try.prog 18 #[.agg #[.int .i64 t.size, .int .i64 t.log, .int .i64 t.own, .slice A n c], .agg #[.int .i64 u.size, .int .i64 u.log, .int .i64 u.own, .slice B m d]] w fun E w' => E = .returned (.bool (decide (t = u) && decide (xs = ys))) ∧ Ex w w' := by
  go_enter Try.func18, Try.ntmps18
  go_wp2_with (first | (go_at_call 23; apply Calls.mono; apply swInts_c; ((first | (apply Rs.at0; assumption) | (apply Ow.rs0; assumption)); exact kf_); ((first | (apply Rs.at0; assumption) | (apply Ow.rs0; assumption)); exact kf_); rintro E w1 ⟨rfl, hb⟩; have hst := xr hb; (try simp only [zA, zC, zD, zN] at hst); obtain ⟨hc, hf, hz⟩ := hst))
  all_goals (go_ret; refine ⟨ret_b ?_, ext_⟩; go_tidy; simp only [head_ext])
  all_goals (first | (simp [*]; done) | (simp_all; done))
end Go.Proofs.Ytgceeggfdomdjaa

namespace Go.Proofs.Ytgceeggfdomdjaa
set_option maxRecDepth 100000
set_option linter.unusedSimpArgs false
set_option linter.unusedVariables false
open Go.RowKit Go
set_option maxHeartbeats 4000000

theorem anyFork_step {xs ys : List Sw.Head} {k : Nat} {x : Sw.Head} (h : xs[k]? = some x) : Sw.anyFork (xs.take (k + 1)) ys = (Sw.anyFork (xs.take k) ys || ys.any fun y => Sw.hedFork x y) := by
  unfold Sw.anyFork
  rw [List.take_add_one, h, List.any_append]
  simp
theorem any_step {ys : List Sw.Head} {k : Nat} {x y : Sw.Head} (h : ys[k]? = some y) : ((ys.take (k + 1)).any fun y => Sw.hedFork x y) = (((ys.take k).any fun y => Sw.hedFork x y) || Sw.hedFork x y) := by
  rw [List.take_add_one, h, List.any_append]
  simp
theorem meet_none {xs ys : List Sw.Head} (h : (Sw.watOk xs && Sw.watOk ys) = false) : (Sw.watMeet xs ys).isSome = false := by rw [meet_n h]; rfl
theorem met_fork {xs ys : List Sw.Head} (h : (Sw.watMeet xs ys).isSome = true) : Sw.hedFork (met xs ys).1 (met xs ys).2 = true := by
  obtain ⟨p, hp⟩ := Option.isSome_iff_exists.1 h
  rw [met_y hp]
  exact (Sw.watMeet_fork hp).2.2

theorem fnWatMeet_c (A : Option Addr) (c n : Nat) (bs : List Int) (A2 : Option Addr) (c2 n2 : Nat) (bs2 : List Int) (w : World) (hxs : RB w 0 A c n bs) (hq : ∀ x ∈ bs, 0 ≤ x ∧ x ≤ 255) (hxs2 : RB w 0 A2 c2 n2 bs2) (hq2 : ∀ x ∈ bs2, 0 ≤ x ∧ x ≤ 255) : Calls Try.prog 4 #[.slice A n c, .slice A2 n2 c2] w fun E w' => E = .returned (.bool true) ∧ Ex w w' := by
  have hbig := Rs.big hxs
  have hbig2 := Rs.big hxs2
  by_cases hn : n ≤ 1048576
  case neg =>
    go_enter Try.func4, Try.ntmps4
    go_wp2_with fail
    go_ret
    exact ⟨rfl, ext_⟩
  by_cases hn2 : n2 ≤ 1048576
  case neg =>
    go_enter Try.func4, Try.ntmps4
    go_wp2_with fail
    go_ret
    exact ⟨rfl, ext_⟩
  go_enter Try.func4, Try.ntmps4
  go_wp2_with fail
  apply Calls.mono
  apply drawWatMeet_c
  · apply Rs.at0 hxs; (exact kf_)
  · exact hq
  rintro E w1 ⟨B, e, k, xs, D, f, l, ys, rfl, ⟨⟨hx, hk⟩, hy, hl⟩, hb⟩
  have hst := xr hb; (try simp only [zA, zC, zD, zN] at hst); obtain ⟨hc, hf, hz⟩ := hst
  clear hxs hq
  have hbb : ∀ x : Bool, (x != x) = false := by simp
  obtain ⟨ok, hok⟩ : ∃ ok, ok = (Sw.watMeet xs ys).isSome := ⟨_, rfl⟩
  have HOK := Lib.hid hok
  clear hok
  go_upto_if 60 with (first | (go_at_call 25; apply Calls.mono; apply iWatMeet_c; (apply Rs.at0 hx; (exact kf_)); (apply Rs.at0 hy; (exact kf_)); rintro E w2 ⟨rfl, hb⟩; rw [← HOK.out]; have hst := xr hb; (try simp only [zA, zC, zD, zN] at hst); obtain ⟨hc, hf, hz⟩ := hst) | (go_at_call 26; apply Calls.mono; apply sWatMeet_c; (apply Rs.at0 hx; (exact kf_)); (apply Rs.at0 hy; (exact kf_)); rintro E w3 ⟨rfl, hb⟩; rw [← HOK.out]; have hst := xr hb; (try simp only [zA, zC, zD, zN] at hst); obtain ⟨hc, hf, hz⟩ := hst) | fail)
  go_wp2_with fail
  (refine wp_name ?_; intro W0 hb0; have hst := xr hb0; (try simp only [zA, zC, zD, zN] at hst); obtain ⟨hc0, hf0, hz0⟩ := hst)
  go_loopw [13, 14] (fun s i wr => ∃ (j : Nat) (acc : Bool), j ≤ k ∧ i = .int .i64 j ∧ s = .bool acc ∧ acc = Sw.anyFork (xs.take j) ys ∧ Ex W0 wr) (fun _ i _ => k - (intOf i).toNat)
  case atStart => exact ⟨0, false, Nat.zero_le _, rfl, rfl, by simp [Sw.anyFork], Ch.refl _ _⟩
  case round =>
    obtain ⟨j, acc, hj, rfl, rfl, hacc, hb3⟩ := hrel
    have hst := xr hb3
    obtain ⟨hc3, hf3, hz3⟩ := hst
    have HA := Lib.hid hacc
    clear hacc
    by_cases hlt : j < k
    · obtain ⟨g, off, x, rfl, hg0, hg, hd, hxj, q0, q1, q2⟩ := at_H hx hlt
      have HX := Lib.hid hxj
      clear hd hxj
      go_wp2_with fail
      go_loopw [13, 15] (fun s i wq => ∃ (t : Nat) (ac : Bool), t ≤ l ∧ i = .int .i64 t ∧ s = .bool ac ∧ ac = (acc || (ys.take t).any fun y => Sw.hedFork x y) ∧ Ex wr wq) (fun _ i _ => l - (intOf i).toNat)
      case atStart => exact ⟨0, acc, Nat.zero_le _, rfl, rfl, by simp, Ch.refl _ _⟩
      case round =>
        obtain ⟨t, ac, ht, rfl, rfl, hac, hb4⟩ := hrel
        have hst := xr hb4
        obtain ⟨hc4, hf4, hz4⟩ := hst
        by_cases hltt : t < l
        · obtain ⟨g', off', y, rfl, hg0', hg', hd', hyt, p0, p1, p2⟩ := at_H hy hltt
          have e1 := any_step (x := x) hyt
          have HC := Lib.hid (And.intro hac e1)
          clear hd' hyt hac e1
          cases ac
          case true =>
            go_wp2_with fail
            (focus (refine wp_name ?_; intro W0 hb0; have hst := xr hb0; (try simp only [zA, zC, zD, zN] at hst); obtain ⟨hc0, hf0, hz0⟩ := hst; refine wp_regionX [] (S := fun w' => Held W0 w') hdH (fun hHeld => ?_); refine GoesX.take 0 73 [] hHeld (h := ?_); refine GoesX.take 1 74 [] hHeld (h := ?_); refine GoesX.skip 2 75 [4, 5, 10, 11, 12] hHeld (h := ?_); refine GoesX.skip 3 76 [4, 5, 10, 11, 12] hHeld (h := ?_); refine GoesX.skip 4 77 [5, 10, 11, 12] hHeld (h := ?_); refine GoesX.skip 5 78 [10, 11, 12] hHeld (h := ?_); refine GoesX.skip 6 79 [8, 9, 10, 11, 12] hHeld (h := ?_); refine GoesX.skip 7 80 [8, 9, 10, 11, 12] hHeld (h := ?_); refine GoesX.skip 8 81 [9, 10, 11, 12] hHeld (h := ?_); refine GoesX.skip 9 82 [10, 11, 12] hHeld (h := ?_); refine GoesX.skip 10 83 [11, 12] hHeld (h := ?_); refine GoesX.take 11 84 [] hHeld (h := ?_); refine GoesX.take 12 13 [] hHeld (h := ?_); refine GoesX.done (by kernel_rfl) ?_ _; all_goals (have hb := And.right (by assumption : Held W0 _); have hst := xr hb; (try simp only [zA, zC, zD, zN] at hst); obtain ⟨hc, hf, hz⟩ := hst)))
            all_goals go_wp2_with fail
            all_goals go_roundw
            case rel => exact ⟨t + 1, true, by omega, by go_num, rfl, by have h1 := HC.out; rw [h1.2, ← Bool.or_assoc, ← h1.1]; rfl, ext_⟩
            case measure => simp [intOf]; omega
          case false =>
            go_wp2_with fail
            (focus (refine wp_name ?_; intro W0 hb0; have hst := xr hb0; (try simp only [zA, zC, zD, zN] at hst); obtain ⟨hc0, hf0, hz0⟩ := hst; refine wp_regionX [] (S := fun w' => Held W0 w') hdH (fun hHeld => ?_); refine GoesX.take 0 73 [] hHeld (h := ?_); refine GoesX.take 1 74 [] hHeld (h := ?_); (first | refine GoesX.take 2 75 [] hHeld (h := ?_) | refine GoesX.skip 2 75 [] hHeld (h := ?_)); (first | refine GoesX.take 3 76 [] hHeld (h := ?_) | refine GoesX.skip 3 76 [] hHeld (h := ?_)); (first | refine GoesX.take 4 77 [] hHeld (h := ?_) | refine GoesX.skip 4 77 [] hHeld (h := ?_)); (first | refine GoesX.take 5 78 [] hHeld (h := ?_) | refine GoesX.skip 5 78 [] hHeld (h := ?_)); (first | refine GoesX.take 6 79 [] hHeld (h := ?_) | refine GoesX.skip 6 79 [] hHeld (h := ?_)); (first | refine GoesX.take 7 80 [] hHeld (h := ?_) | refine GoesX.skip 7 80 [] hHeld (h := ?_)); (first | refine GoesX.take 8 81 [] hHeld (h := ?_) | refine GoesX.skip 8 81 [] hHeld (h := ?_)); (first | refine GoesX.take 9 82 [] hHeld (h := ?_) | refine GoesX.skip 9 82 [] hHeld (h := ?_)); refine GoesX.one 10 (h := fun K hK => ?_); go_simp; (go_at_call 27; refine (iHedFork_c _ _ _).mono ?_; rintro E w1 ⟨rfl, hb⟩; have hst := xr hb; (try simp only [zA, zC, zD, zN] at hst); obtain ⟨hc, hf, hz⟩ := hst); (try go_wp2_with fail); refine outS hK hdH (h := fun hH2 => ?_); clear hK K hHeld; have hHeld := hH2; clear hH2; refine GoesX.take 11 84 [] hHeld (h := ?_); refine GoesX.take 12 13 [] hHeld (h := ?_); refine GoesX.done (by kernel_rfl) ?_ _; all_goals (have hb := And.right (by assumption : Held W0 _); have hst := xr hb; (try simp only [zA, zC, zD, zN] at hst); obtain ⟨hc, hf, hz⟩ := hst)))
            all_goals go_wp2_with fail
            all_goals go_roundw
            case rel => exact ⟨t + 1, Sw.hedFork x y, by omega, by go_num, rfl, by have h1 := HC.out; rw [h1.2, ← Bool.or_assoc, ← h1.1]; rfl, ext_⟩
            case measure => simp [intOf]; omega
        · have HC := Lib.hid hac
          clear hac
          go_wp2_with fail
          go_roundw
          case rel => exact ⟨j + 1, ac, by omega, by go_num, rfl, by rw [HC.out, HA.out, anyFork_step HX.out, List.take_of_length_le (l := ys) (i := t) (by have := hy.1; omega)], ext_⟩
          case measure => simp [intOf]; omega
    · obtain rfl : j = k := by omega
      have HE : acc = Sw.anyFork xs ys := by rw [HA.out, List.take_of_length_le (by have := hx.1; omega)]
      clear HA
      go_upto_region 16 with fail
      go_cut [104] (fun b wx => b = .bool false ∧ Ex wr wx)
      case first =>
        cases ga : Sw.watOk xs
        all_goals cases gb : Sw.watOk ys
        case true.true =>
          have e1 := Sw.watMeet_iff ga gb
          rw [← HE, ← HOK.out] at e1
          cases ok
          · subst e1
            clear HE
            go_wp2_with (first | (go_at_call 28; apply Calls.mono; apply (sWatOk_c (xs := xs)); (apply Rs.at0 hx; (exact kf_)); rintro E w4 ⟨rfl, hb⟩; rw [ga]; have hst := xr hb; (try simp only [zA, zC, zD, zN] at hst); obtain ⟨hc, hf, hz⟩ := hst) | (go_at_call 28; apply Calls.mono; apply (sWatOk_c (xs := ys)); (apply Rs.at0 hy; (exact kf_)); rintro E w4 ⟨rfl, hb⟩; rw [gb]; have hst := xr hb; (try simp only [zA, zC, zD, zN] at hst); obtain ⟨hc, hf, hz⟩ := hst) | fail)
            all_goals go_meet
            all_goals exact ⟨rfl, ext_⟩
          · subst e1
            clear HE
            have ef := met_fork HOK.out.symm
            go_wp2_with (first | (go_at_call 28; apply Calls.mono; apply (sWatOk_c (xs := xs)); (apply Rs.at0 hx; (exact kf_)); rintro E w4 ⟨rfl, hb⟩; rw [ga]; have hst := xr hb; (try simp only [zA, zC, zD, zN] at hst); obtain ⟨hc, hf, hz⟩ := hst) | (go_at_call 28; apply Calls.mono; apply (sWatOk_c (xs := ys)); (apply Rs.at0 hy; (exact kf_)); rintro E w4 ⟨rfl, hb⟩; rw [gb]; have hst := xr hb; (try simp only [zA, zC, zD, zN] at hst); obtain ⟨hc, hf, hz⟩ := hst) | (go_at_call 27; apply Calls.mono; apply (iHedFork_c (met xs ys).1 (met xs ys).2); rintro E w4 ⟨rfl, hb⟩; rw [ef]; have hst := xr hb; (try simp only [zA, zC, zD, zN] at hst); obtain ⟨hc, hf, hz⟩ := hst) | fail)
            all_goals go_meet
            all_goals exact ⟨rfl, ext_⟩
        all_goals
          have gok := HOK.out.trans (meet_none (xs := xs) (ys := ys) (by simp [ga, gb]))
          subst gok
          clear HE
          go_wp2_with (first | (go_at_call 28; apply Calls.mono; apply (sWatOk_c (xs := xs)); (apply Rs.at0 hx; (exact kf_)); rintro E w4 ⟨rfl, hb⟩; rw [ga]; have hst := xr hb; (try simp only [zA, zC, zD, zN] at hst); obtain ⟨hc, hf, hz⟩ := hst) | (go_at_call 28; apply Calls.mono; apply (sWatOk_c (xs := ys)); (apply Rs.at0 hy; (exact kf_)); rintro E w4 ⟨rfl, hb⟩; rw [gb]; have hst := xr hb; (try simp only [zA, zC, zD, zN] at hst); obtain ⟨hc, hf, hz⟩ := hst) | fail)
          all_goals go_meet
          all_goals exact ⟨rfl, ext_⟩
      case rest =>
        obtain ⟨rfl, hbc⟩ := hcut
        have hst := xr hbc
        obtain ⟨hcc, hfc, hzc⟩ := hst
        clear HE
        go_wp2_with fail
        apply Calls.mono
        apply drawWatAll_c
        · apply Rs.at0 hxs2; (exact kf_)
        · exact hq2
        rintro E w5 ⟨G, h, p, zs, H, r, q, log, rfl, ⟨⟨hzs, hp⟩, hlog, hr⟩, hb⟩
        have hst := xr hb; (try simp only [zA, zC, zD, zN] at hst); obtain ⟨hc, hf, hz⟩ := hst
        clear hxs2 hq2
        have e2 := Sw.watMeet_all (a := xs) (c := zs) (log := log)
        obtain ⟨ok2, hok2⟩ : ∃ ok, ok = (Sw.watMeet xs zs).isSome := ⟨_, rfl⟩
        have H2 := Lib.hid hok2
        have E2 := Lib.hid e2
        clear hok2 e2
        cases ga : Sw.watAll xs log
        all_goals cases gb : Sw.watAll zs log
        case true.true =>
          have h2 : ok2 = false := by rw [H2.out, E2.out ga gb]; rfl
          subst h2
          go_wp2_with (first | (go_at_call 25; apply Calls.mono; apply iWatMeet_c; (apply Rs.at0 hx; (exact kf_)); (apply Rs.at0 hzs; (exact kf_)); rintro E w6 ⟨rfl, hb⟩; rw [← H2.out]; have hst := xr hb; (try simp only [zA, zC, zD, zN] at hst); obtain ⟨hc, hf, hz⟩ := hst) | (go_at_call 30; apply Calls.mono; apply (iWatAll_c (xs := zs)); (apply Rs.at0 hzs; (exact kf_)); (apply Rs.at0 hlog; (exact kf_)); rintro E w4 ⟨rfl, hb⟩; rw [gb]; have hst := xr hb; (try simp only [zA, zC, zD, zN] at hst); obtain ⟨hc, hf, hz⟩ := hst) | (go_at_call 30; apply Calls.mono; apply (iWatAll_c (xs := xs)); (apply Rs.at0 hx; (exact kf_)); (apply Rs.at0 hlog; (exact kf_)); rintro E w4 ⟨rfl, hb⟩; rw [ga]; have hst := xr hb; (try simp only [zA, zC, zD, zN] at hst); obtain ⟨hc, hf, hz⟩ := hst) | (go_at_call 21; refine (swOk_c _).mono ?_; rintro E w' ⟨rfl, rfl⟩) | fail)
          all_goals go_ret
          all_goals exact ⟨rfl, ext_⟩
        all_goals
          go_wp2_with (first | (go_at_call 25; apply Calls.mono; apply iWatMeet_c; (apply Rs.at0 hx; (exact kf_)); (apply Rs.at0 hzs; (exact kf_)); rintro E w6 ⟨rfl, hb⟩; rw [← H2.out]; have hst := xr hb; (try simp only [zA, zC, zD, zN] at hst); obtain ⟨hc, hf, hz⟩ := hst) | (go_at_call 30; apply Calls.mono; apply (iWatAll_c (xs := zs)); (apply Rs.at0 hzs; (exact kf_)); (apply Rs.at0 hlog; (exact kf_)); rintro E w4 ⟨rfl, hb⟩; rw [gb]; have hst := xr hb; (try simp only [zA, zC, zD, zN] at hst); obtain ⟨hc, hf, hz⟩ := hst) | (go_at_call 30; apply Calls.mono; apply (iWatAll_c (xs := xs)); (apply Rs.at0 hx; (exact kf_)); (apply Rs.at0 hlog; (exact kf_)); rintro E w4 ⟨rfl, hb⟩; rw [ga]; have hst := xr hb; (try simp only [zA, zC, zD, zN] at hst); obtain ⟨hc, hf, hz⟩ := hst) | (go_at_call 21; refine (swOk_c _).mono ?_; rintro E w' ⟨rfl, rfl⟩) | fail)
          all_goals go_ret
          all_goals exact ⟨rfl, ext_⟩
end Go.Proofs.Ytgceeggfdomdjaa

namespace Go.Proofs.Ytgceeggfdomdjaa
set_option maxRecDepth 100000
set_option linter.unusedSimpArgs false
set_option linter.unusedVariables false
open Go.ChangeShapes Go.WideShapes Go.ChangeAt Go.RowKit Go

section
variable {H : Type} {enc : TypeId × Value → H} {P : Program}
theorem trodAll_stays (hl : laidOutB P = true) {W W' : World} {sp : Nat → Bool} (hb : Below W.heap.size W W') : ∀ {ts : List TypeId} {vs : List Value} {ds : List (DataW H)} {ps : List MemPlace},
    ts.all (fun t => P.readableRec t && decide (t < P.types.size)) = true → DataW.TrodAll enc P W 0 (fun _ => true) true ts vs ds ps → (∀ x ∈ ps, x.block < W.heap.size) → (∀ x ∈ ps, sp x.block = true) →
    DataW.TrodAll enc P W' 0 sp true ts vs ds ps
  | [], [], [], _, _, h, _, _ => h
  | t :: ts, v :: vs, d :: ds, _, hr, ⟨p, q, h1, h2, e⟩, hlt, hs => by
    simp only [List.all_cons, Bool.and_eq_true, decide_eq_true_eq] at hr
    subst e
    refine ⟨p, q, ?_, trodAll_stays hl hb hr.2 h2 (fun x hx => hlt x (List.mem_append_right _ hx)) (fun x hx => hs x (List.mem_append_right _ hx)), rfl⟩
    exact WideElems.Trod_stays hl hr.1.1 hr.1.2 h1 (fun x hx => hb.same (hlt x (List.mem_append_left _ hx))) (fun x hx => hs x (List.mem_append_left _ hx))

/-- A call that returns true and turns nothing that was there is what a law's statement asks. -/
theorem law_post {f : Func} {s : ChangeSpec} {apart fresh handsOn again : Bool} {W W' : World} {args : Array Value} {ds gs : List (DataW H)} {before : List MemPlace} {tb : TypeId}
    (hl : laidOutB P = true) (hr : f.params.toList.all (fun t => P.readableRec t && decide (t < P.types.size)) = true) (hres : f.resultTypes = #[tb]) (htb : P.underlying tb = some .bool) (hv : s.vars = [])
    (hfn : (s.fn H ds).results = [.lit (.bool true)] ∧ (s.fn H ds).args = ds ∧ (s.fn H ds).vars = [])
    (hW : DataW.Whole enc P f.params.toList s.vars apart W args.toList ds gs before) (hb : Ex W W') : s.post enc P f apart fresh handsOn again W args (.bool true) W' := by
  have hW0 := hW
  have hbl := hb.below
  have hlt : ∀ p ∈ before, p.block < W.heap.size := fun p hp => by simpa using hW.lt p hp
  obtain ⟨p, q, hA, hV, he, hz, hn⟩ := hW
  rw [hv] at hV
  obtain ⟨rfl, rfl⟩ := trodVars_none hV
  rw [List.append_nil] at he
  subst he
  obtain ⟨f1, f2, f3⟩ := hfn
  have hargs : ∀ sp : Nat → Bool, (∀ x ∈ before, sp x.block = true) → DataW.TrodAll enc P W' 0 sp true f.params.toList args.toList (s.fn H (ds ++ [])).args before := fun sp hs => by
    rw [List.append_nil, f2]
    exact trodAll_stays hl hbl hr hA hlt hs
  have hvars : ∀ sp : Nat → Bool, DataW.TrodVars enc P W' sp s.vars (s.fn H (ds ++ [])).vars [] := fun sp => by
    rw [List.append_nil, f3, hv]
    rfl
  have hresu : ∀ (b : Nat) (sp : Nat → Bool) (hd : Bool), DataW.TrodAll enc P W' b sp hd f.resultTypes.toList ((Value.bool true).resultList f.resultTypes.size) (s.fn H (ds ++ [])).results [] := fun b sp hd => by
    rw [List.append_nil, f1, hres]
    exact trodAll_cons_mk (shut_bool htb _) trodAll_mk0
  have hold : ∀ p ∈ before, (fun b => decide (b < W.heap.size)) p.block = true := fun p hp => by simpa using hlt p hp
  refine ⟨ds, [], before, [], before, [], hW0, hresu _ _ _, hargs _ hold, hvars _, World.keptBut_mono (fun p hp => ⟨hp, Or.inr (by simpa using hp)⟩) (hbl.frame _), fun _ => ?_⟩
  refine ⟨ok_one (by rw [hres]) rfl (okWide_bool_mk htb _), _, _, ([] ++ before) ++ [], ⟨[] ++ before, [], trodAll_append (hargs _ (fun _ _ => rfl)) (hresu _ _ _), hvars _, rfl, ?_, ?_⟩, ?_⟩
  · intro b off hp
    have hp' : MemPlace.cell b off ∈ before := by simpa using hp
    rw [hbl.frozen (by exact hlt _ hp')]
    exact hz b off (by simpa using hp)
  · intro ha
    have := hn ha
    simpa using this
  · intro p hp _
    simpa using hp

theorem spot_of_cell {W : World} {a : Addr} {v : Value} (h : W.cell? a = some v) : a.spot = none ∧ a.block < W.heap.size := by
  unfold World.cell? at h
  split at h
  · rename_i c T fz hh
    refine ⟨?_, (Array.getElem?_eq_some_iff.1 hh).1⟩
    cases hs : a.spot with
    | none => rfl
    | some _ => rw [hs] at h; simp at h
  · cases h

theorem flat_one {α : Type} {f : α → Value} (xs : List α) : xs.flatMap (fun x => [f x]) = xs.map f := by
  induction xs with
  | nil => rfl
  | cons x xs ih => rw [List.flatMap_cons, ih]; rfl

/-- A slice of numbers that reads is one that may be read. -/
theorem ri_of_trod {W : World} {t e : TypeId} {fuel : Nat} {cs : List Value} {x : DataW H × List MemPlace} (ht : P.underlying t = some (.slice e)) (he : P.underlying e = some (.int .i64)) (hc : P.cellsOf e = 1)
    (h : DataW.trod enc P W 0 (fun _ => true) true fuel t cs = some x) : ∃ A c n xs, cs = [.slice A n c] ∧ RI W 0 A c n xs := by
  rcases open_ints ht he hc h with ⟨rfl, _⟩ | ⟨a, len, cap, zs, rfl, _, hl, hm, hz, _, hcell, _⟩
  · exact ⟨none, 0, 0, [], rfl, rfl, Rd.none_ _ _ _⟩
  · have hz' : zs.length = cap := by simpa using hz
    refine ⟨some a, cap, len, zs.take len, rfl, by rw [List.length_take]; omega, ⟨?_, hl, hm, (fun h => by cases h), fun b hb hn => ?_⟩⟩
    · show ((zs.take len).flatMap fun x => [Value.int .i64 x]).length = len * 1
      rw [flat_one, List.length_map, List.length_take]; omega
    · obtain rfl := Option.some.inj hb
      have h0 := spot_of_cell (hcell 0 (by omega))
      refine ⟨?_, Nat.zero_le _, ?_, fun j u hu => ?_⟩
      · have := h0.1
        simp only [Addr.add] at this
        split at this <;> first | exact this | contradiction | omega
      · have := h0.2
        simp only [Addr.add] at this
        split at this <;> first | exact this | contradiction | omega
      replace hu : ((zs.take len).flatMap fun x => [Value.int .i64 x])[j]? = some u := hu
      rw [flat_one, List.getElem?_map, Option.map_eq_some_iff] at hu
      obtain ⟨y, hy, rfl⟩ := hu
      rw [List.getElem?_take] at hy
      split at hy
      · have hj := (List.getElem?_eq_some_iff.1 hy).1
        have := hcell j hj
        rw [List.getD_eq_getElem?_getD, hy] at this
        obtain ⟨g, off, spot⟩ := a
        have hs : spot = none := by
          have := h0.1
          simp only [Addr.add] at this
          split at this <;> first | exact this | contradiction | omega
        subst hs
        rw [Addr.add_lit] at this
        exact this
      · cases hy

/-- A head that reads is three numbers. -/
theorem head_of_trod {W : World} {t ti : TypeId} {f0 f1 f2 : Field} {fuel : Nat} {cs : List Value} {x : DataW H × List MemPlace} (ht : P.underlying t = some (.struct #[f0, f1, f2])) (hi : P.underlying ti = some (.int .i64)) (hci : P.cellsOf ti = 1) (hct : P.cellsOf t = 3)
    (e0 : f0.type = ti ∧ f0.offset = 0) (e1 : f1.type = ti ∧ f1.offset = 1) (e2 : f2.type = ti ∧ f2.offset = 2)
    (h : DataW.trod enc P W 0 (fun _ => true) true fuel t cs = some x) : ∃ a b c : Int, cs = [.int .i64 a, .int .i64 b, .int .i64 c] := by
  obtain ⟨xs, n, _, _, hl, hxl, hf⟩ := DataW.trod_struct ht h
  rw [hct] at hl
  have key : ∀ (i : Nat) (f : Field), #[f0, f1, f2][i]? = some f → f.type = ti → ∃ a : Int, (cs.drop f.offset).take 1 = [.int .i64 a] := by
    intro i f hfi hft
    have h1 := hf i f hfi
    have hx : i < xs.length := by
      have := (Array.getElem?_eq_some_iff.1 hfi).1
      rw [hxl]; exact this
    rw [hft, hci, List.getElem?_eq_getElem hx] at h1
    obtain ⟨a, ha, _⟩ := DataW.trod_int hi h1
    exact ⟨a, ha⟩
  match cs, hl with
  | [c0, c1, c2], _ =>
    obtain ⟨a, ha⟩ := key 0 f0 rfl e0.1
    obtain ⟨b, hb⟩ := key 1 f1 rfl e1.1
    obtain ⟨c, hc⟩ := key 2 f2 rfl e2.1
    rw [e0.2] at ha
    rw [e1.2] at hb
    rw [e2.2] at hc
    simp at ha hb hc
    exact ⟨a, b, c, by rw [ha, hb, hc]⟩

/-- A gate that reads is a head and a slice of numbers. -/
theorem gate_of_trod {W : World} {t th ts ti : TypeId} {f0 f1 h0 h1 h2 : Field} {fuel : Nat} {cs : List Value} {x : DataW H × List MemPlace} (ht : P.underlying t = some (.struct #[f0, f1])) (hth : P.underlying th = some (.struct #[h0, h1, h2])) (hts : P.underlying ts = some (.slice ti)) (hi : P.underlying ti = some (.int .i64))
    (hci : P.cellsOf ti = 1) (hch : P.cellsOf th = 3) (hcs : P.cellsOf ts = 1) (hct : P.cellsOf t = 4)
    (e0 : f0.type = th ∧ f0.offset = 0) (e1 : f1.type = ts ∧ f1.offset = 3) (g0 : h0.type = ti ∧ h0.offset = 0) (g1 : h1.type = ti ∧ h1.offset = 1) (g2 : h2.type = ti ∧ h2.offset = 2)
    (h : DataW.trod enc P W 0 (fun _ => true) true fuel t cs = some x) : ∃ (a b c : Int) (A : Option Addr) (d n : Nat) (zs : List Int), cs = [.int .i64 a, .int .i64 b, .int .i64 c, .slice A n d] ∧ RI W 0 A d n zs := by
  obtain ⟨xs, n, _, _, hl, hxl, hf⟩ := DataW.trod_struct ht h
  rw [hct] at hl
  have k0 := hf 0 f0 rfl
  have k1 := hf 1 f1 rfl
  rw [e0.1, e0.2, hch, List.getElem?_eq_getElem (by rw [hxl]; exact Nat.zero_lt_succ _)] at k0
  rw [e1.1, e1.2, hcs, List.getElem?_eq_getElem (by rw [hxl]; exact Nat.one_lt_two)] at k1
  obtain ⟨a, b, c, q0⟩ := head_of_trod hth hi hci hch g0 g1 g2 k0
  obtain ⟨A, d, m, zs, q1, hr⟩ := ri_of_trod hts hi hci k1
  match cs, hl with
  | [c0, c1, c2, c3], _ =>
    simp at q0 q1
    obtain ⟨rfl, rfl, rfl⟩ := q0
    exact ⟨_, _, _, A, d, m, zs, by rw [q1], hr⟩

theorem slice_form {W : World} {base : Nat} {t e : TypeId} {v : Value} {A : Option Addr} {n c : Nat} (ht : P.underlying t = some (.slice e)) (hv : Value.okWide P W .any base t v) (h : v.cells.toList = [.slice A n c]) : v = .slice A n c := by
  unfold Value.okWide at hv
  rw [ht] at hv
  unfold Cell.okWide Cell.ok at hv
  rw [ht] at hv
  cases v <;> simp_all [Value.cells]
end
end Go.Proofs.Ytgceeggfdomdjaa

namespace Go.Proofs.Ytgceeggfdomdjaa
set_option maxRecDepth 100000
set_option linter.unusedSimpArgs false
set_option linter.unusedVariables false
open Go.ChangeShapes Go.WideShapes Go.ChangeAt Go.RowKit Go

section
variable {H : Type} {enc : TypeId × Value → H} {P : Program} {W : World}
theorem add_spot {a : Addr} (h : a.spot = none) (i : Nat) : a.add i = ⟨a.block, a.off + i, none⟩ := by
  obtain ⟨b, o, s⟩ := a
  dsimp only at h
  subst h
  exact Addr.add_lit _ _ _
/-- A slice whose elements read as things of α. -/
theorem rs_of_trod {α : Type} {ec : α → List Value} {sz : Nat} {t e : TypeId} {fuel : Nat} {cs : List Value} {x : DataW H × List MemPlace} (ht : P.underlying t = some (.slice e)) (hc : P.cellsOf e = sz) (hp : 0 < sz) (hsz : ∀ y, (ec y).length = sz)
    {Q : α → Prop} (he : ∀ n cs y, DataW.trod enc P W 0 (fun _ => true) true n e cs = some y → ∃ z : α, cs = ec z ∧ Q z) (h : DataW.trod enc P W 0 (fun _ => true) true fuel t cs = some x) :
    ∃ A c n xs, cs = [.slice A n c] ∧ Rs ec sz W 0 A c n xs ∧ ∀ y ∈ xs, Q y := by
  rcases Go.Deep.open_slice ht h with ⟨rfl, _⟩ | ⟨a, len, cap, m, n, D, Pl, rfl, _, hl, hm, hmm, hxx, hi⟩
  · exact ⟨none, 0, 0, [], rfl, ⟨rfl, Rd.none_ _ _ _⟩, by simp⟩
  · rw [if_pos rfl] at hmm
    subst hmm
    rw [hc] at hi
    have hi2 : ∀ i, i < len → ∃ z : α, Q z ∧ ∀ j, j < sz → W.cell? ((a.add (i * sz)).add j) = (ec z)[j]? := by
      intro i hil
      obtain ⟨cs', h1, h2⟩ := hi i (by omega)
      obtain ⟨z, rfl, hq⟩ := he _ _ _ h2
      exact ⟨z, hq, (World.cells?_some h1).2.2⟩
    have spot : 0 < len → a.spot = none ∧ a.block < W.heap.size := by
      intro h0
      obtain ⟨z, _, hz⟩ := hi2 0 h0
      have h1 := hz 0 hp
      rw [List.getElem?_eq_getElem (by rw [hsz]; exact hp)] at h1
      have h2 := spot_of_cell h1
      rw [Nat.zero_mul] at h2
      have e0 : ∀ b : Addr, (b.add 0).spot = none → b.spot = none := by
        intro b hb
        simp only [Addr.add] at hb
        split at hb <;> first | exact hb | contradiction | omega
      have e1 : ∀ b : Addr, (b.add 0).block = b.block := by
        intro b
        simp only [Addr.add]
        split <;> rfl
      exact ⟨e0 _ (e0 _ h2.1), by rw [e1, e1] at h2; exact h2.2⟩
    obtain ⟨xs, hlen, hxs⟩ : ∃ xs : List α, xs.length = len ∧ ∀ i z, xs[i]? = some z → Q z ∧ ∀ j, j < sz → W.cell? ((a.add (i * sz)).add j) = (ec z)[j]? := by
      clear hi spot h hl hxx
      induction len with
      | zero => exact ⟨[], rfl, by simp⟩
      | succ k ih =>
        obtain ⟨xs, h1, h2⟩ := ih (fun i hi => hi2 i (by omega))
        obtain ⟨z, hz⟩ := hi2 k (by omega)
        refine ⟨xs ++ [z], by simp [h1], fun i y hy => ?_⟩
        rw [List.getElem?_append] at hy
        split at hy
        · exact h2 i y hy
        · have : i = k := by
            have := (List.getElem?_eq_some_iff.1 hy).1
            simp at this
            omega
          subst this
          rw [h1, Nat.sub_self] at hy
          simp at hy
          subst hy
          exact hz
    refine ⟨some a, m, len, xs, rfl, ⟨hlen.symm, ⟨?_, hl, hm, (fun h => by cases h), fun b hb hn => ?_⟩⟩, fun y hy => ?_⟩
    · have key : ∀ xs : List α, (xs.flatMap ec).length = xs.length * sz := by
        intro xs
        induction xs with
        | nil => simp
        | cons x xs ih => simp only [List.flatMap_cons, List.length_append, hsz, ih, List.length_cons, Nat.succ_mul]; omega
      rw [key, hlen]
    · obtain rfl := Option.some.inj hb
      obtain ⟨s1, s2⟩ := spot hn
      refine ⟨s1, Nat.zero_le _, s2, fun j u hu => ?_⟩
      have key : ∀ xs : List α, (xs.flatMap ec).length = xs.length * sz := by
        intro xs
        induction xs with
        | nil => simp
        | cons x xs ih => simp only [List.flatMap_cons, List.length_append, hsz, ih, List.length_cons, Nat.succ_mul]; omega
      have hj := (List.getElem?_eq_some_iff.1 hu).1
      rw [key] at hj
      have hk : j / sz < xs.length := Nat.div_lt_of_lt_mul (by rw [Nat.mul_comm]; exact hj)
      have hr : j % sz < sz := Nat.mod_lt _ hp
      have hd : j / sz * sz + j % sz = j := by rw [Nat.mul_comm]; exact Nat.div_add_mod _ _
      have h1 := flat_get hsz xs (j / sz) (j % sz) hk hr
      rw [hd, hu] at h1
      have h2 := (hxs (j / sz) _ (List.getElem?_eq_getElem hk)).2 (j % sz) hr
      rw [← h1, add_spot s1, add_spot rfl] at h2
      dsimp only at h2
      rw [Nat.add_assoc, hd] at h2
      exact h2
    · obtain ⟨i, hi⟩ := List.getElem?_of_mem hy
      exact (hxs i y hi).1

def fieldsInt (fs : Array Field) (ti : TypeId) : Bool := (List.range fs.size).all fun i => match fs[i]? with
  | some f => decide (f.type = ti) && decide (f.offset = i)
  | none => false
def valInt : Value → Int
  | .int _ n => n
  | _ => 0
/-- A struct of numbers. -/
theorem ints_of_trod {t ti : TypeId} {fs : Array Field} {fuel : Nat} {cs : List Value} {x : DataW H × List MemPlace} (ht : P.underlying t = some (.struct fs)) (hi : P.underlying ti = some (.int .i64)) (hci : P.cellsOf ti = 1) (hct : P.cellsOf t = fs.size) (hf : fieldsInt fs ti = true)
    (h : DataW.trod enc P W 0 (fun _ => true) true fuel t cs = some x) : ∃ zs : List Int, zs.length = fs.size ∧ cs = zs.map (Value.int .i64) := by
  obtain ⟨xs, n, _, _, hl, hxl, hg⟩ := DataW.trod_struct ht h
  have key : ∀ i, i < fs.size → ∃ a : Int, cs[i]? = some (.int .i64 a) := by
    intro i hi'
    have h0 := List.all_eq_true.1 hf i (List.mem_range.2 hi')
    have hfi : fs[i]? = some fs[i] := Array.getElem?_eq_getElem hi'
    rw [hfi] at h0
    simp only [Bool.and_eq_true, decide_eq_true_eq] at h0
    have h1 := hg i fs[i] hfi
    rw [h0.1, h0.2, hci, List.getElem?_eq_getElem (by omega)] at h1
    obtain ⟨a, ha, _⟩ := DataW.trod_int hi h1
    refine ⟨a, ?_⟩
    rw [List.drop_eq_getElem_cons (by omega)] at ha
    simp only [List.take_succ_cons, List.take_zero, List.cons.injEq, and_true] at ha
    rw [List.getElem?_eq_getElem (by omega), ha]
  refine ⟨cs.map valInt, by simp [hl, hct], ?_⟩
  apply List.ext_getElem?
  intro i
  rw [List.getElem?_map, List.getElem?_map]
  by_cases hi' : i < fs.size
  · obtain ⟨a, ha⟩ := key i hi'
    rw [ha]; rfl
  · rw [List.getElem?_eq_none (by omega)]; rfl
/-- A field of a struct. -/
theorem field_of_trod {t : TypeId} {fs : Array Field} {fuel : Nat} {cs : List Value} {x : DataW H × List MemPlace} (ht : P.underlying t = some (.struct fs)) (h : DataW.trod enc P W 0 (fun _ => true) true fuel t cs = some x) {i : Nat} {f : Field} {ft : TypeId} {o k : Nat}
    (hf : fs[i]? = some f) (h1 : f.type = ft) (h2 : f.offset = o) (h3 : P.cellsOf ft = k) : ∃ n y, DataW.trod enc P W 0 (fun _ => true) true n ft ((cs.drop o).take k) = some y := by
  obtain ⟨xs, n, _, _, hl, hxl, hg⟩ := DataW.trod_struct ht h
  have h0 := hg i f hf
  have hi' := (Array.getElem?_eq_some_iff.1 hf).1
  rw [h1, h2, h3, List.getElem?_eq_getElem (by omega)] at h0
  exact ⟨n, _, h0⟩
theorem struct_len {t : TypeId} {fs : Array Field} {fuel : Nat} {cs : List Value} {x : DataW H × List MemPlace} (ht : P.underlying t = some (.struct fs)) (h : DataW.trod enc P W 0 (fun _ => true) true fuel t cs = some x) : cs.length = P.cellsOf t := by
  obtain ⟨xs, n, _, _, hl, hxl, hg⟩ := DataW.trod_struct ht h
  exact hl
end
end Go.Proofs.Ytgceeggfdomdjaa

namespace Go.Proofs.Ytgceeggfdomdjaa
set_option maxRecDepth 100000
set_option linter.unusedSimpArgs false
set_option linter.unusedVariables false
open Go.ChangeShapes Go.WideShapes Go.ChangeAt Go.RowKit Go
section
variable {H : Type} {enc : TypeId × Value → H} {W : World}
theorem cells_B : Try.prog.cellsOf 5 = 1 := by kernel_rfl
theorem o_bytes {n : Nat} {cs : List Value} {y : DataW H × List MemPlace} (h : DataW.trod enc Try.prog W 0 (fun _ => true) true n 22 cs = some y) : ∃ A c n xs, cs = [.slice A n c] ∧ RB W 0 A c n xs ∧ ∀ x ∈ xs, 0 ≤ x ∧ x ≤ 255 :=
  rs_of_trod (ec := encB) (sz := 1) (Q := fun x => 0 ≤ x ∧ x ≤ 255) Try.underlying22 cells_B (by omega) (fun _ => rfl) (fun n cs y h => by
    obtain ⟨a, rfl, _, hw⟩ := DataW.trod_int Try.underlying5 h
    refine ⟨a, rfl, ?_⟩
    simp only [Lit.wf, Bool.and_eq_true, decide_eq_true_eq] at hw
    exact hw) h
end
end Go.Proofs.Ytgceeggfdomdjaa

namespace Go.Proofs.Ytgceeggfdomdjaa
set_option maxRecDepth 100000
set_option linter.unusedSimpArgs false
set_option linter.unusedVariables false
open Go.ChangeShapes Go.WideShapes Go.ChangeAt Go.RowKit Go
theorem own_knob : ownKnob Try.prog.godebug = none := by kernel_rfl
theorem laid_out : laidOutB Try.prog = true := by kernel_rfl
end Go.Proofs.Ytgceeggfdomdjaa

