/-
  Texts joined: Law2, LawTo.
-/
import Derived.Test.YtdbnbembjebfhaaGreatPz14
import Derived.Test.YtdbnbembjebfhaaGreatPz15
namespace Go.Proofs.YtdbnbembjebfhaaGreat
set_option maxRecDepth 100000
set_option linter.unusedSimpArgs false
set_option linter.unusedVariables false
open Go.RowKit Go
set_option maxHeartbeats 400000

theorem eqIntS_c (A : Option Addr) (c n : Nat) (xs : List Int) (B : Option Addr) (d m : Nat) (ys : List Int) (w : World) (hxs : RI w 0 A c n xs) (hys : RI w 0 B d m ys) : Calls Tryz.prog 84 #[.slice A n c, .slice B m d] w fun E w' => E = .returned (.bool (decide (xs = ys))) ∧ Ex w w' := by
  have hl := Lib.hid hxs.1
  have hl' := Lib.hid hys.1
  have hbig : n ≤ 9223372036854775807 := by have := hxs.2.le; have := hxs.2.cap; unfold maxLen at this; omega
  by_cases hnm : n = m
  case neg =>
    have hb : ((n : Int) == m) = false := by simp; omega
    have e : decide (xs = ys) = false := by
      rw [decide_eq_false_iff_not]; rintro rfl
      have := hl.out; have := hl'.out; omega
    rw [e]; clear e
    go_enter Tryz.func84, Tryz.ntmps84
    go_wp2_with fail
    go_ret
    exact ⟨rfl, ext_⟩
  subst hnm
  go_enter Tryz.func84, Tryz.ntmps84
  go_wp2_with fail
  go_loopw [5] (fun i wr => ∃ k : Nat, k ≤ n ∧ i = .int .i64 k ∧ Ex w wr ∧ decide (xs = ys) = decide (xs.drop k = ys.drop k)) (fun i _ => n - (intOf i).toNat)
  case atStart => exact ⟨0, Nat.zero_le _, rfl, Ch.refl _ _, rfl⟩
  case round =>
    obtain ⟨k, hk, rfl, hb2, hrel⟩ := hrel
    have hst := Ex.rules hb2 rfl
    obtain ⟨hc2, hf2, hz2⟩ := hst
    by_cases hlt : k < n
    · obtain ⟨g, off, y, rfl, hg0, hg, hd, hy, hcy⟩ := at_I hxs hlt
      obtain ⟨g', off', z, rfl, hg0', hg', hd', hz', hcz⟩ := at_I hys hlt
      have t1 : (0 : Int) ≤ (k : Int) := by omega
      have t2 : (k : Int) < (n : Int) := by omega
      rw [hd, hd'] at hrel
      have Hrel := Lib.hid hrel
      clear hrel hd hd' hy hz'
      by_cases hyz : y = z
      · subst hyz
        go_wp2_with fail
        go_quiet ((first | fail))
        go_wp2
        go_roundw
        case rel => exact ⟨k + 1, by omega, by go_num, ext_, by rw [Hrel.out]; simp⟩
        case measure => simp [intOf]; omega
      · go_wp2_with fail
        go_quiet ((first | fail))
        go_wp2
        go_ret
        exact ⟨ret_b (by rw [Hrel.out]; simp [hyz]), ext_⟩
    · have Hrel := Lib.hid hrel; clear hrel
      go_wp2_with fail
      go_ret
      refine ⟨ret_b ?_, ext_⟩
      rw [Hrel.out, List.drop_of_length_le (by have := hl.out; omega), List.drop_of_length_le (by have := hl'.out; omega)]
      simp

theorem eqHedHead_c (t u : Sw.Head) (w : World) : Calls Tryz.prog 229 #[.agg #[.int .i64 t.size, .int .i64 t.log, .int .i64 t.own], .agg #[.int .i64 u.size, .int .i64 u.log, .int .i64 u.own]] w fun E w' => E = .returned (.bool (decide (t = u))) ∧ Ex w w' := by
  go_enter Tryz.func229, Tryz.ntmps229
  go_wp2_with fail
  all_goals (go_ret; refine ⟨ret_b ?_, ext_⟩; go_tidy; simp only [head_ext])
  all_goals (first | (simp [*]; done) | (simp_all; done))

theorem toHedHead_c (t : Sw.Head) (w : World) : Calls Tryz.prog 211 #[.agg #[.int .i64 t.size, .int .i64 t.log, .int .i64 t.own]] w fun E w' => E = .returned (.agg #[.int .i64 t.size, .int .i64 t.log, .int .i64 t.own]) ∧ Ex w w' := by
  go_enter Tryz.func211, Tryz.ntmps211
  go_wp2_with fail
  refine bodyPost_ret (v := .agg #[.int .i64 t.size, .int .i64 t.log, .int .i64 t.own]) (by simp [results, Tryz.results211, go_sem, *]) rfl ?_
  exact ⟨rfl, ext_⟩

theorem szGatGate_c (t : Sw.Head) (A : Option Addr) (c n : Nat) (xs : List Int) (l : Int) (w : World) (hxs : RI w 0 A c n xs) (h0 : 0 ≤ l) (h1 : l ≤ 1048576) : Calls Tryz.prog 129 #[.agg #[.int .i64 t.size, .int .i64 t.log, .int .i64 t.own, .slice A n c], .int .i64 l] w fun E w' => E = .returned (.int .i64 (if l - n < 0 then -1 else l - n)) ∧ Ex w w' := by
  by_cases hn : l - n < 0
  · go_enter Tryz.func129, Tryz.ntmps129
    go_wp2_with (first | (go_at_call 67; apply Calls.mono; apply szIntS_c; ((first | (apply Rs.at0; assumption) | (apply Ow.rs0; assumption)); exact kf_); (first | assumption | omega); (first | assumption | omega); rintro E w' ⟨rfl, rfl⟩))
    go_ret
    exact ⟨ret_i (by simp [hn]), ext_⟩
  · have hd : decide (l - (n : Int) < 0) = false := by simp; omega
    go_enter Tryz.func129, Tryz.ntmps129
    go_wp2_with (first | (go_at_call 67; apply Calls.mono; apply szIntS_c; ((first | (apply Rs.at0; assumption) | (apply Ow.rs0; assumption)); exact kf_); (first | assumption | omega); (first | assumption | omega); rintro E w' ⟨rfl, rfl⟩))
    go_ret
    exact ⟨ret_i (by simp [hn]), ext_⟩

theorem toGatGate_c (t : Sw.Head) (A : Option Addr) (c n : Nat) (xs : List Int) (w : World) (hxs : RI w 0 A c n xs) (hn : n ≤ 4194304) : Calls Tryz.prog 150 #[.agg #[.int .i64 t.size, .int .i64 t.log, .int .i64 t.own, .slice A n c]] w fun E w' => ∃ g, E = .returned (.agg #[.int .i64 t.size, .int .i64 t.log, .int .i64 t.own, .slice (some ⟨g, 0, none⟩) n n]) ∧ OwI w' w.heap.size (some ⟨g, 0, none⟩) n n xs ∧ w.heap.size ≤ g ∧ g < w'.heap.size ∧ Ex w w' := by
  go_enter Tryz.func150, Tryz.ntmps150
  go_wp2_with (first | (go_at_call 211; refine (toHedHead_c _ _).mono ?_; rintro E w1 ⟨rfl, hb⟩; have hst := xr hb; (try simp only [zA, zC, zD, zN] at hst); obtain ⟨hc, hf, hz⟩ := hst) | (go_at_call 75; apply Calls.mono; apply toIntS_c; ((first | (apply Rs.at0; assumption) | (apply Ow.rs0; assumption)); exact kf_); (first | assumption | omega); rintro E w1 ⟨g, rfl, hr, hge, hlt, hb⟩; (try simp only [zA, zC, zD, zN] at hge); (try simp only [zA, zC, zD, zN] at hlt); have hst := xr hb; (try simp only [zA, zC, zD, zN] at hst); obtain ⟨hc, hf, hz⟩ := hst))
  refine bodyPost_ret (v := .agg #[.int .i64 t.size, .int .i64 t.log, .int .i64 t.own, .slice (some ⟨g, 0, none⟩) n n]) (by simp [results, Tryz.results150, go_sem, *]) rfl ?_
  exact ⟨g, rfl, (hr.keep (by (exact kf_))).less (by exact sz_), (by exact sz_), (by exact sz_), ext_⟩

theorem eqGatGate_c (t : Sw.Head) (A : Option Addr) (c n : Nat) (xs : List Int) (u : Sw.Head) (B : Option Addr) (d m : Nat) (ys : List Int) (w : World) (hxs : RI w 0 A c n xs) (hys : RI w 0 B d m ys) : Calls Tryz.prog 174 #[.agg #[.int .i64 t.size, .int .i64 t.log, .int .i64 t.own, .slice A n c], .agg #[.int .i64 u.size, .int .i64 u.log, .int .i64 u.own, .slice B m d]] w fun E w' => E = .returned (.bool (decide (t = u) && decide (xs = ys))) ∧ Ex w w' := by
  by_cases h1 : t = u
  · have g1 : decide (t = u) = true := by simp [h1]
    go_enter Tryz.func174, Tryz.ntmps174
    go_wp2_with (first | (go_at_call 229; refine (eqHedHead_c _ _ _).mono ?_; rintro E w1 ⟨rfl, hb⟩; have hst := xr hb; (try simp only [zA, zC, zD, zN] at hst); obtain ⟨hc, hf, hz⟩ := hst) | (go_at_call 84; apply Calls.mono; apply eqIntS_c; ((first | (apply Rs.at0; assumption) | (apply Ow.rs0; assumption)); exact kf_); ((first | (apply Rs.at0; assumption) | (apply Ow.rs0; assumption)); exact kf_); rintro E w1 ⟨rfl, hb⟩; have hst := xr hb; (try simp only [zA, zC, zD, zN] at hst); obtain ⟨hc, hf, hz⟩ := hst))
    all_goals (go_ret; refine ⟨ret_b ?_, ext_⟩; go_tidy; simp_all)
  · have g1 : decide (t = u) = false := by simp [h1]
    go_enter Tryz.func174, Tryz.ntmps174
    go_wp2_with (first | (go_at_call 229; refine (eqHedHead_c _ _ _).mono ?_; rintro E w1 ⟨rfl, hb⟩; have hst := xr hb; (try simp only [zA, zC, zD, zN] at hst); obtain ⟨hc, hf, hz⟩ := hst) | (go_at_call 84; apply Calls.mono; apply eqIntS_c; ((first | (apply Rs.at0; assumption) | (apply Ow.rs0; assumption)); exact kf_); ((first | (apply Rs.at0; assumption) | (apply Ow.rs0; assumption)); exact kf_); rintro E w1 ⟨rfl, hb⟩; have hst := xr hb; (try simp only [zA, zC, zD, zN] at hst); obtain ⟨hc, hf, hz⟩ := hst))
    all_goals (go_ret; refine ⟨ret_b ?_, ext_⟩; simp [g1])
end Go.Proofs.YtdbnbembjebfhaaGreat

namespace Go.Proofs.YtdbnbembjebfhaaGreat
set_option maxRecDepth 100000
set_option linter.unusedSimpArgs false
set_option linter.unusedVariables false
open Go.RowKit Go
set_option maxHeartbeats 400000

section
variable {w : World} {lo c n k : Nat} {A : Option Addr}
theorem at_OE {xs : List Sw.Ent} (h : OwE w lo A c n xs) (hk : k < n) :
    ∃ g x, A = some ⟨g, 0, none⟩ ∧ lo ≤ g ∧ g < w.heap.size ∧ xs[k]? = some x ∧ w.cell? ⟨g, k * 4, none⟩ = some (.int .i64 x.kind) ∧ w.cell? ⟨g, k * 4 + 1, none⟩ = some (.int .i64 x.ticket) ∧
      w.cell? ⟨g, k * 4 + 2, none⟩ = some (.int .i64 x.who) ∧ w.cell? ⟨g, k * 4 + 3, none⟩ = some (.int .i64 x.price) ∧ (∀ i, w.frozen? ⟨g, i, none⟩ = false) := by
  obtain ⟨g, x, h1, h2, h3, h4, h5, h6⟩ := Ow.at_ h (fun _ => rfl) hk
  exact ⟨g, x, h1, h2, h3, h4, by simpa using h5 0 _ (by omega) rfl, h5 1 _ (by omega) rfl, h5 2 _ (by omega) rfl, h5 3 _ (by omega) rfl, h6⟩
theorem at_OD {xs : List Sw.Deal} (h : OwD w lo A c n xs) (hk : k < n) :
    ∃ g x, A = some ⟨g, 0, none⟩ ∧ lo ≤ g ∧ g < w.heap.size ∧ xs[k]? = some x ∧ w.cell? ⟨g, k * 5, none⟩ = some (.int .i64 x.ticket) ∧ w.cell? ⟨g, k * 5 + 1, none⟩ = some (.int .i64 x.seller) ∧
      w.cell? ⟨g, k * 5 + 2, none⟩ = some (.int .i64 x.price) ∧ w.cell? ⟨g, k * 5 + 3, none⟩ = some (.int .i64 x.buyer) ∧ w.cell? ⟨g, k * 5 + 4, none⟩ = some (.int .i64 x.due) ∧ (∀ i, w.frozen? ⟨g, i, none⟩ = false) := by
  obtain ⟨g, x, h1, h2, h3, h4, h5, h6⟩ := Ow.at_ h (fun _ => rfl) hk
  exact ⟨g, x, h1, h2, h3, h4, by simpa using h5 0 _ (by omega) rfl, h5 1 _ (by omega) rfl, h5 2 _ (by omega) rfl, h5 3 _ (by omega) rfl, h5 4 _ (by omega) rfl, h6⟩
theorem at_OQ {xs : List Sw.Req} (h : OwQ w lo A c n xs) (hk : k < n) :
    ∃ g x, A = some ⟨g, 0, none⟩ ∧ lo ≤ g ∧ g < w.heap.size ∧ xs[k]? = some x ∧ w.cell? ⟨g, k * 6, none⟩ = some (.int .i64 x.user) ∧ w.cell? ⟨g, k * 6 + 1, none⟩ = some (.int .i64 x.n) ∧
      w.cell? ⟨g, k * 6 + 2, none⟩ = some (.int .i64 x.kind) ∧ w.cell? ⟨g, k * 6 + 3, none⟩ = some (.int .i64 x.ticket) ∧ w.cell? ⟨g, k * 6 + 4, none⟩ = some (.int .i64 x.who) ∧ w.cell? ⟨g, k * 6 + 5, none⟩ = some (.int .i64 x.price) ∧ (∀ i, w.frozen? ⟨g, i, none⟩ = false) := by
  obtain ⟨g, x, h1, h2, h3, h4, h5, h6⟩ := Ow.at_ h (fun _ => rfl) hk
  exact ⟨g, x, h1, h2, h3, h4, by simpa using h5 0 _ (by omega) rfl, h5 1 _ (by omega) rfl, h5 2 _ (by omega) rfl, h5 3 _ (by omega) rfl, h5 4 _ (by omega) rfl, h5 5 _ (by omega) rfl, h6⟩
theorem at_OGV {xs : List GV} (h : OwGV w lo A c n xs) (hk : k < n) :
    ∃ g x, A = some ⟨g, 0, none⟩ ∧ lo ≤ g ∧ g < w.heap.size ∧ xs[k]? = some x ∧ w.cell? ⟨g, k * 4, none⟩ = some (.int .i64 x.h.size) ∧ w.cell? ⟨g, k * 4 + 1, none⟩ = some (.int .i64 x.h.log) ∧
      w.cell? ⟨g, k * 4 + 2, none⟩ = some (.int .i64 x.h.own) ∧ w.cell? ⟨g, k * 4 + 3, none⟩ = some (.slice x.A x.n x.c) ∧ (∀ i, w.frozen? ⟨g, i, none⟩ = false) := by
  obtain ⟨g, x, h1, h2, h3, h4, h5, h6⟩ := Ow.at_ h (fun _ => rfl) hk
  exact ⟨g, x, h1, h2, h3, h4, by simpa using h5 0 _ (by omega) rfl, h5 1 _ (by omega) rfl, h5 2 _ (by omega) rfl, h5 3 _ (by omega) rfl, h6⟩
theorem at_OXV {xs : List XV} (h : OwXV w lo A c n xs) (hk : k < n) :
    ∃ g x, A = some ⟨g, 0, none⟩ ∧ lo ≤ g ∧ g < w.heap.size ∧ xs[k]? = some x ∧ w.cell? ⟨g, k * 5, none⟩ = some (.int .i64 x.g) ∧ w.cell? ⟨g, k * 5 + 1, none⟩ = some (.int .i64 x.h.size) ∧ w.cell? ⟨g, k * 5 + 2, none⟩ = some (.int .i64 x.h.log) ∧
      w.cell? ⟨g, k * 5 + 3, none⟩ = some (.int .i64 x.h.own) ∧ w.cell? ⟨g, k * 5 + 4, none⟩ = some (.slice x.A x.n x.c) ∧ (∀ i, w.frozen? ⟨g, i, none⟩ = false) := by
  obtain ⟨g, x, h1, h2, h3, h4, h5, h6⟩ := Ow.at_ h (fun _ => rfl) hk
  exact ⟨g, x, h1, h2, h3, h4, by simpa using h5 0 _ (by omega) rfl, h5 1 _ (by omega) rfl, h5 2 _ (by omega) rfl, h5 3 _ (by omega) rfl, h5 4 _ (by omega) rfl, h6⟩
end

theorem toEntEntry_c (t : Sw.Ent) (w : World) : Calls Tryz.prog 209 #[.agg #[.int .i64 t.kind, .int .i64 t.ticket, .int .i64 t.who, .int .i64 t.price]] w fun E w' => E = .returned (.agg #[.int .i64 t.kind, .int .i64 t.ticket, .int .i64 t.who, .int .i64 t.price]) ∧ Ex w w' := by
  go_enter Tryz.func209, Tryz.ntmps209
  go_wp2_with fail
  refine bodyPost_ret (v := .agg #[.int .i64 t.kind, .int .i64 t.ticket, .int .i64 t.who, .int .i64 t.price]) (by simp [results, Tryz.results209, go_sem, *]) rfl ?_
  exact ⟨rfl, ext_⟩
theorem toMktDeal_c (t : Sw.Deal) (w : World) : Calls Tryz.prog 210 #[.agg #[.int .i64 t.ticket, .int .i64 t.seller, .int .i64 t.price, .int .i64 t.buyer, .int .i64 t.due]] w fun E w' => E = .returned (.agg #[.int .i64 t.ticket, .int .i64 t.seller, .int .i64 t.price, .int .i64 t.buyer, .int .i64 t.due]) ∧ Ex w w' := by
  go_enter Tryz.func210, Tryz.ntmps210
  go_wp2_with fail
  refine bodyPost_ret (v := .agg #[.int .i64 t.ticket, .int .i64 t.seller, .int .i64 t.price, .int .i64 t.buyer, .int .i64 t.due]) (by simp [results, Tryz.results210, go_sem, *]) rfl ?_
  exact ⟨rfl, ext_⟩
theorem toMktReq_c (t : Sw.Req) (w : World) : Calls Tryz.prog 80 #[.agg #[.int .i64 t.user, .int .i64 t.n, .int .i64 t.kind, .int .i64 t.ticket, .int .i64 t.who, .int .i64 t.price]] w fun E w' => E = .returned (.agg #[.int .i64 t.user, .int .i64 t.n, .int .i64 t.kind, .int .i64 t.ticket, .int .i64 t.who, .int .i64 t.price]) ∧ Ex w w' := by
  go_enter Tryz.func80, Tryz.ntmps80
  go_wp2_with fail
  refine bodyPost_ret (v := .agg #[.int .i64 t.user, .int .i64 t.n, .int .i64 t.kind, .int .i64 t.ticket, .int .i64 t.who, .int .i64 t.price]) (by simp [results, Tryz.results80, go_sem, *]) rfl ?_
  exact ⟨rfl, ext_⟩
theorem toWldLine_c (t : Sw.Req) (w : World) : Calls Tryz.prog 149 #[.agg #[.int .i64 t.user, .int .i64 t.n, .int .i64 t.kind, .int .i64 t.ticket, .int .i64 t.who, .int .i64 t.price]] w fun E w' => E = .returned (.agg #[.int .i64 t.user, .int .i64 t.n, .int .i64 t.kind, .int .i64 t.ticket, .int .i64 t.who, .int .i64 t.price]) ∧ Ex w w' := by
  go_enter Tryz.func149, Tryz.ntmps149
  go_wp2_with (first | (go_at_call 80; refine (toMktReq_c _ _).mono ?_; rintro E w1 ⟨rfl, hb⟩; have hst := xr hb; (try simp only [zA, zC, zD, zN] at hst); obtain ⟨hc, hf, hz⟩ := hst))
  refine bodyPost_ret (v := .agg #[.int .i64 t.user, .int .i64 t.n, .int .i64 t.kind, .int .i64 t.ticket, .int .i64 t.who, .int .i64 t.price]) (by simp [results, Tryz.results149, go_sem, *]) rfl ?_
  exact ⟨rfl, ext_⟩

theorem toEntEntryS_c (A : Option Addr) (c n : Nat) (xs : List Sw.Ent) (w : World) (hxs : RE w 0 A c n xs) (hn : n ≤ 1048576) : Calls Tryz.prog 147 #[.slice A n c] w fun E w' => ∃ g, E = .returned (.slice (some ⟨g, 0, none⟩) n n) ∧ OwE w' w.heap.size (some ⟨g, 0, none⟩) n n xs ∧ w.heap.size ≤ g ∧ g < w'.heap.size ∧ Ex w w' := by

  have hl := Lib.hid hxs.1
  go_enter Tryz.func147, Tryz.ntmps147
  go_wp2_with (at_make; apply wpList_mk (lo := w.heap.size) el_E Sw.entZ z_E rfl rfl rfl rfl rfl; omega; (unfold maxLen; omega); exact sz_; intro wm hom hbm hzm; have hst := xr hbm; (try simp only [zA, zC, zD, zN] at hst); obtain ⟨hcm, hfm, hzm2⟩ := hst)
  go_loopw [4] (fun i wr => ∃ k : Nat, k ≤ n ∧ i = .int .i64 k ∧ Ex w wr ∧ OwE wr w.heap.size (some ⟨w.heap.size, 0, none⟩) n n (xs.take k ++ List.replicate (n - k) Sw.entZ)) (fun i _ => n - (intOf i).toNat)
  case atStart => exact ⟨0, Nat.zero_le _, rfl, by assumption, by simpa using hom⟩
  case round =>
    obtain ⟨k, hk, rfl, hb2, hrel⟩ := hrel
    have hst := Ex.rules hb2 rfl
    obtain ⟨hc2, hf2, hz2⟩ := hst
    by_cases hlt : k < n
    · obtain ⟨g, off, y, rfl, hg0, hg, hd, hy, hca0, hca1, hca2, hca3⟩ := at_E hxs hlt
      obtain ⟨g', x', hA', hg0', hg', hx', hcb0, hcb1, hcb2, hcb3, hfr⟩ := at_OE hrel hlt
      cases hA'
      have Ho := Lib.hid hrel
      have Hy := Lib.hid hy
      clear hrel hd hy hx'
      go_wp2_with (go_at_call 209; refine (toEntEntry_c _ _).mono ?_; rintro E w1 ⟨rfl, hb⟩; have hst := xr hb; (try simp only [zA, zC, zD, zN] at hst); obtain ⟨hc, hf, hz⟩ := hst)
      go_roundw
      case rel =>
        refine ⟨k + 1, by omega, by go_num, (by exact ext_), ?_⟩
        have key := fun W (h : OwE W w.heap.size (some ⟨w.heap.size, 0, none⟩) n n (xs.take k ++ List.replicate (n - k) Sw.entZ)) => Ow.put h (fun _ => rfl) y rfl hlt
        rw [take_set_step hl.out hlt Hy.out] at key
        exact key _ (Ow.keep Ho.out (by (exact kf_)))
      case measure => simp [intOf]; omega
    · have Hrel := Lib.hid hrel; clear hrel
      go_wp2_with fail
      go_ret
      have := Hrel.out
      obtain rfl : k = n := by omega
      rw [Nat.sub_self, List.take_of_length_le (by have := hl.out; omega)] at this
      exact ⟨_, rfl, by simpa using this, Nat.le_refl _, (this.blk rfl).2, (by exact ext_)⟩

theorem toMktDealS_c (A : Option Addr) (c n : Nat) (xs : List Sw.Deal) (w : World) (hxs : RDl w 0 A c n xs) (hn : n ≤ 1048576) : Calls Tryz.prog 148 #[.slice A n c] w fun E w' => ∃ g, E = .returned (.slice (some ⟨g, 0, none⟩) n n) ∧ OwD w' w.heap.size (some ⟨g, 0, none⟩) n n xs ∧ w.heap.size ≤ g ∧ g < w'.heap.size ∧ Ex w w' := by

  have hl := Lib.hid hxs.1
  go_enter Tryz.func148, Tryz.ntmps148
  go_wp2_with (at_make; apply wpList_mk (lo := w.heap.size) el_D Sw.dealZ z_D rfl rfl rfl rfl rfl; omega; (unfold maxLen; omega); exact sz_; intro wm hom hbm hzm; have hst := xr hbm; (try simp only [zA, zC, zD, zN] at hst); obtain ⟨hcm, hfm, hzm2⟩ := hst)
  go_loopw [4] (fun i wr => ∃ k : Nat, k ≤ n ∧ i = .int .i64 k ∧ Ex w wr ∧ OwD wr w.heap.size (some ⟨w.heap.size, 0, none⟩) n n (xs.take k ++ List.replicate (n - k) Sw.dealZ)) (fun i _ => n - (intOf i).toNat)
  case atStart => exact ⟨0, Nat.zero_le _, rfl, by assumption, by simpa using hom⟩
  case round =>
    obtain ⟨k, hk, rfl, hb2, hrel⟩ := hrel
    have hst := Ex.rules hb2 rfl
    obtain ⟨hc2, hf2, hz2⟩ := hst
    by_cases hlt : k < n
    · obtain ⟨g, off, y, rfl, hg0, hg, hd, hy, hca0, hca1, hca2, hca3, hca4⟩ := at_D hxs hlt
      obtain ⟨g', x', hA', hg0', hg', hx', hcb0, hcb1, hcb2, hcb3, hcb4, hfr⟩ := at_OD hrel hlt
      cases hA'
      have Ho := Lib.hid hrel
      have Hy := Lib.hid hy
      clear hrel hd hy hx'
      go_wp2_with (go_at_call 210; refine (toMktDeal_c _ _).mono ?_; rintro E w1 ⟨rfl, hb⟩; have hst := xr hb; (try simp only [zA, zC, zD, zN] at hst); obtain ⟨hc, hf, hz⟩ := hst)
      go_roundw
      case rel =>
        refine ⟨k + 1, by omega, by go_num, (by exact ext_), ?_⟩
        have key := fun W (h : OwD W w.heap.size (some ⟨w.heap.size, 0, none⟩) n n (xs.take k ++ List.replicate (n - k) Sw.dealZ)) => Ow.put h (fun _ => rfl) y rfl hlt
        rw [take_set_step hl.out hlt Hy.out] at key
        exact key _ (Ow.keep Ho.out (by (exact kf_)))
      case measure => simp [intOf]; omega
    · have Hrel := Lib.hid hrel; clear hrel
      go_wp2_with fail
      go_ret
      have := Hrel.out
      obtain rfl : k = n := by omega
      rw [Nat.sub_self, List.take_of_length_le (by have := hl.out; omega)] at this
      exact ⟨_, rfl, by simpa using this, Nat.le_refl _, (this.blk rfl).2, (by exact ext_)⟩

theorem toWldLineS_c (A : Option Addr) (c n : Nat) (xs : List Sw.Req) (w : World) (hxs : RQ w 0 A c n xs) (hn : n ≤ 1048576) : Calls Tryz.prog 77 #[.slice A n c] w fun E w' => ∃ g, E = .returned (.slice (some ⟨g, 0, none⟩) n n) ∧ OwQ w' w.heap.size (some ⟨g, 0, none⟩) n n xs ∧ w.heap.size ≤ g ∧ g < w'.heap.size ∧ Ex w w' := by

  have hl := Lib.hid hxs.1
  go_enter Tryz.func77, Tryz.ntmps77
  go_wp2_with (at_make; apply wpList_mk (lo := w.heap.size) el_Q Sw.reqZ z_Q rfl rfl rfl rfl rfl; omega; (unfold maxLen; omega); exact sz_; intro wm hom hbm hzm; have hst := xr hbm; (try simp only [zA, zC, zD, zN] at hst); obtain ⟨hcm, hfm, hzm2⟩ := hst)
  go_loopw [4] (fun i wr => ∃ k : Nat, k ≤ n ∧ i = .int .i64 k ∧ Ex w wr ∧ OwQ wr w.heap.size (some ⟨w.heap.size, 0, none⟩) n n (xs.take k ++ List.replicate (n - k) Sw.reqZ)) (fun i _ => n - (intOf i).toNat)
  case atStart => exact ⟨0, Nat.zero_le _, rfl, by assumption, by simpa using hom⟩
  case round =>
    obtain ⟨k, hk, rfl, hb2, hrel⟩ := hrel
    have hst := Ex.rules hb2 rfl
    obtain ⟨hc2, hf2, hz2⟩ := hst
    by_cases hlt : k < n
    · obtain ⟨g, off, y, rfl, hg0, hg, hd, hy, hca0, hca1, hca2, hca3, hca4, hca5⟩ := at_Q hxs hlt
      obtain ⟨g', x', hA', hg0', hg', hx', hcb0, hcb1, hcb2, hcb3, hcb4, hcb5, hfr⟩ := at_OQ hrel hlt
      cases hA'
      have Ho := Lib.hid hrel
      have Hy := Lib.hid hy
      clear hrel hd hy hx'
      go_wp2_with (go_at_call 149; refine (toWldLine_c _ _).mono ?_; rintro E w1 ⟨rfl, hb⟩; have hst := xr hb; (try simp only [zA, zC, zD, zN] at hst); obtain ⟨hc, hf, hz⟩ := hst)
      go_roundw
      case rel =>
        refine ⟨k + 1, by omega, by go_num, (by exact ext_), ?_⟩
        have key := fun W (h : OwQ W w.heap.size (some ⟨w.heap.size, 0, none⟩) n n (xs.take k ++ List.replicate (n - k) Sw.reqZ)) => Ow.put h (fun _ => rfl) y rfl hlt
        rw [take_set_step hl.out hlt Hy.out] at key
        exact key _ (Ow.keep Ho.out (by (exact kf_)))
      case measure => simp [intOf]; omega
    · have Hrel := Lib.hid hrel; clear hrel
      go_wp2_with fail
      go_ret
      have := Hrel.out
      obtain rfl : k = n := by omega
      rw [Nat.sub_self, List.take_of_length_le (by have := hl.out; omega)] at this
      exact ⟨_, rfl, by simpa using this, Nat.le_refl _, (this.blk rfl).2, (by exact ext_)⟩

end Go.Proofs.YtdbnbembjebfhaaGreat

