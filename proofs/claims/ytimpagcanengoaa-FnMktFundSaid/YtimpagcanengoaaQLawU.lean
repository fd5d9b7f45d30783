/-
  Walks: the tickets that somebody has put the price down for; rows the same.
-/
import Derived.Test.YtimpagcanengoaaQLawT
namespace Go.Proofs.Ytimpagcanengoaa
set_option maxRecDepth 100000
set_option linter.unusedSimpArgs false
set_option linter.unusedVariables false
open Go.RowKit Go
set_option maxHeartbeats 1000000

def forOne (who : Int) (d : Sw.Deal) : Bool := Sw.held d && decide (d.buyer = who)
theorem iForOne_c (gt : Nat) (who : Int) (d : Sw.Deal) (w : World) (hgt : w.cell? ⟨gt, 0, none⟩ = some (.int .i64 who)) : Calls Try.prog 71 #[.agg #[.int .i64 d.ticket, .int .i64 d.seller, .int .i64 d.price, .int .i64 d.buyer, .int .i64 d.due], .pointer (some ⟨gt, 0, none⟩)] w fun E w' => E = .returned (.bool (forOne who d)) ∧ Ex w w' := by
  have hlt : gt < w.heap.size := by
    rcases Nat.lt_or_ge gt w.heap.size with h | h
    · exact h
    · simp [World.cell?, Array.getElem?_eq_none h] at hgt
  unfold forOne
  cases hh : Sw.held d
  all_goals go_enter Try.func71, Try.ntmps71
  all_goals go_wp2_with (go_at_call 48; apply Calls.mono; apply (iHeld_c d); rintro E w1 ⟨rfl, hb⟩; (try rw [hh]); have hst := xr hb; (try simp only [zA, zC, zD, zN] at hst); obtain ⟨hc, hf, hz⟩ := hst)
  all_goals go_ret
  all_goals exact ⟨ret_b (by simp [beqI]), ext_⟩
theorem mktFor_eq (m : Sw.Mkt) (who : Int) : Sw.mktFor m who = (m.deals.filter (forOne who)).map (·.ticket) := rfl
theorem iForTickets_c (aL : Option Addr) (aLc aLn : Nat) (aP : Option Addr) (aPc aPn : Nat) (aD : Option Addr) (aDc aDn : Nat) (aN : Option Addr) (aNc aNn : Nat) (aS : Option Addr) (aSc aSn : Nat) (m : Sw.Mkt) (gt : Nat) (who : Int) (w : World) (hD : RDl w 0 aD aDc aDn m.deals) (hn : aDn ≤ 1000) (hgt : w.cell? ⟨gt, 0, none⟩ = some (.int .i64 who)) (hlg : gt < w.heap.size) : Calls Try.prog 70 #[.agg #[.slice aL aLn aLc, .slice aP aPn aPc, .slice aD aDn aDc, .int .i64 m.clock, .slice aN aNn aNc, .slice aS aSn aSc], .func (.func 71) #[] #[.pointer (some ⟨gt, 0, none⟩)]] w fun E w' => ∃ A' c' n', E = .returned (.slice A' n' c') ∧ OwI w' w.heap.size A' c' n' (Sw.mktFor m who) ∧ Ex w w' := by
  have hl := Lib.hid hD.1
  go_enter Try.func70, Try.ntmps70
  go_wp2_with fail
  go_loopw [5, 11] (fun o i wr => ∃ (k : Nat) (B : Option Addr) (d j : Nat) (ys : List Int), k ≤ aDn ∧ i = .int .i64 k ∧ o = .slice B j d ∧ Ex w wr ∧ OwI wr w.heap.size B d j ys ∧ j ≤ k ∧ Sw.mktFor m who = ys ++ ((m.deals.drop k).filter (forOne who)).map (·.ticket)) (fun _ i _ => aDn - (intOf i).toNat)
  case atStart => exact ⟨0, _, 0, 0, [], Nat.zero_le _, rfl, rfl, ext_, Ow.nil _ _, Nat.le_refl _, rfl⟩
  case round =>
    obtain ⟨k, B, d, j, ys, hk, rfl, rfl, hb, ho, hj, hrel⟩ := hrel
    have hst := Ex.rules hb rfl
    obtain ⟨hc, hf, hz⟩ := hst
    have hgt2 : wr.cell? ⟨gt, 0, none⟩ = some (.int .i64 who) := (hb.cell (p := ⟨gt, 0, none⟩) hlg (fun h => h)).trans hgt
    have hlg2 : gt < wr.heap.size := by have := hb.size; omega
    by_cases hlt : k < aDn
    · obtain ⟨g, off, y, rfl, hg0, hg, hd, hy, q0, q1, q2, q3, q4⟩ := at_D hD hlt
      rw [hd, List.filter_cons] at hrel
      have Hrel := Lib.hid hrel; clear hrel hd hy
      cases hy1 : forOne who y
      · have HY := Lib.hid hy1
        clear hy1
        go_wp2_with (go_at_call 71; apply Calls.mono; apply (iForOne_c gt who y); (exact (by (go_simp; first | done | simp [*]))); rintro E w1 ⟨rfl, hb⟩; rw [HY.out]; have hst := xr hb; (try simp only [zA, zC, zD, zN] at hst); obtain ⟨hc, hf, hz⟩ := hst)
        go_roundw
        case rel => exact ⟨k + 1, _, _, j, ys, by omega, by go_num, rfl, ext_, ho.keep kf_, by omega, by rw [Hrel.out, HY.out]; rfl⟩
        case measure => simp [intOf]; omega
      · have HY := Lib.hid hy1
        clear hy1
        go_wp2_with (first | (go_at_call 71; apply Calls.mono; apply (iForOne_c gt who y); (exact (by (go_simp; first | done | simp [*]))); rintro E w1 ⟨rfl, hb⟩; rw [HY.out]; have hst := xr hb; (try simp only [zA, zC, zD, zN] at hst); obtain ⟨hc, hf, hz⟩ := hst) | (at_builtin; apply wpList_app (lo := w.heap.size) el_I one_I rfl rfl rfl rfl; (first | assumption | exact Ow.nil _ _ | (apply Ow.keep; assumption; exact kf_) | (refine Ow.new [] (by (first | rfl | (simp only [zA, zC, zD, zN]; done) | omega)) rfl rfl (fun _ => rfl) (by exact sz_) (by omega))); (first | (refine Rs.new [y.ticket] (by (first | rfl | (simp only [zA, zC, zD, zN]; done) | omega)) rfl rfl (fun _ => rfl) (by omega))); omega; exact sz_; intro A1 c1 w2 ho1 hch1 hat1 hex1 hlow1; have hb := hex1 (fun _ => False) w (by exact ext_) (by exact sz_); have hz := hch1.size; (try simp only [zA, zC, zD, zN] at hz); obtain ⟨hc, hf⟩ := low_rules hlow1; clear hlow1 hex1))
        go_roundw
        case rel => exact ⟨k + 1, A1, c1, j + 1, _, by omega, by go_num, rfl, hb, ho1, by omega, by rw [Hrel.out, HY.out]; simp⟩
        case measure => simp [intOf]; omega
    · go_wp2_with fail
      go_ret
      refine ⟨_, _, _, rfl, ?_, ext_⟩
      rw [hrel, List.drop_of_length_le (by have := hl.out; omega)]
      simpa using ho
theorem iMktFor_c (aL : Option Addr) (aLc aLn : Nat) (aP : Option Addr) (aPc aPn : Nat) (aD : Option Addr) (aDc aDn : Nat) (aN : Option Addr) (aNc aNn : Nat) (aS : Option Addr) (aSc aSn : Nat) (m : Sw.Mkt) (who : Int) (w : World) (hD : RDl w 0 aD aDc aDn m.deals) (hn : aDn ≤ 1000) : Calls Try.prog 40 #[.agg #[.slice aL aLn aLc, .slice aP aPn aPc, .slice aD aDn aDc, .int .i64 m.clock, .slice aN aNn aNc, .slice aS aSn aSc], .int .i64 who] w fun E w' => ∃ A' c' n', E = .returned (.slice A' n' c') ∧ OwI w' w.heap.size A' c' n' (Sw.mktFor m who) ∧ Ex w w' := by
  go_enter Try.func40, Try.ntmps40
  go_wp2_with (go_at_call 70; apply Calls.mono; apply (iForTickets_c (m := m) (gt := w.heap.size + 1) (who := who)); (apply Rs.at0 hD; (exact kf_)); (exact hn); (simp [go_sem]); exact sz_; rintro E w1 ⟨A1, c1, n1, rfl, ho, hb⟩; have hst := xr hb; (try simp only [zA, zC, zD, zN] at hst); obtain ⟨hc, hf, hz⟩ := hst)
  go_ret
  exact ⟨_, _, _, rfl, (ho.keep kf_).less sz_, ext_⟩
theorem swRows_c (A : Option Addr) (c n : Nat) (xs : List Sw.Row) (B : Option Addr) (d m : Nat) (ys : List Sw.Row) (w : World) (hxs : RR w 0 A c n xs) (hys : RR w 0 B d m ys) : Calls Try.prog 38 #[.slice A n c, .slice B m d] w fun E w' => E = .returned (.bool (decide (xs = ys))) ∧ Ex w w' := by

  have hl := Lib.hid hxs.1
  have hl' := Lib.hid hys.1
  have hbig := Rs.big hxs
  by_cases hnm : n = m
  case neg =>
    have hb : ((n : Int) == m) = false := by simp; omega
    have e : decide (xs = ys) = false := by
      rw [decide_eq_false_iff_not]; rintro rfl
      have := hl.out; have := hl'.out; omega
    rw [e]; clear e
    go_enter Try.func38, Try.ntmps38
    go_wp2_with fail
    go_ret
    exact ⟨rfl, (by exact ext_)⟩
  subst hnm
  go_enter Try.func38, Try.ntmps38
  go_wp2_with fail
  go_loopw [5] (fun i wr => ∃ k : Nat, k ≤ n ∧ i = .int .i64 k ∧ Ex w wr ∧ decide (xs = ys) = decide (xs.drop k = ys.drop k)) (fun i _ => n - (intOf i).toNat)
  case atStart => exact ⟨0, Nat.zero_le _, rfl, Ch.refl _ _, rfl⟩
  case round =>
    obtain ⟨k, hk, rfl, hb2, hrel⟩ := hrel
    have hst := Ex.rules hb2 rfl
    obtain ⟨hc2, hf2, hz2⟩ := hst
    by_cases hlt : k < n
    · obtain ⟨g, off, y, rfl, hg0, hg, hd, hy, hca0, hca1, hca2⟩ := at_R hxs hlt
      obtain ⟨g', off', z, rfl, hg0', hg', hd', hz', hcb0, hcb1, hcb2⟩ := at_R hys hlt
      have t1 : (0 : Int) ≤ (k : Int) := by omega
      have t2 : (k : Int) < (n : Int) := by omega
      rw [hd, hd'] at hrel
      have Hrel := Lib.hid hrel
      clear hrel hd hd' hy hz'
      cases hyz : decide (y = z) with
      | true =>
        go_wp2_with fail
        (first | (obtain rfl := of_decide_eq_true hyz; go_quiet ((first | fail))) | (have hn := of_decide_eq_false hyz; by_cases a1 : y.who = z.who; all_goals (by_cases a2 : y.face = z.face); all_goals (by_cases a3 : y.used = z.used); all_goals (try (exfalso; apply hn; cases y; cases z; simp_all; done)); all_goals go_quiet ((first | fail))))
        all_goals go_wp2
        all_goals go_roundw
        case rel => exact ⟨k + 1, by omega, by go_num, (by exact ext_), by rw [Hrel.out]; simp [of_decide_eq_true hyz]⟩
        case measure => simp [intOf]; omega
      | false =>
        go_wp2_with fail
        (first | (obtain rfl := of_decide_eq_true hyz; go_quiet ((first | fail))) | (have hn := of_decide_eq_false hyz; by_cases a1 : y.who = z.who; all_goals (by_cases a2 : y.face = z.face); all_goals (by_cases a3 : y.used = z.used); all_goals (try (exfalso; apply hn; cases y; cases z; simp_all; done)); all_goals go_quiet ((first | fail))))
        all_goals go_wp2
        all_goals go_ret
        all_goals exact ⟨ret_b (by rw [Hrel.out]; simp [of_decide_eq_false hyz]), (by exact ext_)⟩
    · have Hrel := Lib.hid hrel; clear hrel
      go_wp2_with fail
      go_ret
      refine ⟨ret_b ?_, (by exact ext_)⟩
      rw [Hrel.out, List.drop_of_length_le (by have := hl.out; omega), List.drop_of_length_le (by have := hl'.out; omega)]
      simp

end Go.Proofs.Ytimpagcanengoaa

