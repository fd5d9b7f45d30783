/-
  Texts joined: LawEq2.
-/
import Derived.Test.YtdbnbembjebfhaaGreatPz36
namespace Go.Proofs.YtdbnbembjebfhaaGreat
set_option maxRecDepth 100000
set_option linter.unusedSimpArgs false
set_option linter.unusedVariables false
open Go.RowKit Go
set_option maxHeartbeats 400000

/-! ### sizes: what fits, and what does not -/
theorem szIntS_y (A : Option Addr) (c n : Nat) (xs : List Int) (l : Int) (w : World) (hxs : RI w 0 A c n xs) (h1 : l ≤ 1048576) (hle : (n : Int) ≤ l) : Calls Tryz.prog 67 #[.slice A n c, .int .i64 l] w fun E w' => E = .returned (.int .i64 (l - n)) ∧ w = w' :=
  (szIntS_c A c n xs l w hxs (by omega) h1).mono fun E w' ⟨h, k⟩ => ⟨by rw [h, if_neg (by omega)], k⟩
theorem szIntS_n (A : Option Addr) (c n : Nat) (xs : List Int) (l : Int) (w : World) (hxs : RI w 0 A c n xs) (h0 : 0 ≤ l) (h1 : l ≤ 1048576) (hle : l < n) : Calls Tryz.prog 67 #[.slice A n c, .int .i64 l] w fun E w' => E = .returned (.int .i64 (-1)) ∧ w = w' :=
  (szIntS_c A c n xs l w hxs (by omega) h1).mono fun E w' ⟨h, k⟩ => ⟨by rw [h, if_pos (by omega)], k⟩
theorem szEnt_y (A : Option Addr) (c n : Nat) (xs : List Sw.Ent) (l : Int) (w : World) (hxs : RE w 0 A c n xs) (h1 : l ≤ 1048576) (hle : (n : Int) ≤ l) : Calls Tryz.prog 127 #[.slice A n c, .int .i64 l] w fun E w' => E = .returned (.int .i64 (l - n)) ∧ w = w' :=
  (szEntEntryS_c A c n xs l w hxs (by omega) h1).mono fun E w' ⟨h, k⟩ => ⟨by rw [h, if_neg (by omega)], k⟩
theorem szEnt_n (A : Option Addr) (c n : Nat) (xs : List Sw.Ent) (l : Int) (w : World) (hxs : RE w 0 A c n xs) (h0 : 0 ≤ l) (h1 : l ≤ 1048576) (hle : l < n) : Calls Tryz.prog 127 #[.slice A n c, .int .i64 l] w fun E w' => E = .returned (.int .i64 (-1)) ∧ w = w' :=
  (szEntEntryS_c A c n xs l w hxs (by omega) h1).mono fun E w' ⟨h, k⟩ => ⟨by rw [h, if_pos (by omega)], k⟩
theorem szDeal_y (A : Option Addr) (c n : Nat) (xs : List Sw.Deal) (l : Int) (w : World) (hxs : RDl w 0 A c n xs) (h1 : l ≤ 1048576) (hle : (n : Int) ≤ l) : Calls Tryz.prog 128 #[.slice A n c, .int .i64 l] w fun E w' => E = .returned (.int .i64 (l - n)) ∧ w = w' :=
  (szMktDealS_c A c n xs l w hxs (by omega) h1).mono fun E w' ⟨h, k⟩ => ⟨by rw [h, if_neg (by omega)], k⟩
theorem szDeal_n (A : Option Addr) (c n : Nat) (xs : List Sw.Deal) (l : Int) (w : World) (hxs : RDl w 0 A c n xs) (h0 : 0 ≤ l) (h1 : l ≤ 1048576) (hle : l < n) : Calls Tryz.prog 128 #[.slice A n c, .int .i64 l] w fun E w' => E = .returned (.int .i64 (-1)) ∧ w = w' :=
  (szMktDealS_c A c n xs l w hxs (by omega) h1).mono fun E w' ⟨h, k⟩ => ⟨by rw [h, if_pos (by omega)], k⟩
theorem szLine_y (A : Option Addr) (c n : Nat) (xs : List Sw.Req) (l : Int) (w : World) (hxs : RQ w 0 A c n xs) (h1 : l ≤ 1048576) (hle : (n : Int) ≤ l) : Calls Tryz.prog 69 #[.slice A n c, .int .i64 l] w fun E w' => E = .returned (.int .i64 (l - n)) ∧ w = w' :=
  (szWldLineS_c A c n xs l w hxs (by omega) h1).mono fun E w' ⟨h, k⟩ => ⟨by rw [h, if_neg (by omega)], k⟩
theorem szLine_n (A : Option Addr) (c n : Nat) (xs : List Sw.Req) (l : Int) (w : World) (hxs : RQ w 0 A c n xs) (h0 : 0 ≤ l) (h1 : l ≤ 1048576) (hle : l < n) : Calls Tryz.prog 69 #[.slice A n c, .int .i64 l] w fun E w' => E = .returned (.int .i64 (-1)) ∧ w = w' :=
  (szWldLineS_c A c n xs l w hxs (by omega) h1).mono fun E w' ⟨h, k⟩ => ⟨by rw [h, if_pos (by omega)], k⟩

theorem szMkt_y (aL : Option Addr) (aLc aLn : Nat) (aP : Option Addr) (aPc aPn : Nat) (aD : Option Addr) (aDc aDn : Nat) (aN : Option Addr) (aNc aNn : Nat) (aS : Option Addr) (aSc aSn : Nat) (m : Sw.Mkt) (l : Int) (w : World) (hm : RM w 0 aL aLc aLn aP aPc aPn aD aDc aDn aN aNc aNn aS aSc aSn m) (h1 : l ≤ 1048576) (hle : (aLn : Int) + aPn + aDn + aNn + aSn ≤ l) : Calls Tryz.prog 68 #[.agg #[.slice aL aLn aLc, .slice aP aPn aPc, .slice aD aDn aDc, .int .i64 m.clock, .slice aN aNn aNc, .slice aS aSn aSc], .int .i64 l] w fun E w' => E = .returned (.int .i64 (l - (aLn + aPn + aDn + aNn + aSn))) ∧ Ex w w' := by
  obtain ⟨m1, m2, m3, m4, m5⟩ := hm
  go_enter Tryz.func68, Tryz.ntmps68
  go_wp2_with (first | (go_at_call 127; apply Calls.mono; apply szEnt_y; ((first | (apply Rs.at0; assumption) | (apply Ow.rs0; assumption)); exact kf_); (first | assumption | omega); (first | assumption | omega); rintro E w' ⟨rfl, rfl⟩) | (go_at_call 67; apply Calls.mono; apply szIntS_y; ((first | (apply Rs.at0; assumption) | (apply Ow.rs0; assumption)); exact kf_); (first | assumption | omega); (first | assumption | omega); rintro E w' ⟨rfl, rfl⟩) | (go_at_call 128; apply Calls.mono; apply szDeal_y; ((first | (apply Rs.at0; assumption) | (apply Ow.rs0; assumption)); exact kf_); (first | assumption | omega); (first | assumption | omega); rintro E w' ⟨rfl, rfl⟩))
  all_goals (go_ret; exact ⟨ret_i (by omega), ext_⟩)
theorem szMkt_n (aL : Option Addr) (aLc aLn : Nat) (aP : Option Addr) (aPc aPn : Nat) (aD : Option Addr) (aDc aDn : Nat) (aN : Option Addr) (aNc aNn : Nat) (aS : Option Addr) (aSc aSn : Nat) (m : Sw.Mkt) (l : Int) (w : World) (hm : RM w 0 aL aLc aLn aP aPc aPn aD aDc aDn aN aNc aNn aS aSc aSn m) (h0 : 0 ≤ l) (h1 : l ≤ 1048576) (hle : l < aLn + aPn + aDn + aNn + aSn) : Calls Tryz.prog 68 #[.agg #[.slice aL aLn aLc, .slice aP aPn aPc, .slice aD aDn aDc, .int .i64 m.clock, .slice aN aNn aNc, .slice aS aSn aSc], .int .i64 l] w fun E w' => E = .returned (.int .i64 (-1)) ∧ Ex w w' := by
  obtain ⟨m1, m2, m3, m4, m5⟩ := hm
  rcases (show l < aLn ∨ (aLn ≤ l ∧ l < aLn + aPn) ∨ (aLn + aPn ≤ l ∧ l < aLn + aPn + aDn) ∨ (aLn + aPn + aDn ≤ l ∧ l < aLn + aPn + aDn + aNn) ∨ (aLn + aPn + aDn + aNn ≤ l) by omega) with h2 | ⟨h2, h3⟩ | ⟨h2, h3⟩ | ⟨h2, h3⟩ | h2
  all_goals
    go_enter Tryz.func68, Tryz.ntmps68
    go_wp2_with (first | (go_at_call 127; apply Calls.mono; apply szEnt_y; ((first | (apply Rs.at0; assumption) | (apply Ow.rs0; assumption)); exact kf_); (first | assumption | omega); (first | assumption | omega); rintro E w' ⟨rfl, rfl⟩) | (go_at_call 127; apply Calls.mono; apply szEnt_n; ((first | (apply Rs.at0; assumption) | (apply Ow.rs0; assumption)); exact kf_); (first | assumption | omega); (first | assumption | omega); (first | assumption | omega); rintro E w' ⟨rfl, rfl⟩) | (go_at_call 67; apply Calls.mono; apply szIntS_y; ((first | (apply Rs.at0; assumption) | (apply Ow.rs0; assumption)); exact kf_); (first | assumption | omega); (first | assumption | omega); rintro E w' ⟨rfl, rfl⟩) | (go_at_call 67; apply Calls.mono; apply szIntS_n; ((first | (apply Rs.at0; assumption) | (apply Ow.rs0; assumption)); exact kf_); (first | assumption | omega); (first | assumption | omega); (first | assumption | omega); rintro E w' ⟨rfl, rfl⟩) | (go_at_call 128; apply Calls.mono; apply szDeal_y; ((first | (apply Rs.at0; assumption) | (apply Ow.rs0; assumption)); exact kf_); (first | assumption | omega); (first | assumption | omega); rintro E w' ⟨rfl, rfl⟩) | (go_at_call 128; apply Calls.mono; apply szDeal_n; ((first | (apply Rs.at0; assumption) | (apply Ow.rs0; assumption)); exact kf_); (first | assumption | omega); (first | assumption | omega); (first | assumption | omega); rintro E w' ⟨rfl, rfl⟩))
    all_goals (go_ret; exact ⟨rfl, ext_⟩)
theorem szGate_y (t : Sw.Head) (A : Option Addr) (c n : Nat) (xs : List Int) (l : Int) (w : World) (hxs : RI w 0 A c n xs) (h1 : l ≤ 1048576) (hle : (n : Int) ≤ l) : Calls Tryz.prog 129 #[.agg #[.int .i64 t.size, .int .i64 t.log, .int .i64 t.own, .slice A n c], .int .i64 l] w fun E w' => E = .returned (.int .i64 (l - n)) ∧ Ex w w' := by
  go_enter Tryz.func129, Tryz.ntmps129
  go_wp2_with (first | (go_at_call 67; apply Calls.mono; apply szIntS_y; ((first | (apply Rs.at0; assumption) | (apply Ow.rs0; assumption)); exact kf_); (first | assumption | omega); (first | assumption | omega); rintro E w' ⟨rfl, rfl⟩))
  all_goals (go_ret; exact ⟨ret_i (by omega), ext_⟩)
theorem szGate_n (t : Sw.Head) (A : Option Addr) (c n : Nat) (xs : List Int) (l : Int) (w : World) (hxs : RI w 0 A c n xs) (h0 : 0 ≤ l) (h1 : l ≤ 1048576) (hle : l < n) : Calls Tryz.prog 129 #[.agg #[.int .i64 t.size, .int .i64 t.log, .int .i64 t.own, .slice A n c], .int .i64 l] w fun E w' => E = .returned (.int .i64 (-1)) ∧ Ex w w' := by
  go_enter Tryz.func129, Tryz.ntmps129
  go_wp2_with (first | (go_at_call 67; apply Calls.mono; apply szIntS_n; ((first | (apply Rs.at0; assumption) | (apply Ow.rs0; assumption)); exact kf_); (first | assumption | omega); (first | assumption | omega); (first | assumption | omega); rintro E w' ⟨rfl, rfl⟩))
  all_goals (go_ret; exact ⟨rfl, ext_⟩)
theorem szMsg_y (g : Int) (t : Sw.Head) (A : Option Addr) (c n : Nat) (xs : List Int) (l : Int) (w : World) (hxs : RI w 0 A c n xs) (h1 : l ≤ 1048576) (hle : (n : Int) ≤ l) : Calls Tryz.prog 130 #[.agg #[.int .i64 g, .int .i64 t.size, .int .i64 t.log, .int .i64 t.own, .slice A n c], .int .i64 l] w fun E w' => E = .returned (.int .i64 (l - n)) ∧ Ex w w' := by
  go_enter Tryz.func130, Tryz.ntmps130
  go_wp2_with (first | (go_at_call 67; apply Calls.mono; apply szIntS_y; ((first | (apply Rs.at0; assumption) | (apply Ow.rs0; assumption)); exact kf_); (first | assumption | omega); (first | assumption | omega); rintro E w' ⟨rfl, rfl⟩))
  all_goals (go_ret; exact ⟨ret_i (by omega), ext_⟩)
theorem szMsg_n (g : Int) (t : Sw.Head) (A : Option Addr) (c n : Nat) (xs : List Int) (l : Int) (w : World) (hxs : RI w 0 A c n xs) (h0 : 0 ≤ l) (h1 : l ≤ 1048576) (hle : l < n) : Calls Tryz.prog 130 #[.agg #[.int .i64 g, .int .i64 t.size, .int .i64 t.log, .int .i64 t.own, .slice A n c], .int .i64 l] w fun E w' => E = .returned (.int .i64 (-1)) ∧ Ex w w' := by
  go_enter Tryz.func130, Tryz.ntmps130
  go_wp2_with (first | (go_at_call 67; apply Calls.mono; apply szIntS_n; ((first | (apply Rs.at0; assumption) | (apply Ow.rs0; assumption)); exact kf_); (first | assumption | omega); (first | assumption | omega); (first | assumption | omega); rintro E w' ⟨rfl, rfl⟩))
  all_goals (go_ret; exact ⟨rfl, ext_⟩)

/-- How many numbers gates, messages hold in their own slices. -/
def dsz (gs : List Sw.Gate) : Nat := (gs.map (·.done.length)).sum
def psz (xs : List Sw.Msg) : Nat := (xs.map (·.proof.length)).sum
theorem dsz_cons (g : Sw.Gate) (gs : List Sw.Gate) : dsz (g :: gs) = g.done.length + dsz gs := by simp [dsz]
theorem psz_cons (g : Sw.Msg) (gs : List Sw.Msg) : psz (g :: gs) = g.proof.length + psz gs := by simp [psz]
theorem szGates_y (A : Option Addr) (c n : Nat) (gs : List Sw.Gate) (l : Int) (w : World) (hxs : RG w 0 A c n gs) (h1 : l ≤ 1048576) (hle : (n : Int) + dsz gs ≤ l) : Calls Tryz.prog 70 #[.slice A n c, .int .i64 l] w fun E w' => E = .returned (.int .i64 (l - (n + dsz gs))) ∧ Ex w w' := by
  have hl := Lib.hid hxs.len.1
  have hbig := hxs.len.2
  go_enter Tryz.func70, Tryz.ntmps70
  go_wp2_with fail
  go_loopw [5, 1] (fun i v wr => ∃ (k : Nat) (l' : Int), k ≤ n ∧ i = .int .i64 k ∧ v = .int .i64 l' ∧ l' ≤ 1048576 ∧ (dsz (gs.drop k) : Int) ≤ l' ∧ l' - dsz (gs.drop k) = l - n - dsz gs ∧ Ex w wr) (fun i _ _ => n - (intOf i).toNat)
  case atStart => exact ⟨0, l - n, Nat.zero_le _, rfl, rfl, by omega, by simp; omega, by simp, Ch.refl _ _⟩
  case round =>
    obtain ⟨k, l', hk, rfl, rfl, hl1, hl2, hrel, hb2⟩ := hrel
    have hst := Ex.rules hb2 rfl
    obtain ⟨hc2, hf2, hz2⟩ := hst
    by_cases hlt : k < n
    · obtain ⟨g, off, y, B, d, m, rfl, hg0, hg, hd, hy, q0, q1, q2, q3, hr⟩ := at_G hxs hlt
      rw [hd, dsz_cons] at hrel hl2
      have hm : m = y.done.length := hr.1
      have Hrel := Lib.hid hrel
      have Hm := Lib.hid hm
      have hl3 : (m : Int) ≤ l' := by omega
      have hl4 : (dsz (gs.drop (k + 1)) : Int) ≤ l' - m := by omega
      clear hrel hd hy hm hl2
      go_wp2_with (first | (go_at_call 129; apply Calls.mono; apply szGate_y; ((first | (apply Rs.at0; assumption) | (apply Ow.rs0; assumption)); exact kf_); (first | assumption | omega); (first | assumption | omega); rintro E w1 ⟨rfl, hb⟩; have hst := xr hb; (try simp only [zA, zC, zD, zN] at hst); obtain ⟨hc, hf, hz⟩ := hst))
      all_goals go_roundw
      case rel => exact ⟨k + 1, l' - m, by omega, by go_num, rfl, by omega, by omega, by have := Hrel.out; have := Hm.out; omega, ext_⟩
      case measure => simp [intOf]; omega
    · have Hrel := Lib.hid hrel; clear hrel
      have e : gs.drop k = [] := List.drop_of_length_le (by have := hl.out; omega)
      rw [e] at hl2
      have E := Lib.hid e; clear e
      go_wp2_with fail
      go_ret
      refine ⟨ret_i ?_, ext_⟩
      have := Hrel.out
      rw [E.out] at this
      have h0 : dsz [] = 0 := rfl
      omega
theorem szGates_n (A : Option Addr) (c n : Nat) (gs : List Sw.Gate) (l : Int) (w : World) (hxs : RG w 0 A c n gs) (h0 : 0 ≤ l) (h1 : l ≤ 1048576) (hle : l < n + dsz gs) : Calls Tryz.prog 70 #[.slice A n c, .int .i64 l] w fun E w' => E = .returned (.int .i64 (-1)) ∧ Ex w w' := by
  have hl := Lib.hid hxs.len.1
  have hbig := hxs.len.2
  by_cases hn : l < n
  · go_enter Tryz.func70, Tryz.ntmps70
    go_wp2_with fail
    go_ret
    exact ⟨rfl, ext_⟩
  go_enter Tryz.func70, Tryz.ntmps70
  go_wp2_with fail
  go_loopw [5, 1] (fun i v wr => ∃ (k : Nat) (l' : Int), k ≤ n ∧ i = .int .i64 k ∧ v = .int .i64 l' ∧ 0 ≤ l' ∧ l' ≤ 1048576 ∧ l' < dsz (gs.drop k) ∧ Ex w wr) (fun i _ _ => n - (intOf i).toNat)
  case atStart => exact ⟨0, l - n, Nat.zero_le _, rfl, rfl, by omega, by omega, by simp; omega, Ch.refl _ _⟩
  case round =>
    obtain ⟨k, l', hk, rfl, rfl, hl0, hl1, hl2, hb2⟩ := hrel
    have hst := Ex.rules hb2 rfl
    obtain ⟨hc2, hf2, hz2⟩ := hst
    by_cases hlt : k < n
    · obtain ⟨g, off, y, B, d, m, rfl, hg0, hg, hd, hy, q0, q1, q2, q3, hr⟩ := at_G hxs hlt
      rw [hd, dsz_cons] at hl2
      have hm : m = y.done.length := hr.1
      rw [← hm] at hl2
      clear hd hy hm
      by_cases hl3 : l' < m
      · clear hl2
        go_wp2_with (first | (go_at_call 129; apply Calls.mono; apply szGate_n; ((first | (apply Rs.at0; assumption) | (apply Ow.rs0; assumption)); exact kf_); (first | assumption | omega); (first | assumption | omega); (first | assumption | omega); rintro E w1 ⟨rfl, hb⟩; have hst := xr hb; (try simp only [zA, zC, zD, zN] at hst); obtain ⟨hc, hf, hz⟩ := hst))
        all_goals (go_ret; exact ⟨rfl, ext_⟩)
      · have hl4 : l' - m < dsz (gs.drop (k + 1)) := by omega
        clear hl2
        go_wp2_with (first | (go_at_call 129; apply Calls.mono; apply szGate_y; ((first | (apply Rs.at0; assumption) | (apply Ow.rs0; assumption)); exact kf_); (first | assumption | omega); (first | assumption | omega); rintro E w1 ⟨rfl, hb⟩; have hst := xr hb; (try simp only [zA, zC, zD, zN] at hst); obtain ⟨hc, hf, hz⟩ := hst))
        all_goals go_roundw
        case rel => exact ⟨k + 1, l' - m, by omega, by go_num, rfl, by omega, by omega, by omega, ext_⟩
        case measure => simp [intOf]; omega
    · have e : gs.drop k = [] := List.drop_of_length_le (by have := hl.out; omega)
      rw [e] at hl2
      have h0 : dsz [] = 0 := rfl
      omega
theorem szMsgs_y (A : Option Addr) (c n : Nat) (gs : List Sw.Msg) (l : Int) (w : World) (hxs : RX w 0 A c n gs) (h1 : l ≤ 1048576) (hle : (n : Int) + psz gs ≤ l) : Calls Tryz.prog 71 #[.slice A n c, .int .i64 l] w fun E w' => E = .returned (.int .i64 (l - (n + psz gs))) ∧ Ex w w' := by
  have hl := Lib.hid hxs.len.1
  have hbig := hxs.len.2
  go_enter Tryz.func71, Tryz.ntmps71
  go_wp2_with fail
  go_loopw [5, 1] (fun i v wr => ∃ (k : Nat) (l' : Int), k ≤ n ∧ i = .int .i64 k ∧ v = .int .i64 l' ∧ l' ≤ 1048576 ∧ (psz (gs.drop k) : Int) ≤ l' ∧ l' - psz (gs.drop k) = l - n - psz gs ∧ Ex w wr) (fun i _ _ => n - (intOf i).toNat)
  case atStart => exact ⟨0, l - n, Nat.zero_le _, rfl, rfl, by omega, by simp; omega, by simp, Ch.refl _ _⟩
  case round =>
    obtain ⟨k, l', hk, rfl, rfl, hl1, hl2, hrel, hb2⟩ := hrel
    have hst := Ex.rules hb2 rfl
    obtain ⟨hc2, hf2, hz2⟩ := hst
    by_cases hlt : k < n
    · obtain ⟨g, off, y, B, d, m, rfl, hg0, hg, hd, hy, q0, q1, q2, q3, q4, hr⟩ := at_X hxs hlt
      rw [hd, psz_cons] at hrel hl2
      have hm : m = y.proof.length := hr.1
      have Hrel := Lib.hid hrel
      have Hm := Lib.hid hm
      have hl3 : (m : Int) ≤ l' := by omega
      have hl4 : (psz (gs.drop (k + 1)) : Int) ≤ l' - m := by omega
      clear hrel hd hy hm hl2
      go_wp2_with (first | (go_at_call 130; apply Calls.mono; apply szMsg_y; ((first | (apply Rs.at0; assumption) | (apply Ow.rs0; assumption)); exact kf_); (first | assumption | omega); (first | assumption | omega); rintro E w1 ⟨rfl, hb⟩; have hst := xr hb; (try simp only [zA, zC, zD, zN] at hst); obtain ⟨hc, hf, hz⟩ := hst))
      all_goals go_roundw
      case rel => exact ⟨k + 1, l' - m, by omega, by go_num, rfl, by omega, by omega, by have := Hrel.out; have := Hm.out; omega, ext_⟩
      case measure => simp [intOf]; omega
    · have Hrel := Lib.hid hrel; clear hrel
      have e : gs.drop k = [] := List.drop_of_length_le (by have := hl.out; omega)
      rw [e] at hl2
      have E := Lib.hid e; clear e
      go_wp2_with fail
      go_ret
      refine ⟨ret_i ?_, ext_⟩
      have := Hrel.out
      rw [E.out] at this
      have h0 : psz [] = 0 := rfl
      omega
theorem szMsgs_n (A : Option Addr) (c n : Nat) (gs : List Sw.Msg) (l : Int) (w : World) (hxs : RX w 0 A c n gs) (h0 : 0 ≤ l) (h1 : l ≤ 1048576) (hle : l < n + psz gs) : Calls Tryz.prog 71 #[.slice A n c, .int .i64 l] w fun E w' => E = .returned (.int .i64 (-1)) ∧ Ex w w' := by
  have hl := Lib.hid hxs.len.1
  have hbig := hxs.len.2
  by_cases hn : l < n
  · go_enter Tryz.func71, Tryz.ntmps71
    go_wp2_with fail
    go_ret
    exact ⟨rfl, ext_⟩
  go_enter Tryz.func71, Tryz.ntmps71
  go_wp2_with fail
  go_loopw [5, 1] (fun i v wr => ∃ (k : Nat) (l' : Int), k ≤ n ∧ i = .int .i64 k ∧ v = .int .i64 l' ∧ 0 ≤ l' ∧ l' ≤ 1048576 ∧ l' < psz (gs.drop k) ∧ Ex w wr) (fun i _ _ => n - (intOf i).toNat)
  case atStart => exact ⟨0, l - n, Nat.zero_le _, rfl, rfl, by omega, by omega, by simp; omega, Ch.refl _ _⟩
  case round =>
    obtain ⟨k, l', hk, rfl, rfl, hl0, hl1, hl2, hb2⟩ := hrel
    have hst := Ex.rules hb2 rfl
    obtain ⟨hc2, hf2, hz2⟩ := hst
    by_cases hlt : k < n
    · obtain ⟨g, off, y, B, d, m, rfl, hg0, hg, hd, hy, q0, q1, q2, q3, q4, hr⟩ := at_X hxs hlt
      rw [hd, psz_cons] at hl2
      have hm : m = y.proof.length := hr.1
      rw [← hm] at hl2
      clear hd hy hm
      by_cases hl3 : l' < m
      · clear hl2
        go_wp2_with (first | (go_at_call 130; apply Calls.mono; apply szMsg_n; ((first | (apply Rs.at0; assumption) | (apply Ow.rs0; assumption)); exact kf_); (first | assumption | omega); (first | assumption | omega); (first | assumption | omega); rintro E w1 ⟨rfl, hb⟩; have hst := xr hb; (try simp only [zA, zC, zD, zN] at hst); obtain ⟨hc, hf, hz⟩ := hst))
        all_goals (go_ret; exact ⟨rfl, ext_⟩)
      · have hl4 : l' - m < psz (gs.drop (k + 1)) := by omega
        clear hl2
        go_wp2_with (first | (go_at_call 130; apply Calls.mono; apply szMsg_y; ((first | (apply Rs.at0; assumption) | (apply Ow.rs0; assumption)); exact kf_); (first | assumption | omega); (first | assumption | omega); rintro E w1 ⟨rfl, hb⟩; have hst := xr hb; (try simp only [zA, zC, zD, zN] at hst); obtain ⟨hc, hf, hz⟩ := hst))
        all_goals go_roundw
        case rel => exact ⟨k + 1, l' - m, by omega, by go_num, rfl, by omega, by omega, by omega, ext_⟩
        case measure => simp [intOf]; omega
    · have e : gs.drop k = [] := List.drop_of_length_le (by have := hl.out; omega)
      rw [e] at hl2
      have h0 : psz [] = 0 := rfl
      omega
theorem szWld_y (aF : Option Addr) (aFc aFn : Nat) (aL : Option Addr) (aLc aLn : Nat) (aP : Option Addr) (aPc aPn : Nat) (aD : Option Addr) (aDc aDn : Nat) (aN : Option Addr) (aNc aNn : Nat) (aS : Option Addr) (aSc aSn : Nat) (aI : Option Addr) (aIc aIn : Nat) (aG : Option Addr) (aGc aGn : Nat) (aB : Option Addr) (aBc aBn : Nat) (x : Sw.World) (l : Int) (w : World) (hx : RW w 0 aF aFc aFn aL aLc aLn aP aPc aPn aD aDc aDn aN aNc aNn aS aSc aSn aI aIc aIn aG aGc aGn aB aBc aBn x) (h1 : l ≤ 1048576) (hle : (aFn : Int) + (aLn + aPn + aDn + aNn + aSn) + aIn + (aGn + dsz x.gates) + (aBn + psz x.bag) ≤ l) : Calls Tryz.prog 18 #[.agg #[.slice aF aFn aFc, .slice aL aLn aLc, .slice aP aPn aPc, .slice aD aDn aDc, .int .i64 x.market.clock, .slice aN aNn aNc, .slice aS aSn aSc, .slice aI aIn aIc, .slice aG aGn aGc, .slice aB aBn aBc], .int .i64 l] w fun E w' => E = .returned (.int .i64 (l - aFn - (aLn + aPn + aDn + aNn + aSn) - aIn - (aGn + dsz x.gates) - (aBn + psz x.bag))) ∧ Ex w w' := by
  obtain ⟨x1, x2, x3, x4, x5⟩ := hx
  go_enter Tryz.func18, Tryz.ntmps18
  go_wp2_with (first | (go_at_call 67; apply Calls.mono; apply szIntS_y; ((first | (apply Rs.at0; assumption) | (apply Ow.rs0; assumption)); exact kf_); (first | assumption | omega); (first | assumption | omega); rintro E w' ⟨rfl, rfl⟩) | (go_at_call 68; apply Calls.mono; apply szMkt_y; ((first | (apply RM.at0; assumption)); exact kf_); (first | assumption | omega); (first | assumption | omega); rintro E w1 ⟨rfl, hb⟩; have hst := xr hb; (try simp only [zA, zC, zD, zN] at hst); obtain ⟨hc, hf, hz⟩ := hst) | (go_at_call 69; apply Calls.mono; apply szLine_y; ((first | (apply Rs.at0; assumption) | (apply Ow.rs0; assumption)); exact kf_); (first | assumption | omega); (first | assumption | omega); rintro E w' ⟨rfl, rfl⟩) | (go_at_call 70; apply Calls.mono; apply szGates_y; ((first | (apply RG.at0; assumption)); exact kf_); (first | assumption | omega); (first | assumption | omega); rintro E w1 ⟨rfl, hb⟩; have hst := xr hb; (try simp only [zA, zC, zD, zN] at hst); obtain ⟨hc, hf, hz⟩ := hst) | (go_at_call 71; apply Calls.mono; apply szMsgs_y; ((first | (apply RX.at0; assumption)); exact kf_); (first | assumption | omega); (first | assumption | omega); rintro E w1 ⟨rfl, hb⟩; have hst := xr hb; (try simp only [zA, zC, zD, zN] at hst); obtain ⟨hc, hf, hz⟩ := hst))
  all_goals (go_ret; exact ⟨ret_i (by omega), ext_⟩)
theorem szWld_n (aF : Option Addr) (aFc aFn : Nat) (aL : Option Addr) (aLc aLn : Nat) (aP : Option Addr) (aPc aPn : Nat) (aD : Option Addr) (aDc aDn : Nat) (aN : Option Addr) (aNc aNn : Nat) (aS : Option Addr) (aSc aSn : Nat) (aI : Option Addr) (aIc aIn : Nat) (aG : Option Addr) (aGc aGn : Nat) (aB : Option Addr) (aBc aBn : Nat) (x : Sw.World) (l : Int) (w : World) (hx : RW w 0 aF aFc aFn aL aLc aLn aP aPc aPn aD aDc aDn aN aNc aNn aS aSc aSn aI aIc aIn aG aGc aGn aB aBc aBn x) (h0 : 0 ≤ l) (h1 : l ≤ 1048576) (hle : l < (aFn : Int) + (aLn + aPn + aDn + aNn + aSn) + aIn + (aGn + dsz x.gates) + (aBn + psz x.bag)) : Calls Tryz.prog 18 #[.agg #[.slice aF aFn aFc, .slice aL aLn aLc, .slice aP aPn aPc, .slice aD aDn aDc, .int .i64 x.market.clock, .slice aN aNn aNc, .slice aS aSn aSc, .slice aI aIn aIc, .slice aG aGn aGc, .slice aB aBn aBc], .int .i64 l] w fun E w' => E = .returned (.int .i64 (-1)) ∧ Ex w w' := by
  obtain ⟨x1, x2, x3, x4, x5⟩ := hx
  rcases (show l < aFn ∨ (aFn ≤ l ∧ l < aFn + (aLn + aPn + aDn + aNn + aSn)) ∨ (aFn + (aLn + aPn + aDn + aNn + aSn) ≤ l ∧ l < aFn + (aLn + aPn + aDn + aNn + aSn) + aIn) ∨
    (aFn + (aLn + aPn + aDn + aNn + aSn) + aIn ≤ l ∧ l < aFn + (aLn + aPn + aDn + aNn + aSn) + aIn + (aGn + dsz x.gates)) ∨ (aFn + (aLn + aPn + aDn + aNn + aSn) + aIn + (aGn + dsz x.gates) ≤ l) by omega) with h2 | ⟨h2, h3⟩ | ⟨h2, h3⟩ | ⟨h2, h3⟩ | h2
  all_goals
    go_enter Tryz.func18, Tryz.ntmps18
    go_wp2_with (first | (go_at_call 67; apply Calls.mono; apply szIntS_y; ((first | (apply Rs.at0; assumption) | (apply Ow.rs0; assumption)); exact kf_); (first | assumption | omega); (first | assumption | omega); rintro E w' ⟨rfl, rfl⟩) | (go_at_call 67; apply Calls.mono; apply szIntS_n; ((first | (apply Rs.at0; assumption) | (apply Ow.rs0; assumption)); exact kf_); (first | assumption | omega); (first | assumption | omega); (first | assumption | omega); rintro E w' ⟨rfl, rfl⟩) | (go_at_call 68; apply Calls.mono; apply szMkt_y; ((first | (apply RM.at0; assumption)); exact kf_); (first | assumption | omega); (first | assumption | omega); rintro E w1 ⟨rfl, hb⟩; have hst := xr hb; (try simp only [zA, zC, zD, zN] at hst); obtain ⟨hc, hf, hz⟩ := hst) | (go_at_call 68; apply Calls.mono; apply szMkt_n; ((first | (apply RM.at0; assumption)); exact kf_); (first | assumption | omega); (first | assumption | omega); (first | assumption | omega); rintro E w1 ⟨rfl, hb⟩; have hst := xr hb; (try simp only [zA, zC, zD, zN] at hst); obtain ⟨hc, hf, hz⟩ := hst) | (go_at_call 69; apply Calls.mono; apply szLine_y; ((first | (apply Rs.at0; assumption) | (apply Ow.rs0; assumption)); exact kf_); (first | assumption | omega); (first | assumption | omega); rintro E w' ⟨rfl, rfl⟩) | (go_at_call 69; apply Calls.mono; apply szLine_n; ((first | (apply Rs.at0; assumption) | (apply Ow.rs0; assumption)); exact kf_); (first | assumption | omega); (first | assumption | omega); (first | assumption | omega); rintro E w' ⟨rfl, rfl⟩) | (go_at_call 70; apply Calls.mono; apply szGates_y; ((first | (apply RG.at0; assumption)); exact kf_); (first | assumption | omega); (first | assumption | omega); rintro E w1 ⟨rfl, hb⟩; have hst := xr hb; (try simp only [zA, zC, zD, zN] at hst); obtain ⟨hc, hf, hz⟩ := hst) | (go_at_call 70; apply Calls.mono; apply szGates_n; ((first | (apply RG.at0; assumption)); exact kf_); (first | assumption | omega); (first | assumption | omega); (first | assumption | omega); rintro E w1 ⟨rfl, hb⟩; have hst := xr hb; (try simp only [zA, zC, zD, zN] at hst); obtain ⟨hc, hf, hz⟩ := hst) | (go_at_call 71; apply Calls.mono; apply szMsgs_y; ((first | (apply RX.at0; assumption)); exact kf_); (first | assumption | omega); (first | assumption | omega); rintro E w1 ⟨rfl, hb⟩; have hst := xr hb; (try simp only [zA, zC, zD, zN] at hst); obtain ⟨hc, hf, hz⟩ := hst) | (go_at_call 71; apply Calls.mono; apply szMsgs_n; ((first | (apply RX.at0; assumption)); exact kf_); (first | assumption | omega); (first | assumption | omega); (first | assumption | omega); rintro E w1 ⟨rfl, hb⟩; have hst := xr hb; (try simp only [zA, zC, zD, zN] at hst); obtain ⟨hc, hf, hz⟩ := hst))
    all_goals (go_ret; exact ⟨rfl, ext_⟩)
end Go.Proofs.YtdbnbembjebfhaaGreat

